/-
  No cell of these rows narrows 'for every input' (looked for: loops, veiled, ifaces, maps, wideKeys, modest, calm, conditions, laid).
  DERIVED. THE GIVEN ROWS OF THIS SEAT. 11 by the template 'for every input the law returns true; each argument reads behind the call as it read before'; 0 by the template 'total and deterministic' (their statements: YtakepmhgmgpkkaaTotals.lean).
  GIVEN WITH THE SEED: the statements are not yours to turn. If you find one false, say at which input.
  Laid BY PROGRAM, IN A SANDBOX (cutbox-rows.mjs): the forced cells as the released guide's own fill.sh prints them over the translation b921ba814b0dcefc… (all of the seat's roots in one cut). By AI agents, Wed Nov 11 2026. No macro, syntax, notation, axiom, sorry.
-/
import Derived.Test.YtakepmhgmgpkkaaChecked
import GoSem.Claim
import GoSem.ClaimJoined
import GoSem.ClaimMapViews
import Derived.JoinedTies
import Derived.KernelRfl
namespace Go.Proofs.Ytakepmhgmgpkkaa
/- THE CELL 'sum', in the pinned program and in every row, IS THE sha256 OF THE DUMP (.gsa) THAT YtakepmhgmgpkkaaProg.lean LOADS. Nothing in Lean hashes anything: it is a label: what it is worth is what the hold of that sum in a sandbox is worth. -/
noncomputable def Try.pinned : Pinned := { name := "ytakepmhgmgpkkaa", sum := "b921ba814b0dcefce228cc983dbd17ba9e1ded826bb1918b24952f39e16209bf", checked := Try.checked }
namespace Rows
def none {H : Type} : Left H := { results := [], args := [] }

/-- 'stilelaw02.LexerKinds': WHATEVER THE INPUT: true; the input reads as it did. -/
def lexerKindsSpec : ChangeSpec := { name := "lexerKinds", fn := fun _ => fun
  | [d] => { results := [.lit (.bool true)], args := [d] }
  | _ => none }
def lexerKindsRow : OpenClaim := { program := "ytakepmhgmgpkkaa", sum := "b921ba814b0dcefce228cc983dbd17ba9e1ded826bb1918b24952f39e16209bf", func := "stile/stilelaw02.LexerKinds", spec := "lexerKinds", inPlace := ["internal/bytealg.IndexByteString", "internal/bytealg.IndexString"], unfollowed := true, recurses := true, named := ["internal/bytealg.MaxLen"], apart := false }
def LexerKindsSaid : Prop := lexerKindsRow.holds Try.pinned (OpenSpec.ofChange lexerKindsSpec)

/-- ITS FALSE NEIGHBOUR: 'it returns false'. Refute it at one input. -/
def lexerKindsWrong : ChangeSpec := { name := "lexerKinds", fn := fun _ => fun
  | [d] => { results := [.lit (.bool false)], args := [d] }
  | _ => none }
def LexerKindsWrongFalsely : Prop := lexerKindsRow.holds Try.pinned (OpenSpec.ofChange lexerKindsWrong)

/-- 'stilelaw02.LexerScans': WHATEVER THE INPUT: true; the input reads as it did. -/
def lexerScansSpec : ChangeSpec := { name := "lexerScans", fn := fun _ => fun
  | [d] => { results := [.lit (.bool true)], args := [d] }
  | _ => none }
def lexerScansRow : OpenClaim := { program := "ytakepmhgmgpkkaa", sum := "b921ba814b0dcefce228cc983dbd17ba9e1ded826bb1918b24952f39e16209bf", func := "stile/stilelaw02.LexerScans", spec := "lexerScans", inPlace := ["internal/bytealg.IndexByteString", "internal/bytealg.IndexString"], unfollowed := true, recurses := true, named := ["internal/bytealg.MaxLen"], apart := false }
def LexerScansSaid : Prop := lexerScansRow.holds Try.pinned (OpenSpec.ofChange lexerScansSpec)

/-- ITS FALSE NEIGHBOUR: 'it returns false'. Refute it at one input. -/
def lexerScansWrong : ChangeSpec := { name := "lexerScans", fn := fun _ => fun
  | [d] => { results := [.lit (.bool false)], args := [d] }
  | _ => none }
def LexerScansWrongFalsely : Prop := lexerScansRow.holds Try.pinned (OpenSpec.ofChange lexerScansWrong)

/-- 'stilelaw02.LexerBlanks': WHATEVER THE INPUT: true; the input reads as it did. -/
def lexerBlanksSpec : ChangeSpec := { name := "lexerBlanks", fn := fun _ => fun
  | [d1, d2, d3] => { results := [.lit (.bool true)], args := [d1, d2, d3] }
  | _ => none }
def lexerBlanksRow : OpenClaim := { program := "ytakepmhgmgpkkaa", sum := "b921ba814b0dcefce228cc983dbd17ba9e1ded826bb1918b24952f39e16209bf", func := "stile/stilelaw02.LexerBlanks", spec := "lexerBlanks", inPlace := ["internal/bytealg.IndexByteString", "internal/bytealg.IndexString"], unfollowed := true, recurses := true, named := ["internal/bytealg.MaxLen"], apart := false }
def LexerBlanksSaid : Prop := lexerBlanksRow.holds Try.pinned (OpenSpec.ofChange lexerBlanksSpec)

/-- ITS FALSE NEIGHBOUR: 'it returns false'. Refute it at one input. -/
def lexerBlanksWrong : ChangeSpec := { name := "lexerBlanks", fn := fun _ => fun
  | [d1, d2, d3] => { results := [.lit (.bool false)], args := [d1, d2, d3] }
  | _ => none }
def LexerBlanksWrongFalsely : Prop := lexerBlanksRow.holds Try.pinned (OpenSpec.ofChange lexerBlanksWrong)

/-- 'stilelaw02.LexerStands': WHATEVER THE INPUT: true; the input reads as it did. -/
def lexerStandsSpec : ChangeSpec := { name := "lexerStands", fn := fun _ => fun
  | [d] => { results := [.lit (.bool true)], args := [d] }
  | _ => none }
def lexerStandsRow : OpenClaim := { program := "ytakepmhgmgpkkaa", sum := "b921ba814b0dcefce228cc983dbd17ba9e1ded826bb1918b24952f39e16209bf", func := "stile/stilelaw02.LexerStands", spec := "lexerStands", inPlace := ["internal/bytealg.IndexByteString", "internal/bytealg.IndexString"], unfollowed := true, recurses := true, named := ["internal/bytealg.MaxLen"], apart := false }
def LexerStandsSaid : Prop := lexerStandsRow.holds Try.pinned (OpenSpec.ofChange lexerStandsSpec)

/-- ITS FALSE NEIGHBOUR: 'it returns false'. Refute it at one input. -/
def lexerStandsWrong : ChangeSpec := { name := "lexerStands", fn := fun _ => fun
  | [d] => { results := [.lit (.bool false)], args := [d] }
  | _ => none }
def LexerStandsWrongFalsely : Prop := lexerStandsRow.holds Try.pinned (OpenSpec.ofChange lexerStandsWrong)

/-- 'stilelaw02.LexerOwn': WHATEVER THE INPUT: true; the input reads as it did. -/
def lexerOwnSpec : ChangeSpec := { name := "lexerOwn", fn := fun _ => fun
  | [d] => { results := [.lit (.bool true)], args := [d] }
  | _ => none }
def lexerOwnRow : OpenClaim := { program := "ytakepmhgmgpkkaa", sum := "b921ba814b0dcefce228cc983dbd17ba9e1ded826bb1918b24952f39e16209bf", func := "stile/stilelaw02.LexerOwn", spec := "lexerOwn", inPlace := ["internal/bytealg.IndexByteString", "internal/bytealg.IndexString"], unfollowed := true, recurses := true, named := ["internal/bytealg.MaxLen"], apart := false }
def LexerOwnSaid : Prop := lexerOwnRow.holds Try.pinned (OpenSpec.ofChange lexerOwnSpec)

/-- ITS FALSE NEIGHBOUR: 'it returns false'. Refute it at one input. -/
def lexerOwnWrong : ChangeSpec := { name := "lexerOwn", fn := fun _ => fun
  | [d] => { results := [.lit (.bool false)], args := [d] }
  | _ => none }
def LexerOwnWrongFalsely : Prop := lexerOwnRow.holds Try.pinned (OpenSpec.ofChange lexerOwnWrong)

/-- 'stilelaw02.LexerEach': WHATEVER THE INPUT: true; the input reads as it did. -/
def lexerEachSpec : ChangeSpec := { name := "lexerEach", fn := fun _ => fun
  | [d1, d2] => { results := [.lit (.bool true)], args := [d1, d2] }
  | _ => none }
def lexerEachRow : OpenClaim := { program := "ytakepmhgmgpkkaa", sum := "b921ba814b0dcefce228cc983dbd17ba9e1ded826bb1918b24952f39e16209bf", func := "stile/stilelaw02.LexerEach", spec := "lexerEach", inPlace := ["internal/bytealg.IndexByteString", "internal/bytealg.IndexString"], unfollowed := true, recurses := true, named := ["internal/bytealg.MaxLen"], apart := false }
def LexerEachSaid : Prop := lexerEachRow.holds Try.pinned (OpenSpec.ofChange lexerEachSpec)

/-- ITS FALSE NEIGHBOUR: 'it returns false'. Refute it at one input. -/
def lexerEachWrong : ChangeSpec := { name := "lexerEach", fn := fun _ => fun
  | [d1, d2] => { results := [.lit (.bool false)], args := [d1, d2] }
  | _ => none }
def LexerEachWrongFalsely : Prop := lexerEachRow.holds Try.pinned (OpenSpec.ofChange lexerEachWrong)

/-- 'stilelaw02.LexerFaults': WHATEVER THE INPUT: true; the input reads as it did. -/
def lexerFaultsSpec : ChangeSpec := { name := "lexerFaults", fn := fun _ => fun
  | [d1, d2] => { results := [.lit (.bool true)], args := [d1, d2] }
  | _ => none }
def lexerFaultsRow : OpenClaim := { program := "ytakepmhgmgpkkaa", sum := "b921ba814b0dcefce228cc983dbd17ba9e1ded826bb1918b24952f39e16209bf", func := "stile/stilelaw02.LexerFaults", spec := "lexerFaults", inPlace := ["internal/bytealg.IndexByteString", "internal/bytealg.IndexString"], unfollowed := true, recurses := true, named := ["internal/bytealg.MaxLen"], apart := false }
def LexerFaultsSaid : Prop := lexerFaultsRow.holds Try.pinned (OpenSpec.ofChange lexerFaultsSpec)

/-- ITS FALSE NEIGHBOUR: 'it returns false'. Refute it at one input. -/
def lexerFaultsWrong : ChangeSpec := { name := "lexerFaults", fn := fun _ => fun
  | [d1, d2] => { results := [.lit (.bool false)], args := [d1, d2] }
  | _ => none }
def LexerFaultsWrongFalsely : Prop := lexerFaultsRow.holds Try.pinned (OpenSpec.ofChange lexerFaultsWrong)

/-- 'stilelaw02.LexerPlaces': WHATEVER THE INPUT: true; the input reads as it did. -/
def lexerPlacesSpec : ChangeSpec := { name := "lexerPlaces", fn := fun _ => fun
  | [d1, d2] => { results := [.lit (.bool true)], args := [d1, d2] }
  | _ => none }
def lexerPlacesRow : OpenClaim := { program := "ytakepmhgmgpkkaa", sum := "b921ba814b0dcefce228cc983dbd17ba9e1ded826bb1918b24952f39e16209bf", func := "stile/stilelaw02.LexerPlaces", spec := "lexerPlaces", inPlace := ["internal/bytealg.IndexByteString", "internal/bytealg.IndexString"], unfollowed := true, recurses := true, named := ["internal/bytealg.MaxLen"], apart := false }
def LexerPlacesSaid : Prop := lexerPlacesRow.holds Try.pinned (OpenSpec.ofChange lexerPlacesSpec)

/-- ITS FALSE NEIGHBOUR: 'it returns false'. Refute it at one input. -/
def lexerPlacesWrong : ChangeSpec := { name := "lexerPlaces", fn := fun _ => fun
  | [d1, d2] => { results := [.lit (.bool false)], args := [d1, d2] }
  | _ => none }
def LexerPlacesWrongFalsely : Prop := lexerPlacesRow.holds Try.pinned (OpenSpec.ofChange lexerPlacesWrong)

/-- 'stilelaw02.LexerPlaced': WHATEVER THE INPUT: true; the input reads as it did. -/
def lexerPlacedSpec : ChangeSpec := { name := "lexerPlaced", fn := fun _ => fun
  | [d1, d2] => { results := [.lit (.bool true)], args := [d1, d2] }
  | _ => none }
def lexerPlacedRow : OpenClaim := { program := "ytakepmhgmgpkkaa", sum := "b921ba814b0dcefce228cc983dbd17ba9e1ded826bb1918b24952f39e16209bf", func := "stile/stilelaw02.LexerPlaced", spec := "lexerPlaced", inPlace := ["internal/bytealg.IndexByteString", "internal/bytealg.IndexString"], unfollowed := true, recurses := true, named := ["internal/bytealg.MaxLen"], apart := false }
def LexerPlacedSaid : Prop := lexerPlacedRow.holds Try.pinned (OpenSpec.ofChange lexerPlacedSpec)

/-- ITS FALSE NEIGHBOUR: 'it returns false'. Refute it at one input. -/
def lexerPlacedWrong : ChangeSpec := { name := "lexerPlaced", fn := fun _ => fun
  | [d1, d2] => { results := [.lit (.bool false)], args := [d1, d2] }
  | _ => none }
def LexerPlacedWrongFalsely : Prop := lexerPlacedRow.holds Try.pinned (OpenSpec.ofChange lexerPlacedWrong)

/-- 'stilelaw02.LexerPrints': WHATEVER THE INPUT: true; the input reads as it did. -/
def lexerPrintsSpec : ChangeSpec := { name := "lexerPrints", fn := fun _ => fun
  | [d] => { results := [.lit (.bool true)], args := [d] }
  | _ => none }
def lexerPrintsRow : OpenClaim := { program := "ytakepmhgmgpkkaa", sum := "b921ba814b0dcefce228cc983dbd17ba9e1ded826bb1918b24952f39e16209bf", func := "stile/stilelaw02.LexerPrints", spec := "lexerPrints", inPlace := ["internal/bytealg.IndexByteString", "internal/bytealg.IndexString", "internal/abi.NoEscape", "internal/bytealg.MakeNoZero"], unfollowed := true, recurses := true, named := ["internal/bytealg.MaxLen"], apart := false }
def LexerPrintsSaid : Prop := lexerPrintsRow.holds Try.pinned (OpenSpec.ofChange lexerPrintsSpec)

/-- ITS FALSE NEIGHBOUR: 'it returns false'. Refute it at one input. -/
def lexerPrintsWrong : ChangeSpec := { name := "lexerPrints", fn := fun _ => fun
  | [d] => { results := [.lit (.bool false)], args := [d] }
  | _ => none }
def LexerPrintsWrongFalsely : Prop := lexerPrintsRow.holds Try.pinned (OpenSpec.ofChange lexerPrintsWrong)

/-- 'stilelaw02.LexerBack': WHATEVER THE INPUT: true; the input reads as it did. -/
def lexerBackSpec : ChangeSpec := { name := "lexerBack", fn := fun _ => fun
  | [d1, d2] => { results := [.lit (.bool true)], args := [d1, d2] }
  | _ => none }
def lexerBackRow : OpenClaim := { program := "ytakepmhgmgpkkaa", sum := "b921ba814b0dcefce228cc983dbd17ba9e1ded826bb1918b24952f39e16209bf", func := "stile/stilelaw02.LexerBack", spec := "lexerBack", inPlace := ["internal/bytealg.IndexByteString", "internal/bytealg.IndexString", "internal/abi.NoEscape", "internal/bytealg.MakeNoZero"], unfollowed := true, recurses := true, named := ["internal/bytealg.MaxLen"], apart := false }
def LexerBackSaid : Prop := lexerBackRow.holds Try.pinned (OpenSpec.ofChange lexerBackSpec)

/-- ITS FALSE NEIGHBOUR: 'it returns false'. Refute it at one input. -/
def lexerBackWrong : ChangeSpec := { name := "lexerBack", fn := fun _ => fun
  | [d1, d2] => { results := [.lit (.bool false)], args := [d1, d2] }
  | _ => none }
def LexerBackWrongFalsely : Prop := lexerBackRow.holds Try.pinned (OpenSpec.ofChange lexerBackWrong)

/- THE SECOND FORM. 'bulk': how many values and letters a reading holds, each counted each time it is reached (what is shared counts as often as it is met; a slice's spare places count too). A statement '..UptoSaid' is the law's where the arguments, and the package variables that the reading takes, are together of bulk at most 1048576: NARROWER than '..Said'. Prove '..Said' where nothing that the law and all that it calls make is longer than what came in: it says more and counts as full. Else prove '..UptoSaid'. A law counts once. -/
mutual
def uptoBulk {H : Type} : DataW H → Nat
  | .lit (.string bytes) => bytes.length + 1
  | .lit _ => 1
  | .nil => 1
  | .ptr d => uptoBulk d + 1
  | .slice elems spare => uptoBulkAll elems + uptoBulkAll spare + 1
  | .agg parts => uptoBulkAll parts + 1
  | .iface _ d => uptoBulk d + 1
  | .map entries => uptoBulkEntries entries + 1
  | .held _ => 1
def uptoBulkAll {H : Type} : List (DataW H) → Nat
  | [] => 0
  | d :: r => uptoBulk d + uptoBulkAll r
def uptoBulkEntries {H : Type} : List (Lit × DataW H) → Nat
  | [] => 0
  | x :: r => uptoBulkEntry x + uptoBulkEntries r
def uptoBulkEntry {H : Type} : Lit × DataW H → Nat
  | (.string bytes, d) => bytes.length + uptoBulk d + 1
  | (_, d) => uptoBulk d + 1
 end
def uptoSmall : (H : Type) → List (DataW H) → Bool := fun _ ds => decide (uptoBulkAll ds ≤ 1048576)
def OpenSpec.upto (s : _root_.Go.ChangeSpec) : _root_.Go.OpenSpec := { _root_.Go.OpenSpec.ofChange s with cond := some uptoSmall }

/-- 'stilelaw02.LexerKinds', WHERE WHAT IT READS IS OF BULK AT MOST 1048576: true; the input reads as it did. -/
def lexerKindsUptoRow : OpenClaim := { program := "ytakepmhgmgpkkaa", sum := "b921ba814b0dcefce228cc983dbd17ba9e1ded826bb1918b24952f39e16209bf", func := "stile/stilelaw02.LexerKinds", spec := "lexerKinds", inPlace := ["internal/bytealg.IndexByteString", "internal/bytealg.IndexString"], unfollowed := true, recurses := true, named := ["internal/bytealg.MaxLen"], apart := false, narrowed := true }
def LexerKindsUptoSaid : Prop := lexerKindsUptoRow.holds Try.pinned (OpenSpec.upto lexerKindsSpec)

/-- 'stilelaw02.LexerScans', WHERE WHAT IT READS IS OF BULK AT MOST 1048576: true; the input reads as it did. -/
def lexerScansUptoRow : OpenClaim := { program := "ytakepmhgmgpkkaa", sum := "b921ba814b0dcefce228cc983dbd17ba9e1ded826bb1918b24952f39e16209bf", func := "stile/stilelaw02.LexerScans", spec := "lexerScans", inPlace := ["internal/bytealg.IndexByteString", "internal/bytealg.IndexString"], unfollowed := true, recurses := true, named := ["internal/bytealg.MaxLen"], apart := false, narrowed := true }
def LexerScansUptoSaid : Prop := lexerScansUptoRow.holds Try.pinned (OpenSpec.upto lexerScansSpec)

/-- 'stilelaw02.LexerBlanks', WHERE WHAT IT READS IS OF BULK AT MOST 1048576: true; the input reads as it did. -/
def lexerBlanksUptoRow : OpenClaim := { program := "ytakepmhgmgpkkaa", sum := "b921ba814b0dcefce228cc983dbd17ba9e1ded826bb1918b24952f39e16209bf", func := "stile/stilelaw02.LexerBlanks", spec := "lexerBlanks", inPlace := ["internal/bytealg.IndexByteString", "internal/bytealg.IndexString"], unfollowed := true, recurses := true, named := ["internal/bytealg.MaxLen"], apart := false, narrowed := true }
def LexerBlanksUptoSaid : Prop := lexerBlanksUptoRow.holds Try.pinned (OpenSpec.upto lexerBlanksSpec)

/-- 'stilelaw02.LexerStands', WHERE WHAT IT READS IS OF BULK AT MOST 1048576: true; the input reads as it did. -/
def lexerStandsUptoRow : OpenClaim := { program := "ytakepmhgmgpkkaa", sum := "b921ba814b0dcefce228cc983dbd17ba9e1ded826bb1918b24952f39e16209bf", func := "stile/stilelaw02.LexerStands", spec := "lexerStands", inPlace := ["internal/bytealg.IndexByteString", "internal/bytealg.IndexString"], unfollowed := true, recurses := true, named := ["internal/bytealg.MaxLen"], apart := false, narrowed := true }
def LexerStandsUptoSaid : Prop := lexerStandsUptoRow.holds Try.pinned (OpenSpec.upto lexerStandsSpec)

/-- 'stilelaw02.LexerOwn', WHERE WHAT IT READS IS OF BULK AT MOST 1048576: true; the input reads as it did. -/
def lexerOwnUptoRow : OpenClaim := { program := "ytakepmhgmgpkkaa", sum := "b921ba814b0dcefce228cc983dbd17ba9e1ded826bb1918b24952f39e16209bf", func := "stile/stilelaw02.LexerOwn", spec := "lexerOwn", inPlace := ["internal/bytealg.IndexByteString", "internal/bytealg.IndexString"], unfollowed := true, recurses := true, named := ["internal/bytealg.MaxLen"], apart := false, narrowed := true }
def LexerOwnUptoSaid : Prop := lexerOwnUptoRow.holds Try.pinned (OpenSpec.upto lexerOwnSpec)

/-- 'stilelaw02.LexerEach', WHERE WHAT IT READS IS OF BULK AT MOST 1048576: true; the input reads as it did. -/
def lexerEachUptoRow : OpenClaim := { program := "ytakepmhgmgpkkaa", sum := "b921ba814b0dcefce228cc983dbd17ba9e1ded826bb1918b24952f39e16209bf", func := "stile/stilelaw02.LexerEach", spec := "lexerEach", inPlace := ["internal/bytealg.IndexByteString", "internal/bytealg.IndexString"], unfollowed := true, recurses := true, named := ["internal/bytealg.MaxLen"], apart := false, narrowed := true }
def LexerEachUptoSaid : Prop := lexerEachUptoRow.holds Try.pinned (OpenSpec.upto lexerEachSpec)

/-- 'stilelaw02.LexerFaults', WHERE WHAT IT READS IS OF BULK AT MOST 1048576: true; the input reads as it did. -/
def lexerFaultsUptoRow : OpenClaim := { program := "ytakepmhgmgpkkaa", sum := "b921ba814b0dcefce228cc983dbd17ba9e1ded826bb1918b24952f39e16209bf", func := "stile/stilelaw02.LexerFaults", spec := "lexerFaults", inPlace := ["internal/bytealg.IndexByteString", "internal/bytealg.IndexString"], unfollowed := true, recurses := true, named := ["internal/bytealg.MaxLen"], apart := false, narrowed := true }
def LexerFaultsUptoSaid : Prop := lexerFaultsUptoRow.holds Try.pinned (OpenSpec.upto lexerFaultsSpec)

/-- 'stilelaw02.LexerPlaces', WHERE WHAT IT READS IS OF BULK AT MOST 1048576: true; the input reads as it did. -/
def lexerPlacesUptoRow : OpenClaim := { program := "ytakepmhgmgpkkaa", sum := "b921ba814b0dcefce228cc983dbd17ba9e1ded826bb1918b24952f39e16209bf", func := "stile/stilelaw02.LexerPlaces", spec := "lexerPlaces", inPlace := ["internal/bytealg.IndexByteString", "internal/bytealg.IndexString"], unfollowed := true, recurses := true, named := ["internal/bytealg.MaxLen"], apart := false, narrowed := true }
def LexerPlacesUptoSaid : Prop := lexerPlacesUptoRow.holds Try.pinned (OpenSpec.upto lexerPlacesSpec)

/-- 'stilelaw02.LexerPlaced', WHERE WHAT IT READS IS OF BULK AT MOST 1048576: true; the input reads as it did. -/
def lexerPlacedUptoRow : OpenClaim := { program := "ytakepmhgmgpkkaa", sum := "b921ba814b0dcefce228cc983dbd17ba9e1ded826bb1918b24952f39e16209bf", func := "stile/stilelaw02.LexerPlaced", spec := "lexerPlaced", inPlace := ["internal/bytealg.IndexByteString", "internal/bytealg.IndexString"], unfollowed := true, recurses := true, named := ["internal/bytealg.MaxLen"], apart := false, narrowed := true }
def LexerPlacedUptoSaid : Prop := lexerPlacedUptoRow.holds Try.pinned (OpenSpec.upto lexerPlacedSpec)

/-- 'stilelaw02.LexerPrints', WHERE WHAT IT READS IS OF BULK AT MOST 1048576: true; the input reads as it did. -/
def lexerPrintsUptoRow : OpenClaim := { program := "ytakepmhgmgpkkaa", sum := "b921ba814b0dcefce228cc983dbd17ba9e1ded826bb1918b24952f39e16209bf", func := "stile/stilelaw02.LexerPrints", spec := "lexerPrints", inPlace := ["internal/bytealg.IndexByteString", "internal/bytealg.IndexString", "internal/abi.NoEscape", "internal/bytealg.MakeNoZero"], unfollowed := true, recurses := true, named := ["internal/bytealg.MaxLen"], apart := false, narrowed := true }
def LexerPrintsUptoSaid : Prop := lexerPrintsUptoRow.holds Try.pinned (OpenSpec.upto lexerPrintsSpec)

/-- 'stilelaw02.LexerBack', WHERE WHAT IT READS IS OF BULK AT MOST 1048576: true; the input reads as it did. -/
def lexerBackUptoRow : OpenClaim := { program := "ytakepmhgmgpkkaa", sum := "b921ba814b0dcefce228cc983dbd17ba9e1ded826bb1918b24952f39e16209bf", func := "stile/stilelaw02.LexerBack", spec := "lexerBack", inPlace := ["internal/bytealg.IndexByteString", "internal/bytealg.IndexString", "internal/abi.NoEscape", "internal/bytealg.MakeNoZero"], unfollowed := true, recurses := true, named := ["internal/bytealg.MaxLen"], apart := false, narrowed := true }
def LexerBackUptoSaid : Prop := lexerBackUptoRow.holds Try.pinned (OpenSpec.upto lexerBackSpec)

end Rows
end Go.Proofs.Ytakepmhgmgpkkaa
