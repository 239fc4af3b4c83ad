/-
  NARROWER THAN 'FOR EVERY INPUT', by the rows' own cells (each row's printed sentence says how): PrettyPrints: loops, laid · PrettyStripped: loops, laid · PrettyRenamed: loops, laid.
  DERIVED. THE GIVEN ROWS OF THIS SEAT. 3 by the template 'for every input the law returns true; each argument reads behind the call as it read before'; 0 by the template 'total and deterministic' (their statements: YtnmhlpnapgojjaaDoorTotals.lean).
  GIVEN WITH THE SEED: the statements are not yours to turn. If you find one false, say at which input.
  Laid BY PROGRAM, IN A SANDBOX (cutbox-rows.mjs): the forced cells as the released guide's own fill.sh prints them over the translation 5ed9c66e906e391e… (all of the seat's roots in one cut). By AI agents, Wed Nov 11 2026. No macro, syntax, notation, axiom, sorry.
-/
import Derived.Test.YtnmhlpnapgojjaaDoorChecked
import GoSem.Claim
import GoSem.ClaimJoined
import GoSem.ClaimMapViews
import Derived.JoinedTies
import Derived.KernelRfl
namespace Go.Proofs.YtnmhlpnapgojjaaDoor
/- THE CELL 'sum', in the pinned program and in every row, IS THE sha256 OF THE DUMP (.gsa) THAT YtnmhlpnapgojjaaDoorProg.lean LOADS. Nothing in Lean hashes anything: it is a label: what it is worth is what the hold of that sum in a sandbox is worth. -/
noncomputable def Tryd.pinned : Pinned := { name := "ytnmhlpnapgojjaadoor", sum := "5ed9c66e906e391e58b90cab16f5d8ed2ba4b4aae76a1ae689dfe4222020f3dc", checked := Tryd.checked }
namespace Rows
def none {H : Type} : Left H := { results := [], args := [] }

/- WHAT THE LISTED PACKAGE-LEVEL VARIABLES READ AS WHEN THE CALL BEGINS. Each datum BY PROGRAM (the guide's laid-datum.mjs) off the statement by which the dump's own 'gosem.cut.vars' lays the variable. In a bare row this is a premise. The card (YtnmhlpnapgojjaaDoorCards.lean) ties it to the program's text. -/
def laid_stile_words_signs {H : Type} : DataW H := .agg [.agg [.lit (.string []), .lit (.int .i64 0)], .agg [.lit (.string [43]), .lit (.int .i64 7)], .agg [.lit (.string [45]), .lit (.int .i64 7)], .agg [.lit (.string [42]), .lit (.int .i64 8)], .agg [.lit (.string [47]), .lit (.int .i64 8)], .agg [.lit (.string [37]), .lit (.int .i64 8)], .agg [.lit (.string [38]), .lit (.int .i64 3)], .agg [.lit (.string [124]), .lit (.int .i64 1)], .agg [.lit (.string [94]), .lit (.int .i64 2)], .agg [.lit (.string [60, 60]), .lit (.int .i64 6)], .agg [.lit (.string [62, 62]), .lit (.int .i64 6)], .agg [.lit (.string [61, 61]), .lit (.int .i64 4)], .agg [.lit (.string [33, 61]), .lit (.int .i64 4)], .agg [.lit (.string [60]), .lit (.int .i64 5)], .agg [.lit (.string [60, 61]), .lit (.int .i64 5)], .agg [.lit (.string [62]), .lit (.int .i64 5)], .agg [.lit (.string [62, 61]), .lit (.int .i64 5)], .agg [.lit (.string [45]), .lit (.int .i64 9)], .agg [.lit (.string [33]), .lit (.int .i64 9)]]

/-- 'stilelaw04.PrettyPrints': WHATEVER THE INPUT: true; the input reads as it did. -/
def prettyPrintsSpec : ChangeSpec := { name := "prettyPrints", fn := fun _ => fun
  | [d] => { results := [.lit (.bool true)], args := [d] }
  | _ => none }
def prettyPrintsRow : OpenClaim := { program := "ytnmhlpnapgojjaadoor", sum := "5ed9c66e906e391e58b90cab16f5d8ed2ba4b4aae76a1ae689dfe4222020f3dc", func := "stile/stilelaw04.PrettyPrints", spec := "prettyPrints", inPlace := ["internal/abi.NoEscape", "internal/bytealg.MakeNoZero"], unfollowed := true, recurses := true, named := ["stile/words.signs"], loops := true, apart := false, laid := [("stile/words.signs", laid_stile_words_signs)] }
def PrettyPrintsSaid : Prop := prettyPrintsRow.holds Tryd.pinned (OpenSpec.ofChange prettyPrintsSpec)

/-- ITS FALSE NEIGHBOUR: 'it returns false'. Refute it at one input. -/
def prettyPrintsWrong : ChangeSpec := { name := "prettyPrints", fn := fun _ => fun
  | [d] => { results := [.lit (.bool false)], args := [d] }
  | _ => none }
def PrettyPrintsWrongFalsely : Prop := prettyPrintsRow.holds Tryd.pinned (OpenSpec.ofChange prettyPrintsWrong)

/-- 'stilelaw04.PrettyStripped': WHATEVER THE INPUT: true; the input reads as it did. -/
def prettyStrippedSpec : ChangeSpec := { name := "prettyStripped", fn := fun _ => fun
  | [d] => { results := [.lit (.bool true)], args := [d] }
  | _ => none }
def prettyStrippedRow : OpenClaim := { program := "ytnmhlpnapgojjaadoor", sum := "5ed9c66e906e391e58b90cab16f5d8ed2ba4b4aae76a1ae689dfe4222020f3dc", func := "stile/stilelaw04.PrettyStripped", spec := "prettyStripped", inPlace := ["internal/abi.NoEscape", "internal/bytealg.MakeNoZero"], unfollowed := true, recurses := true, named := ["stile/words.signs"], loops := true, apart := false, laid := [("stile/words.signs", laid_stile_words_signs)] }
def PrettyStrippedSaid : Prop := prettyStrippedRow.holds Tryd.pinned (OpenSpec.ofChange prettyStrippedSpec)

/-- ITS FALSE NEIGHBOUR: 'it returns false'. Refute it at one input. -/
def prettyStrippedWrong : ChangeSpec := { name := "prettyStripped", fn := fun _ => fun
  | [d] => { results := [.lit (.bool false)], args := [d] }
  | _ => none }
def PrettyStrippedWrongFalsely : Prop := prettyStrippedRow.holds Tryd.pinned (OpenSpec.ofChange prettyStrippedWrong)

/-- 'stilelaw04.PrettyRenamed': WHATEVER THE INPUT: true; the input reads as it did. -/
def prettyRenamedSpec : ChangeSpec := { name := "prettyRenamed", fn := fun _ => fun
  | [d1, d2, d3] => { results := [.lit (.bool true)], args := [d1, d2, d3] }
  | _ => none }
def prettyRenamedRow : OpenClaim := { program := "ytnmhlpnapgojjaadoor", sum := "5ed9c66e906e391e58b90cab16f5d8ed2ba4b4aae76a1ae689dfe4222020f3dc", func := "stile/stilelaw04.PrettyRenamed", spec := "prettyRenamed", inPlace := ["internal/abi.NoEscape", "internal/bytealg.MakeNoZero"], unfollowed := true, recurses := true, named := ["stile/words.signs"], loops := true, apart := false, laid := [("stile/words.signs", laid_stile_words_signs)] }
def PrettyRenamedSaid : Prop := prettyRenamedRow.holds Tryd.pinned (OpenSpec.ofChange prettyRenamedSpec)

/-- ITS FALSE NEIGHBOUR: 'it returns false'. Refute it at one input. -/
def prettyRenamedWrong : ChangeSpec := { name := "prettyRenamed", fn := fun _ => fun
  | [d1, d2, d3] => { results := [.lit (.bool false)], args := [d1, d2, d3] }
  | _ => none }
def PrettyRenamedWrongFalsely : Prop := prettyRenamedRow.holds Tryd.pinned (OpenSpec.ofChange prettyRenamedWrong)

/- THE SECOND FORM. 'bulk': how many values and letters a reading holds, each counted each time it is reached (what is shared counts as often as it is met; a slice's spare places count too). A statement '..UptoSaid' is the law's where the arguments, and the package variables that the reading takes, are together of bulk at most 1048576: NARROWER than '..Said'. Prove '..Said' where nothing that the law and all that it calls make is longer than what came in: it says more and counts as full. Else prove '..UptoSaid'. A law counts once. -/
mutual
def uptoBulk {H : Type} : DataW H → Nat
  | .lit (.string bytes) => bytes.length + 1
  | .lit _ => 1
  | .nil => 1
  | .ptr d => uptoBulk d + 1
  | .slice elems spare => uptoBulkAll elems + uptoBulkAll spare + 1
  | .agg parts => uptoBulkAll parts + 1
  | .iface _ d => uptoBulk d + 1
  | .map entries => uptoBulkEntries entries + 1
  | .held _ => 1
def uptoBulkAll {H : Type} : List (DataW H) → Nat
  | [] => 0
  | d :: r => uptoBulk d + uptoBulkAll r
def uptoBulkEntries {H : Type} : List (Lit × DataW H) → Nat
  | [] => 0
  | x :: r => uptoBulkEntry x + uptoBulkEntries r
def uptoBulkEntry {H : Type} : Lit × DataW H → Nat
  | (.string bytes, d) => bytes.length + uptoBulk d + 1
  | (_, d) => uptoBulk d + 1
 end
def uptoSmall : (H : Type) → List (DataW H) → Bool := fun _ ds => decide (uptoBulkAll ds ≤ 1048576)
def OpenSpec.upto (s : _root_.Go.ChangeSpec) : _root_.Go.OpenSpec := { _root_.Go.OpenSpec.ofChange s with cond := some uptoSmall }

/-- 'stilelaw04.PrettyPrints', WHERE WHAT IT READS IS OF BULK AT MOST 1048576: true; the input reads as it did. -/
def prettyPrintsUptoRow : OpenClaim := { program := "ytnmhlpnapgojjaadoor", sum := "5ed9c66e906e391e58b90cab16f5d8ed2ba4b4aae76a1ae689dfe4222020f3dc", func := "stile/stilelaw04.PrettyPrints", spec := "prettyPrints", inPlace := ["internal/abi.NoEscape", "internal/bytealg.MakeNoZero"], unfollowed := true, recurses := true, named := ["stile/words.signs"], loops := true, apart := false, laid := [("stile/words.signs", laid_stile_words_signs)], narrowed := true }
def PrettyPrintsUptoSaid : Prop := prettyPrintsUptoRow.holds Tryd.pinned (OpenSpec.upto prettyPrintsSpec)

/-- 'stilelaw04.PrettyStripped', WHERE WHAT IT READS IS OF BULK AT MOST 1048576: true; the input reads as it did. -/
def prettyStrippedUptoRow : OpenClaim := { program := "ytnmhlpnapgojjaadoor", sum := "5ed9c66e906e391e58b90cab16f5d8ed2ba4b4aae76a1ae689dfe4222020f3dc", func := "stile/stilelaw04.PrettyStripped", spec := "prettyStripped", inPlace := ["internal/abi.NoEscape", "internal/bytealg.MakeNoZero"], unfollowed := true, recurses := true, named := ["stile/words.signs"], loops := true, apart := false, laid := [("stile/words.signs", laid_stile_words_signs)], narrowed := true }
def PrettyStrippedUptoSaid : Prop := prettyStrippedUptoRow.holds Tryd.pinned (OpenSpec.upto prettyStrippedSpec)

/-- 'stilelaw04.PrettyRenamed', WHERE WHAT IT READS IS OF BULK AT MOST 1048576: true; the input reads as it did. -/
def prettyRenamedUptoRow : OpenClaim := { program := "ytnmhlpnapgojjaadoor", sum := "5ed9c66e906e391e58b90cab16f5d8ed2ba4b4aae76a1ae689dfe4222020f3dc", func := "stile/stilelaw04.PrettyRenamed", spec := "prettyRenamed", inPlace := ["internal/abi.NoEscape", "internal/bytealg.MakeNoZero"], unfollowed := true, recurses := true, named := ["stile/words.signs"], loops := true, apart := false, laid := [("stile/words.signs", laid_stile_words_signs)], narrowed := true }
def PrettyRenamedUptoSaid : Prop := prettyRenamedUptoRow.holds Tryd.pinned (OpenSpec.upto prettyRenamedSpec)

end Rows
end Go.Proofs.YtnmhlpnapgojjaaDoor
