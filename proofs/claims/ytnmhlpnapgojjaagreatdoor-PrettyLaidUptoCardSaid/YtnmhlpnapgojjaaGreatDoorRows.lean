/-
  NARROWER THAN 'FOR EVERY INPUT', by the rows' own cells (each row's printed sentence says how): PrettyOne: laid · PrettyBack: loops, laid · PrettyNames: loops, laid · PrettyOwn: loops, laid · PrettyLaid: loops, laid · TopRead: laid.
  DERIVED. THE GIVEN ROWS OF THIS SEAT. 6 by the template 'for every input the law returns true; each argument reads behind the call as it read before'; 0 by the template 'total and deterministic' (their statements: YtnmhlpnapgojjaaGreatDoorTotals.lean).
  GIVEN WITH THE SEED: the statements are not yours to turn. If you find one false, say at which input.
  Laid BY PROGRAM, IN A SANDBOX (cutbox-rows.mjs): the forced cells as the released guide's own fill.sh prints them over the translation fe1b6994bed04ac0… (all of the seat's roots in one cut). By AI agents, Wed Nov 11 2026. No macro, syntax, notation, axiom, sorry.
-/
import Derived.Test.YtnmhlpnapgojjaaGreatDoorChecked
import GoSem.Claim
import GoSem.ClaimJoined
import GoSem.ClaimMapViews
import Derived.JoinedTies
import Derived.KernelRfl
namespace Go.Proofs.YtnmhlpnapgojjaaGreatDoor
/- THE CELL 'sum', in the pinned program and in every row, IS THE sha256 OF THE DUMP (.gsa) THAT YtnmhlpnapgojjaaGreatDoorProg.lean LOADS. Nothing in Lean hashes anything: it is a label: what it is worth is what the hold of that sum in a sandbox is worth. -/
noncomputable def Tryz.pinned : Pinned := { name := "ytnmhlpnapgojjaagreatdoor", sum := "fe1b6994bed04ac04c44cfce8bc7a91bb22dd821ee635eb1a250ca93d08a9c32", checked := Tryz.checked }
namespace Rows
def none {H : Type} : Left H := { results := [], args := [] }

/- WHAT THE LISTED PACKAGE-LEVEL VARIABLES READ AS WHEN THE CALL BEGINS. Each datum BY PROGRAM (the guide's laid-datum.mjs) off the statement by which the dump's own 'gosem.cut.vars' lays the variable. In a bare row this is a premise. The card (YtnmhlpnapgojjaaGreatDoorCards.lean) ties it to the program's text. -/
def laid_stile_words_signs {H : Type} : DataW H := .agg [.agg [.lit (.string []), .lit (.int .i64 0)], .agg [.lit (.string [43]), .lit (.int .i64 7)], .agg [.lit (.string [45]), .lit (.int .i64 7)], .agg [.lit (.string [42]), .lit (.int .i64 8)], .agg [.lit (.string [47]), .lit (.int .i64 8)], .agg [.lit (.string [37]), .lit (.int .i64 8)], .agg [.lit (.string [38]), .lit (.int .i64 3)], .agg [.lit (.string [124]), .lit (.int .i64 1)], .agg [.lit (.string [94]), .lit (.int .i64 2)], .agg [.lit (.string [60, 60]), .lit (.int .i64 6)], .agg [.lit (.string [62, 62]), .lit (.int .i64 6)], .agg [.lit (.string [61, 61]), .lit (.int .i64 4)], .agg [.lit (.string [33, 61]), .lit (.int .i64 4)], .agg [.lit (.string [60]), .lit (.int .i64 5)], .agg [.lit (.string [60, 61]), .lit (.int .i64 5)], .agg [.lit (.string [62]), .lit (.int .i64 5)], .agg [.lit (.string [62, 61]), .lit (.int .i64 5)], .agg [.lit (.string [45]), .lit (.int .i64 9)], .agg [.lit (.string [33]), .lit (.int .i64 9)]]

/-- 'stilelaw04.PrettyOne': WHATEVER THE INPUT: true; the input reads as it did. -/
def prettyOneSpec : ChangeSpec := { name := "prettyOne", fn := fun _ => fun
  | [d] => { results := [.lit (.bool true)], args := [d] }
  | _ => none }
def prettyOneRow : OpenClaim := { program := "ytnmhlpnapgojjaagreatdoor", sum := "fe1b6994bed04ac04c44cfce8bc7a91bb22dd821ee635eb1a250ca93d08a9c32", func := "stile/stilelaw04.PrettyOne", spec := "prettyOne", inPlace := ["internal/abi.NoEscape", "internal/bytealg.MakeNoZero", "internal/bytealg.IndexByteString", "internal/bytealg.IndexString"], unfollowed := true, recurses := true, named := ["stile/words.signs", "internal/bytealg.MaxLen"], apart := false, laid := [("stile/words.signs", laid_stile_words_signs)] }
def PrettyOneSaid : Prop := prettyOneRow.holds Tryz.pinned (OpenSpec.ofChange prettyOneSpec)

/-- ITS FALSE NEIGHBOUR: 'it returns false'. Refute it at one input. -/
def prettyOneWrong : ChangeSpec := { name := "prettyOne", fn := fun _ => fun
  | [d] => { results := [.lit (.bool false)], args := [d] }
  | _ => none }
def PrettyOneWrongFalsely : Prop := prettyOneRow.holds Tryz.pinned (OpenSpec.ofChange prettyOneWrong)

/-- 'stilelaw04.PrettyBack': WHATEVER THE INPUT: true; the input reads as it did. -/
def prettyBackSpec : ChangeSpec := { name := "prettyBack", fn := fun _ => fun
  | [d1, d2] => { results := [.lit (.bool true)], args := [d1, d2] }
  | _ => none }
def prettyBackRow : OpenClaim := { program := "ytnmhlpnapgojjaagreatdoor", sum := "fe1b6994bed04ac04c44cfce8bc7a91bb22dd821ee635eb1a250ca93d08a9c32", func := "stile/stilelaw04.PrettyBack", spec := "prettyBack", inPlace := ["internal/abi.NoEscape", "internal/bytealg.MakeNoZero", "internal/bytealg.IndexByteString", "internal/bytealg.IndexString"], unfollowed := true, recurses := true, named := ["stile/words.signs", "internal/bytealg.MaxLen"], loops := true, apart := false, laid := [("stile/words.signs", laid_stile_words_signs)] }
def PrettyBackSaid : Prop := prettyBackRow.holds Tryz.pinned (OpenSpec.ofChange prettyBackSpec)

/-- ITS FALSE NEIGHBOUR: 'it returns false'. Refute it at one input. -/
def prettyBackWrong : ChangeSpec := { name := "prettyBack", fn := fun _ => fun
  | [d1, d2] => { results := [.lit (.bool false)], args := [d1, d2] }
  | _ => none }
def PrettyBackWrongFalsely : Prop := prettyBackRow.holds Tryz.pinned (OpenSpec.ofChange prettyBackWrong)

/-- 'stilelaw04.PrettyNames': WHATEVER THE INPUT: true; the input reads as it did. -/
def prettyNamesSpec : ChangeSpec := { name := "prettyNames", fn := fun _ => fun
  | [d1, d2, d3] => { results := [.lit (.bool true)], args := [d1, d2, d3] }
  | _ => none }
def prettyNamesRow : OpenClaim := { program := "ytnmhlpnapgojjaagreatdoor", sum := "fe1b6994bed04ac04c44cfce8bc7a91bb22dd821ee635eb1a250ca93d08a9c32", func := "stile/stilelaw04.PrettyNames", spec := "prettyNames", inPlace := ["internal/abi.NoEscape", "internal/bytealg.MakeNoZero"], unfollowed := true, recurses := true, named := ["stile/words.signs"], loops := true, apart := false, laid := [("stile/words.signs", laid_stile_words_signs)] }
def PrettyNamesSaid : Prop := prettyNamesRow.holds Tryz.pinned (OpenSpec.ofChange prettyNamesSpec)

/-- ITS FALSE NEIGHBOUR: 'it returns false'. Refute it at one input. -/
def prettyNamesWrong : ChangeSpec := { name := "prettyNames", fn := fun _ => fun
  | [d1, d2, d3] => { results := [.lit (.bool false)], args := [d1, d2, d3] }
  | _ => none }
def PrettyNamesWrongFalsely : Prop := prettyNamesRow.holds Tryz.pinned (OpenSpec.ofChange prettyNamesWrong)

/-- 'stilelaw04.PrettyOwn': WHATEVER THE INPUT: true; the input reads as it did. -/
def prettyOwnSpec : ChangeSpec := { name := "prettyOwn", fn := fun _ => fun
  | [d1, d2, d3] => { results := [.lit (.bool true)], args := [d1, d2, d3] }
  | _ => none }
def prettyOwnRow : OpenClaim := { program := "ytnmhlpnapgojjaagreatdoor", sum := "fe1b6994bed04ac04c44cfce8bc7a91bb22dd821ee635eb1a250ca93d08a9c32", func := "stile/stilelaw04.PrettyOwn", spec := "prettyOwn", inPlace := ["internal/abi.NoEscape", "internal/bytealg.MakeNoZero"], unfollowed := true, recurses := true, named := ["stile/words.signs"], loops := true, apart := false, laid := [("stile/words.signs", laid_stile_words_signs)] }
def PrettyOwnSaid : Prop := prettyOwnRow.holds Tryz.pinned (OpenSpec.ofChange prettyOwnSpec)

/-- ITS FALSE NEIGHBOUR: 'it returns false'. Refute it at one input. -/
def prettyOwnWrong : ChangeSpec := { name := "prettyOwn", fn := fun _ => fun
  | [d1, d2, d3] => { results := [.lit (.bool false)], args := [d1, d2, d3] }
  | _ => none }
def PrettyOwnWrongFalsely : Prop := prettyOwnRow.holds Tryz.pinned (OpenSpec.ofChange prettyOwnWrong)

/-- 'stilelaw04.PrettyLaid': WHATEVER THE INPUT: true; the input reads as it did. -/
def prettyLaidSpec : ChangeSpec := { name := "prettyLaid", fn := fun _ => fun
  | [d] => { results := [.lit (.bool true)], args := [d] }
  | _ => none }
def prettyLaidRow : OpenClaim := { program := "ytnmhlpnapgojjaagreatdoor", sum := "fe1b6994bed04ac04c44cfce8bc7a91bb22dd821ee635eb1a250ca93d08a9c32", func := "stile/stilelaw04.PrettyLaid", spec := "prettyLaid", inPlace := ["internal/abi.NoEscape", "internal/bytealg.MakeNoZero", "internal/bytealg.IndexByteString", "internal/bytealg.IndexString"], unfollowed := true, recurses := true, named := ["stile/words.signs", "internal/bytealg.MaxLen"], loops := true, apart := false, laid := [("stile/words.signs", laid_stile_words_signs)] }
def PrettyLaidSaid : Prop := prettyLaidRow.holds Tryz.pinned (OpenSpec.ofChange prettyLaidSpec)

/-- ITS FALSE NEIGHBOUR: 'it returns false'. Refute it at one input. -/
def prettyLaidWrong : ChangeSpec := { name := "prettyLaid", fn := fun _ => fun
  | [d] => { results := [.lit (.bool false)], args := [d] }
  | _ => none }
def PrettyLaidWrongFalsely : Prop := prettyLaidRow.holds Tryz.pinned (OpenSpec.ofChange prettyLaidWrong)

/-- 'stiletop.TopRead': WHATEVER THE INPUT: true; the input reads as it did. -/
def topReadSpec : ChangeSpec := { name := "topRead", fn := fun _ => fun
  | [d1, d2, d3] => { results := [.lit (.bool true)], args := [d1, d2, d3] }
  | _ => none }
def topReadRow : OpenClaim := { program := "ytnmhlpnapgojjaagreatdoor", sum := "fe1b6994bed04ac04c44cfce8bc7a91bb22dd821ee635eb1a250ca93d08a9c32", func := "stile/stiletop.TopRead", spec := "topRead", inPlace := ["internal/bytealg.IndexByteString", "internal/bytealg.IndexString", "internal/abi.NoEscape", "internal/bytealg.MakeNoZero"], unfollowed := true, recurses := true, named := ["internal/bytealg.MaxLen", "stile/words.signs"], apart := false, laid := [("stile/words.signs", laid_stile_words_signs)] }
def TopReadSaid : Prop := topReadRow.holds Tryz.pinned (OpenSpec.ofChange topReadSpec)

/-- ITS FALSE NEIGHBOUR: 'it returns false'. Refute it at one input. -/
def topReadWrong : ChangeSpec := { name := "topRead", fn := fun _ => fun
  | [d1, d2, d3] => { results := [.lit (.bool false)], args := [d1, d2, d3] }
  | _ => none }
def TopReadWrongFalsely : Prop := topReadRow.holds Tryz.pinned (OpenSpec.ofChange topReadWrong)

/- THE SECOND FORM. 'bulk': how many values and letters a reading holds, each counted each time it is reached (what is shared counts as often as it is met; a slice's spare places count too). A statement '..UptoSaid' is the law's where the arguments, and the package variables that the reading takes, are together of bulk at most 1048576: NARROWER than '..Said'. Prove '..Said' where nothing that the law and all that it calls make is longer than what came in: it says more and counts as full. Else prove '..UptoSaid'. A law counts once. -/
mutual
def uptoBulk {H : Type} : DataW H → Nat
  | .lit (.string bytes) => bytes.length + 1
  | .lit _ => 1
  | .nil => 1
  | .ptr d => uptoBulk d + 1
  | .slice elems spare => uptoBulkAll elems + uptoBulkAll spare + 1
  | .agg parts => uptoBulkAll parts + 1
  | .iface _ d => uptoBulk d + 1
  | .map entries => uptoBulkEntries entries + 1
  | .held _ => 1
def uptoBulkAll {H : Type} : List (DataW H) → Nat
  | [] => 0
  | d :: r => uptoBulk d + uptoBulkAll r
def uptoBulkEntries {H : Type} : List (Lit × DataW H) → Nat
  | [] => 0
  | x :: r => uptoBulkEntry x + uptoBulkEntries r
def uptoBulkEntry {H : Type} : Lit × DataW H → Nat
  | (.string bytes, d) => bytes.length + uptoBulk d + 1
  | (_, d) => uptoBulk d + 1
 end
def uptoSmall : (H : Type) → List (DataW H) → Bool := fun _ ds => decide (uptoBulkAll ds ≤ 1048576)
def OpenSpec.upto (s : _root_.Go.ChangeSpec) : _root_.Go.OpenSpec := { _root_.Go.OpenSpec.ofChange s with cond := some uptoSmall }

/-- 'stilelaw04.PrettyOne', WHERE WHAT IT READS IS OF BULK AT MOST 1048576: true; the input reads as it did. -/
def prettyOneUptoRow : OpenClaim := { program := "ytnmhlpnapgojjaagreatdoor", sum := "fe1b6994bed04ac04c44cfce8bc7a91bb22dd821ee635eb1a250ca93d08a9c32", func := "stile/stilelaw04.PrettyOne", spec := "prettyOne", inPlace := ["internal/abi.NoEscape", "internal/bytealg.MakeNoZero", "internal/bytealg.IndexByteString", "internal/bytealg.IndexString"], unfollowed := true, recurses := true, named := ["stile/words.signs", "internal/bytealg.MaxLen"], apart := false, laid := [("stile/words.signs", laid_stile_words_signs)], narrowed := true }
def PrettyOneUptoSaid : Prop := prettyOneUptoRow.holds Tryz.pinned (OpenSpec.upto prettyOneSpec)

/-- 'stilelaw04.PrettyBack', WHERE WHAT IT READS IS OF BULK AT MOST 1048576: true; the input reads as it did. -/
def prettyBackUptoRow : OpenClaim := { program := "ytnmhlpnapgojjaagreatdoor", sum := "fe1b6994bed04ac04c44cfce8bc7a91bb22dd821ee635eb1a250ca93d08a9c32", func := "stile/stilelaw04.PrettyBack", spec := "prettyBack", inPlace := ["internal/abi.NoEscape", "internal/bytealg.MakeNoZero", "internal/bytealg.IndexByteString", "internal/bytealg.IndexString"], unfollowed := true, recurses := true, named := ["stile/words.signs", "internal/bytealg.MaxLen"], loops := true, apart := false, laid := [("stile/words.signs", laid_stile_words_signs)], narrowed := true }
def PrettyBackUptoSaid : Prop := prettyBackUptoRow.holds Tryz.pinned (OpenSpec.upto prettyBackSpec)

/-- 'stilelaw04.PrettyNames', WHERE WHAT IT READS IS OF BULK AT MOST 1048576: true; the input reads as it did. -/
def prettyNamesUptoRow : OpenClaim := { program := "ytnmhlpnapgojjaagreatdoor", sum := "fe1b6994bed04ac04c44cfce8bc7a91bb22dd821ee635eb1a250ca93d08a9c32", func := "stile/stilelaw04.PrettyNames", spec := "prettyNames", inPlace := ["internal/abi.NoEscape", "internal/bytealg.MakeNoZero"], unfollowed := true, recurses := true, named := ["stile/words.signs"], loops := true, apart := false, laid := [("stile/words.signs", laid_stile_words_signs)], narrowed := true }
def PrettyNamesUptoSaid : Prop := prettyNamesUptoRow.holds Tryz.pinned (OpenSpec.upto prettyNamesSpec)

/-- 'stilelaw04.PrettyOwn', WHERE WHAT IT READS IS OF BULK AT MOST 1048576: true; the input reads as it did. -/
def prettyOwnUptoRow : OpenClaim := { program := "ytnmhlpnapgojjaagreatdoor", sum := "fe1b6994bed04ac04c44cfce8bc7a91bb22dd821ee635eb1a250ca93d08a9c32", func := "stile/stilelaw04.PrettyOwn", spec := "prettyOwn", inPlace := ["internal/abi.NoEscape", "internal/bytealg.MakeNoZero"], unfollowed := true, recurses := true, named := ["stile/words.signs"], loops := true, apart := false, laid := [("stile/words.signs", laid_stile_words_signs)], narrowed := true }
def PrettyOwnUptoSaid : Prop := prettyOwnUptoRow.holds Tryz.pinned (OpenSpec.upto prettyOwnSpec)

/-- 'stilelaw04.PrettyLaid', WHERE WHAT IT READS IS OF BULK AT MOST 1048576: true; the input reads as it did. -/
def prettyLaidUptoRow : OpenClaim := { program := "ytnmhlpnapgojjaagreatdoor", sum := "fe1b6994bed04ac04c44cfce8bc7a91bb22dd821ee635eb1a250ca93d08a9c32", func := "stile/stilelaw04.PrettyLaid", spec := "prettyLaid", inPlace := ["internal/abi.NoEscape", "internal/bytealg.MakeNoZero", "internal/bytealg.IndexByteString", "internal/bytealg.IndexString"], unfollowed := true, recurses := true, named := ["stile/words.signs", "internal/bytealg.MaxLen"], loops := true, apart := false, laid := [("stile/words.signs", laid_stile_words_signs)], narrowed := true }
def PrettyLaidUptoSaid : Prop := prettyLaidUptoRow.holds Tryz.pinned (OpenSpec.upto prettyLaidSpec)

/-- 'stiletop.TopRead', WHERE WHAT IT READS IS OF BULK AT MOST 1048576: true; the input reads as it did. -/
def topReadUptoRow : OpenClaim := { program := "ytnmhlpnapgojjaagreatdoor", sum := "fe1b6994bed04ac04c44cfce8bc7a91bb22dd821ee635eb1a250ca93d08a9c32", func := "stile/stiletop.TopRead", spec := "topRead", inPlace := ["internal/bytealg.IndexByteString", "internal/bytealg.IndexString", "internal/abi.NoEscape", "internal/bytealg.MakeNoZero"], unfollowed := true, recurses := true, named := ["internal/bytealg.MaxLen", "stile/words.signs"], apart := false, laid := [("stile/words.signs", laid_stile_words_signs)], narrowed := true }
def TopReadUptoSaid : Prop := topReadUptoRow.holds Tryz.pinned (OpenSpec.upto topReadSpec)

end Rows
end Go.Proofs.YtnmhlpnapgojjaaGreatDoor
