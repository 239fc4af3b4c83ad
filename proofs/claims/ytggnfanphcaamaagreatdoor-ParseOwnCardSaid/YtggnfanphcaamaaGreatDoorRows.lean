/-
  NARROWER THAN 'FOR EVERY INPUT', by the rows' own cells (each row's printed sentence says how): ParsePrograms: laid · ParseOwn: laid.
  DERIVED. THE GIVEN ROWS OF THIS SEAT. 2 by the template 'for every input the law returns true; each argument reads behind the call as it read before'; 0 by the template 'total and deterministic' (their statements: YtggnfanphcaamaaGreatDoorTotals.lean).
  GIVEN WITH THE SEED: the statements are not yours to turn. If you find one false, say at which input.
  Laid BY PROGRAM, IN A SANDBOX (cutbox-rows.mjs): the forced cells as the released guide's own fill.sh prints them over the translation 742d309f56d929fe… (all of the seat's roots in one cut). By AI agents, Wed Nov 11 2026. No macro, syntax, notation, axiom, sorry.
-/
import Derived.Test.YtggnfanphcaamaaGreatDoorChecked
import GoSem.Claim
import GoSem.ClaimJoined
import GoSem.ClaimMapViews
import Derived.JoinedTies
import Derived.KernelRfl
namespace Go.Proofs.YtggnfanphcaamaaGreatDoor
/- THE CELL 'sum', in the pinned program and in every row, IS THE sha256 OF THE DUMP (.gsa) THAT YtggnfanphcaamaaGreatDoorProg.lean LOADS. Nothing in Lean hashes anything: it is a label: what it is worth is what the hold of that sum in a sandbox is worth. -/
noncomputable def Tryz.pinned : Pinned := { name := "ytggnfanphcaamaagreatdoor", sum := "742d309f56d929fec000ca24749da91433b4d88f10a8c4acc3acbab003b20c0f", checked := Tryz.checked }
namespace Rows
def none {H : Type} : Left H := { results := [], args := [] }

/- WHAT THE LISTED PACKAGE-LEVEL VARIABLES READ AS WHEN THE CALL BEGINS. Each datum BY PROGRAM (the guide's laid-datum.mjs) off the statement by which the dump's own 'gosem.cut.vars' lays the variable. In a bare row this is a premise. The card (YtggnfanphcaamaaGreatDoorCards.lean) ties it to the program's text. -/
def laid_stile_words_signs {H : Type} : DataW H := .agg [.agg [.lit (.string []), .lit (.int .i64 0)], .agg [.lit (.string [43]), .lit (.int .i64 7)], .agg [.lit (.string [45]), .lit (.int .i64 7)], .agg [.lit (.string [42]), .lit (.int .i64 8)], .agg [.lit (.string [47]), .lit (.int .i64 8)], .agg [.lit (.string [37]), .lit (.int .i64 8)], .agg [.lit (.string [38]), .lit (.int .i64 3)], .agg [.lit (.string [124]), .lit (.int .i64 1)], .agg [.lit (.string [94]), .lit (.int .i64 2)], .agg [.lit (.string [60, 60]), .lit (.int .i64 6)], .agg [.lit (.string [62, 62]), .lit (.int .i64 6)], .agg [.lit (.string [61, 61]), .lit (.int .i64 4)], .agg [.lit (.string [33, 61]), .lit (.int .i64 4)], .agg [.lit (.string [60]), .lit (.int .i64 5)], .agg [.lit (.string [60, 61]), .lit (.int .i64 5)], .agg [.lit (.string [62]), .lit (.int .i64 5)], .agg [.lit (.string [62, 61]), .lit (.int .i64 5)], .agg [.lit (.string [45]), .lit (.int .i64 9)], .agg [.lit (.string [33]), .lit (.int .i64 9)]]

/-- 'stilelaw03.ParsePrograms': WHATEVER THE INPUT: true; the input reads as it did. -/
def parseProgramsSpec : ChangeSpec := { name := "parsePrograms", fn := fun _ => fun
  | [d] => { results := [.lit (.bool true)], args := [d] }
  | _ => none }
def parseProgramsRow : OpenClaim := { program := "ytggnfanphcaamaagreatdoor", sum := "742d309f56d929fec000ca24749da91433b4d88f10a8c4acc3acbab003b20c0f", func := "stile/stilelaw03.ParsePrograms", spec := "parsePrograms", inPlace := ["internal/bytealg.IndexByteString", "internal/bytealg.IndexString"], unfollowed := true, recurses := true, named := ["internal/bytealg.MaxLen", "stile/words.signs"], apart := false, laid := [("stile/words.signs", laid_stile_words_signs)] }
def ParseProgramsSaid : Prop := parseProgramsRow.holds Tryz.pinned (OpenSpec.ofChange parseProgramsSpec)

/-- ITS FALSE NEIGHBOUR: 'it returns false'. Refute it at one input. -/
def parseProgramsWrong : ChangeSpec := { name := "parsePrograms", fn := fun _ => fun
  | [d] => { results := [.lit (.bool false)], args := [d] }
  | _ => none }
def ParseProgramsWrongFalsely : Prop := parseProgramsRow.holds Tryz.pinned (OpenSpec.ofChange parseProgramsWrong)

/-- 'stilelaw03.ParseOwn': WHATEVER THE INPUT: true; the input reads as it did. -/
def parseOwnSpec : ChangeSpec := { name := "parseOwn", fn := fun _ => fun
  | [d] => { results := [.lit (.bool true)], args := [d] }
  | _ => none }
def parseOwnRow : OpenClaim := { program := "ytggnfanphcaamaagreatdoor", sum := "742d309f56d929fec000ca24749da91433b4d88f10a8c4acc3acbab003b20c0f", func := "stile/stilelaw03.ParseOwn", spec := "parseOwn", inPlace := ["internal/bytealg.IndexByteString", "internal/bytealg.IndexString"], unfollowed := true, recurses := true, named := ["internal/bytealg.MaxLen", "stile/words.signs"], apart := false, laid := [("stile/words.signs", laid_stile_words_signs)] }
def ParseOwnSaid : Prop := parseOwnRow.holds Tryz.pinned (OpenSpec.ofChange parseOwnSpec)

/-- ITS FALSE NEIGHBOUR: 'it returns false'. Refute it at one input. -/
def parseOwnWrong : ChangeSpec := { name := "parseOwn", fn := fun _ => fun
  | [d] => { results := [.lit (.bool false)], args := [d] }
  | _ => none }
def ParseOwnWrongFalsely : Prop := parseOwnRow.holds Tryz.pinned (OpenSpec.ofChange parseOwnWrong)

/- THE SECOND FORM. 'bulk': how many values and letters a reading holds, each counted each time it is reached (what is shared counts as often as it is met; a slice's spare places count too). A statement '..UptoSaid' is the law's where the arguments, and the package variables that the reading takes, are together of bulk at most 1048576: NARROWER than '..Said'. Prove '..Said' where nothing that the law and all that it calls make is longer than what came in: it says more and counts as full. Else prove '..UptoSaid'. A law counts once. -/
mutual
def uptoBulk {H : Type} : DataW H → Nat
  | .lit (.string bytes) => bytes.length + 1
  | .lit _ => 1
  | .nil => 1
  | .ptr d => uptoBulk d + 1
  | .slice elems spare => uptoBulkAll elems + uptoBulkAll spare + 1
  | .agg parts => uptoBulkAll parts + 1
  | .iface _ d => uptoBulk d + 1
  | .map entries => uptoBulkEntries entries + 1
  | .held _ => 1
def uptoBulkAll {H : Type} : List (DataW H) → Nat
  | [] => 0
  | d :: r => uptoBulk d + uptoBulkAll r
def uptoBulkEntries {H : Type} : List (Lit × DataW H) → Nat
  | [] => 0
  | x :: r => uptoBulkEntry x + uptoBulkEntries r
def uptoBulkEntry {H : Type} : Lit × DataW H → Nat
  | (.string bytes, d) => bytes.length + uptoBulk d + 1
  | (_, d) => uptoBulk d + 1
 end
def uptoSmall : (H : Type) → List (DataW H) → Bool := fun _ ds => decide (uptoBulkAll ds ≤ 1048576)
def OpenSpec.upto (s : _root_.Go.ChangeSpec) : _root_.Go.OpenSpec := { _root_.Go.OpenSpec.ofChange s with cond := some uptoSmall }

/-- 'stilelaw03.ParsePrograms', WHERE WHAT IT READS IS OF BULK AT MOST 1048576: true; the input reads as it did. -/
def parseProgramsUptoRow : OpenClaim := { program := "ytggnfanphcaamaagreatdoor", sum := "742d309f56d929fec000ca24749da91433b4d88f10a8c4acc3acbab003b20c0f", func := "stile/stilelaw03.ParsePrograms", spec := "parsePrograms", inPlace := ["internal/bytealg.IndexByteString", "internal/bytealg.IndexString"], unfollowed := true, recurses := true, named := ["internal/bytealg.MaxLen", "stile/words.signs"], apart := false, laid := [("stile/words.signs", laid_stile_words_signs)], narrowed := true }
def ParseProgramsUptoSaid : Prop := parseProgramsUptoRow.holds Tryz.pinned (OpenSpec.upto parseProgramsSpec)

/-- 'stilelaw03.ParseOwn', WHERE WHAT IT READS IS OF BULK AT MOST 1048576: true; the input reads as it did. -/
def parseOwnUptoRow : OpenClaim := { program := "ytggnfanphcaamaagreatdoor", sum := "742d309f56d929fec000ca24749da91433b4d88f10a8c4acc3acbab003b20c0f", func := "stile/stilelaw03.ParseOwn", spec := "parseOwn", inPlace := ["internal/bytealg.IndexByteString", "internal/bytealg.IndexString"], unfollowed := true, recurses := true, named := ["internal/bytealg.MaxLen", "stile/words.signs"], apart := false, laid := [("stile/words.signs", laid_stile_words_signs)], narrowed := true }
def ParseOwnUptoSaid : Prop := parseOwnUptoRow.holds Tryz.pinned (OpenSpec.upto parseOwnSpec)

end Rows
end Go.Proofs.YtggnfanphcaamaaGreatDoor
