/-
  DERIVED. GIVEN WITH THE SEED: THE CARDS: each row of YtnmhlpnapgojjaaDoorRows.lean that lists a variable, with what it lists TIED to the program's text (the seventh form; the later family's looks); each row that meets fmt, with fmt's text TOLD by the authors' own Lean function (tested against real Go, not proved from fmt's source: count such statements apart). THE CARD IS WHAT COUNTS. Prove the row's statement (the work); the ties are given (YtnmhlpnapgojjaaDoorTie.lean); close each card by the builder's one call (the guide's Derived/Test/ToyasCard.lean, 'card_holds'). Laid BY PROGRAM, IN A SANDBOX (cutbox-door.mjs). By AI agents, Wed Nov 11 2026. No macro, syntax, notation, axiom, sorry.
-/
import Derived.Test.YtnmhlpnapgojjaaDoorRows
import GoSem.ClaimSeven
namespace Go.Proofs.YtnmhlpnapgojjaaDoor
namespace Rows

/-- THE TIED CARD OF 'stilelaw04.PrettyPrints'. -/
def prettyPrintsCard : Claim7 := { stood := { row := prettyPrintsRow, standIns := [], harness := (true, "62648f64887c2f6453b8ed9446668002a70fa833f0e5c91354371cf4267e5c44"), looks := false }, kinds := [], alts := [], laidByText := true, laidKinds := [.data], laidTests := true, laidLooks := .later }
def PrettyPrintsCardSaid : Prop := Claim7.holds Tryd.pinned (.plain (OpenSpec.ofChange prettyPrintsSpec)) prettyPrintsCard

/-- THE TIED CARD OF 'stilelaw04.PrettyStripped'. -/
def prettyStrippedCard : Claim7 := { stood := { row := prettyStrippedRow, standIns := [], harness := (true, "62648f64887c2f6453b8ed9446668002a70fa833f0e5c91354371cf4267e5c44"), looks := false }, kinds := [], alts := [], laidByText := true, laidKinds := [.data], laidTests := true, laidLooks := .later }
def PrettyStrippedCardSaid : Prop := Claim7.holds Tryd.pinned (.plain (OpenSpec.ofChange prettyStrippedSpec)) prettyStrippedCard

/-- THE TIED CARD OF 'stilelaw04.PrettyRenamed'. -/
def prettyRenamedCard : Claim7 := { stood := { row := prettyRenamedRow, standIns := [], harness := (true, "62648f64887c2f6453b8ed9446668002a70fa833f0e5c91354371cf4267e5c44"), looks := false }, kinds := [], alts := [], laidByText := true, laidKinds := [.data], laidTests := true, laidLooks := .later }
def PrettyRenamedCardSaid : Prop := Claim7.holds Tryd.pinned (.plain (OpenSpec.ofChange prettyRenamedSpec)) prettyRenamedCard

/-- THE SECOND FORM's CARD OF 'stilelaw04.PrettyPrints'. -/
def prettyPrintsUptoCard : Claim7 := { stood := { row := prettyPrintsUptoRow, standIns := [], harness := (true, "62648f64887c2f6453b8ed9446668002a70fa833f0e5c91354371cf4267e5c44"), looks := false }, kinds := [], alts := [], laidByText := true, laidKinds := [.data], laidTests := true, laidLooks := .later }
def PrettyPrintsUptoCardSaid : Prop := Claim7.holds Tryd.pinned (.plain (OpenSpec.upto prettyPrintsSpec)) prettyPrintsUptoCard

/-- THE SECOND FORM's CARD OF 'stilelaw04.PrettyStripped'. -/
def prettyStrippedUptoCard : Claim7 := { stood := { row := prettyStrippedUptoRow, standIns := [], harness := (true, "62648f64887c2f6453b8ed9446668002a70fa833f0e5c91354371cf4267e5c44"), looks := false }, kinds := [], alts := [], laidByText := true, laidKinds := [.data], laidTests := true, laidLooks := .later }
def PrettyStrippedUptoCardSaid : Prop := Claim7.holds Tryd.pinned (.plain (OpenSpec.upto prettyStrippedSpec)) prettyStrippedUptoCard

/-- THE SECOND FORM's CARD OF 'stilelaw04.PrettyRenamed'. -/
def prettyRenamedUptoCard : Claim7 := { stood := { row := prettyRenamedUptoRow, standIns := [], harness := (true, "62648f64887c2f6453b8ed9446668002a70fa833f0e5c91354371cf4267e5c44"), looks := false }, kinds := [], alts := [], laidByText := true, laidKinds := [.data], laidTests := true, laidLooks := .later }
def PrettyRenamedUptoCardSaid : Prop := Claim7.holds Tryd.pinned (.plain (OpenSpec.upto prettyRenamedSpec)) prettyRenamedUptoCard
end Rows
end Go.Proofs.YtnmhlpnapgojjaaDoor
