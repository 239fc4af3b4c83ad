/-
  DERIVED. GIVEN WITH THE SEED: THE CARDS: each row of YtnmhlpnapgojjaaGreatDoorRows.lean that lists a variable, with what it lists TIED to the program's text (the seventh form; the later family's looks); each row that meets fmt, with fmt's text TOLD by the authors' own Lean function (tested against real Go, not proved from fmt's source: count such statements apart). THE CARD IS WHAT COUNTS. Prove the row's statement (the work); the ties are given (YtnmhlpnapgojjaaGreatDoorTie.lean); close each card by the builder's one call (the guide's Derived/Test/ToyasCard.lean, 'card_holds'). Laid BY PROGRAM, IN A SANDBOX (cutbox-door.mjs). By AI agents, Wed Nov 11 2026. No macro, syntax, notation, axiom, sorry.
-/
import Derived.Test.YtnmhlpnapgojjaaGreatDoorRows
import GoSem.ClaimSeven
namespace Go.Proofs.YtnmhlpnapgojjaaGreatDoor
namespace Rows

/-- THE TIED CARD OF 'stilelaw04.PrettyOne'. -/
def prettyOneCard : Claim7 := { stood := { row := prettyOneRow, standIns := [], harness := (true, "3dd3b716ec6bfa443546235f839769f023771d97854da4cee0f446ef0bcd7825"), looks := true }, kinds := [], alts := [], laidByText := true, laidKinds := [.data], laidTests := true, laidLooks := .later }
def PrettyOneCardSaid : Prop := Claim7.holds Tryz.pinned (.plain (OpenSpec.ofChange prettyOneSpec)) prettyOneCard

/-- THE TIED CARD OF 'stilelaw04.PrettyBack'. -/
def prettyBackCard : Claim7 := { stood := { row := prettyBackRow, standIns := [], harness := (true, "3dd3b716ec6bfa443546235f839769f023771d97854da4cee0f446ef0bcd7825"), looks := true }, kinds := [], alts := [], laidByText := true, laidKinds := [.data], laidTests := true, laidLooks := .later }
def PrettyBackCardSaid : Prop := Claim7.holds Tryz.pinned (.plain (OpenSpec.ofChange prettyBackSpec)) prettyBackCard

/-- THE TIED CARD OF 'stilelaw04.PrettyNames'. -/
def prettyNamesCard : Claim7 := { stood := { row := prettyNamesRow, standIns := [], harness := (true, "3dd3b716ec6bfa443546235f839769f023771d97854da4cee0f446ef0bcd7825"), looks := true }, kinds := [], alts := [], laidByText := true, laidKinds := [.data], laidTests := true, laidLooks := .later }
def PrettyNamesCardSaid : Prop := Claim7.holds Tryz.pinned (.plain (OpenSpec.ofChange prettyNamesSpec)) prettyNamesCard

/-- THE TIED CARD OF 'stilelaw04.PrettyOwn'. -/
def prettyOwnCard : Claim7 := { stood := { row := prettyOwnRow, standIns := [], harness := (true, "3dd3b716ec6bfa443546235f839769f023771d97854da4cee0f446ef0bcd7825"), looks := true }, kinds := [], alts := [], laidByText := true, laidKinds := [.data], laidTests := true, laidLooks := .later }
def PrettyOwnCardSaid : Prop := Claim7.holds Tryz.pinned (.plain (OpenSpec.ofChange prettyOwnSpec)) prettyOwnCard

/-- THE TIED CARD OF 'stilelaw04.PrettyLaid'. -/
def prettyLaidCard : Claim7 := { stood := { row := prettyLaidRow, standIns := [], harness := (true, "3dd3b716ec6bfa443546235f839769f023771d97854da4cee0f446ef0bcd7825"), looks := true }, kinds := [], alts := [], laidByText := true, laidKinds := [.data], laidTests := true, laidLooks := .later }
def PrettyLaidCardSaid : Prop := Claim7.holds Tryz.pinned (.plain (OpenSpec.ofChange prettyLaidSpec)) prettyLaidCard

/-- THE TIED CARD OF 'stiletop.TopRead'. -/
def topReadCard : Claim7 := { stood := { row := topReadRow, standIns := [], harness := (true, "3dd3b716ec6bfa443546235f839769f023771d97854da4cee0f446ef0bcd7825"), looks := true }, kinds := [], alts := [], laidByText := true, laidKinds := [.data], laidTests := true, laidLooks := .later }
def TopReadCardSaid : Prop := Claim7.holds Tryz.pinned (.plain (OpenSpec.ofChange topReadSpec)) topReadCard

/-- THE SECOND FORM's CARD OF 'stilelaw04.PrettyOne'. -/
def prettyOneUptoCard : Claim7 := { stood := { row := prettyOneUptoRow, standIns := [], harness := (true, "3dd3b716ec6bfa443546235f839769f023771d97854da4cee0f446ef0bcd7825"), looks := true }, kinds := [], alts := [], laidByText := true, laidKinds := [.data], laidTests := true, laidLooks := .later }
def PrettyOneUptoCardSaid : Prop := Claim7.holds Tryz.pinned (.plain (OpenSpec.upto prettyOneSpec)) prettyOneUptoCard

/-- THE SECOND FORM's CARD OF 'stilelaw04.PrettyBack'. -/
def prettyBackUptoCard : Claim7 := { stood := { row := prettyBackUptoRow, standIns := [], harness := (true, "3dd3b716ec6bfa443546235f839769f023771d97854da4cee0f446ef0bcd7825"), looks := true }, kinds := [], alts := [], laidByText := true, laidKinds := [.data], laidTests := true, laidLooks := .later }
def PrettyBackUptoCardSaid : Prop := Claim7.holds Tryz.pinned (.plain (OpenSpec.upto prettyBackSpec)) prettyBackUptoCard

/-- THE SECOND FORM's CARD OF 'stilelaw04.PrettyNames'. -/
def prettyNamesUptoCard : Claim7 := { stood := { row := prettyNamesUptoRow, standIns := [], harness := (true, "3dd3b716ec6bfa443546235f839769f023771d97854da4cee0f446ef0bcd7825"), looks := true }, kinds := [], alts := [], laidByText := true, laidKinds := [.data], laidTests := true, laidLooks := .later }
def PrettyNamesUptoCardSaid : Prop := Claim7.holds Tryz.pinned (.plain (OpenSpec.upto prettyNamesSpec)) prettyNamesUptoCard

/-- THE SECOND FORM's CARD OF 'stilelaw04.PrettyOwn'. -/
def prettyOwnUptoCard : Claim7 := { stood := { row := prettyOwnUptoRow, standIns := [], harness := (true, "3dd3b716ec6bfa443546235f839769f023771d97854da4cee0f446ef0bcd7825"), looks := true }, kinds := [], alts := [], laidByText := true, laidKinds := [.data], laidTests := true, laidLooks := .later }
def PrettyOwnUptoCardSaid : Prop := Claim7.holds Tryz.pinned (.plain (OpenSpec.upto prettyOwnSpec)) prettyOwnUptoCard

/-- THE SECOND FORM's CARD OF 'stilelaw04.PrettyLaid'. -/
def prettyLaidUptoCard : Claim7 := { stood := { row := prettyLaidUptoRow, standIns := [], harness := (true, "3dd3b716ec6bfa443546235f839769f023771d97854da4cee0f446ef0bcd7825"), looks := true }, kinds := [], alts := [], laidByText := true, laidKinds := [.data], laidTests := true, laidLooks := .later }
def PrettyLaidUptoCardSaid : Prop := Claim7.holds Tryz.pinned (.plain (OpenSpec.upto prettyLaidSpec)) prettyLaidUptoCard

/-- THE SECOND FORM's CARD OF 'stiletop.TopRead'. -/
def topReadUptoCard : Claim7 := { stood := { row := topReadUptoRow, standIns := [], harness := (true, "3dd3b716ec6bfa443546235f839769f023771d97854da4cee0f446ef0bcd7825"), looks := true }, kinds := [], alts := [], laidByText := true, laidKinds := [.data], laidTests := true, laidLooks := .later }
def TopReadUptoCardSaid : Prop := Claim7.holds Tryz.pinned (.plain (OpenSpec.upto topReadSpec)) topReadUptoCard
end Rows
end Go.Proofs.YtnmhlpnapgojjaaGreatDoor
