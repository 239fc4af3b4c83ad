/-
  DERIVED. GIVEN WITH THE SEED: THE CARDS: each row of YtjoepkpdanolkaaGreatDoorRows.lean that lists a variable, with what it lists TIED to the program's text (the seventh form; the later family's looks); each row that meets fmt, with fmt's text TOLD by the authors' own Lean function (tested against real Go, not proved from fmt's source: count such statements apart). THE CARD IS WHAT COUNTS. Prove the row's statement (the work); the ties are given (YtjoepkpdanolkaaGreatDoorTie.lean); close each card by the builder's one call (the guide's Derived/Test/ToyasCard.lean, 'card_holds'). Laid BY PROGRAM, IN A SANDBOX (cutbox-door.mjs). By AI agents, Wed Nov 11 2026. No macro, syntax, notation, axiom, sorry.
-/
import Derived.Test.YtjoepkpdanolkaaGreatDoorRows
import GoSem.ClaimSeven
namespace Go.Proofs.YtjoepkpdanolkaaGreatDoor
namespace Rows

/-- THE TIED CARD OF 'stiletop.TopReckoned'. -/
def topReckonedCard : Claim7 := { stood := { row := topReckonedRow, standIns := [], harness := (true, "58d7b32b6b5d733edcfd55af494831a825236d5f4734d6a3e96663208bf4b28b"), looks := true }, kinds := [], alts := [], laidByText := true, laidKinds := [.data], laidTests := true, laidLooks := .later }
def TopReckonedCardSaid : Prop := Claim7.holds Tryz.pinned (.plain (OpenSpec.ofChange topReckonedSpec)) topReckonedCard

/-- THE SECOND FORM's CARD OF 'stiletop.TopReckoned'. -/
def topReckonedUptoCard : Claim7 := { stood := { row := topReckonedUptoRow, standIns := [], harness := (true, "58d7b32b6b5d733edcfd55af494831a825236d5f4734d6a3e96663208bf4b28b"), looks := true }, kinds := [], alts := [], laidByText := true, laidKinds := [.data], laidTests := true, laidLooks := .later }
def TopReckonedUptoCardSaid : Prop := Claim7.holds Tryz.pinned (.plain (OpenSpec.upto topReckonedSpec)) topReckonedUptoCard
end Rows
end Go.Proofs.YtjoepkpdanolkaaGreatDoor
