/-
  DERIVED. GIVEN WITH THE SEED: THE CARDS: each row of YtkhpdpenlnhbiaaGreatDoorRows.lean that lists a variable, with what it lists TIED to the program's text (the seventh form; the later family's looks); each row that meets fmt, with fmt's text TOLD by the authors' own Lean function (tested against real Go, not proved from fmt's source: count such statements apart). THE CARD IS WHAT COUNTS. Prove the row's statement (the work); the ties are given (YtkhpdpenlnhbiaaGreatDoorTie.lean); close each card by the builder's one call (the guide's Derived/Test/ToyasCard.lean, 'card_holds'). Laid BY PROGRAM, IN A SANDBOX (cutbox-door.mjs). By AI agents, Wed Nov 11 2026. No macro, syntax, notation, axiom, sorry.
-/
import Derived.Test.YtkhpdpenlnhbiaaGreatDoorRows
import GoSem.ClaimSeven
namespace Go.Proofs.YtkhpdpenlnhbiaaGreatDoor
namespace Rows

/-- THE TIED CARD OF 'stiletop.TopLowered'. -/
def topLoweredCard : Claim7 := { stood := { row := topLoweredRow, standIns := [], harness := (true, "4307676c1f8b976b25de4bce554dd97c0393c8bcb47e4b73e3f225dad60fdb4a"), looks := true }, kinds := [], alts := [], laidByText := true, laidKinds := [.data], laidTests := true, laidLooks := .later }
def TopLoweredCardSaid : Prop := Claim7.holds Tryz.pinned (.plain (OpenSpec.ofChange topLoweredSpec)) topLoweredCard

/-- THE SECOND FORM's CARD OF 'stiletop.TopLowered'. -/
def topLoweredUptoCard : Claim7 := { stood := { row := topLoweredUptoRow, standIns := [], harness := (true, "4307676c1f8b976b25de4bce554dd97c0393c8bcb47e4b73e3f225dad60fdb4a"), looks := true }, kinds := [], alts := [], laidByText := true, laidKinds := [.data], laidTests := true, laidLooks := .later }
def TopLoweredUptoCardSaid : Prop := Claim7.holds Tryz.pinned (.plain (OpenSpec.upto topLoweredSpec)) topLoweredUptoCard
end Rows
end Go.Proofs.YtkhpdpenlnhbiaaGreatDoor
