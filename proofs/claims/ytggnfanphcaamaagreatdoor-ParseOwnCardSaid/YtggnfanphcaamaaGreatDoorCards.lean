/-
  DERIVED. GIVEN WITH THE SEED: THE CARDS: each row of YtggnfanphcaamaaGreatDoorRows.lean that lists a variable, with what it lists TIED to the program's text (the seventh form; the later family's looks); each row that meets fmt, with fmt's text TOLD by the authors' own Lean function (tested against real Go, not proved from fmt's source: count such statements apart). THE CARD IS WHAT COUNTS. Prove the row's statement (the work); the ties are given (YtggnfanphcaamaaGreatDoorTie.lean); close each card by the builder's one call (the guide's Derived/Test/ToyasCard.lean, 'card_holds'). Laid BY PROGRAM, IN A SANDBOX (cutbox-door.mjs). By AI agents, Wed Nov 11 2026. No macro, syntax, notation, axiom, sorry.
-/
import Derived.Test.YtggnfanphcaamaaGreatDoorRows
import GoSem.ClaimSeven
namespace Go.Proofs.YtggnfanphcaamaaGreatDoor
namespace Rows

/-- THE TIED CARD OF 'stilelaw03.ParsePrograms'. -/
def parseProgramsCard : Claim7 := { stood := { row := parseProgramsRow, standIns := [], harness := (true, "0475708b1df63b64dde3dda37ed2e5875224cc2f1c657e76d6990eea6a172314"), looks := true }, kinds := [], alts := [], laidByText := true, laidKinds := [.data], laidTests := true, laidLooks := .later }
def ParseProgramsCardSaid : Prop := Claim7.holds Tryz.pinned (.plain (OpenSpec.ofChange parseProgramsSpec)) parseProgramsCard

/-- THE TIED CARD OF 'stilelaw03.ParseOwn'. -/
def parseOwnCard : Claim7 := { stood := { row := parseOwnRow, standIns := [], harness := (true, "0475708b1df63b64dde3dda37ed2e5875224cc2f1c657e76d6990eea6a172314"), looks := true }, kinds := [], alts := [], laidByText := true, laidKinds := [.data], laidTests := true, laidLooks := .later }
def ParseOwnCardSaid : Prop := Claim7.holds Tryz.pinned (.plain (OpenSpec.ofChange parseOwnSpec)) parseOwnCard

/-- THE SECOND FORM's CARD OF 'stilelaw03.ParsePrograms'. -/
def parseProgramsUptoCard : Claim7 := { stood := { row := parseProgramsUptoRow, standIns := [], harness := (true, "0475708b1df63b64dde3dda37ed2e5875224cc2f1c657e76d6990eea6a172314"), looks := true }, kinds := [], alts := [], laidByText := true, laidKinds := [.data], laidTests := true, laidLooks := .later }
def ParseProgramsUptoCardSaid : Prop := Claim7.holds Tryz.pinned (.plain (OpenSpec.upto parseProgramsSpec)) parseProgramsUptoCard

/-- THE SECOND FORM's CARD OF 'stilelaw03.ParseOwn'. -/
def parseOwnUptoCard : Claim7 := { stood := { row := parseOwnUptoRow, standIns := [], harness := (true, "0475708b1df63b64dde3dda37ed2e5875224cc2f1c657e76d6990eea6a172314"), looks := true }, kinds := [], alts := [], laidByText := true, laidKinds := [.data], laidTests := true, laidLooks := .later }
def ParseOwnUptoCardSaid : Prop := Claim7.holds Tryz.pinned (.plain (OpenSpec.upto parseOwnSpec)) parseOwnUptoCard
end Rows
end Go.Proofs.YtggnfanphcaamaaGreatDoor
