/-
  DERIVED. GIVEN WITH THE SEED: THE CARDS: each row of YtggnfanphcaamaaDoorRows.lean that lists a variable, with what it lists TIED to the program's text (the seventh form; the later family's looks); each row that meets fmt, with fmt's text TOLD by the authors' own Lean function (tested against real Go, not proved from fmt's source: count such statements apart). THE CARD IS WHAT COUNTS. Prove the row's statement (the work); the ties are given (YtggnfanphcaamaaDoorTie.lean); close each card by the builder's one call (the guide's Derived/Test/ToyasCard.lean, 'card_holds'). Laid BY PROGRAM, IN A SANDBOX (cutbox-door.mjs). By AI agents, Wed Nov 11 2026. No macro, syntax, notation, axiom, sorry.
-/
import Derived.Test.YtggnfanphcaamaaDoorRows
import GoSem.ClaimSeven
namespace Go.Proofs.YtggnfanphcaamaaDoor
namespace Rows

/-- THE TIED CARD OF 'stilelaw03.ParseExprs'. -/
def parseExprsCard : Claim7 := { stood := { row := parseExprsRow, standIns := [], harness := (true, "b1f77c6100ba2df88a5cf4d42ddc925b697e0418a33073281331810aab608e9d"), looks := true }, kinds := [], alts := [], laidByText := true, laidKinds := [.data], laidTests := true, laidLooks := .later }
def ParseExprsCardSaid : Prop := Claim7.holds Tryd.pinned (.plain (OpenSpec.ofChange parseExprsSpec)) parseExprsCard

/-- THE TIED CARD OF 'stilelaw03.ParseLevels'. -/
def parseLevelsCard : Claim7 := { stood := { row := parseLevelsRow, standIns := [], harness := (true, "b1f77c6100ba2df88a5cf4d42ddc925b697e0418a33073281331810aab608e9d"), looks := true }, kinds := [], alts := [], laidByText := true, laidKinds := [.data], laidTests := true, laidLooks := .later }
def ParseLevelsCardSaid : Prop := Claim7.holds Tryd.pinned (.plain (OpenSpec.ofChange parseLevelsSpec)) parseLevelsCard

/-- THE TIED CARD OF 'stilelaw03.ParseBlanks'. -/
def parseBlanksCard : Claim7 := { stood := { row := parseBlanksRow, standIns := [], harness := (true, "b1f77c6100ba2df88a5cf4d42ddc925b697e0418a33073281331810aab608e9d"), looks := true }, kinds := [], alts := [], laidByText := true, laidKinds := [.data], laidTests := true, laidLooks := .later }
def ParseBlanksCardSaid : Prop := Claim7.holds Tryd.pinned (.plain (OpenSpec.ofChange parseBlanksSpec)) parseBlanksCard

/-- THE TIED CARD OF 'stilelaw03.ParseRound'. -/
def parseRoundCard : Claim7 := { stood := { row := parseRoundRow, standIns := [], harness := (true, "b1f77c6100ba2df88a5cf4d42ddc925b697e0418a33073281331810aab608e9d"), looks := true }, kinds := [], alts := [], laidByText := true, laidKinds := [.data], laidTests := true, laidLooks := .later }
def ParseRoundCardSaid : Prop := Claim7.holds Tryd.pinned (.plain (OpenSpec.ofChange parseRoundSpec)) parseRoundCard

/-- THE TIED CARD OF 'stilelaw03.ParseTrees'. -/
def parseTreesCard : Claim7 := { stood := { row := parseTreesRow, standIns := [], harness := (true, "b1f77c6100ba2df88a5cf4d42ddc925b697e0418a33073281331810aab608e9d"), looks := true }, kinds := [], alts := [], laidByText := true, laidKinds := [.data], laidTests := true, laidLooks := .later }
def ParseTreesCardSaid : Prop := Claim7.holds Tryd.pinned (.plain (OpenSpec.ofChange parseTreesSpec)) parseTreesCard

/-- THE SECOND FORM's CARD OF 'stilelaw03.ParseExprs'. -/
def parseExprsUptoCard : Claim7 := { stood := { row := parseExprsUptoRow, standIns := [], harness := (true, "b1f77c6100ba2df88a5cf4d42ddc925b697e0418a33073281331810aab608e9d"), looks := true }, kinds := [], alts := [], laidByText := true, laidKinds := [.data], laidTests := true, laidLooks := .later }
def ParseExprsUptoCardSaid : Prop := Claim7.holds Tryd.pinned (.plain (OpenSpec.upto parseExprsSpec)) parseExprsUptoCard

/-- THE SECOND FORM's CARD OF 'stilelaw03.ParseLevels'. -/
def parseLevelsUptoCard : Claim7 := { stood := { row := parseLevelsUptoRow, standIns := [], harness := (true, "b1f77c6100ba2df88a5cf4d42ddc925b697e0418a33073281331810aab608e9d"), looks := true }, kinds := [], alts := [], laidByText := true, laidKinds := [.data], laidTests := true, laidLooks := .later }
def ParseLevelsUptoCardSaid : Prop := Claim7.holds Tryd.pinned (.plain (OpenSpec.upto parseLevelsSpec)) parseLevelsUptoCard

/-- THE SECOND FORM's CARD OF 'stilelaw03.ParseBlanks'. -/
def parseBlanksUptoCard : Claim7 := { stood := { row := parseBlanksUptoRow, standIns := [], harness := (true, "b1f77c6100ba2df88a5cf4d42ddc925b697e0418a33073281331810aab608e9d"), looks := true }, kinds := [], alts := [], laidByText := true, laidKinds := [.data], laidTests := true, laidLooks := .later }
def ParseBlanksUptoCardSaid : Prop := Claim7.holds Tryd.pinned (.plain (OpenSpec.upto parseBlanksSpec)) parseBlanksUptoCard

/-- THE SECOND FORM's CARD OF 'stilelaw03.ParseRound'. -/
def parseRoundUptoCard : Claim7 := { stood := { row := parseRoundUptoRow, standIns := [], harness := (true, "b1f77c6100ba2df88a5cf4d42ddc925b697e0418a33073281331810aab608e9d"), looks := true }, kinds := [], alts := [], laidByText := true, laidKinds := [.data], laidTests := true, laidLooks := .later }
def ParseRoundUptoCardSaid : Prop := Claim7.holds Tryd.pinned (.plain (OpenSpec.upto parseRoundSpec)) parseRoundUptoCard

/-- THE SECOND FORM's CARD OF 'stilelaw03.ParseTrees'. -/
def parseTreesUptoCard : Claim7 := { stood := { row := parseTreesUptoRow, standIns := [], harness := (true, "b1f77c6100ba2df88a5cf4d42ddc925b697e0418a33073281331810aab608e9d"), looks := true }, kinds := [], alts := [], laidByText := true, laidKinds := [.data], laidTests := true, laidLooks := .later }
def ParseTreesUptoCardSaid : Prop := Claim7.holds Tryd.pinned (.plain (OpenSpec.upto parseTreesSpec)) parseTreesUptoCard
end Rows
end Go.Proofs.YtggnfanphcaamaaDoor
