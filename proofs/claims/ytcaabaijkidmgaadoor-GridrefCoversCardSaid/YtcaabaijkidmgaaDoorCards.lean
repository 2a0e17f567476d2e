/-
  DERIVED. GIVEN WITH THE SEED: THE CARDS: each row of YtcaabaijkidmgaaDoorRows.lean that lists a variable, with what it lists TIED to the program's text (the seventh form; the later family's looks); each row that meets fmt, with fmt's text TOLD by the authors' own Lean function (tested against real Go, not proved from fmt's source: count such statements apart). THE CARD IS WHAT COUNTS. Prove the row's statement (the work); the ties are given (YtcaabaijkidmgaaDoorTie.lean); close each card by the builder's one call (the guide's Derived/Test/ToyasCard.lean, 'card_holds'). Laid BY PROGRAM, IN A SANDBOX (cutbox-door.mjs). By AI agents, Wed Nov 11 2026. No macro, syntax, notation, axiom, sorry.
-/
import Derived.Test.YtcaabaijkidmgaaDoorRows
import GoSem.ClaimSeven
namespace Go.Proofs.YtcaabaijkidmgaaDoor
namespace Rows

/-- THE TIED CARD OF 'mapsheetslaw51.GridrefSquares'. -/
def gridrefSquaresCard : Claim7 := { stood := { row := gridrefSquaresRow, standIns := [], harness := (true, "96d7745023a37115d1036802b1e8cd45613f86364130aa9e8c1ee3922e838f8f"), looks := false }, kinds := [], alts := [], laidByText := true, laidKinds := [.data, .data, .data], laidTests := true, laidLooks := .later }
def GridrefSquaresCardSaid : Prop := Claim7.holds Tryd.pinned (.plain (OpenSpec.ofChange gridrefSquaresSpec)) gridrefSquaresCard

/-- THE TIED CARD OF 'mapsheetslaw51.GridrefParses'. -/
def gridrefParsesCard : Claim7 := { stood := { row := gridrefParsesRow, standIns := [], harness := (true, "96d7745023a37115d1036802b1e8cd45613f86364130aa9e8c1ee3922e838f8f"), looks := false }, kinds := [], alts := [], laidByText := true, laidKinds := [.data, .data, .data], laidTests := true, laidLooks := .later }
def GridrefParsesCardSaid : Prop := Claim7.holds Tryd.pinned (.plain (OpenSpec.ofChange gridrefParsesSpec)) gridrefParsesCard

/-- THE TIED CARD OF 'mapsheetslaw51.GridrefContains'. -/
def gridrefContainsCard : Claim7 := { stood := { row := gridrefContainsRow, standIns := [], harness := (true, "96d7745023a37115d1036802b1e8cd45613f86364130aa9e8c1ee3922e838f8f"), looks := false }, kinds := [], alts := [], laidByText := true, laidKinds := [.data, .data, .data], laidTests := true, laidLooks := .later }
def GridrefContainsCardSaid : Prop := Claim7.holds Tryd.pinned (.plain (OpenSpec.ofChange gridrefContainsSpec)) gridrefContainsCard

/-- THE TIED CARD OF 'mapsheetslaw51.GridrefCovers'. -/
def gridrefCoversCard : Claim7 := { stood := { row := gridrefCoversRow, standIns := [], harness := (true, "96d7745023a37115d1036802b1e8cd45613f86364130aa9e8c1ee3922e838f8f"), looks := false }, kinds := [], alts := [], laidByText := true, laidKinds := [.data, .data, .data], laidTests := true, laidLooks := .later }
def GridrefCoversCardSaid : Prop := Claim7.holds Tryd.pinned (.plain (OpenSpec.ofChange gridrefCoversSpec)) gridrefCoversCard

/-- THE TIED CARD OF 'mapsheetslaw51.GridrefLines'. -/
def gridrefLinesCard : Claim7 := { stood := { row := gridrefLinesRow, standIns := [], harness := (true, "96d7745023a37115d1036802b1e8cd45613f86364130aa9e8c1ee3922e838f8f"), looks := false }, kinds := [], alts := [], laidByText := true, laidKinds := [.data, .data, .data], laidTests := true, laidLooks := .later }
def GridrefLinesCardSaid : Prop := Claim7.holds Tryd.pinned (.plain (OpenSpec.ofChange gridrefLinesSpec)) gridrefLinesCard

/-- THE TIED CARD OF 'mapsheetslaw51.GridrefEnds'. -/
def gridrefEndsCard : Claim7 := { stood := { row := gridrefEndsRow, standIns := [], harness := (true, "96d7745023a37115d1036802b1e8cd45613f86364130aa9e8c1ee3922e838f8f"), looks := false }, kinds := [], alts := [], laidByText := true, laidKinds := [.data, .data, .data], laidTests := true, laidLooks := .later }
def GridrefEndsCardSaid : Prop := Claim7.holds Tryd.pinned (.plain (OpenSpec.ofChange gridrefEndsSpec)) gridrefEndsCard

/-- THE SECOND FORM's CARD OF 'mapsheetslaw51.GridrefSquares'. -/
def gridrefSquaresUptoCard : Claim7 := { stood := { row := gridrefSquaresUptoRow, standIns := [], harness := (true, "96d7745023a37115d1036802b1e8cd45613f86364130aa9e8c1ee3922e838f8f"), looks := false }, kinds := [], alts := [], laidByText := true, laidKinds := [.data, .data, .data], laidTests := true, laidLooks := .later }
def GridrefSquaresUptoCardSaid : Prop := Claim7.holds Tryd.pinned (.plain (OpenSpec.upto gridrefSquaresSpec)) gridrefSquaresUptoCard

/-- THE SECOND FORM's CARD OF 'mapsheetslaw51.GridrefParses'. -/
def gridrefParsesUptoCard : Claim7 := { stood := { row := gridrefParsesUptoRow, standIns := [], harness := (true, "96d7745023a37115d1036802b1e8cd45613f86364130aa9e8c1ee3922e838f8f"), looks := false }, kinds := [], alts := [], laidByText := true, laidKinds := [.data, .data, .data], laidTests := true, laidLooks := .later }
def GridrefParsesUptoCardSaid : Prop := Claim7.holds Tryd.pinned (.plain (OpenSpec.upto gridrefParsesSpec)) gridrefParsesUptoCard

/-- THE SECOND FORM's CARD OF 'mapsheetslaw51.GridrefContains'. -/
def gridrefContainsUptoCard : Claim7 := { stood := { row := gridrefContainsUptoRow, standIns := [], harness := (true, "96d7745023a37115d1036802b1e8cd45613f86364130aa9e8c1ee3922e838f8f"), looks := false }, kinds := [], alts := [], laidByText := true, laidKinds := [.data, .data, .data], laidTests := true, laidLooks := .later }
def GridrefContainsUptoCardSaid : Prop := Claim7.holds Tryd.pinned (.plain (OpenSpec.upto gridrefContainsSpec)) gridrefContainsUptoCard

/-- THE SECOND FORM's CARD OF 'mapsheetslaw51.GridrefCovers'. -/
def gridrefCoversUptoCard : Claim7 := { stood := { row := gridrefCoversUptoRow, standIns := [], harness := (true, "96d7745023a37115d1036802b1e8cd45613f86364130aa9e8c1ee3922e838f8f"), looks := false }, kinds := [], alts := [], laidByText := true, laidKinds := [.data, .data, .data], laidTests := true, laidLooks := .later }
def GridrefCoversUptoCardSaid : Prop := Claim7.holds Tryd.pinned (.plain (OpenSpec.upto gridrefCoversSpec)) gridrefCoversUptoCard

/-- THE SECOND FORM's CARD OF 'mapsheetslaw51.GridrefLines'. -/
def gridrefLinesUptoCard : Claim7 := { stood := { row := gridrefLinesUptoRow, standIns := [], harness := (true, "96d7745023a37115d1036802b1e8cd45613f86364130aa9e8c1ee3922e838f8f"), looks := false }, kinds := [], alts := [], laidByText := true, laidKinds := [.data, .data, .data], laidTests := true, laidLooks := .later }
def GridrefLinesUptoCardSaid : Prop := Claim7.holds Tryd.pinned (.plain (OpenSpec.upto gridrefLinesSpec)) gridrefLinesUptoCard

/-- THE SECOND FORM's CARD OF 'mapsheetslaw51.GridrefEnds'. -/
def gridrefEndsUptoCard : Claim7 := { stood := { row := gridrefEndsUptoRow, standIns := [], harness := (true, "96d7745023a37115d1036802b1e8cd45613f86364130aa9e8c1ee3922e838f8f"), looks := false }, kinds := [], alts := [], laidByText := true, laidKinds := [.data, .data, .data], laidTests := true, laidLooks := .later }
def GridrefEndsUptoCardSaid : Prop := Claim7.holds Tryd.pinned (.plain (OpenSpec.upto gridrefEndsSpec)) gridrefEndsUptoCard
end Rows
end Go.Proofs.YtcaabaijkidmgaaDoor
