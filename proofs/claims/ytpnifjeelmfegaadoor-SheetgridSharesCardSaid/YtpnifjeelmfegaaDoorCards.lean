/-
  DERIVED. GIVEN WITH THE SEED: THE CARDS: each row of YtpnifjeelmfegaaDoorRows.lean that lists a variable, with what it lists TIED to the program's text (the seventh form; the later family's looks); each row that meets fmt, with fmt's text TOLD by the authors' own Lean function (tested against real Go, not proved from fmt's source: count such statements apart). THE CARD IS WHAT COUNTS. Prove the row's statement (the work); the ties are given (YtpnifjeelmfegaaDoorTie.lean); close each card by the builder's one call (the guide's Derived/Test/ToyasCard.lean, 'card_holds'). Laid BY PROGRAM, IN A SANDBOX (cutbox-door.mjs). By AI agents, Wed Nov 11 2026. No macro, syntax, notation, axiom, sorry.
-/
import Derived.Test.YtpnifjeelmfegaaDoorRows
import GoSem.ClaimSeven
namespace Go.Proofs.YtpnifjeelmfegaaDoor
namespace Rows

/-- THE TIED CARD OF 'mapsheetslaw40.SheetgridBoxes'. -/
def sheetgridBoxesCard : Claim7 := { stood := { row := sheetgridBoxesRow, standIns := [], harness := (true, "3a71e53b0e172e5a4962e611db8b9ae5dbe30d5426479a34626744d2f30fb135"), looks := false }, kinds := [], alts := [], laidByText := true, laidKinds := [.data, .data, .data, .data], laidTests := true, laidLooks := .later }
def SheetgridBoxesCardSaid : Prop := Claim7.holds Tryd.pinned (.plain (OpenSpec.ofChange sheetgridBoxesSpec)) sheetgridBoxesCard

/-- THE TIED CARD OF 'mapsheetslaw40.SheetgridFinds'. -/
def sheetgridFindsCard : Claim7 := { stood := { row := sheetgridFindsRow, standIns := [], harness := (true, "3a71e53b0e172e5a4962e611db8b9ae5dbe30d5426479a34626744d2f30fb135"), looks := false }, kinds := [], alts := [], laidByText := true, laidKinds := [.data, .data, .data, .data], laidTests := true, laidLooks := .later }
def SheetgridFindsCardSaid : Prop := Claim7.holds Tryd.pinned (.plain (OpenSpec.ofChange sheetgridFindsSpec)) sheetgridFindsCard

/-- THE TIED CARD OF 'mapsheetslaw40.SheetgridNeighbors'. -/
def sheetgridNeighborsCard : Claim7 := { stood := { row := sheetgridNeighborsRow, standIns := [], harness := (true, "3a71e53b0e172e5a4962e611db8b9ae5dbe30d5426479a34626744d2f30fb135"), looks := false }, kinds := [], alts := [], laidByText := true, laidKinds := [.data, .data, .data, .data], laidTests := true, laidLooks := .later }
def SheetgridNeighborsCardSaid : Prop := Claim7.holds Tryd.pinned (.plain (OpenSpec.ofChange sheetgridNeighborsSpec)) sheetgridNeighborsCard

/-- THE TIED CARD OF 'mapsheetslaw40.SheetgridNames'. -/
def sheetgridNamesCard : Claim7 := { stood := { row := sheetgridNamesRow, standIns := [], harness := (true, "3a71e53b0e172e5a4962e611db8b9ae5dbe30d5426479a34626744d2f30fb135"), looks := false }, kinds := [], alts := [], laidByText := true, laidKinds := [.data, .data, .data, .data], laidTests := true, laidLooks := .later }
def SheetgridNamesCardSaid : Prop := Claim7.holds Tryd.pinned (.plain (OpenSpec.ofChange sheetgridNamesSpec)) sheetgridNamesCard

/-- THE TIED CARD OF 'mapsheetslaw40.SheetgridCovers'. -/
def sheetgridCoversCard : Claim7 := { stood := { row := sheetgridCoversRow, standIns := [], harness := (true, "3a71e53b0e172e5a4962e611db8b9ae5dbe30d5426479a34626744d2f30fb135"), looks := false }, kinds := [], alts := [], laidByText := true, laidKinds := [.data, .data, .data, .data], laidTests := true, laidLooks := .later }
def SheetgridCoversCardSaid : Prop := Claim7.holds Tryd.pinned (.plain (OpenSpec.ofChange sheetgridCoversSpec)) sheetgridCoversCard

/-- THE TIED CARD OF 'mapsheetslaw40.SheetgridShares'. -/
def sheetgridSharesCard : Claim7 := { stood := { row := sheetgridSharesRow, standIns := [], harness := (true, "3a71e53b0e172e5a4962e611db8b9ae5dbe30d5426479a34626744d2f30fb135"), looks := false }, kinds := [], alts := [], laidByText := true, laidKinds := [.data, .data, .data, .data], laidTests := true, laidLooks := .later }
def SheetgridSharesCardSaid : Prop := Claim7.holds Tryd.pinned (.plain (OpenSpec.ofChange sheetgridSharesSpec)) sheetgridSharesCard

/-- THE TIED CARD OF 'mapsheetslaw40.SheetgridReads'. -/
def sheetgridReadsCard : Claim7 := { stood := { row := sheetgridReadsRow, standIns := [], harness := (true, "3a71e53b0e172e5a4962e611db8b9ae5dbe30d5426479a34626744d2f30fb135"), looks := false }, kinds := [], alts := [], laidByText := true, laidKinds := [.data, .data, .data, .data], laidTests := true, laidLooks := .later }
def SheetgridReadsCardSaid : Prop := Claim7.holds Tryd.pinned (.plain (OpenSpec.ofChange sheetgridReadsSpec)) sheetgridReadsCard

/-- THE SECOND FORM's CARD OF 'mapsheetslaw40.SheetgridBoxes'. -/
def sheetgridBoxesUptoCard : Claim7 := { stood := { row := sheetgridBoxesUptoRow, standIns := [], harness := (true, "3a71e53b0e172e5a4962e611db8b9ae5dbe30d5426479a34626744d2f30fb135"), looks := false }, kinds := [], alts := [], laidByText := true, laidKinds := [.data, .data, .data, .data], laidTests := true, laidLooks := .later }
def SheetgridBoxesUptoCardSaid : Prop := Claim7.holds Tryd.pinned (.plain (OpenSpec.upto sheetgridBoxesSpec)) sheetgridBoxesUptoCard

/-- THE SECOND FORM's CARD OF 'mapsheetslaw40.SheetgridFinds'. -/
def sheetgridFindsUptoCard : Claim7 := { stood := { row := sheetgridFindsUptoRow, standIns := [], harness := (true, "3a71e53b0e172e5a4962e611db8b9ae5dbe30d5426479a34626744d2f30fb135"), looks := false }, kinds := [], alts := [], laidByText := true, laidKinds := [.data, .data, .data, .data], laidTests := true, laidLooks := .later }
def SheetgridFindsUptoCardSaid : Prop := Claim7.holds Tryd.pinned (.plain (OpenSpec.upto sheetgridFindsSpec)) sheetgridFindsUptoCard

/-- THE SECOND FORM's CARD OF 'mapsheetslaw40.SheetgridNeighbors'. -/
def sheetgridNeighborsUptoCard : Claim7 := { stood := { row := sheetgridNeighborsUptoRow, standIns := [], harness := (true, "3a71e53b0e172e5a4962e611db8b9ae5dbe30d5426479a34626744d2f30fb135"), looks := false }, kinds := [], alts := [], laidByText := true, laidKinds := [.data, .data, .data, .data], laidTests := true, laidLooks := .later }
def SheetgridNeighborsUptoCardSaid : Prop := Claim7.holds Tryd.pinned (.plain (OpenSpec.upto sheetgridNeighborsSpec)) sheetgridNeighborsUptoCard

/-- THE SECOND FORM's CARD OF 'mapsheetslaw40.SheetgridNames'. -/
def sheetgridNamesUptoCard : Claim7 := { stood := { row := sheetgridNamesUptoRow, standIns := [], harness := (true, "3a71e53b0e172e5a4962e611db8b9ae5dbe30d5426479a34626744d2f30fb135"), looks := false }, kinds := [], alts := [], laidByText := true, laidKinds := [.data, .data, .data, .data], laidTests := true, laidLooks := .later }
def SheetgridNamesUptoCardSaid : Prop := Claim7.holds Tryd.pinned (.plain (OpenSpec.upto sheetgridNamesSpec)) sheetgridNamesUptoCard

/-- THE SECOND FORM's CARD OF 'mapsheetslaw40.SheetgridCovers'. -/
def sheetgridCoversUptoCard : Claim7 := { stood := { row := sheetgridCoversUptoRow, standIns := [], harness := (true, "3a71e53b0e172e5a4962e611db8b9ae5dbe30d5426479a34626744d2f30fb135"), looks := false }, kinds := [], alts := [], laidByText := true, laidKinds := [.data, .data, .data, .data], laidTests := true, laidLooks := .later }
def SheetgridCoversUptoCardSaid : Prop := Claim7.holds Tryd.pinned (.plain (OpenSpec.upto sheetgridCoversSpec)) sheetgridCoversUptoCard

/-- THE SECOND FORM's CARD OF 'mapsheetslaw40.SheetgridShares'. -/
def sheetgridSharesUptoCard : Claim7 := { stood := { row := sheetgridSharesUptoRow, standIns := [], harness := (true, "3a71e53b0e172e5a4962e611db8b9ae5dbe30d5426479a34626744d2f30fb135"), looks := false }, kinds := [], alts := [], laidByText := true, laidKinds := [.data, .data, .data, .data], laidTests := true, laidLooks := .later }
def SheetgridSharesUptoCardSaid : Prop := Claim7.holds Tryd.pinned (.plain (OpenSpec.upto sheetgridSharesSpec)) sheetgridSharesUptoCard

/-- THE SECOND FORM's CARD OF 'mapsheetslaw40.SheetgridReads'. -/
def sheetgridReadsUptoCard : Claim7 := { stood := { row := sheetgridReadsUptoRow, standIns := [], harness := (true, "3a71e53b0e172e5a4962e611db8b9ae5dbe30d5426479a34626744d2f30fb135"), looks := false }, kinds := [], alts := [], laidByText := true, laidKinds := [.data, .data, .data, .data], laidTests := true, laidLooks := .later }
def SheetgridReadsUptoCardSaid : Prop := Claim7.holds Tryd.pinned (.plain (OpenSpec.upto sheetgridReadsSpec)) sheetgridReadsUptoCard
end Rows
end Go.Proofs.YtpnifjeelmfegaaDoor
