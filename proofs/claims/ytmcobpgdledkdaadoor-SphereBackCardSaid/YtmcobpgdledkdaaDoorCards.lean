/-
  DERIVED. GIVEN WITH THE SEED: THE CARDS: each row of YtmcobpgdledkdaaDoorRows.lean that lists a variable, with what it lists TIED to the program's text (the seventh form; the later family's looks); each row that meets fmt, with fmt's text TOLD by the authors' own Lean function (tested against real Go, not proved from fmt's source: count such statements apart). THE CARD IS WHAT COUNTS. Prove the row's statement (the work); the ties are given (YtmcobpgdledkdaaDoorTie.lean); close each card by the builder's one call (the guide's Derived/Test/ToyasCard.lean, 'card_holds'). Laid BY PROGRAM, IN A SANDBOX (cutbox-door.mjs). By AI agents, Wed Nov 11 2026. No macro, syntax, notation, axiom, sorry.
-/
import Derived.Test.YtmcobpgdledkdaaDoorRows
import GoSem.ClaimSeven
namespace Go.Proofs.YtmcobpgdledkdaaDoor
namespace Rows

/-- THE TIED CARD OF 'mapsheetslaw12.SpherePlaces'. -/
def spherePlacesCard : Claim7 := { stood := { row := spherePlacesRow, standIns := [], harness := (true, "2f00e4f2f52a421160f6deb948b95b786e7a1efba06ff4f094999b51589898ad"), looks := false }, kinds := [], alts := [], laidByText := true, laidKinds := [.data, .data, .data], laidTests := true, laidLooks := .later }
def SpherePlacesCardSaid : Prop := Claim7.holds Tryd.pinned (.plain (OpenSpec.ofChange spherePlacesSpec)) spherePlacesCard

/-- THE TIED CARD OF 'mapsheetslaw12.SphereWraps'. -/
def sphereWrapsCard : Claim7 := { stood := { row := sphereWrapsRow, standIns := [], harness := (true, "2f00e4f2f52a421160f6deb948b95b786e7a1efba06ff4f094999b51589898ad"), looks := false }, kinds := [], alts := [], laidByText := true, laidKinds := [.data, .data, .data], laidTests := true, laidLooks := .later }
def SphereWrapsCardSaid : Prop := Claim7.holds Tryd.pinned (.plain (OpenSpec.ofChange sphereWrapsSpec)) sphereWrapsCard

/-- THE TIED CARD OF 'mapsheetslaw12.SphereParses'. -/
def sphereParsesCard : Claim7 := { stood := { row := sphereParsesRow, standIns := [], harness := (true, "2f00e4f2f52a421160f6deb948b95b786e7a1efba06ff4f094999b51589898ad"), looks := false }, kinds := [], alts := [], laidByText := true, laidKinds := [.data, .data, .data], laidTests := true, laidLooks := .later }
def SphereParsesCardSaid : Prop := Claim7.holds Tryd.pinned (.plain (OpenSpec.ofChange sphereParsesSpec)) sphereParsesCard

/-- THE TIED CARD OF 'mapsheetslaw12.SpherePrints'. -/
def spherePrintsCard : Claim7 := { stood := { row := spherePrintsRow, standIns := [], harness := (true, "2f00e4f2f52a421160f6deb948b95b786e7a1efba06ff4f094999b51589898ad"), looks := false }, kinds := [], alts := [], laidByText := true, laidKinds := [.data, .data, .data], laidTests := true, laidLooks := .later }
def SpherePrintsCardSaid : Prop := Claim7.holds Tryd.pinned (.plain (OpenSpec.ofChange spherePrintsSpec)) spherePrintsCard

/-- THE TIED CARD OF 'mapsheetslaw12.SphereBack'. -/
def sphereBackCard : Claim7 := { stood := { row := sphereBackRow, standIns := [], harness := (true, "2f00e4f2f52a421160f6deb948b95b786e7a1efba06ff4f094999b51589898ad"), looks := false }, kinds := [], alts := [], laidByText := true, laidKinds := [.data, .data, .data], laidTests := true, laidLooks := .later }
def SphereBackCardSaid : Prop := Claim7.holds Tryd.pinned (.plain (OpenSpec.ofChange sphereBackSpec)) sphereBackCard

/-- THE TIED CARD OF 'mapsheetslaw12.SphereChords'. -/
def sphereChordsCard : Claim7 := { stood := { row := sphereChordsRow, standIns := [], harness := (true, "2f00e4f2f52a421160f6deb948b95b786e7a1efba06ff4f094999b51589898ad"), looks := false }, kinds := [], alts := [], laidByText := true, laidKinds := [.data, .data, .data], laidTests := true, laidLooks := .later }
def SphereChordsCardSaid : Prop := Claim7.holds Tryd.pinned (.plain (OpenSpec.ofChange sphereChordsSpec)) sphereChordsCard

/-- THE TIED CARD OF 'mapsheetslaw12.SphereTriangle'. -/
def sphereTriangleCard : Claim7 := { stood := { row := sphereTriangleRow, standIns := [], harness := (true, "2f00e4f2f52a421160f6deb948b95b786e7a1efba06ff4f094999b51589898ad"), looks := false }, kinds := [], alts := [], laidByText := true, laidKinds := [.data, .data, .data], laidTests := true, laidLooks := .later }
def SphereTriangleCardSaid : Prop := Claim7.holds Tryd.pinned (.plain (OpenSpec.ofChange sphereTriangleSpec)) sphereTriangleCard

/-- THE SECOND FORM's CARD OF 'mapsheetslaw12.SpherePlaces'. -/
def spherePlacesUptoCard : Claim7 := { stood := { row := spherePlacesUptoRow, standIns := [], harness := (true, "2f00e4f2f52a421160f6deb948b95b786e7a1efba06ff4f094999b51589898ad"), looks := false }, kinds := [], alts := [], laidByText := true, laidKinds := [.data, .data, .data], laidTests := true, laidLooks := .later }
def SpherePlacesUptoCardSaid : Prop := Claim7.holds Tryd.pinned (.plain (OpenSpec.upto spherePlacesSpec)) spherePlacesUptoCard

/-- THE SECOND FORM's CARD OF 'mapsheetslaw12.SphereWraps'. -/
def sphereWrapsUptoCard : Claim7 := { stood := { row := sphereWrapsUptoRow, standIns := [], harness := (true, "2f00e4f2f52a421160f6deb948b95b786e7a1efba06ff4f094999b51589898ad"), looks := false }, kinds := [], alts := [], laidByText := true, laidKinds := [.data, .data, .data], laidTests := true, laidLooks := .later }
def SphereWrapsUptoCardSaid : Prop := Claim7.holds Tryd.pinned (.plain (OpenSpec.upto sphereWrapsSpec)) sphereWrapsUptoCard

/-- THE SECOND FORM's CARD OF 'mapsheetslaw12.SphereParses'. -/
def sphereParsesUptoCard : Claim7 := { stood := { row := sphereParsesUptoRow, standIns := [], harness := (true, "2f00e4f2f52a421160f6deb948b95b786e7a1efba06ff4f094999b51589898ad"), looks := false }, kinds := [], alts := [], laidByText := true, laidKinds := [.data, .data, .data], laidTests := true, laidLooks := .later }
def SphereParsesUptoCardSaid : Prop := Claim7.holds Tryd.pinned (.plain (OpenSpec.upto sphereParsesSpec)) sphereParsesUptoCard

/-- THE SECOND FORM's CARD OF 'mapsheetslaw12.SpherePrints'. -/
def spherePrintsUptoCard : Claim7 := { stood := { row := spherePrintsUptoRow, standIns := [], harness := (true, "2f00e4f2f52a421160f6deb948b95b786e7a1efba06ff4f094999b51589898ad"), looks := false }, kinds := [], alts := [], laidByText := true, laidKinds := [.data, .data, .data], laidTests := true, laidLooks := .later }
def SpherePrintsUptoCardSaid : Prop := Claim7.holds Tryd.pinned (.plain (OpenSpec.upto spherePrintsSpec)) spherePrintsUptoCard

/-- THE SECOND FORM's CARD OF 'mapsheetslaw12.SphereBack'. -/
def sphereBackUptoCard : Claim7 := { stood := { row := sphereBackUptoRow, standIns := [], harness := (true, "2f00e4f2f52a421160f6deb948b95b786e7a1efba06ff4f094999b51589898ad"), looks := false }, kinds := [], alts := [], laidByText := true, laidKinds := [.data, .data, .data], laidTests := true, laidLooks := .later }
def SphereBackUptoCardSaid : Prop := Claim7.holds Tryd.pinned (.plain (OpenSpec.upto sphereBackSpec)) sphereBackUptoCard

/-- THE SECOND FORM's CARD OF 'mapsheetslaw12.SphereChords'. -/
def sphereChordsUptoCard : Claim7 := { stood := { row := sphereChordsUptoRow, standIns := [], harness := (true, "2f00e4f2f52a421160f6deb948b95b786e7a1efba06ff4f094999b51589898ad"), looks := false }, kinds := [], alts := [], laidByText := true, laidKinds := [.data, .data, .data], laidTests := true, laidLooks := .later }
def SphereChordsUptoCardSaid : Prop := Claim7.holds Tryd.pinned (.plain (OpenSpec.upto sphereChordsSpec)) sphereChordsUptoCard

/-- THE SECOND FORM's CARD OF 'mapsheetslaw12.SphereTriangle'. -/
def sphereTriangleUptoCard : Claim7 := { stood := { row := sphereTriangleUptoRow, standIns := [], harness := (true, "2f00e4f2f52a421160f6deb948b95b786e7a1efba06ff4f094999b51589898ad"), looks := false }, kinds := [], alts := [], laidByText := true, laidKinds := [.data, .data, .data], laidTests := true, laidLooks := .later }
def SphereTriangleUptoCardSaid : Prop := Claim7.holds Tryd.pinned (.plain (OpenSpec.upto sphereTriangleSpec)) sphereTriangleUptoCard
end Rows
end Go.Proofs.YtmcobpgdledkdaaDoor
