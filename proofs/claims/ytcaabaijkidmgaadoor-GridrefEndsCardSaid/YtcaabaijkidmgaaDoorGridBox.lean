/- Contract of sheetgrid.Box: the box of a sheet, or the error. -/
import Derived.Test.YtcaabaijkidmgaaDoorGridFind
namespace Go.Proofs.YtcaabaijkidmgaaDoor
open Go.RowKit
set_option linter.unusedVariables false



namespace Grid
/-- The column and the row of a sheet of a series of C columns and R rows. -/
theorem place (C R s : Int) (hc0 : 1 ≤ C) (hs0 : 1 ≤ s) (hs1 : s ≤ C * R) : 0 ≤ (s - 1) % C ∧ (s - 1) % C < C ∧ 0 ≤ (s - 1) / C ∧ (s - 1) / C < R := by
  refine ⟨Int.emod_nonneg _ (by omega), Int.emod_lt_of_pos _ (by omega), Int.ediv_nonneg (by omega) (by omega), ?_⟩
  refine (Int.ediv_lt_iff_lt_mul (by omega)).2 ?_
  rw [Int.mul_comm]
  omega
theorem place_bd (a b n : Int) (W : Int) (ha0 : 0 ≤ a) (ha : a < b) (hW : 1 ≤ W) (h : b * W ≤ n) : 0 ≤ a * W ∧ a * W + W ≤ n := by
  have h1 : (a + 1) * W ≤ b * W := Int.mul_le_mul_of_nonneg_right (by omega) (by omega)
  rw [Int.add_mul] at h1
  exact ⟨Int.mul_nonneg ha0 (by omega), by omega⟩
/-- Where the box of a sheet begins. -/
def bx (X W C s : Int) : Int := X + (s - 1) % C * W
def by' (Y H C s : Int) : Int := Y + (s - 1) / C * H
end Grid

end Go.Proofs.YtcaabaijkidmgaaDoor
