
/- The plain law of grid squares: which offsets lie in a square of a sheet; the text of a square. -/
import Derived.Test.YtcaabaijkidmgaaDoorGE
import Derived.Test.YtcaabaijkidmgaaDoorGrfK
namespace Go.Proofs.YtcaabaijkidmgaaDoor
open Go.RowKit
set_option linter.unusedVariables false

namespace Grf
theorem cl_le (A k : Int) (A0 : 0 ≤ A) : cl A 8 ≤ k ↔ A ≤ k * 8 := by
  have := cl_iff A 8 k A0 (by omega)
  omega
/-- Division with a known remainder. -/
theorem div_is (d W c u : Int) (W0 : 1 ≤ W) (h : d = c * W + u) (u0 : 0 ≤ u) (u1 : u < W) : d / W = c := by
  subst h
  rw [Int.add_comm, Int.add_mul_ediv_right _ _ (by omega), Int.ediv_eq_zero_of_lt u0 u1]
  omega
theorem sq_is (u W k : Int) (W0 : 1 ≤ W) (h0 : k * W ≤ 8 * u) (h1 : 8 * u < k * W + W) : 8 * u / W = k :=
  div_is (8 * u) W k (8 * u - k * W) W0 (by omega) (by omega) (by omega)
/-- An offset lies between the ends of a square if and only if the square of the offset is this one. -/
theorem stripe_iff (d W C c k : Int) (W0 : 1 ≤ W) (C0 : 1 ≤ C) (c0 : 0 ≤ c) (c1 : c < C) (k0 : 0 ≤ k) (k1 : k ≤ 7) :
    (c * W + cl (k * W) 8 ≤ d ∧ d ≤ c * W + la k W c C) ↔ (0 ≤ d ∧ d ≤ C * W ∧ sh d W C = c ∧ sq d W C = k) := by
  have a0 : 0 ≤ k * W := Int.mul_nonneg k0 (by omega)
  have a1 : k * W ≤ 7 * W := Int.mul_le_mul_of_nonneg_right k1 (by omega)
  have a2 : (k + 1) * W = k * W + W := by rw [Int.add_mul]; omega
  have b0 : 0 ≤ c * W := Int.mul_nonneg c0 (by omega)
  have b1 : (c + 1) * W ≤ C * W := Int.mul_le_mul_of_nonneg_right (by omega) (by omega)
  have b2 : (c + 1) * W = c * W + W := by rw [Int.add_mul]; omega
  rw [b2] at b1
  have e0 := cl_le (k * W) (d - c * W) a0
  have e1 := cl_le ((k + 1) * W) (d - c * W) (by omega)
  rw [a2] at e1
  constructor
  · rintro ⟨h0, h1⟩
    have h2 : k * W ≤ (d - c * W) * 8 := e0.1 (by omega)
    have key : ∀ (hu : d - c * W < W) (hk : 8 * (d - c * W) < k * W + W), 0 ≤ d ∧ d ≤ C * W ∧ sh d W C = c ∧ sq d W C = k := by
      intro hu hk
      have s1 : sh d W C = c := by
        unfold sh
        rw [div_is d W c (d - c * W) W0 (by omega) (by omega) hu]
        rw [if_pos (by omega)]
      refine ⟨by omega, by omega, s1, ?_⟩
      unfold sq
      rw [s1, sq_is (d - c * W) W k W0 (by omega) hk, if_pos k1]
    unfold la at h1
    split at h1
    · rename_i hh
      obtain ⟨hk, hc⟩ := hh
      by_cases hu : d - c * W < W
      · exact key hu (by subst hk; omega)
      · have hd : d = C * W := by
          have e2 : c * W = C * W - W := by rw [hc, Int.sub_mul]; omega
          omega
        have s1 : sh d W C = c := by
          unfold sh
          rw [hd, Int.mul_ediv_cancel _ (by omega), if_neg (by omega)]
          omega
        refine ⟨by omega, by omega, s1, ?_⟩
        unfold sq
        have : 8 * (d - c * W) / W = 8 := sq_is (d - c * W) W 8 W0 (by omega) (by omega)
        rw [s1, this, if_neg (by omega)]
        omega
    · rw [a2] at h1
      have h3 := mt e1.2 (by omega)
      exact key (by omega) (by omega)
  · rintro ⟨h0, h1, h2, h3⟩
    obtain ⟨g0, g1, g2⟩ := sh_le d W C h0 W0 C0 h1
    rw [h2] at g0 g1 g2
    have hb := sq_bd d W C h0 W0 C0
    have m0 := Int.mul_ediv_add_emod (8 * (d - c * W)) W
    have m1 := Int.emod_nonneg (8 * (d - c * W)) (show W ≠ 0 by omega)
    have m2 := Int.emod_lt_of_pos (8 * (d - c * W)) (show 0 < W by omega)
    rw [Int.mul_comm] at m0
    unfold sq at h3
    rw [h2] at h3
    split at h3
    · rw [h3] at m0
      refine ⟨by have := e0.2 (by omega); omega, ?_⟩
      unfold la
      split
      · omega
      · rw [a2]
        have := mt e1.1 (by omega)
        omega
    · rename_i hq
      have q1 : 8 * W ≤ 8 * (d - c * W) / W * W := Int.mul_le_mul_of_nonneg_right (by omega) (by omega)
      have hu : d = c * W + W := by omega
      have hc : c = C - 1 := by
        unfold sh at h2
        rw [hu, ← b2, Int.mul_ediv_cancel _ (by omega)] at h2
        split at h2 <;> omega
      subst h3
      refine ⟨by have := e0.2 (by omega); omega, ?_⟩
      unfold la
      rw [if_pos ⟨rfl, hc⟩]
      omega
theorem la_le (k W c C : Int) (W0 : 1 ≤ W) (k0 : 0 ≤ k) (k1 : k ≤ 7) : cl (k * W) 8 ≤ W ∧ 0 ≤ cl (k * W) 8 ∧ la k W c C ≤ W ∧ -1 ≤ la k W c C := by
  have a0 : 0 ≤ k * W := Int.mul_nonneg k0 (by omega)
  have a1 : k * W ≤ 7 * W := Int.mul_le_mul_of_nonneg_right k1 (by omega)
  have a2 : (k + 1) * W = k * W + W := by rw [Int.add_mul]; omega
  have e0 := cl_le (k * W) W a0
  have e1 := cl_le ((k + 1) * W) W (by omega)
  have n0 := cl_nn (k * W) 8 a0 (by omega)
  have n1 := cl_nn ((k + 1) * W) 8 (by omega) (by omega)
  have f0 := e0.2 (by omega)
  have f1 := e1.2 (by omega)
  refine ⟨f0, n0, ?_, ?_⟩ <;> unfold la <;> split <;> omega
/-- The same in a sheet of its own. -/
theorem ends_iff (d W C c k : Int) (W0 : 1 ≤ W) (C0 : 1 ≤ C) (c0 : 0 ≤ c) (c1 : c < C) (k0 : 0 ≤ k) (k1 : k ≤ 7) (d0 : 0 ≤ d) (d1 : d ≤ W) :
    (pa d W 8 = k ∧ (d < W ∨ c = C - 1)) ↔ (cl (k * W) 8 ≤ d ∧ d ≤ la k W c C) := by
  have h := stripe_iff (c * W + d) W C c k W0 C0 c0 c1 k0 k1
  have b0 : 0 ≤ c * W := Int.mul_nonneg c0 (by omega)
  have b1 : (c + 1) * W ≤ C * W := Int.mul_le_mul_of_nonneg_right (by omega) (by omega)
  have b2 : (c + 1) * W = c * W + W := by rw [Int.add_mul]; omega
  have hs : (d < W ∨ c = C - 1) ↔ sh (c * W + d) W C = c := by
    constructor
    · intro hh
      unfold sh
      by_cases hd : d < W
      · rw [div_is (c * W + d) W c d W0 rfl d0 hd, if_pos (by omega)]
      · have : c * W + d = (c + 1) * W := by omega
        rw [this, Int.mul_ediv_cancel _ (by omega), if_neg (by omega)]
        omega
    · intro hh
      apply Classical.byContradiction
      intro hn
      have : c * W + d = (c + 1) * W := by omega
      unfold sh at hh
      rw [this, Int.mul_ediv_cancel _ (by omega), if_pos (by omega)] at hh
      omega
  have hp : sh (c * W + d) W C = c → sq (c * W + d) W C = pa d W 8 := by
    intro e
    rw [← pa_sq, e, show c * W + d - c * W = d by omega]
  constructor
  · rintro ⟨h0, h1⟩
    have e := hs.1 h1
    have := h.2 ⟨by omega, by omega, e, by rw [hp e]; exact h0⟩
    omega
  · rintro ⟨h0, h1⟩
    obtain ⟨g0, g1, g2, g3⟩ := h.1 ⟨by omega, by omega⟩
    exact ⟨by rw [← hp g2]; exact g3, hs.2 g2⟩
end Grf
end Go.Proofs.YtcaabaijkidmgaaDoor
