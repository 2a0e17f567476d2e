/- Plain laws of sine and cosine: odd, even, periodic; their squares. No program in sight. -/
import Derived.Test.YtmagppjmjjkbjaaMono
namespace Go.Proofs.Ytmagppjmjjkbjaa.Ser
set_option linter.unusedVariables false

theorem sin_of_mod (x y : Int) (h : x % 1296000 = y % 1296000) : sin x = sin y := by
  unfold sin
  rw [h]
theorem cos_of_mod (x y : Int) (h : x % 1296000 = y % 1296000) : cos x = cos y := by
  unfold cos
  rw [h]
theorem sin0_zero : sin0 0 = 0 := by decide +kernel
theorem sin0_half : sin0 648000 = 0 := by rw [← sin0_refl 648000 (by omega) (by omega)]; exact sin0_zero

theorem sin_neg (x : Int) : sin (-x) = -sin x := by
  unfold sin
  have hr : 0 ≤ x % 1296000 ∧ x % 1296000 < 1296000 := by omega
  by_cases c0 : x % 1296000 = 0
  · have e : -x % 1296000 = 0 := by omega
    rw [c0, e, if_neg (by omega), sin0_zero]
    rfl
  · have e : -x % 1296000 = 1296000 - x % 1296000 := by omega
    rw [e]
    generalize x % 1296000 = r at *
    by_cases c1 : 648000 < r
    · rw [if_neg (by omega), if_pos c1, Int.neg_neg]
    · by_cases c2 : r = 648000
      · subst c2
        rw [if_neg (by omega), if_neg (by omega)]
        show sin0 648000 = -sin0 648000
        rw [sin0_half]
        rfl
      · rw [if_pos (by omega), if_neg c1, show 1296000 - (1296000 - r) = r by omega]

theorem sin_refl (y : Int) : sin (648000 - y) = sin y := by
  unfold sin
  have hr : 0 ≤ y % 1296000 ∧ y % 1296000 < 1296000 := by omega
  by_cases c : y % 1296000 ≤ 648000
  · have e : (648000 - y) % 1296000 = 648000 - y % 1296000 := by omega
    rw [e, if_neg (by omega), if_neg (by omega)]
    exact sin0_refl _ (by omega) (by omega)
  · have e : (648000 - y) % 1296000 = 1944000 - y % 1296000 := by omega
    rw [e, if_pos (by omega), if_pos (by omega), ← sin0_refl (1296000 - y % 1296000) (by omega) (by omega)]
    congr 2
    omega

theorem cos_neg (x : Int) : cos (-x) = cos x := by
  unfold cos
  rw [← sin_refl (324000 - x % 1296000)]
  exact sin_of_mod _ _ (by omega)

theorem both (x : Int) : ∃ t : Int, 0 ≤ t ∧ t ≤ 324000 ∧ (sin x = sin0 t ∨ sin x = -sin0 t) ∧ (cos x = sin0 (324000 - t) ∨ cos x = -sin0 (324000 - t)) := by
  have hr : 0 ≤ x % 1296000 ∧ x % 1296000 < 1296000 := by omega
  unfold cos
  have hs : sin x = if 648000 < x % 1296000 then -sin0 (1296000 - x % 1296000) else sin0 (x % 1296000) := rfl
  rw [hs]
  generalize x % 1296000 = r at *
  by_cases c1 : r ≤ 324000
  · refine ⟨r, by omega, c1, .inl (by rw [if_neg (by omega)]), .inl ?_⟩
    rw [sin_quarter _ (by omega) (by omega), if_neg (by omega)]
  by_cases c2 : r ≤ 648000
  · refine ⟨648000 - r, by omega, by omega, .inl (by rw [if_neg (by omega), sin0_refl r (by omega) c2]), .inr ?_⟩
    rw [sin_quarter _ (by omega) (by omega), if_pos (by omega)]
    congr 2
    omega
  by_cases c3 : r ≤ 972000
  · refine ⟨r - 648000, by omega, by omega, .inr ?_, .inr ?_⟩
    · rw [if_pos (by omega), ← sin0_refl (1296000 - r) (by omega) (by omega)]
      congr 2
      omega
    · rw [← sin_refl, sin_of_mod (648000 - (324000 - r)) (324000 + r - 1296000) (by omega), sin_quarter _ (by omega) (by omega)]
      by_cases c4 : r = 972000
      · subst c4
        show sin0 0 = -sin0 0
        rw [sin0_zero]
        rfl
      · rw [if_pos (by omega)]
        congr 2
        omega
  · refine ⟨1296000 - r, by omega, by omega, .inr (by rw [if_pos (by omega)]), .inl ?_⟩
    rw [← sin_refl, sin_of_mod (648000 - (324000 - r)) (324000 + r - 1296000) (by omega), sin_quarter _ (by omega) (by omega), if_neg (by omega)]
    congr 1
    omega

theorem circle (x : Int) : sin x * sin x + cos x * cos x ≤ 1152921506754330624 ∧ 1152921504606846976 ≤ sin x * sin x + cos x * cos x + 2147483648 := by
  obtain ⟨t, h0, h1, hs, hc⟩ := both x
  have h := sin0_circ t h0 h1
  have es : sin x * sin x = sin0 t * sin0 t := by
    rcases hs with hs | hs
    · rw [hs]
    · rw [hs, Int.neg_mul_neg]
  have ec : cos x * cos x = sin0 (324000 - t) * sin0 (324000 - t) := by
    rcases hc with hc | hc
    · rw [hc]
    · rw [hc, Int.neg_mul_neg]
  rw [es, ec]
  exact h

theorem cos_in (x : Int) : -1073741824 ≤ cos x ∧ cos x ≤ 1073741824 := sin_in _
end Go.Proofs.Ytmagppjmjjkbjaa.Ser
