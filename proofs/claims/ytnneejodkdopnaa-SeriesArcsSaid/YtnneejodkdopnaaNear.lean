/- Plain laws of the arc sine: it is the least angle whose sine reaches a number, or the one below; it inverts the sine and no neighbour is nearer. No program in sight. -/
import Derived.Test.YtnneejodkdopnaaCircle
namespace Go.Proofs.Ytnneejodkdopnaa.Ser
set_option linter.unusedVariables false

theorem bs_spec (y : Int) (f : Nat) : ∀ lo hi : Int, 0 ≤ lo → lo ≤ hi → hi ≤ 324000 → hi - lo < 2 ^ f → (∀ t, 0 ≤ t → t < lo → sin t < y) → y ≤ sin hi →
    y ≤ sin (bs y f lo hi) ∧ ∀ t, 0 ≤ t → t < bs y f lo hi → sin t < y := by
  induction f with
  | zero =>
    intro lo hi h0 h1 h2 h3 h4 h5
    have e : hi = lo := by simp at h3; omega
    subst e
    exact ⟨h5, h4⟩
  | succ f ih =>
    intro lo hi h0 h1 h2 h3 h4 h5
    rw [Int.pow_succ] at h3
    rw [bs]
    by_cases c : lo < hi
    · rw [if_pos c]
      by_cases d : sin ((lo + hi) / 2) < y
      · rw [if_pos d]
        refine ih _ _ (by omega) (by omega) h2 (by omega) (fun t ht0 ht1 => ?_) h5
        exact Int.lt_of_le_of_lt (sin_mono t ((lo + hi) / 2) (by omega) (by omega) (by omega)) d
      · rw [if_neg d]
        exact ih _ _ h0 (by omega) (by omega) (by omega) h4 (by omega)
    · rw [if_neg c]
      have e : hi = lo := by omega
      subst e
      exact ⟨h5, h4⟩

theorem sin_top : sin 324000 = 1073741824 := by decide +kernel
theorem sin_zero : sin 0 = 0 := by decide +kernel

theorem fst_spec (y : Int) (h : y ≤ 1073741824) : y ≤ sin (fst y) ∧ ∀ t, 0 ≤ t → t < fst y → sin t < y :=
  bs_spec y 19 0 324000 (by omega) (by omega) (by omega) (by decide) (fun t h0 h1 => by omega) (by rw [sin_top]; exact h)

/-- The least angle whose sine reaches a sine has that sine. -/
theorem fst_sin (x : Int) (h0 : 0 ≤ x) (h1 : x ≤ 324000) : fst (sin x) ≤ x ∧ sin (fst (sin x)) = sin x := by
  have hs := fst_spec (sin x) (sin_in x).2
  have hb := fst_bd (sin x)
  have hle : fst (sin x) ≤ x := by
    refine Int.not_lt.1 fun h => ?_
    have := hs.2 x h0 h
    omega
  refine ⟨hle, ?_⟩
  have := sin_mono (fst (sin x)) x (by omega) hle h1
  omega

theorem rasin0_eq (y : Int) (h : y ≤ 1073741824) : rasin0 y = asin0 y := by
  have hb := fst_bd y
  unfold rasin0 asin0
  by_cases c : fst y = 0
  · rw [if_pos c, if_neg (by omega), c]
  · rw [if_neg c, (fst_sin (fst y - 1) (by omega) (by omega)).2]
    by_cases d : y - sin (fst y - 1) ≤ sin (fst y) - y
    · rw [if_pos d, if_pos ⟨by omega, d⟩]
    · rw [if_neg d, if_neg (fun h => d h.2)]

theorem rasin_eq (y : Int) (h0 : -1073741824 ≤ y) (h : y ≤ 1073741824) : rasin y = asin y := by
  unfold rasin asin
  by_cases c : y < 0
  · rw [if_pos c, if_pos c, rasin0_eq _ (by omega)]
  · rw [if_neg c, if_neg c, rasin0_eq _ h]

theorem fst_zero : fst 0 = 0 := by
  have hs := (fst_spec 0 (by omega)).2
  have hb := fst_bd 0
  refine Int.le_antisymm (Int.not_lt.1 fun h => ?_) hb.1
  have := hs 0 (by omega) h
  rw [sin_zero] at this
  omega

theorem asin0_zero : asin0 0 = 0 := by
  unfold asin0
  rw [fst_zero, if_neg (by omega)]

theorem asin_neg (y : Int) : asin (-y) = -asin y := by
  unfold asin
  by_cases c0 : y = 0
  · subst c0
    show asin0 0 = -asin0 0
    rw [asin0_zero]
    rfl
  · by_cases c : y < 0
    · rw [if_neg (by omega), if_pos c, Int.neg_neg]
    · rw [if_pos (by omega), if_neg c, Int.neg_neg]

theorem asin_bd (y : Int) : -324000 ≤ asin y ∧ asin y ≤ 324000 := by
  unfold asin
  split
  · have := asin0_bd (-y)
    omega
  · have := asin0_bd y
    omega

/-- The arc sine of a sine, from 0 on. -/
theorem asin0_sin (x : Int) (h0 : 0 ≤ x) (h1 : x ≤ 324000) : 0 ≤ asin0 (sin x) ∧ asin0 (sin x) ≤ x ∧ sin (asin0 (sin x)) = sin x := by
  have hf := fst_sin x h0 h1
  have hb := fst_bd (sin x)
  have hs := fst_spec (sin x) (sin_in x).2
  have e : asin0 (sin x) = fst (sin x) := by
    unfold asin0
    rw [if_neg]
    rintro ⟨c1, c2⟩
    have := hs.2 (fst (sin x) - 1) (by omega) (by omega)
    rw [hf.2] at c2
    omega
  rw [e]
  exact ⟨hb.1, hf.1, hf.2⟩

theorem asin_sin (x : Int) (h0 : -324000 ≤ x) (h1 : x ≤ 324000) : sin (asin (sin x)) = sin x ∧ (asin (sin x)).natAbs ≤ x.natAbs := by
  by_cases c : 0 ≤ x
  · have hs : 0 ≤ sin x := by rw [← sin_zero]; exact sin_mono 0 x (by omega) c h1
    have h := asin0_sin x c h1
    have e : asin (sin x) = asin0 (sin x) := by unfold asin; rw [if_neg (by omega)]
    rw [e]
    exact ⟨h.2.2, by omega⟩
  · have h := asin0_sin (-x) (by omega) (by omega)
    have e : sin x = -sin (-x) := by rw [sin_neg, Int.neg_neg]
    have e2 : asin (sin x) = -asin (sin (-x)) := by rw [e, asin_neg]
    have hs : 0 ≤ sin (-x) := by rw [← sin_zero]; exact sin_mono 0 (-x) (by omega) (by omega) (by omega)
    have e3 : asin (sin (-x)) = asin0 (sin (-x)) := by
      unfold asin
      rw [if_neg (by omega)]
    rw [e2, e3, sin_neg, h.2.2, e]
    exact ⟨rfl, by omega⟩

/-- The distance of the sine of x from y. -/
def off (x y : Int) : Int := if sin x - y < 0 then -(sin x - y) else sin x - y

theorem off_neg (x y : Int) : off (-x) (-y) = off x y := by
  unfold off
  rw [sin_neg]
  split <;> split <;> omega

theorem near0 (y : Int) (h0 : 0 ≤ y) (h1 : y ≤ 1073741824) : (asin0 y = 324000 ∨ off (asin0 y) y ≤ off (asin0 y + 1) y) ∧ off (asin0 y) y ≤ off (asin0 y - 1) y := by
  have hb := fst_bd y
  have hs := fst_spec y h1
  by_cases c : 0 < fst y ∧ y - sin (fst y - 1) ≤ sin (fst y) - y
  · have e : asin0 y = fst (sin (fst y - 1)) := by unfold asin0; rw [if_pos c]
    have hv := hs.2 (fst y - 1) (by omega) (by omega)
    have hf := fst_sin (fst y - 1) (by omega) (by omega)
    have hb2 := fst_bd (sin (fst y - 1))
    rw [e]
    generalize fst y = x at *
    generalize fst (sin (x - 1)) = b at *
    have m1 := sin_mono (b - 1) b (by omega) (by omega) (by omega)
    refine ⟨.inr ?_, ?_⟩
    · by_cases d : b + 1 = x
      · rw [d]
        unfold off
        rw [if_pos (by omega), if_neg (by omega)]
        omega
      · have m2 := sin_mono (b + 1) (x - 1) (by omega) (by omega) (by omega)
        have m3 := sin_mono b (b + 1) (by omega) (by omega) (by omega)
        unfold off
        rw [if_pos (by omega), if_pos (by omega)]
        omega
    · unfold off
      rw [if_pos (by omega), if_pos (by omega)]
      omega
  · have e : asin0 y = fst y := by unfold asin0; rw [if_neg c]
    rw [e]
    generalize fst y = x at *
    constructor
    · by_cases d : x = 324000
      · exact .inl d
      · right
        have m := sin_mono x (x + 1) (by omega) (by omega) (by omega)
        unfold off
        rw [if_neg (by omega), if_neg (by omega)]
        omega
    · by_cases d : x = 0
      · subst d
        rw [sin_zero] at hs
        have e0 : y = 0 := by omega
        subst e0
        unfold off
        rw [sin_zero, if_neg (by omega)]
        split <;> omega
      · have hv := hs.2 (x - 1) (by omega) (by omega)
        unfold off
        rw [if_neg (by omega), if_pos (by omega)]
        omega

theorem near (y : Int) (h0 : -1073741824 ≤ y) (h1 : y ≤ 1073741824) : (asin y = 324000 ∨ off (asin y) y ≤ off (asin y + 1) y) ∧ (asin y = -324000 ∨ off (asin y) y ≤ off (asin y - 1) y) := by
  by_cases c : y < 0
  · have h := near0 (-y) (by omega) (by omega)
    have e : asin y = -asin0 (-y) := by unfold asin; rw [if_pos c]
    rw [e]
    generalize asin0 (-y) = b at *
    have e1 := off_neg b (-y)
    have e2 := off_neg (b + 1) (-y)
    have e3 := off_neg (b - 1) (-y)
    rw [Int.neg_neg] at e1 e2 e3
    rw [show -(b + 1) = -b - 1 by omega] at e2
    rw [show -(b - 1) = -b + 1 by omega] at e3
    rw [e1, e2, e3]
    refine ⟨.inr h.2, ?_⟩
    rcases h.1 with h | h
    · exact .inl (by omega)
    · exact .inr h
  · have h := near0 y (by omega) h1
    have e : asin y = asin0 y := by unfold asin; rw [if_neg c]
    rw [e]
    exact ⟨h.1, .inr h.2⟩

theorem off_bd (x y : Int) (h0 : -1073741824 ≤ y) (h1 : y ≤ 1073741824) : 0 ≤ off x y ∧ off x y ≤ 2147483648 := by
  have := sin_in x
  unfold off
  split <;> omega
end Go.Proofs.Ytnneejodkdopnaa.Ser
