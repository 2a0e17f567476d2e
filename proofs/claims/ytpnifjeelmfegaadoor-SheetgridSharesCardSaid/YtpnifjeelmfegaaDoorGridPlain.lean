/- Plain facts: on how many sheets of a series a point is. -/
import Derived.Test.YtpnifjeelmfegaaDoorGridCov
namespace Go.Proofs.YtpnifjeelmfegaaDoor
set_option linter.unusedVariables false
namespace Grid
/-- How many of the first n columns (of width W, from X on) contain x. -/
def cnt (X W x : Int) : Nat → Nat
  | 0 => 0
  | n + 1 => cnt X W x n + if X + (n : Int) * W ≤ x ∧ x ≤ X + (n : Int) * W + W then 1 else 0
theorem cnt_is (X W x : Int) (hW : 1 ≤ W) (n : Nat) : (x < X → cnt X W x n = 0) ∧ (X + (n : Int) * W < x → cnt X W x n = 0) ∧ (X ≤ x → x < X + (n : Int) * W → cnt X W x n = 1 ∨ cnt X W x n = 2) ∧ (1 ≤ n → x = X + (n : Int) * W → cnt X W x n = 1) := by
  induction n with
  | zero => simp [cnt]
  | succ n ih =>
    obtain ⟨i1, i2, i3, i4⟩ := ih
    have e : ((n + 1 : Nat) : Int) * W = (n : Int) * W + W := by rw [Int.natCast_add, Int.add_mul]; simp
    have h0 : 0 ≤ (n : Int) * W := Int.mul_nonneg (by omega) (by omega)
    rw [e]
    simp only [cnt]
    have hz : n = 0 → (n : Int) * W = 0 := fun h => by subst h; simp
    generalize (n : Int) * W = t at *
    refine ⟨fun h => ?_, fun h => ?_, fun h1 h2 => ?_, fun h1 h2 => ?_⟩
    · rw [if_neg (by omega), i1 h]
    · rw [if_neg (by omega), i2 (by omega)]
    · by_cases c : x < X + t
      · rw [if_neg (by omega)]
        have := i3 h1 c
        omega
      · by_cases d : x = X + t
        · rw [if_pos (by omega)]
          by_cases z : n = 0
          · subst z; left; rfl
          · rw [i4 (by omega) d]; right; rfl
        · rw [if_pos (by omega), i2 (by omega)]; left; rfl
    · rw [if_pos (by omega), i2 (by omega)]
theorem cnt_out (X W x C : Int) (n : Nat) (hn : C = (n : Int)) (hW : 1 ≤ W) (h : x < X ∨ X + C * W < x) : cnt X W x n = 0 := by
  subst hn
  rcases h with h | h
  · exact (cnt_is X W x hW n).1 h
  · exact (cnt_is X W x hW n).2.1 h
theorem cnt_in (X W x C : Int) (n : Nat) (hn : C = (n : Int)) (hn1 : 1 ≤ n) (hW : 1 ≤ W) (h0 : X ≤ x) (h1 : x ≤ X + C * W) : cnt X W x n = 1 ∨ cnt X W x n = 2 := by
  subst hn
  by_cases c : x = X + (n : Int) * W
  · exact .inl ((cnt_is X W x hW n).2.2.2 hn1 c)
  · exact (cnt_is X W x hW n).2.2.1 h0 (by omega)

/-- A sheet contains a point if its column and its row do. -/
theorem hit_iff (X Y W H x y : Int) (hW : 1 ≤ W) (hH : 1 ≤ H) (n j : Nat) : hit X Y W H (n : Int) x y x y ((j : Int) + 1) ↔ (X + ((j % n : Nat) : Int) * W ≤ x ∧ x ≤ X + ((j % n : Nat) : Int) * W + W) ∧ (Y + ((j / n : Nat) : Int) * H ≤ y ∧ y ≤ Y + ((j / n : Nat) : Int) * H + H) := by
  unfold hit bx by'
  rw [show (j : Int) + 1 - 1 = (j : Int) by omega, show ((j : Int) % (n : Int)) = ((j % n : Nat) : Int) by simp, show ((j : Int) / (n : Int)) = ((j / n : Nat) : Int) by simp]
  generalize ((j % n : Nat) : Int) * W = a
  generalize ((j / n : Nat) : Int) * H = b
  omega
theorem cov_len_col (X Y W H x y : Int) (hW : 1 ≤ W) (hH : 1 ≤ H) (n r : Nat) (hn : 1 ≤ n) (m : Nat) (hm : m ≤ n) :
    (cov X Y W H (n : Int) x y x y (r * n + m)).length = (cov X Y W H (n : Int) x y x y (r * n)).length + if Y + (r : Int) * H ≤ y ∧ y ≤ Y + (r : Int) * H + H then cnt X W x m else 0 := by
  induction m with
  | zero => simp [cnt]
  | succ m ih =>
    have ih := ih (by omega)
    rw [show r * n + (m + 1) = (r * n + m) + 1 by omega, cov]
    have hi := hit_iff X Y W H x y hW hH n (r * n + m)
    have e1 : (r * n + m) % n = m := by rw [Nat.mul_comm, Nat.mul_add_mod]; exact Nat.mod_eq_of_lt (by omega)
    have e2 : (r * n + m) / n = r := by rw [Nat.mul_comm, Nat.mul_add_div (by omega)]; rw [Nat.div_eq_of_lt (by omega)]; rfl
    rw [e1, e2] at hi
    simp only [cnt]
    by_cases c : Y + (r : Int) * H ≤ y ∧ y ≤ Y + (r : Int) * H + H
    · rw [if_pos c] at ih ⊢
      by_cases d : X + (m : Int) * W ≤ x ∧ x ≤ X + (m : Int) * W + W
      · rw [if_pos (hi.2 ⟨d, c⟩), if_pos d]
        simp [ih]
        omega
      · rw [if_neg (fun h => d (hi.1 h).1), if_neg d]
        simp [ih]
    · rw [if_neg c] at ih ⊢
      rw [if_neg (fun h => c (hi.1 h).2)]
      exact ih
theorem cov_len_all (X Y W H x y : Int) (hW : 1 ≤ W) (hH : 1 ≤ H) (n : Nat) (hn : 1 ≤ n) (r : Nat) : (cov X Y W H (n : Int) x y x y (r * n)).length = cnt X W x n * cnt Y H y r := by
  induction r with
  | zero => simp [cnt, cov]
  | succ r ih =>
    rw [Nat.add_mul, Nat.one_mul, cov_len_col X Y W H x y hW hH n r hn n (Nat.le_refl _), ih]
    simp only [cnt]
    split
    · rw [Nat.mul_add, Nat.mul_one]
    · simp
theorem cov_mem (X Y W H C x0 y0 x1 y1 : Int) (k : Nat) : ∀ z ∈ cov X Y W H C x0 y0 x1 y1 k, 1 ≤ z ∧ z ≤ (k : Int) ∧ hit X Y W H C x0 y0 x1 y1 z := by
  induction k with
  | zero => intro z hz; simp [cov] at hz
  | succ k ih =>
    intro z hz
    rw [cov] at hz
    split at hz
    · rename_i h
      rw [List.mem_append, List.mem_singleton] at hz
      rcases hz with hz | rfl
      · have := ih z hz
        exact ⟨this.1, by omega, this.2.2⟩
      · exact ⟨by omega, by omega, h⟩
    · have := ih z hz
      exact ⟨this.1, by omega, this.2.2⟩
theorem cov_up (X Y W H C x0 y0 x1 y1 : Int) (k : Nat) : (cov X Y W H C x0 y0 x1 y1 k).Pairwise (· < ·) := by
  induction k with
  | zero => simp [cov]
  | succ k ih =>
    rw [cov]
    split
    · rw [List.pairwise_append]
      refine ⟨ih, by simp, fun a ha b hb => ?_⟩
      rw [List.mem_singleton] at hb
      have := cov_mem X Y W H C x0 y0 x1 y1 k a ha
      omega
    · exact ih
theorem cov_rises (X Y W H C x0 y0 x1 y1 : Int) (N : Nat) (k : Nat) (h : k + 1 < (cov X Y W H C x0 y0 x1 y1 N).length) : (cov X Y W H C x0 y0 x1 y1 N)[k]'(by omega) < (cov X Y W H C x0 y0 x1 y1 N)[k + 1] :=
  List.pairwise_iff_getElem.1 (cov_up X Y W H C x0 y0 x1 y1 N) k (k + 1) (by omega) h (by omega)
theorem gridN_eq (C R : Int) (hC : 0 ≤ C) (hR : 0 ≤ R) : GridN C R = R.toNat * C.toNat := by
  unfold GridN
  have : C * R = ((R.toNat * C.toNat : Nat) : Int) := by
    rw [Int.natCast_mul, Int.toNat_of_nonneg hC, Int.toNat_of_nonneg hR, Int.mul_comm]
  omega
/-- A point in a series is on 1, 2 or 4 sheets; a point beside it is on none. -/
theorem cov_count (X Y W H C R x y : Int) (h : Ok X Y W H C R) :
    (¬ (X ≤ x ∧ Y ≤ y ∧ x ≤ X + C * W ∧ y ≤ Y + R * H) → (cov X Y W H C x y x y (GridN C R)).length = 0) ∧
    ((X ≤ x ∧ Y ≤ y ∧ x ≤ X + C * W ∧ y ≤ Y + R * H) → (cov X Y W H C x y x y (GridN C R)).length = 1 ∨ (cov X Y W H C x y x y (GridN C R)).length = 2 ∨ (cov X Y W H C x y x y (GridN C R)).length = 4) := by
  have hc0 := h.c0
  have hr0 := h.r0
  have e := cov_len_all X Y W H x y h.w0 h.h0 C.toNat (by omega) R.toNat
  rw [← gridN_eq C R (by omega) (by omega), show ((C.toNat : Nat) : Int) = C by omega] at e
  rw [e]
  refine ⟨fun hn => ?_, fun hi => ?_⟩
  · by_cases c : x < X ∨ X + C * W < x
    · rw [cnt_out X W x C C.toNat (by omega) h.w0 c]; simp
    · rw [cnt_out Y H y R R.toNat (by omega) h.h0 (by omega)]; simp
  · rcases cnt_in X W x C C.toNat (by omega) (by omega) h.w0 hi.1 hi.2.2.1 with a | a <;> rcases cnt_in Y H y R R.toNat (by omega) (by omega) h.h0 hi.2.1 hi.2.2.2 with b | b <;> simp [a, b]
end Grid
end Go.Proofs.YtpnifjeelmfegaaDoor
