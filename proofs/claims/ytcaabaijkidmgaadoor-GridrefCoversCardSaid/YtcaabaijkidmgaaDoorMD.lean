/- MD: joined texts. -/
import Derived.Test.YtcaabaijkidmgaaDoorTabP1
import Derived.Test.YtcaabaijkidmgaaDoorTabP2
import Derived.Test.YtcaabaijkidmgaaDoorTabP3
import Derived.Test.YtcaabaijkidmgaaDoorLogA
/- The sine rises over the quarter turn, and the squares of sine and cosine add up to One^2 within 2 One: for all angles, out of the passes. No program in sight. -/
namespace Go.Proofs.YtcaabaijkidmgaaDoor.Tab
open Go.Proofs.YtcaabaijkidmgaaDoor
set_option linter.unusedVariables false

def Good (x : Nat) : Prop := sn x ≤ sn (x + 1) ∧ sn (324000 - (x + 1)) ≤ sn (324000 - x) ∧ circ (sn (x + 1)) (sn (324000 - (x + 1))) = true

theorem good (x : Nat) (h : x < 162000) : Good x := by
  unfold Good
  by_cases c1 : x < 54000
  · by_cases c : x < 5400
    · exact pass_sound _ _ pass0 x (by omega) (by omega)
    by_cases c : x < 10800
    · exact pass_sound _ _ pass1 x (by omega) (by omega)
    by_cases c : x < 16200
    · exact pass_sound _ _ pass2 x (by omega) (by omega)
    by_cases c : x < 21600
    · exact pass_sound _ _ pass3 x (by omega) (by omega)
    by_cases c : x < 27000
    · exact pass_sound _ _ pass4 x (by omega) (by omega)
    by_cases c : x < 32400
    · exact pass_sound _ _ pass5 x (by omega) (by omega)
    by_cases c : x < 37800
    · exact pass_sound _ _ pass6 x (by omega) (by omega)
    by_cases c : x < 43200
    · exact pass_sound _ _ pass7 x (by omega) (by omega)
    by_cases c : x < 48600
    · exact pass_sound _ _ pass8 x (by omega) (by omega)
    · exact pass_sound _ _ pass9 x (by omega) (by omega)
  by_cases c2 : x < 108000
  · by_cases c : x < 59400
    · exact pass_sound _ _ pass10 x (by omega) (by omega)
    by_cases c : x < 64800
    · exact pass_sound _ _ pass11 x (by omega) (by omega)
    by_cases c : x < 70200
    · exact pass_sound _ _ pass12 x (by omega) (by omega)
    by_cases c : x < 75600
    · exact pass_sound _ _ pass13 x (by omega) (by omega)
    by_cases c : x < 81000
    · exact pass_sound _ _ pass14 x (by omega) (by omega)
    by_cases c : x < 83700
    · exact pass_sound _ _ pass15a x (by omega) (by omega)
    by_cases c : x < 86400
    · exact pass_sound _ _ pass15b x (by omega) (by omega)
    by_cases c : x < 91800
    · exact pass_sound _ _ pass16 x (by omega) (by omega)
    by_cases c : x < 97200
    · exact pass_sound _ _ pass17 x (by omega) (by omega)
    by_cases c : x < 102600
    · exact pass_sound _ _ pass18 x (by omega) (by omega)
    · exact pass_sound _ _ pass19 x (by omega) (by omega)
  · by_cases c : x < 113400
    · exact pass_sound _ _ pass20 x (by omega) (by omega)
    by_cases c : x < 118800
    · exact pass_sound _ _ pass21 x (by omega) (by omega)
    by_cases c : x < 124200
    · exact pass_sound _ _ pass22 x (by omega) (by omega)
    by_cases c : x < 129600
    · exact pass_sound _ _ pass23 x (by omega) (by omega)
    by_cases c : x < 135000
    · exact pass_sound _ _ pass24 x (by omega) (by omega)
    by_cases c : x < 140400
    · exact pass_sound _ _ pass25 x (by omega) (by omega)
    by_cases c : x < 145800
    · exact pass_sound _ _ pass26 x (by omega) (by omega)
    by_cases c : x < 151200
    · exact pass_sound _ _ pass27 x (by omega) (by omega)
    by_cases c : x < 156600
    · exact pass_sound _ _ pass28 x (by omega) (by omega)
    · exact pass_sound _ _ pass29 x (by omega) (by omega)

theorem sn_step (x : Nat) (h : x < 324000) : sn x ≤ sn (x + 1) := by
  by_cases c : x < 162000
  · exact (good x c).1
  · have h2 := (good (323999 - x) (by omega)).2.1
    rw [show 324000 - (323999 - x + 1) = x by omega, show 324000 - (323999 - x) = x + 1 by omega] at h2
    exact h2

theorem sn_mono (x k : Nat) (h : x + k ≤ 324000) : sn x ≤ sn (x + k) := by
  induction k with
  | zero => exact Nat.le_refl _
  | succ k ih => exact Nat.le_trans (ih (by omega)) (sn_step (x + k) (by omega))

theorem circ_zero : circ (sn 0) (sn 324000) = true := by decide +kernel
theorem sn_top : sn 324000 = 1073741824 := by decide +kernel
theorem sn_bot : sn 0 = 0 := by decide +kernel

theorem circ_low (x : Nat) (h : x ≤ 162000) : circ (sn x) (sn (324000 - x)) = true := by
  cases x with
  | zero => exact circ_zero
  | succ x => exact (good x (by omega)).2.2

theorem circ_swap (s c : Nat) (h : circ s c = true) : circ c s = true := by
  unfold circ at h ⊢
  rw [show Nat.add (Nat.mul c c) (Nat.mul s s) = Nat.add (Nat.mul s s) (Nat.mul c c) from Nat.add_comm _ _]
  exact h

theorem circ_all (x : Nat) (h : x ≤ 324000) : circ (sn x) (sn (324000 - x)) = true := by
  by_cases c : x ≤ 162000
  · exact circ_low x c
  · have := circ_swap _ _ (circ_low (324000 - x) (by omega))
    rw [show 324000 - (324000 - x) = x by omega] at this
    exact this
end Go.Proofs.YtcaabaijkidmgaaDoor.Tab

namespace Go.Proofs.YtcaabaijkidmgaaDoor.Ser
theorem sin0_low (t : Int) (h0 : 0 ≤ t) (h1 : t ≤ 324000) : sin0 t = (Tab.sn t.toNat : Int) := by
  rw [Tab.sn_cast t.toNat (by omega), Int.toNat_of_nonneg h0]

theorem sin0_mono (s t : Int) (h0 : 0 ≤ s) (h : s ≤ t) (h1 : t ≤ 324000) : sin0 s ≤ sin0 t := by
  rw [sin0_low s h0 (by omega), sin0_low t (by omega) h1]
  have := Tab.sn_mono s.toNat (t.toNat - s.toNat) (by omega)
  rw [show s.toNat + (t.toNat - s.toNat) = t.toNat by omega] at this
  omega

theorem sin0_in (t : Int) (h0 : 0 ≤ t) (h1 : t ≤ 324000) : 0 ≤ sin0 t ∧ sin0 t ≤ 1073741824 := by
  have a := sin0_mono t 324000 h0 h1 (by omega)
  have b := sin0_mono 0 t (by omega) h0 h1
  have ea : sin0 324000 = 1073741824 := by rw [sin0_low 324000 (by omega) (by omega)]; exact congrArg Int.ofNat Tab.sn_top
  have eb : sin0 0 = 0 := by rw [sin0_low 0 (by omega) (by omega)]; exact congrArg Int.ofNat Tab.sn_bot
  omega

theorem sin0_circ (t : Int) (h0 : 0 ≤ t) (h1 : t ≤ 324000) :
    sin0 t * sin0 t + sin0 (324000 - t) * sin0 (324000 - t) ≤ 1152921506754330624 ∧ 1152921504606846976 ≤ sin0 t * sin0 t + sin0 (324000 - t) * sin0 (324000 - t) + 2147483648 := by
  have h := Tab.circ_all t.toNat (by omega)
  rw [sin0_low t h0 h1, sin0_low (324000 - t) (by omega) (by omega), show (324000 - t).toNat = 324000 - t.toNat by omega]
  unfold Tab.circ at h
  rw [Bool.and_eq_true] at h
  have a := Nat.le_of_ble_eq_true h.1
  have b := Nat.le_of_ble_eq_true h.2
  generalize Tab.sn t.toNat = s at *
  generalize Tab.sn (324000 - t.toNat) = c at *
  have a' : s * s + c * c ≤ 1152921506754330624 := a
  have b' : 1152921504606846976 ≤ s * s + c * c + 2147483648 := b
  rw [← Int.natCast_mul, ← Int.natCast_mul]
  omega

theorem sin0_refl (r : Int) (h0 : 0 ≤ r) (h1 : r ≤ 648000) : sin0 (648000 - r) = sin0 r := by
  by_cases c : r = 324000
  · subst c
    rfl
  · unfold sin0
    by_cases c2 : 324000 < r
    · rw [if_neg (by omega), if_pos c2]
    · rw [if_pos (by omega), if_neg c2, show 648000 - (648000 - r) = r by omega]

/-- The sine between minus a quarter and a quarter. -/
theorem sin_quarter (t : Int) (h0 : -324000 ≤ t) (h1 : t ≤ 324000) : sin t = if t < 0 then -sin0 (-t) else sin0 t := by
  unfold sin
  by_cases c : t < 0
  · rw [if_pos c, show t % 1296000 = t + 1296000 by omega, if_pos (by omega), show 1296000 - (t + 1296000) = -t by omega]
  · rw [if_neg c, show t % 1296000 = t by omega, if_neg (by omega)]

theorem sin_mono (x y : Int) (h0 : -324000 ≤ x) (h : x ≤ y) (h1 : y ≤ 324000) : sin x ≤ sin y := by
  rw [sin_quarter x h0 (by omega), sin_quarter y (by omega) h1]
  by_cases cx : x < 0
  · rw [if_pos cx]
    by_cases cy : y < 0
    · rw [if_pos cy]
      have := sin0_mono (-y) (-x) (by omega) (by omega) (by omega)
      omega
    · rw [if_neg cy]
      have a := sin0_in (-x) (by omega) (by omega)
      have b := sin0_in y (by omega) (by omega)
      omega
  · rw [if_neg cx, if_neg (by omega)]
    exact sin0_mono x y (by omega) h h1

/-- The cosine of an angle from 0 to half a turn. -/
theorem cos_half (x : Int) (h0 : 0 ≤ x) (h1 : x ≤ 648000) : cos x = sin (324000 - x) := by
  unfold cos
  rw [show x % 1296000 = x by omega]

theorem sin_in (x : Int) : -1073741824 ≤ sin x ∧ sin x ≤ 1073741824 := by
  have h : ∀ r : Int, 0 ≤ r → r ≤ 648000 → 0 ≤ sin0 r ∧ sin0 r ≤ 1073741824 := by
    intro r h0 h1
    by_cases c : r ≤ 324000
    · exact sin0_in r h0 c
    · rw [← sin0_refl r h0 h1]
      exact sin0_in _ (by omega) (by omega)
  unfold sin
  split
  · have := h (1296000 - x % 1296000) (by omega) (by omega)
    omega
  · have := h (x % 1296000) (by omega) (by omega)
    omega
end Go.Proofs.YtcaabaijkidmgaaDoor.Ser

/- Plain laws of sine and cosine: odd, even, periodic; their squares. No program in sight. -/
namespace Go.Proofs.YtcaabaijkidmgaaDoor.Ser
set_option linter.unusedVariables false

theorem sin_of_mod (x y : Int) (h : x % 1296000 = y % 1296000) : sin x = sin y := by
  unfold sin
  rw [h]
theorem cos_of_mod (x y : Int) (h : x % 1296000 = y % 1296000) : cos x = cos y := by
  unfold cos
  rw [h]
theorem sin0_zero : sin0 0 = 0 := by decide +kernel
theorem sin0_half : sin0 648000 = 0 := by rw [← sin0_refl 648000 (by omega) (by omega)]; exact sin0_zero

theorem sin_neg (x : Int) : sin (-x) = -sin x := by
  unfold sin
  have hr : 0 ≤ x % 1296000 ∧ x % 1296000 < 1296000 := by omega
  by_cases c0 : x % 1296000 = 0
  · have e : -x % 1296000 = 0 := by omega
    rw [c0, e, if_neg (by omega), sin0_zero]
    rfl
  · have e : -x % 1296000 = 1296000 - x % 1296000 := by omega
    rw [e]
    generalize x % 1296000 = r at *
    by_cases c1 : 648000 < r
    · rw [if_neg (by omega), if_pos c1, Int.neg_neg]
    · by_cases c2 : r = 648000
      · subst c2
        rw [if_neg (by omega), if_neg (by omega)]
        show sin0 648000 = -sin0 648000
        rw [sin0_half]
        rfl
      · rw [if_pos (by omega), if_neg c1, show 1296000 - (1296000 - r) = r by omega]

theorem sin_refl (y : Int) : sin (648000 - y) = sin y := by
  unfold sin
  have hr : 0 ≤ y % 1296000 ∧ y % 1296000 < 1296000 := by omega
  by_cases c : y % 1296000 ≤ 648000
  · have e : (648000 - y) % 1296000 = 648000 - y % 1296000 := by omega
    rw [e, if_neg (by omega), if_neg (by omega)]
    exact sin0_refl _ (by omega) (by omega)
  · have e : (648000 - y) % 1296000 = 1944000 - y % 1296000 := by omega
    rw [e, if_pos (by omega), if_pos (by omega), ← sin0_refl (1296000 - y % 1296000) (by omega) (by omega)]
    congr 2
    omega

theorem cos_neg (x : Int) : cos (-x) = cos x := by
  unfold cos
  rw [← sin_refl (324000 - x % 1296000)]
  exact sin_of_mod _ _ (by omega)

theorem both (x : Int) : ∃ t : Int, 0 ≤ t ∧ t ≤ 324000 ∧ (sin x = sin0 t ∨ sin x = -sin0 t) ∧ (cos x = sin0 (324000 - t) ∨ cos x = -sin0 (324000 - t)) := by
  have hr : 0 ≤ x % 1296000 ∧ x % 1296000 < 1296000 := by omega
  unfold cos
  have hs : sin x = if 648000 < x % 1296000 then -sin0 (1296000 - x % 1296000) else sin0 (x % 1296000) := rfl
  rw [hs]
  generalize x % 1296000 = r at *
  by_cases c1 : r ≤ 324000
  · refine ⟨r, by omega, c1, .inl (by rw [if_neg (by omega)]), .inl ?_⟩
    rw [sin_quarter _ (by omega) (by omega), if_neg (by omega)]
  by_cases c2 : r ≤ 648000
  · refine ⟨648000 - r, by omega, by omega, .inl (by rw [if_neg (by omega), sin0_refl r (by omega) c2]), .inr ?_⟩
    rw [sin_quarter _ (by omega) (by omega), if_pos (by omega)]
    congr 2
    omega
  by_cases c3 : r ≤ 972000
  · refine ⟨r - 648000, by omega, by omega, .inr ?_, .inr ?_⟩
    · rw [if_pos (by omega), ← sin0_refl (1296000 - r) (by omega) (by omega)]
      congr 2
      omega
    · rw [← sin_refl, sin_of_mod (648000 - (324000 - r)) (324000 + r - 1296000) (by omega), sin_quarter _ (by omega) (by omega)]
      by_cases c4 : r = 972000
      · subst c4
        show sin0 0 = -sin0 0
        rw [sin0_zero]
        rfl
      · rw [if_pos (by omega)]
        congr 2
        omega
  · refine ⟨1296000 - r, by omega, by omega, .inr (by rw [if_pos (by omega)]), .inl ?_⟩
    rw [← sin_refl, sin_of_mod (648000 - (324000 - r)) (324000 + r - 1296000) (by omega), sin_quarter _ (by omega) (by omega), if_neg (by omega)]
    congr 1
    omega

theorem circle (x : Int) : sin x * sin x + cos x * cos x ≤ 1152921506754330624 ∧ 1152921504606846976 ≤ sin x * sin x + cos x * cos x + 2147483648 := by
  obtain ⟨t, h0, h1, hs, hc⟩ := both x
  have h := sin0_circ t h0 h1
  have es : sin x * sin x = sin0 t * sin0 t := by
    rcases hs with hs | hs
    · rw [hs]
    · rw [hs, Int.neg_mul_neg]
  have ec : cos x * cos x = sin0 (324000 - t) * sin0 (324000 - t) := by
    rcases hc with hc | hc
    · rw [hc]
    · rw [hc, Int.neg_mul_neg]
  rw [es, ec]
  exact h

theorem cos_in (x : Int) : -1073741824 ≤ cos x ∧ cos x ≤ 1073741824 := sin_in _
end Go.Proofs.YtcaabaijkidmgaaDoor.Ser

/- Plain laws of the fine logarithm: doubling adds the logarithm of 2; it does not decrease. No program in sight. -/
namespace Go.Proofs.YtcaabaijkidmgaaDoor.Ser
set_option linter.unusedVariables false

theorem bitLen_two (n : Nat) (h0 : 0 < n) (h1 : n ≤ 2305843009213693952) : Lib.bitLen (2 * n) = Lib.bitLen n + 1 := by
  have h := Lib.bitLen_half (2 * n) (by omega) (by omega)
  rw [show 2 * n / 2 = n by omega] at h
  omega

theorem lex_two (x : Int) (h0 : 1 ≤ x) (h1 : x ≤ 2305843009213693952) : lex (2 * x) = lex x + 1 := by
  obtain ⟨n, rfl⟩ := Int.eq_ofNat_of_zero_le (show 0 ≤ x by omega)
  have h := bitLen_two n (by omega) (by omega)
  unfold lex
  rw [show (2 * (n : Int)).toNat = 2 * n by omega, Int.toNat_natCast, h]
  omega

theorem man_two (x : Int) (h0 : 1 ≤ x) (h1 : x ≤ 2305843009213693952) : man (2 * x) = man x := by
  have he := lex_two x h0 h1
  have hb := lex_bd x h0 (by omega)
  unfold man
  rw [he]
  generalize lex x = e at *
  by_cases c1 : e ≤ 25
  · rw [if_pos (by omega), if_pos (by omega), show (26 - e).toNat = (26 - (e + 1)).toNat + 1 by omega, Int.pow_succ, Int.mul_comm 2 x, Int.mul_assoc, Int.mul_comm 2]
  · rw [if_neg (by omega)]
    have e1 : (e + 1 - 26).toNat = (e - 26).toNat + 1 := by omega
    rw [e1, Int.pow_succ, Int.mul_comm (2 ^ (e - 26).toNat) 2, Int.mul_ediv_mul_of_pos _ _ (by omega)]
    by_cases c2 : e = 26
    · subst c2
      rw [if_pos (by omega)]
      simp
    · rw [if_neg (by omega)]

theorem fineLog_two (x : Int) (h0 : 1 ≤ x) (h1 : x ≤ 2305843009213693952) : fineLog (2 * x) = fineLog x + 49946518145322873 := by
  unfold fineLog
  rw [lex_two x h0 h1, man_two x h0 h1, Int.add_mul]
  omega

theorem log_two (x : Int) (h0 : 1 ≤ x) (h1 : x ≤ 2305843009213693952) : 744261117 ≤ log (2 * x) - log x ∧ log (2 * x) - log x ≤ 744261118 := by
  unfold log
  rw [fineLog_two x h0 h1]
  unfold rnd
  omega

theorem zed_mono (m n : Int) (h0 : 72057594037927936 ≤ m) (h : m ≤ n) (h1 : n ≤ 144115188075855872) : zed m ≤ zed n := by
  have hz := zed_bd m h0 (by omega)
  unfold zed at hz ⊢
  rw [Int.le_ediv_iff_mul_le (by omega)]
  have h2 := Int.ediv_mul_le ((m - 72057594037927936) * 72057594037927936) (show m + 72057594037927936 ≠ 0 by omega)
  generalize (m - 72057594037927936) * 72057594037927936 / (m + 72057594037927936) = q at *
  have h3 : q * (n - m) ≤ 72057594037927936 * (n - m) := Int.mul_le_mul_of_nonneg_right (by omega) (by omega)
  have e : q * (n + 72057594037927936) = q * (m + 72057594037927936) + q * (n - m) := by
    rw [← Int.mul_add]
    congr 1
    omega
  rw [e]
  omega

theorem sq_mono (a b c d : Int) (ha : 0 ≤ a) (hab : a ≤ b) (hc : 0 ≤ c) (hcd : c ≤ d) : a * c / 72057594037927936 ≤ b * d / 72057594037927936 := by
  have h : a * c ≤ b * d := Int.mul_le_mul hab hcd hc (by omega)
  exact Int.ediv_le_ediv (by omega) h

theorem pw_mono (z v z' v' : Int) (hz0 : 0 ≤ z) (hz : z ≤ z') (hz1 : z' ≤ 24019198012642646) (hv0 : 0 ≤ v) (hv : v ≤ v') (hv1 : v' ≤ 24019198012642646) (k : Nat) : pw z v k ≤ pw z' v' k := by
  induction k with
  | zero => exact hz
  | succ k ih =>
    rw [pw, pw]
    exact sq_mono _ _ _ _ (pw_bd z v hz0 (by omega) hv0 (by omega) k).1 ih hv0 hv

theorem lsum_mono (z v z' v' : Int) (hz0 : 0 ≤ z) (hz : z ≤ z') (hz1 : z' ≤ 24019198012642646) (hv0 : 0 ≤ v) (hv : v ≤ v') (hv1 : v' ≤ 24019198012642646) (k : Nat) : lsum z v k ≤ lsum z' v' k := by
  induction k with
  | zero => exact Int.le_refl _
  | succ k ih =>
    rw [lsum, lsum]
    have := Int.ediv_le_ediv (show 0 < 2 * (k : Int) + 1 by omega) (pw_mono z v z' v' hz0 hz hz1 hv0 hv hv1 k)
    omega

theorem msum_mono (m n : Int) (h0 : 72057594037927936 ≤ m) (h : m ≤ n) (h1 : n ≤ 144115188075855872) : msum m ≤ msum n := by
  have hz := zed_mono m n h0 h h1
  have hm := zed_bd m h0 (by omega)
  have hn := zed_bd n (by omega) h1
  have hv := wed_bd _ hn.1 hn.2
  have hv0 := wed_bd _ hm.1 hm.2
  exact lsum_mono _ _ _ _ hm.1 hz hn.2 hv0.1 (sq_mono _ _ _ _ hm.1 hz hm.1 hz) hv.2 21

theorem msum_top : 2 * msum 144115188075855871 ≤ 49946518145322873 := by decide +kernel

theorem lex_mono (x y : Int) (h0 : 1 ≤ x) (h : x ≤ y) (h1 : y ≤ 4611686018427387904) : lex x ≤ lex y := by
  obtain ⟨n, rfl⟩ := Int.eq_ofNat_of_zero_le (show 0 ≤ x by omega)
  obtain ⟨k, rfl⟩ := Int.eq_ofNat_of_zero_le (show 0 ≤ y by omega)
  have a := bitLen_pow n _ (by omega) (by omega) rfl
  have b := bitLen_pow k _ (by omega) (by omega) rfl
  unfold lex
  rw [Int.toNat_natCast, Int.toNat_natCast]
  have : Lib.bitLen n ≤ Lib.bitLen k := by
    refine Nat.le_of_not_lt fun c => ?_
    have : 2 ^ Lib.bitLen k ≤ 2 ^ (Lib.bitLen n - 1) := Nat.pow_le_pow_right (by omega) (by omega)
    omega
  omega

theorem man_mono (x y : Int) (h : x ≤ y) (he : lex x = lex y) : man x ≤ man y := by
  unfold man
  rw [he]
  generalize lex y = e at *
  have p : ∀ k : Nat, (0 : Int) < 2 ^ k := fun k => Int.pow_pos (by omega)
  by_cases c : e ≤ 26
  · rw [if_pos c, if_pos c]
    exact Int.mul_le_mul_of_nonneg_right h (Int.le_of_lt (p _))
  · rw [if_neg c, if_neg c]
    exact Int.ediv_le_ediv (p _) h

theorem fineLog_mono (x y : Int) (h0 : 1 ≤ x) (h : x ≤ y) (h1 : y ≤ 4611686018427387904) : fineLog x ≤ fineLog y := by
  have hl := lex_mono x y h0 h h1
  have mx := man_bd x h0 (by omega)
  have my := man_bd y (by omega) h1
  have sx := msum_bd (man x) mx.1 (by omega)
  have sy := msum_bd (man y) my.1 (by omega)
  have top := msum_top
  have ux := msum_mono (man x) 144115188075855871 mx.1 (by omega) (by omega)
  unfold fineLog
  by_cases c : lex x = lex y
  · have := msum_mono (man x) (man y) mx.1 (man_mono x y h c) (by omega)
    rw [c]
    omega
  · omega

theorem log_mono (x y : Int) (h0 : 1 ≤ x) (h : x ≤ y) (h1 : y ≤ 4611686018427387904) : log x ≤ log y := by
  have := fineLog_mono x y h0 h h1
  unfold log rnd
  omega

theorem artanh_odd (s : Int) (h0 : 0 ≤ s) (h1 : s ≤ 1073725440) : artanh (-s) = -artanh s := by
  unfold artanh
  by_cases c : s = 0
  · subst c
    decide +kernel
  · rw [if_pos (by omega), if_neg (by omega), Int.neg_neg]

theorem artanh_mono (s : Int) (h0 : 0 ≤ s) (h1 : s < 1073725440) : artanh s ≤ artanh (s + 1) := by
  have a := fineLog_mono (1073741824 + s) (1073741824 + (s + 1)) (by omega) (by omega) (by omega)
  have b := fineLog_mono (1073741824 - (s + 1)) (1073741824 - s) (by omega) (by omega) (by omega)
  unfold artanh
  rw [if_neg (by omega), if_neg (by omega)]
  unfold artanh0 rnd
  omega

theorem artanh_logs (s : Int) (h0 : 0 ≤ s) : -2 ≤ 2 * artanh s - (log (1073741824 + s) - log (1073741824 - s)) ∧ 2 * artanh s - (log (1073741824 + s) - log (1073741824 - s)) ≤ 2 := by
  unfold artanh
  rw [if_neg (by omega)]
  unfold artanh0 log rnd
  omega

theorem log_bd (x : Int) (h0 : 1 ≤ x) (h1 : x ≤ 4611686018427387904) : -23841857911 ≤ log x ∧ log x ≤ 40233135224 := by
  have := fineLog_bd x h0 h1
  unfold log rnd
  omega
theorem artanh_bd (s : Int) (h0 : 0 ≤ s) (h1 : s ≤ 1073725440) : -64000000000 ≤ artanh s ∧ artanh s ≤ 64000000000 := by
  have a := fineLog_bd (1073741824 + s) (by omega) (by omega)
  have b := fineLog_bd (1073741824 - s) (by omega) (by omega)
  unfold artanh
  rw [if_neg (by omega)]
  unfold artanh0 rnd
  omega
end Go.Proofs.YtcaabaijkidmgaaDoor.Ser

/- Plain functions of chapter 13: the numbers of a projection, and their bounds. -/
namespace Go.Proofs.YtcaabaijkidmgaaDoor.Prj
open Go.Proofs.YtcaabaijkidmgaaDoor

/-- A position in the range. -/
def vld (x y : Int) : Prop := -648000 ≤ x ∧ x ≤ 648000 ∧ -306000 ≤ y ∧ y ≤ 306000
instance (x y : Int) : Decidable (vld x y) := by unfold vld; infer_instance
/-- A valid projection. -/
structure Ok (K L A S : Int) : Prop where
  k0 : 1 ≤ K
  k1 : K ≤ 4
  v : vld L A
  s0 : 1 ≤ S
  s1 : S ≤ 524288
theorem ok_iff (K L A S : Int) : Ok K L A S ↔ (1 ≤ K ∧ K ≤ 4) ∧ vld L A ∧ 1 ≤ S ∧ S ≤ 524288 := ⟨fun h => ⟨⟨h.k0, h.k1⟩, h.v, h.s0, h.s1⟩, fun ⟨⟨a, b⟩, c, d, e⟩ => ⟨a, b, c, d, e⟩⟩
instance (K L A S : Int) : Decidable (Ok K L A S) := decidable_of_iff _ (ok_iff K L A S).symm
/-- Scale * n / One, rounded. -/
def scl (S n : Int) : Int := Ser.rnd (S * n) 1073741824
/-- The eastern number. -/
def eu (K L x y : Int) : Int := if K = 2 then Ser.rnd (Ser.rad (x - L) * Ser.cos y) 1073741824 else Ser.rad (x - L)
/-- The Mercator number of a latitude. -/
def art (y : Int) : Int := Ser.artanh (Ser.sin y)
/-- The northern number. -/
def nv (K A y : Int) : Int := if K = 3 then art y - art A else if K = 4 then Ser.sin y - Ser.sin A else Ser.rad (y - A)
def east (K L S x y : Int) : Int := scl S (eu K L x y)
def north (K A S y : Int) : Int := scl S (nv K A y)

theorem rnd_le (a b n : Int) (hb : 1 ≤ b) (h : a ≤ n * b) : Ser.rnd a b ≤ n := by
  unfold Ser.rnd
  have : (2 * a + b) / (2 * b) < n + 1 := (Int.ediv_lt_iff_lt_mul (by omega)).2 (by rw [Int.add_mul, Int.mul_left_comm]; omega)
  omega
theorem rnd_ge (a b n : Int) (hb : 1 ≤ b) (h : n * b ≤ a) : n ≤ Ser.rnd a b := by
  unfold Ser.rnd
  exact (Int.le_ediv_iff_mul_le (by omega)).2 (by rw [Int.mul_left_comm]; omega)
theorem rnd_mono (a c b : Int) (hb : 1 ≤ b) (h : a ≤ c) : Ser.rnd a b ≤ Ser.rnd c b := by
  unfold Ser.rnd
  exact Int.ediv_le_ediv (by omega) (by omega)
theorem rnd_zero (b : Int) (hb : 1 ≤ b) : Ser.rnd 0 b = 0 := by
  unfold Ser.rnd
  exact Int.ediv_eq_zero_of_lt (by omega) (by omega)
theorem rad_eq (x : Int) (h0 : -1296000 ≤ x) (h1 : x ≤ 1296000) : Ser.rad x = Ser.rnd (x * 3373259426) 648000 := by
  unfold Ser.rad
  rw [if_neg (by omega)]
theorem rad_bd (x : Int) (h0 : -1296000 ≤ x) (h1 : x ≤ 1296000) : -6746518852 ≤ Ser.rad x ∧ Ser.rad x ≤ 6746518852 := by
  rw [rad_eq x h0 h1]
  exact ⟨rnd_ge _ _ _ (by omega) (by omega), rnd_le _ _ _ (by omega) (by omega)⟩
theorem rad_mono (x y : Int) (h0 : -1296000 ≤ x) (h : x ≤ y) (h1 : y ≤ 1296000) : Ser.rad x ≤ Ser.rad y := by
  rw [rad_eq x h0 (by omega), rad_eq y (by omega) h1]
  exact rnd_mono _ _ _ (by omega) (by omega)
theorem rad_zero : Ser.rad 0 = 0 := by
  rw [rad_eq 0 (by omega) (by omega)]
  exact rnd_zero _ (by omega)
theorem mul_abs (a b n m : Int) (ha0 : -n ≤ a) (ha1 : a ≤ n) (hb0 : -m ≤ b) (hb1 : b ≤ m) : -(n * m) ≤ a * b ∧ a * b ≤ n * m := by
  have h1 : 0 ≤ (n - a) * (m - b) := Int.mul_nonneg (by omega) (by omega)
  have h2 : 0 ≤ (n + a) * (m + b) := Int.mul_nonneg (by omega) (by omega)
  have h3 : 0 ≤ (n - a) * (m + b) := Int.mul_nonneg (by omega) (by omega)
  have h4 : 0 ≤ (n + a) * (m - b) := Int.mul_nonneg (by omega) (by omega)
  simp only [Int.sub_mul, Int.mul_sub, Int.add_mul, Int.mul_add] at h1 h2 h3 h4
  constructor <;> omega
/-- The product in PrSine's eastern number. -/
theorem sine_bd (d y : Int) (h0 : -1296000 ≤ d) (h1 : d ≤ 1296000) : -7244019458077122842 ≤ Ser.rad d * Ser.cos y ∧ Ser.rad d * Ser.cos y ≤ 7244019458077122842 := by
  have a := rad_bd d h0 h1
  have b := Ser.cos_in y
  have := mul_abs (Ser.rad d) (Ser.cos y) 6746518852 1073741824 a.1 a.2 b.1 b.2
  omega
theorem eu_bd (K L x y : Int) (h0 : -1296000 ≤ x - L) (h1 : x - L ≤ 1296000) : -6746518852 ≤ eu K L x y ∧ eu K L x y ≤ 6746518852 := by
  unfold eu
  split
  · have a := rad_bd (x - L) h0 h1
    have b := Ser.cos_in y
    have := mul_abs (Ser.rad (x - L)) (Ser.cos y) 6746518852 1073741824 a.1 a.2 b.1 b.2
    exact ⟨rnd_ge _ _ _ (by omega) (by omega), rnd_le _ _ _ (by omega) (by omega)⟩
  · exact rad_bd _ h0 h1
theorem sin_306 : Ser.sin 306000 ≤ 1073725440 := by decide +kernel
theorem sin_lat (y : Int) (h0 : -306000 ≤ y) (h1 : y ≤ 306000) : -1073725440 ≤ Ser.sin y ∧ Ser.sin y ≤ 1073725440 := by
  have a := Ser.sin_mono y 306000 (by omega) h1 (by omega)
  have b := Ser.sin_mono (-y) 306000 (by omega) (by omega) (by omega)
  rw [Ser.sin_neg] at b
  have := sin_306
  omega
theorem artanh_bd2 (s : Int) (h0 : -1073725440 ≤ s) (h1 : s ≤ 1073725440) : -64000000000 ≤ Ser.artanh s ∧ Ser.artanh s ≤ 64000000000 := by
  by_cases c : 0 ≤ s
  · exact Ser.artanh_bd s c h1
  · have a := Ser.artanh_bd (-s) (by omega) (by omega)
    have b := Ser.artanh_odd (-s) (by omega) (by omega)
    rw [Int.neg_neg] at b
    omega
theorem art_bd (y : Int) (h0 : -306000 ≤ y) (h1 : y ≤ 306000) : -64000000000 ≤ art y ∧ art y ≤ 64000000000 := by
  have := sin_lat y h0 h1
  exact artanh_bd2 _ this.1 this.2
theorem nv_bd (K A y : Int) (ha0 : -306000 ≤ A) (ha1 : A ≤ 306000) (h0 : -306000 ≤ y) (h1 : y ≤ 306000) : -128000000000 ≤ nv K A y ∧ nv K A y ≤ 128000000000 := by
  unfold nv
  split
  · have := art_bd y h0 h1
    have := art_bd A ha0 ha1
    omega
  · split
    · have := Ser.sin_in y
      have := Ser.sin_in A
      omega
    · have := rad_bd (y - A) (by omega) (by omega)
      omega
/-- The product in a scaled number. -/
theorem scl_in (S n : Int) (hs0 : 1 ≤ S) (hs1 : S ≤ 524288) (h0 : -128000000000 ≤ n) (h1 : n ≤ 128000000000) : -67108864000000000 ≤ S * n ∧ S * n ≤ 67108864000000000 := by
  have := mul_abs S n 524288 128000000000 (by omega) (by omega) h0 h1
  omega
theorem scl_bd (S n : Int) (hs0 : 1 ≤ S) (hs1 : S ≤ 524288) (h0 : -128000000000 ≤ n) (h1 : n ≤ 128000000000) : -62500000 ≤ scl S n ∧ scl S n ≤ 62500000 := by
  have := scl_in S n hs0 hs1 h0 h1
  unfold scl
  exact ⟨rnd_ge _ _ _ (by omega) (by omega), rnd_le _ _ _ (by omega) (by omega)⟩
theorem scl_mono (S a b : Int) (hs0 : 1 ≤ S) (h : a ≤ b) : scl S a ≤ scl S b := by
  unfold scl
  exact rnd_mono _ _ _ (by omega) (Int.mul_le_mul_of_nonneg_left h (by omega))
theorem scl_zero (S : Int) : scl S 0 = 0 := by
  unfold scl
  rw [Int.mul_zero]
  exact rnd_zero _ (by omega)
end Go.Proofs.YtcaabaijkidmgaaDoor.Prj
