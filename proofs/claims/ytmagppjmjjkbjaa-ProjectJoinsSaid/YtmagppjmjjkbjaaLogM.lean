/- Plain laws of the fine logarithm: doubling adds the logarithm of 2; it does not decrease. No program in sight. -/
import Derived.Test.YtmagppjmjjkbjaaLogA
namespace Go.Proofs.Ytmagppjmjjkbjaa.Ser
set_option linter.unusedVariables false

theorem bitLen_two (n : Nat) (h0 : 0 < n) (h1 : n ≤ 2305843009213693952) : Lib.bitLen (2 * n) = Lib.bitLen n + 1 := by
  have h := Lib.bitLen_half (2 * n) (by omega) (by omega)
  rw [show 2 * n / 2 = n by omega] at h
  omega

theorem lex_two (x : Int) (h0 : 1 ≤ x) (h1 : x ≤ 2305843009213693952) : lex (2 * x) = lex x + 1 := by
  obtain ⟨n, rfl⟩ := Int.eq_ofNat_of_zero_le (show 0 ≤ x by omega)
  have h := bitLen_two n (by omega) (by omega)
  unfold lex
  rw [show (2 * (n : Int)).toNat = 2 * n by omega, Int.toNat_natCast, h]
  omega

theorem man_two (x : Int) (h0 : 1 ≤ x) (h1 : x ≤ 2305843009213693952) : man (2 * x) = man x := by
  have he := lex_two x h0 h1
  have hb := lex_bd x h0 (by omega)
  unfold man
  rw [he]
  generalize lex x = e at *
  by_cases c1 : e ≤ 25
  · rw [if_pos (by omega), if_pos (by omega), show (26 - e).toNat = (26 - (e + 1)).toNat + 1 by omega, Int.pow_succ, Int.mul_comm 2 x, Int.mul_assoc, Int.mul_comm 2]
  · rw [if_neg (by omega)]
    have e1 : (e + 1 - 26).toNat = (e - 26).toNat + 1 := by omega
    rw [e1, Int.pow_succ, Int.mul_comm (2 ^ (e - 26).toNat) 2, Int.mul_ediv_mul_of_pos _ _ (by omega)]
    by_cases c2 : e = 26
    · subst c2
      rw [if_pos (by omega)]
      simp
    · rw [if_neg (by omega)]

theorem fineLog_two (x : Int) (h0 : 1 ≤ x) (h1 : x ≤ 2305843009213693952) : fineLog (2 * x) = fineLog x + 49946518145322873 := by
  unfold fineLog
  rw [lex_two x h0 h1, man_two x h0 h1, Int.add_mul]
  omega

theorem log_two (x : Int) (h0 : 1 ≤ x) (h1 : x ≤ 2305843009213693952) : 744261117 ≤ log (2 * x) - log x ∧ log (2 * x) - log x ≤ 744261118 := by
  unfold log
  rw [fineLog_two x h0 h1]
  unfold rnd
  omega

theorem zed_mono (m n : Int) (h0 : 72057594037927936 ≤ m) (h : m ≤ n) (h1 : n ≤ 144115188075855872) : zed m ≤ zed n := by
  have hz := zed_bd m h0 (by omega)
  unfold zed at hz ⊢
  rw [Int.le_ediv_iff_mul_le (by omega)]
  have h2 := Int.ediv_mul_le ((m - 72057594037927936) * 72057594037927936) (show m + 72057594037927936 ≠ 0 by omega)
  generalize (m - 72057594037927936) * 72057594037927936 / (m + 72057594037927936) = q at *
  have h3 : q * (n - m) ≤ 72057594037927936 * (n - m) := Int.mul_le_mul_of_nonneg_right (by omega) (by omega)
  have e : q * (n + 72057594037927936) = q * (m + 72057594037927936) + q * (n - m) := by
    rw [← Int.mul_add]
    congr 1
    omega
  rw [e]
  omega

theorem sq_mono (a b c d : Int) (ha : 0 ≤ a) (hab : a ≤ b) (hc : 0 ≤ c) (hcd : c ≤ d) : a * c / 72057594037927936 ≤ b * d / 72057594037927936 := by
  have h : a * c ≤ b * d := Int.mul_le_mul hab hcd hc (by omega)
  exact Int.ediv_le_ediv (by omega) h

theorem pw_mono (z v z' v' : Int) (hz0 : 0 ≤ z) (hz : z ≤ z') (hz1 : z' ≤ 24019198012642646) (hv0 : 0 ≤ v) (hv : v ≤ v') (hv1 : v' ≤ 24019198012642646) (k : Nat) : pw z v k ≤ pw z' v' k := by
  induction k with
  | zero => exact hz
  | succ k ih =>
    rw [pw, pw]
    exact sq_mono _ _ _ _ (pw_bd z v hz0 (by omega) hv0 (by omega) k).1 ih hv0 hv

theorem lsum_mono (z v z' v' : Int) (hz0 : 0 ≤ z) (hz : z ≤ z') (hz1 : z' ≤ 24019198012642646) (hv0 : 0 ≤ v) (hv : v ≤ v') (hv1 : v' ≤ 24019198012642646) (k : Nat) : lsum z v k ≤ lsum z' v' k := by
  induction k with
  | zero => exact Int.le_refl _
  | succ k ih =>
    rw [lsum, lsum]
    have := Int.ediv_le_ediv (show 0 < 2 * (k : Int) + 1 by omega) (pw_mono z v z' v' hz0 hz hz1 hv0 hv hv1 k)
    omega

theorem msum_mono (m n : Int) (h0 : 72057594037927936 ≤ m) (h : m ≤ n) (h1 : n ≤ 144115188075855872) : msum m ≤ msum n := by
  have hz := zed_mono m n h0 h h1
  have hm := zed_bd m h0 (by omega)
  have hn := zed_bd n (by omega) h1
  have hv := wed_bd _ hn.1 hn.2
  have hv0 := wed_bd _ hm.1 hm.2
  exact lsum_mono _ _ _ _ hm.1 hz hn.2 hv0.1 (sq_mono _ _ _ _ hm.1 hz hm.1 hz) hv.2 21

theorem msum_top : 2 * msum 144115188075855871 ≤ 49946518145322873 := by decide +kernel

theorem lex_mono (x y : Int) (h0 : 1 ≤ x) (h : x ≤ y) (h1 : y ≤ 4611686018427387904) : lex x ≤ lex y := by
  obtain ⟨n, rfl⟩ := Int.eq_ofNat_of_zero_le (show 0 ≤ x by omega)
  obtain ⟨k, rfl⟩ := Int.eq_ofNat_of_zero_le (show 0 ≤ y by omega)
  have a := bitLen_pow n _ (by omega) (by omega) rfl
  have b := bitLen_pow k _ (by omega) (by omega) rfl
  unfold lex
  rw [Int.toNat_natCast, Int.toNat_natCast]
  have : Lib.bitLen n ≤ Lib.bitLen k := by
    refine Nat.le_of_not_lt fun c => ?_
    have : 2 ^ Lib.bitLen k ≤ 2 ^ (Lib.bitLen n - 1) := Nat.pow_le_pow_right (by omega) (by omega)
    omega
  omega

theorem man_mono (x y : Int) (h : x ≤ y) (he : lex x = lex y) : man x ≤ man y := by
  unfold man
  rw [he]
  generalize lex y = e at *
  have p : ∀ k : Nat, (0 : Int) < 2 ^ k := fun k => Int.pow_pos (by omega)
  by_cases c : e ≤ 26
  · rw [if_pos c, if_pos c]
    exact Int.mul_le_mul_of_nonneg_right h (Int.le_of_lt (p _))
  · rw [if_neg c, if_neg c]
    exact Int.ediv_le_ediv (p _) h

theorem fineLog_mono (x y : Int) (h0 : 1 ≤ x) (h : x ≤ y) (h1 : y ≤ 4611686018427387904) : fineLog x ≤ fineLog y := by
  have hl := lex_mono x y h0 h h1
  have mx := man_bd x h0 (by omega)
  have my := man_bd y (by omega) h1
  have sx := msum_bd (man x) mx.1 (by omega)
  have sy := msum_bd (man y) my.1 (by omega)
  have top := msum_top
  have ux := msum_mono (man x) 144115188075855871 mx.1 (by omega) (by omega)
  unfold fineLog
  by_cases c : lex x = lex y
  · have := msum_mono (man x) (man y) mx.1 (man_mono x y h c) (by omega)
    rw [c]
    omega
  · omega

theorem log_mono (x y : Int) (h0 : 1 ≤ x) (h : x ≤ y) (h1 : y ≤ 4611686018427387904) : log x ≤ log y := by
  have := fineLog_mono x y h0 h h1
  unfold log rnd
  omega

theorem artanh_odd (s : Int) (h0 : 0 ≤ s) (h1 : s ≤ 1073725440) : artanh (-s) = -artanh s := by
  unfold artanh
  by_cases c : s = 0
  · subst c
    decide +kernel
  · rw [if_pos (by omega), if_neg (by omega), Int.neg_neg]

theorem artanh_mono (s : Int) (h0 : 0 ≤ s) (h1 : s < 1073725440) : artanh s ≤ artanh (s + 1) := by
  have a := fineLog_mono (1073741824 + s) (1073741824 + (s + 1)) (by omega) (by omega) (by omega)
  have b := fineLog_mono (1073741824 - (s + 1)) (1073741824 - s) (by omega) (by omega) (by omega)
  unfold artanh
  rw [if_neg (by omega), if_neg (by omega)]
  unfold artanh0 rnd
  omega

theorem artanh_logs (s : Int) (h0 : 0 ≤ s) : -2 ≤ 2 * artanh s - (log (1073741824 + s) - log (1073741824 - s)) ∧ 2 * artanh s - (log (1073741824 + s) - log (1073741824 - s)) ≤ 2 := by
  unfold artanh
  rw [if_neg (by omega)]
  unfold artanh0 log rnd
  omega

theorem log_bd (x : Int) (h0 : 1 ≤ x) (h1 : x ≤ 4611686018427387904) : -23841857911 ≤ log x ∧ log x ≤ 40233135224 := by
  have := fineLog_bd x h0 h1
  unfold log rnd
  omega
theorem artanh_bd (s : Int) (h0 : 0 ≤ s) (h1 : s ≤ 1073725440) : -64000000000 ≤ artanh s ∧ artanh s ≤ 64000000000 := by
  have a := fineLog_bd (1073741824 + s) (by omega) (by omega)
  have b := fineLog_bd (1073741824 - s) (by omega) (by omega)
  unfold artanh
  rw [if_neg (by omega)]
  unfold artanh0 rnd
  omega
end Go.Proofs.Ytmagppjmjjkbjaa.Ser
