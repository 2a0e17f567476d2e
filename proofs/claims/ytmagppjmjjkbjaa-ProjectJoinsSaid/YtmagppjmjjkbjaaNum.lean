/- Contracts of package num over this translation, for positive divisors: Floor, Round (halves up), MulDiv (rounded down, where the result is an int); what was there before the call is unchanged. -/
import Derived.Test.YtmagppjmjjkbjaaDiv
import Derived.RegionTactic
import Derived.BigGuard
namespace Go.Proofs.Ytmagppjmjjkbjaa
open Go.RowKit
set_option linter.unusedVariables false

namespace Num
theorem tdiv_pos (a b : Int) (hb : 1 ≤ b) : a = b * a.tdiv b + a.tmod b ∧ -b < a.tmod b ∧ a.tmod b < b ∧
    (0 ≤ a.tmod b → a / b = a.tdiv b) ∧ (a.tmod b < 0 → a / b = a.tdiv b - 1) := by
  have h1 := Int.mul_tdiv_add_tmod a b
  have h2 : a.tmod b < b := Int.tmod_lt_of_pos a (by omega)
  have h3 : -b < a.tmod b := by
    by_cases h : 0 ≤ a
    · have := Int.tmod_nonneg b h
      omega
    · have e : a = -(-a) := by omega
      rw [e, Int.neg_tmod]
      have := Int.tmod_lt_of_pos (-a) (show 0 < b by omega)
      omega
  refine ⟨by omega, h3, h2, fun h => ?_, fun h => ?_⟩
  · exact ((Int.ediv_emod_unique (by omega)).2 ⟨by omega, h, h2⟩).1
  · refine ((Int.ediv_emod_unique (r := a.tmod b + b) (by omega)).2 ⟨?_, by omega, by omega⟩).1
    rw [Int.mul_sub]
    omega
theorem tdiv_bd (a b : Int) (hb : 1 ≤ b) (h0 : -9223372036854775808 ≤ a) (h1 : a ≤ 9223372036854775807) :
    -9223372036854775808 ≤ a.tdiv b ∧ a.tdiv b ≤ 9223372036854775807 := by
  by_cases h : 0 ≤ a
  · rw [Int.tdiv_eq_ediv_of_nonneg h]
    have := Int.ediv_nonneg h (by omega : 0 ≤ b)
    have := Int.ediv_le_self b h
    omega
  · have e : a = -(-a) := by omega
    rw [e, Int.neg_tdiv, Int.tdiv_eq_ediv_of_nonneg (by omega)]
    have := Int.ediv_nonneg (show 0 ≤ -a by omega) (by omega : 0 ≤ b)
    have := Int.ediv_le_self b (show 0 ≤ -a by omega)
    omega
theorem ediv_bd (a b : Int) (hb : 1 ≤ b) (h0 : -9223372036854775808 ≤ a) (h1 : a ≤ 9223372036854775807) :
    -9223372036854775808 ≤ a / b ∧ a / b ≤ 9223372036854775807 := by
  have e := Int.mul_ediv_add_emod a b
  have l := Int.emod_nonneg a (show b ≠ 0 by omega)
  have u := Int.emod_lt_of_pos a (show 0 < b by omega)
  constructor
  · refine Int.not_lt.1 fun h => ?_
    have h2 : b * (a / b) ≤ b * (-9223372036854775809) := Int.mul_le_mul_of_nonneg_left (by omega) (by omega)
    omega
  · refine Int.not_lt.1 fun h => ?_
    have h2 : b * 9223372036854775808 ≤ b * (a / b) := Int.mul_le_mul_of_nonneg_left (by omega) (by omega)
    omega
end Num

theorem size_any (n : Int) (h0 : -9223372036854775808 ≤ n) (h1 : n ≤ 9223372036854775807) (w : World) :
    Calls Try.prog 55 #[.int .i64 n] w fun e w' => e = .returned (.int .u64 (n.natAbs : Int)) ∧ w = w' := by
  by_cases h : n < 0
  · have e1 : IntKind.u64.wrap (-IntKind.u64.wrap n) = (n.natAbs : Int) := by simp only [IntKind.wrap_u64]; omega
    go_enter Try.func55, Try.ntmps55
    go_wp2
    go_ret
    exact ⟨rfl, rfl⟩
  · have e1 : IntKind.u64.wrap n = (n.natAbs : Int) := by simp only [IntKind.wrap_u64]; omega
    have e2 : n = (n.natAbs : Int) := by omega
    have H2 := Lib.hid e2
    clear e2
    go_enter Try.func55, Try.ntmps55
    go_wp2
    go_ret
    exact ⟨by rw [← H2.out]; rfl, rfl⟩

set_option maxHeartbeats 1000000 in
theorem floor_pos (a b : Int) (ha0 : -9223372036854775808 ≤ a) (ha1 : a ≤ 9223372036854775807) (hb0 : 1 ≤ b) (hb1 : b ≤ 9223372036854775807) (w : World) :
    Calls Try.prog 53 #[.int .i64 a, .int .i64 b] w fun e w' => e = .returned (.tuple #[.int .i64 (a / b), .int .i64 0]) ∧ w = w' := by
  obtain ⟨h1, h2, h3, h4, h5⟩ := Num.tdiv_pos a b hb0
  obtain ⟨h6, h7⟩ := Num.tdiv_bd a b hb0 ha0 ha1
  obtain ⟨h8, h9⟩ := Num.ediv_bd a b hb0 ha0 ha1
  have d1 : (b == 0) = false := by simp; omega
  have d2 : (b == -1) = false := by simp; omega
  have d3 : decide (b < 0) = false := by simp; omega
  have dn : ¬ b = 0 := by omega
  obtain ⟨t, ht⟩ : ∃ t, a.tdiv b = t := ⟨_, rfl⟩
  obtain ⟨m, hm⟩ : ∃ m, a.tmod b = m := ⟨_, rfl⟩
  rw [ht, hm] at h1 h4 h5
  rw [hm] at h2 h3
  rw [ht] at h6 h7
  have H1 := Lib.hid h1
  have H4 := Lib.hid h4
  have H5 := Lib.hid h5
  clear h1 h4 h5
  have dc : Calls Try.prog 66 #[.int .i64 a, .int .i64 b] w fun e w' => e = .returned (.int .i64 0) ∧ w = w' := by
    clear ht hm h2 h3 h6 h7 h8 h9
    by_cases c : a = -9223372036854775808
    · have c' : (a == -9223372036854775808) = true := by simpa using c
      clear c
      go_enter Try.func66, Try.ntmps66
      go_wp2
      go_ret
      exact ⟨rfl, rfl⟩
    · have c' : (a == -9223372036854775808) = false := by simpa using c
      clear c
      go_enter Try.func66, Try.ntmps66
      go_wp2
      go_ret
      exact ⟨rfl, rfl⟩
  have DC := Lib.hid dc
  clear dc
  by_cases c0 : m = 0
  · have c' : (m != 0) = false := by simpa using c0
    have HF := Lib.hid (H4.out (by omega))
    clear c0
    go_enter Try.func53, Try.ntmps53
    go_wp2_with (go_at_call 66; refine DC.out.mono ?_; rintro e w' ⟨rfl, rfl⟩)
    go_ret2
    exact ⟨by rw [HF.out]; rfl, rfl⟩
  · have c' : (m != 0) = true := by simpa using c0
    clear c0
    by_cases c1 : m < 0
    · have c2 : decide (m < 0) = true := by simpa using c1
      have HF := Lib.hid (H5.out c1)
      have hb : -9223372036854775808 ≤ t - 1 := by have := HF.out; omega
      go_enter Try.func53, Try.ntmps53
      go_wp2_with (go_at_call 66; refine DC.out.mono ?_; rintro e w' ⟨rfl, rfl⟩)
      go_ret2
      exact ⟨by rw [HF.out]; rfl, rfl⟩
    · have c2 : decide (m < 0) = false := by simpa using c1
      have HF := Lib.hid (H4.out (by omega))
      go_enter Try.func53, Try.ntmps53
      go_wp2_with (go_at_call 66; refine DC.out.mono ?_; rintro e w' ⟨rfl, rfl⟩)
      go_ret2
      exact ⟨by rw [HF.out]; rfl, rfl⟩

theorem size_nn (n : Int) (h0 : 0 ≤ n) (h1 : n ≤ 9223372036854775807) (w : World) :
    Calls Try.prog 55 #[.int .i64 n] w fun e w' => e = .returned (.int .u64 n) ∧ w = w' := by
  go_enter Try.func55, Try.ntmps55
  go_wp2
  go_ret
  exact ⟨rfl, rfl⟩

/-- a / b rounded to the nearest integer, halves up. -/
def Num.rnd (a b : Int) : Int := (2 * a + b) / (2 * b)
theorem Num.rnd_up (a b : Int) (hb : 1 ≤ b) (h : b ≤ 2 * (a % b)) : Num.rnd a b = a / b + 1 := by
  have e := Int.mul_ediv_add_emod a b
  have u := Int.emod_lt_of_pos a (show 0 < b by omega)
  refine ((Int.ediv_emod_unique (r := 2 * (a % b) - b) (by omega)).2 ⟨?_, by omega, by omega⟩).1
  rw [Int.mul_add, Int.mul_assoc 2 b]
  omega
theorem Num.rnd_down (a b : Int) (hb : 1 ≤ b) (h : 2 * (a % b) < b) : Num.rnd a b = a / b := by
  have e := Int.mul_ediv_add_emod a b
  have l := Int.emod_nonneg a (show b ≠ 0 by omega)
  refine ((Int.ediv_emod_unique (r := 2 * (a % b) + b) (by omega)).2 ⟨?_, by omega, by omega⟩).1
  rw [Int.mul_assoc 2 b]
  omega

set_option maxHeartbeats 1000000 in
theorem round_pos (a b : Int) (ha0 : -9223372036854775808 ≤ a - b) (ha1 : a ≤ 9223372036854775807) (hb0 : 1 ≤ b) (hb1 : b ≤ 9223372036854775807) (w : World) :
    Calls Try.prog 40 #[.int .i64 a, .int .i64 b] w fun e w' => e = .returned (.tuple #[.int .i64 (Num.rnd a b), .int .i64 0]) ∧ w = w' := by
  have DF := Lib.hid (floor_pos a b (by omega) ha1 hb0 hb1 w)
  obtain ⟨h8, h9⟩ := Num.ediv_bd a b hb0 (by omega) ha1
  have e := Int.mul_ediv_add_emod a b
  have l := Int.emod_nonneg a (show b ≠ 0 by omega)
  have u := Int.emod_lt_of_pos a (show 0 < b by omega)
  have hup := Num.rnd_up a b hb0
  have hdown := Num.rnd_down a b hb0
  obtain ⟨q, hq⟩ : ∃ q, a / b = q := ⟨_, rfl⟩
  obtain ⟨r, hr⟩ : ∃ r, a % b = r := ⟨_, rfl⟩
  obtain ⟨z, hz⟩ : ∃ z, Num.rnd a b = z := ⟨_, rfl⟩
  rw [hq] at h8 h9 e hup hdown
  rw [hr] at e l u hup hdown
  rw [hz] at hup hdown
  rw [hq] at DF
  obtain ⟨p, hp⟩ : ∃ p, q * b = p := ⟨_, rfl⟩
  rw [Int.mul_comm, hp] at e
  have hpl : -9223372036854775808 ≤ p := by omega
  have hpu : p ≤ 9223372036854775807 := by omega
  have hx : a - p = r := by omega
  clear hq hr
  have HZ := Lib.hid hz
  have HE := Lib.hid e
  have HU := Lib.hid hup
  have HD := Lib.hid hdown
  clear hup hdown e hz
  by_cases c : b ≤ 2 * r
  · have c1 : decide (b - r ≤ r) = true := by simp; omega
    have HF := Lib.hid (HU.out c)
    have hq9 : q ≤ 9223372036854775806 := by
      refine Int.not_lt.1 fun h => ?_
      have hq : q = 9223372036854775807 := by omega
      subst hq
      rw [← hp] at hx
      omega
    go_enter Try.func40, Try.ntmps40
    go_wp2_with (first | (go_at_call 53; refine DF.out.mono ?_; rintro e w' ⟨rfl, rfl⟩) | (go_at_call 55; refine (size_nn _ (by omega) (by omega) _).mono ?_; rintro e w' ⟨rfl, rfl⟩))
    go_ret2
    exact ⟨by rw [HZ.out, HF.out]; rfl, rfl⟩
  · have c1 : decide (b - r ≤ r) = false := by simp; omega
    have HF := Lib.hid (HD.out (by omega))
    go_enter Try.func40, Try.ntmps40
    go_wp2_with (first | (go_at_call 53; refine DF.out.mono ?_; rintro e w' ⟨rfl, rfl⟩) | (go_at_call 55; refine (size_nn _ (by omega) (by omega) _).mono ?_; rintro e w' ⟨rfl, rfl⟩))
    go_ret2
    exact ⟨by rw [HZ.out, HF.out]; rfl, rfl⟩

/-- signed of a number that is not negative. -/
theorem signed_nn (n : Int) (h0 : 0 ≤ n) (h1 : n ≤ 9223372036854775807) (w : World) :
    Calls Try.prog 74 #[.int .u64 n, .bool false] w fun e w' => e = .returned (.tuple #[.int .i64 n, .bool true]) ∧ w = w' := by
  go_enter Try.func74, Try.ntmps74
  go_wp2
  go_ret2
  exact ⟨rfl, rfl⟩

set_option maxHeartbeats 1000000 in
/-- MulDiv of numbers that are not negative, where the result is an int. -/
theorem muldiv_nn (a b c : Int) (ha0 : 0 ≤ a) (ha1 : a ≤ 9223372036854775807) (hb0 : 0 ≤ b) (hb1 : b ≤ 9223372036854775807) (hc0 : 1 ≤ c) (hc1 : c ≤ 9223372036854775807)
    (hq : a * b / c ≤ 9223372036854775807) (w : World) :
    Calls Try.prog 68 #[.int .i64 a, .int .i64 b, .int .i64 c] w fun e w' => e = .returned (.tuple #[.int .i64 (a * b / c), .int .i64 0]) ∧ ∃ n, w' = w.drewN n := by
  obtain ⟨x, rfl⟩ := Int.eq_ofNat_of_zero_le ha0
  obtain ⟨y, rfl⟩ := Int.eq_ofNat_of_zero_le hb0
  obtain ⟨z, rfl⟩ := Int.eq_ofNat_of_zero_le (show 0 ≤ c by omega)
  have hM := Lib.hid (fun W => mul64_any x y (by omega) (by omega) W)
  have hpe : (x : Int) * (y : Int) / (z : Int) = ((x * y / z : Nat) : Int) := by simp
  rw [hpe] at hq ⊢
  have hlow : x * y % 18446744073709551616 < 18446744073709551616 := Nat.mod_lt _ (by omega)
  have hsum := Nat.div_add_mod (x * y) 18446744073709551616
  have hhigh : x * y / 18446744073709551616 < z := by
    rw [Nat.div_lt_iff_lt_mul (by omega)]
    have h1 := Nat.lt_mul_div_succ (x * y) (show 0 < z by omega)
    have h2 : z * (x * y / z + 1) ≤ z * 18446744073709551616 := Nat.mul_le_mul_left _ (by omega)
    omega
  have hD := fun W => div64_any (x * y / 18446744073709551616) (x * y % 18446744073709551616) z (by omega) hlow hhigh W
  rw [Nat.mul_comm (x * y / 18446744073709551616), hsum] at hD
  have HD := Lib.hid hD
  clear hD
  obtain ⟨H, hH⟩ : ∃ H : Int, H = ((x * y / 18446744073709551616 : Nat) : Int) := ⟨_, rfl⟩
  obtain ⟨L, hL⟩ : ∃ L : Int, L = ((x * y % 18446744073709551616 : Nat) : Int) := ⟨_, rfl⟩
  obtain ⟨R, hR⟩ : ∃ R : Int, R = ((x * y % z : Nat) : Int) := ⟨_, rfl⟩
  obtain ⟨D, hDe⟩ : ∃ D : Int, D = ((x * y / z : Nat) : Int) := ⟨_, rfl⟩
  rw [← hH, ← hL] at hM
  rw [← hH, ← hL, ← hR, ← hDe] at HD
  rw [← hDe] at hq ⊢
  have hH0 : 0 ≤ H := by omega
  have hHz : H < z := by omega
  have hL0 : 0 ≤ L := by omega
  have hLl : L ≤ 18446744073709551615 := by omega
  have hD0 : 0 ≤ D := by rw [hDe]; exact Int.natCast_nonneg _
  obtain ⟨X, hX⟩ : ∃ X : Int, X = (x : Int) := ⟨_, rfl⟩
  obtain ⟨Y, hY⟩ : ∃ Y : Int, Y = (y : Int) := ⟨_, rfl⟩
  obtain ⟨Z, hZ⟩ : ∃ Z : Int, Z = (z : Int) := ⟨_, rfl⟩
  rw [← hX, ← hY] at hM
  rw [← hZ] at HD hHz hc0 hc1 ⊢
  rw [← hX] at ha0 ha1 ⊢
  rw [← hY] at hb0 hb1 ⊢
  clear hpe hsum hhigh hlow hH hL hR hDe hX hY hZ
  have d1 : (Z == 0) = false := by simp; omega
  have d2 : decide (X < 0) = false := by simp; omega
  have d3 : decide (Y < 0) = false := by simp; omega
  have d4 : decide (Z < 0) = false := by simp; omega
  have d5 : decide (Z ≤ H) = false := by simp; omega
  go_enter Try.func68, Try.ntmps68
  go_wp2_with (first | (go_at_call 72; refine (hM.out _).mono ?_; rintro e w' ⟨rfl, rfl⟩) | (go_at_call 55; refine (size_nn _ (by omega) (by omega) _).mono ?_; rintro e w' ⟨rfl, rfl⟩) | (go_at_call 73; refine (HD.out _).mono ?_; rintro e w' ⟨rfl, k, rfl⟩) | (go_at_call 74; refine (signed_nn _ (by omega) (by omega) _).mono ?_; rintro e w' ⟨rfl, rfl⟩))
  go_ret2
  exact ⟨rfl, _, rfl⟩
theorem muldiv_q (a b c : Int) (ha0 : 0 ≤ a) (ha1 : a ≤ 9223372036854775807) (hb0 : 0 ≤ b) (hb1 : b ≤ 9223372036854775807) (hc0 : 1 ≤ c) (hc1 : c ≤ 9223372036854775807)
    (hq : a * b / c ≤ 9223372036854775807) (w : World) :
    Calls Try.prog 68 #[.int .i64 a, .int .i64 b, .int .i64 c] w fun e w' => e = .returned (.tuple #[.int .i64 (a * b / c), .int .i64 0]) ∧ Q w w' :=
  (muldiv_nn a b c ha0 ha1 hb0 hb1 hc0 hc1 hq w).mono fun _ _ ⟨he, n, hn⟩ => ⟨he, by rw [hn]; exact (Q.refl w).drewN n⟩
end Go.Proofs.Ytmagppjmjjkbjaa
