/- Contracts of the reference's Floor and Round (package mapsheetsref01) for positive divisors. -/
import Derived.Test.YtmagppjmjjkbjaaRefA
namespace Go.Proofs.Ytmagppjmjjkbjaa
open Go.RowKit
set_option linter.unusedVariables false

theorem rsize_any (n m : Int) (h0 : -9223372036854775808 ≤ n) (h1 : n ≤ 9223372036854775807) (hm : m = (n.natAbs : Int)) (w : World) :
    Calls Try.prog 61 #[.int .i64 n] w fun e w' => e = .returned (.int .u64 m) ∧ w' = w := by
  by_cases h : n < 0
  · have e1 : IntKind.u64.wrap (-IntKind.u64.wrap n) = m := by simp only [IntKind.wrap_u64]; omega
    clear hm
    go_enter Try.func61, Try.ntmps61
    go_wp2
    go_ret
    exact ⟨rfl, rfl⟩
  · obtain rfl : m = n := by omega
    clear hm
    go_enter Try.func61, Try.ntmps61
    go_wp2
    go_ret
    exact ⟨rfl, rfl⟩

theorem parts_pos (a b m q r : Int) (mi : Bool) (ha0 : -9223372036854775807 ≤ a) (ha1 : a ≤ 9223372036854775807) (hb0 : 1 ≤ b) (hb1 : b ≤ 4611686018427387904) (hm : m = (a.natAbs : Int)) (hq : m / b = q) (hr : m % b = r) (hmi : mi = decide (a < 0)) (w : World) :
    Calls Try.prog 60 #[.int .i64 a, .int .i64 b] w fun e w' => e = .returned (.tuple #[.int .u64 q, .int .u64 r, .bool mi]) ∧ Q w w' := by
  have HA := Lib.hid (fun W => rsize_any a m (by omega) (by omega) hm W)
  have HB := Lib.hid (fun W => rsize_any b b (by omega) (by omega) (by omega) W)
  have hm0 : 0 ≤ m := by omega
  have hm1 : m ≤ 9223372036854775807 := by omega
  have hq0 : 0 ≤ q := by rw [← hq]; exact Int.ediv_nonneg hm0 (by omega)
  have hq1 : q ≤ m := by rw [← hq]; exact Int.ediv_le_self _ hm0
  have e1 : IntKind.u64.wrap (m.tdiv b) = q := by
    rw [Int.tdiv_eq_ediv_of_nonneg hm0, hq]
    simp only [IntKind.wrap_u64]
    omega
  have e2 : m.tmod b = r := by rw [Int.tmod_eq_emod_of_nonneg hm0, hr]
  have dn : ¬ b = 0 := by omega
  have d3 : decide (0 < b) = true := by simp; omega
  have d4 : decide (b < 0) = false := by simp; omega
  by_cases c1 : a < 0
  · have d1 : decide (a < 0) = true := by simpa using c1
    obtain rfl : mi = true := by rw [hmi]; exact d1
    clear hmi hq hr hm
    go_enter Try.func60, Try.ntmps60
    go_wp2_with fail
    go_quiet (first | (with_reducible exact Calls.quiet_of_same (HA.out _)) | (with_reducible exact Calls.quiet_of_same (HB.out _)))
    go_wp2_with fail
    go_ret3
    exact ⟨rfl, (Q.refl _).drewN _⟩
  · have d1 : decide (a < 0) = false := by simpa using c1
    obtain rfl : mi = false := by rw [hmi]; exact d1
    clear hmi hq hr hm
    by_cases c2 : 0 < a
    · have d2 : decide (0 < a) = true := by simpa using c2
      go_enter Try.func60, Try.ntmps60
      go_wp2_with fail
      go_quiet (first | (with_reducible exact Calls.quiet_of_same (HA.out _)) | (with_reducible exact Calls.quiet_of_same (HB.out _)))
      go_wp2_with fail
      go_ret3
      exact ⟨rfl, (Q.refl _).drewN _⟩
    · have d2 : decide (0 < a) = false := by simpa using c2
      go_enter Try.func60, Try.ntmps60
      go_wp2_with fail
      go_quiet (first | (with_reducible exact Calls.quiet_of_same (HA.out _)) | (with_reducible exact Calls.quiet_of_same (HB.out _)))
      go_wp2_with fail
      go_ret3
      exact ⟨rfl, (Q.refl _).drewN _⟩

theorem ret_i2 {k : IntKind} {a b : Int} {v : Value} (h : a = b) : Ending.returned (.tuple #[.int k a, v]) = .returned (.tuple #[.int k b, v]) := by rw [h]
theorem rsigned_yes (m : Int) (h0 : 0 ≤ m) (h1 : m ≤ 4611686018427387905) (w : World) :
    Calls Try.prog 62 #[.bool true, .int .u64 m] w fun e w' => e = .returned (.tuple #[.int .i64 (-m), .int .i64 0]) ∧ w = w' := by
  have E1 := Lib.hid (show wrap64 (IntKind.u64.wrap (-m)) = -m by simp only [IntKind.wrap_u64, wrap64]; omega)
  go_enter Try.func62, Try.ntmps62
  go_wp2_with fail
  go_ret2
  exact ⟨ret_i2 E1.out, rfl⟩
theorem rsigned_no (m : Int) (h0 : 0 ≤ m) (h1 : m ≤ 4611686018427387905) (w : World) :
    Calls Try.prog 62 #[.bool false, .int .u64 m] w fun e w' => e = .returned (.tuple #[.int .i64 m, .int .i64 0]) ∧ w = w' := by
  go_enter Try.func62, Try.ntmps62
  go_wp2_with fail
  go_ret2
  exact ⟨rfl, rfl⟩

theorem rnd_neg (a b q r : Int) (hb : 1 ≤ b) (h : -a = q * b + r) (hr0 : 0 ≤ r) (hr : r < b) : Num.rnd a b = if b < 2 * r then -(q + 1) else -q := by
  have e : 2 * a + b = (b - 2 * r) + (-q) * (2 * b) := by
    rw [Int.neg_mul, show q * (2 * b) = 2 * (q * b) by rw [Int.mul_left_comm]]
    omega
  unfold Num.rnd
  rw [e, Int.add_mul_ediv_right _ _ (by omega)]
  split
  · have : (b - 2 * r) / (2 * b) = -1 := by
      rw [show b - 2 * r = (3 * b - 2 * r) + (-1) * (2 * b) by omega, Int.add_mul_ediv_right _ _ (by omega), Int.ediv_eq_zero_of_lt (by omega) (by omega)]
      omega
    omega
  · rw [Int.ediv_eq_zero_of_lt (by omega) (by omega)]
    omega
theorem rnd_nn (a b q r : Int) (hb : 1 ≤ b) (hq : a / b = q) (hr : a % b = r) : Num.rnd a b = if b ≤ 2 * r then q + 1 else q := by
  split
  · rw [Num.rnd_up a b hb (by omega), hq]
  · rw [Num.rnd_down a b hb (by omega), hq]

set_option maxHeartbeats 1000000 in
theorem rround_core (a b q r : Int) (mi up : Bool) (ha0 : -9223372036854775807 ≤ a) (ha1 : a ≤ 9223372036854775807) (hb0 : 1 ≤ b) (hb1 : b ≤ 4611686018427387904) (hq0 : 0 ≤ q) (hq1 : q ≤ 4611686018427387904) (hr0 : 0 ≤ r) (hr1 : r < b)
    (HP : Hid (∀ w, Calls Try.prog 60 #[.int .i64 a, .int .i64 b] w fun e w' => e = .returned (.tuple #[.int .u64 q, .int .u64 r, .bool mi]) ∧ Q w w'))
    (hup : up = (decide (b - r < r) || (r == b - r && !mi))) (w : World) :
    Calls Try.prog 48 #[.int .i64 a, .int .i64 b] w fun e w' => e = .returned (.tuple #[.int .i64 (if mi then -(if up then q + 1 else q) else (if up then q + 1 else q)), .int .i64 0]) ∧ Q w w' := by
  have HB := Lib.hid (fun W => rsize_any b b (by omega) (by omega) (by omega) W)
  have dn : (b == 0) = false := by simp; omega
  have HU := Lib.hid hup
  clear hup
  have HSY := Lib.hid (fun (m : Int) W (h0 : 0 ≤ m) (h1 : m ≤ 4611686018427387905) => rsigned_yes m h0 h1 W)
  have HSN := Lib.hid (fun (m : Int) W (h0 : 0 ≤ m) (h1 : m ≤ 4611686018427387905) => rsigned_no m h0 h1 W)
  by_cases c1 : b - r < r
  · have d1 : decide (b - r < r) = true := by simpa using c1
    obtain rfl : up = true := by rw [HU.out, d1]; rfl
    clear HU c1
    cases mi
    · go_enter Try.func48, Try.ntmps48
      go_wp2_with fail
      refine (HP.out _).mono ?_
      rintro e w1 ⟨rfl, q1⟩
      go_wp2_with fail
      refine (HB.out _).mono ?_
      rintro e w2 ⟨rfl, rfl⟩
      go_wp2_with fail
      refine (HSN.out _ _ (by omega) (by omega)).mono ?_
      rintro e w3 ⟨rfl, rfl⟩
      go_wp2_with fail
      go_ret2
      exact ⟨rfl, q1⟩
    · go_enter Try.func48, Try.ntmps48
      go_wp2_with fail
      refine (HP.out _).mono ?_
      rintro e w1 ⟨rfl, q1⟩
      go_wp2_with fail
      refine (HB.out _).mono ?_
      rintro e w2 ⟨rfl, rfl⟩
      go_wp2_with fail
      refine (HSY.out _ _ (by omega) (by omega)).mono ?_
      rintro e w3 ⟨rfl, rfl⟩
      go_wp2_with fail
      go_ret2
      exact ⟨rfl, q1⟩
  · have d1 : decide (b - r < r) = false := by simpa using c1
    by_cases c2 : r = b - r
    · have d2 : (r == b - r) = true := by simpa using c2
      clear c1 c2
      cases mi
      · obtain rfl : up = true := by rw [HU.out, d1, d2]; rfl
        clear HU
        go_enter Try.func48, Try.ntmps48
        go_wp2_with fail
        refine (HP.out _).mono ?_
        rintro e w1 ⟨rfl, q1⟩
        go_wp2_with fail
        refine (HB.out _).mono ?_
        rintro e w2 ⟨rfl, rfl⟩
        go_wp2_with fail
        refine (HSN.out _ _ (by omega) (by omega)).mono ?_
        rintro e w3 ⟨rfl, rfl⟩
        go_wp2_with fail
        go_ret2
        exact ⟨rfl, q1⟩
      · obtain rfl : up = false := by rw [HU.out, d1, d2]; rfl
        clear HU
        go_enter Try.func48, Try.ntmps48
        go_wp2_with fail
        refine (HP.out _).mono ?_
        rintro e w1 ⟨rfl, q1⟩
        go_wp2_with fail
        refine (HB.out _).mono ?_
        rintro e w2 ⟨rfl, rfl⟩
        go_wp2_with fail
        refine (HSY.out _ _ (by omega) (by omega)).mono ?_
        rintro e w3 ⟨rfl, rfl⟩
        go_wp2_with fail
        go_ret2
        exact ⟨rfl, q1⟩
    · have d2 : (r == b - r) = false := by simpa using c2
      clear c1 c2
      obtain rfl : up = false := by rw [HU.out, d1, d2]; rfl
      clear HU
      cases mi
      · go_enter Try.func48, Try.ntmps48
        go_wp2_with fail
        refine (HP.out _).mono ?_
        rintro e w1 ⟨rfl, q1⟩
        go_wp2_with fail
        refine (HB.out _).mono ?_
        rintro e w2 ⟨rfl, rfl⟩
        go_wp2_with fail
        refine (HSN.out _ _ (by omega) (by omega)).mono ?_
        rintro e w3 ⟨rfl, rfl⟩
        go_wp2_with fail
        go_ret2
        exact ⟨rfl, q1⟩
      · go_enter Try.func48, Try.ntmps48
        go_wp2_with fail
        refine (HP.out _).mono ?_
        rintro e w1 ⟨rfl, q1⟩
        go_wp2_with fail
        refine (HB.out _).mono ?_
        rintro e w2 ⟨rfl, rfl⟩
        go_wp2_with fail
        refine (HSY.out _ _ (by omega) (by omega)).mono ?_
        rintro e w3 ⟨rfl, rfl⟩
        go_wp2_with fail
        go_ret2
        exact ⟨rfl, q1⟩

/-- Round of the reference, for positive divisors. -/
theorem rround_pos (a b : Int) (ha0 : -9223372036854775807 ≤ a) (ha1 : a ≤ 9223372036854775807) (hb0 : 2 ≤ b) (hb1 : b ≤ 4611686018427387904) (w : World) :
    Calls Try.prog 48 #[.int .i64 a, .int .i64 b] w fun e w' => e = .returned (.tuple #[.int .i64 (Num.rnd a b), .int .i64 0]) ∧ Q w w' := by
  obtain ⟨m, hm⟩ : ∃ m : Int, m = (a.natAbs : Int) := ⟨_, rfl⟩
  have hm0 : 0 ≤ m := by omega
  have hq0 : 0 ≤ m / b := Int.ediv_nonneg hm0 (by omega)
  have hq1 : m / b ≤ m := Int.ediv_le_self _ hm0
  have hr0 := Int.emod_nonneg m (show b ≠ 0 by omega)
  have hr1 := Int.emod_lt_of_pos m (show 0 < b by omega)
  have hd := Int.mul_ediv_add_emod m b
  rw [Int.mul_comm] at hd
  have hh : m / b * 2 ≤ m / b * b := Int.mul_le_mul_of_nonneg_left hb0 hq0
  have hb2 : 1 ≤ b := by omega
  have key := rround_core a b (m / b) (m % b) (decide (a < 0)) _ ha0 ha1 hb2 hb1 hq0 (by omega) hr0 hr1 (fun W => parts_pos a b m _ _ _ ha0 ha1 hb2 hb1 hm rfl rfl rfl W) rfl w
  refine key.mono fun e w' ⟨he, hw⟩ => ⟨he.trans (ret_i2 ?_), hw⟩
  by_cases c : a < 0
  · rw [if_pos (by simpa using c), rnd_neg a b (m / b) (m % b) hb2 (by omega) hr0 hr1]
    have e : (decide (b - m % b < m % b) || (m % b == b - m % b && !decide (a < 0))) = decide (b < 2 * (m % b)) := by
      rw [show decide (a < 0) = true by simpa using c]
      simp
      omega
    rw [e]
    by_cases d : b < 2 * (m % b) <;> simp [d]
  · have ea : a = m := by omega
    rw [if_neg (by simpa using c), rnd_nn a b (m / b) (m % b) hb2 (by rw [ea]) (by rw [ea])]
    have e : (decide (b - m % b < m % b) || (m % b == b - m % b && !decide (a < 0))) = decide (b ≤ 2 * (m % b)) := by
      rw [show decide (a < 0) = false by simpa using c, Bool.eq_iff_iff]
      simp
      omega
    rw [e]
    by_cases d : b ≤ 2 * (m % b) <;> simp [d]

set_option maxHeartbeats 1000000 in
/-- Floor of the reference, for positive divisors. -/
theorem rfloor_core (a b q r : Int) (mi : Bool) (ha0 : -9223372036854775807 ≤ a) (ha1 : a ≤ 9223372036854775807) (hb0 : 1 ≤ b) (hb1 : b ≤ 4611686018427387904) (hq0 : 0 ≤ q) (hq1 : q ≤ 4611686018427387904) (hr0 : 0 ≤ r) (hr1 : r < b)
    (HP : Hid (∀ w, Calls Try.prog 60 #[.int .i64 a, .int .i64 b] w fun e w' => e = .returned (.tuple #[.int .u64 q, .int .u64 r, .bool mi]) ∧ Q w w')) (w : World) :
    Calls Try.prog 54 #[.int .i64 a, .int .i64 b] w fun e w' => e = .returned (.tuple #[.int .i64 (if mi then -(if 0 < r then q + 1 else q) else q), .int .i64 0]) ∧ Q w w' := by
  have dn : (b == 0) = false := by simp; omega
  have HSY := Lib.hid (fun (m : Int) W (h0 : 0 ≤ m) (h1 : m ≤ 4611686018427387905) => rsigned_yes m h0 h1 W)
  have HSN := Lib.hid (fun (m : Int) W (h0 : 0 ≤ m) (h1 : m ≤ 4611686018427387905) => rsigned_no m h0 h1 W)
  cases mi
  · go_enter Try.func54, Try.ntmps54
    go_wp2_with fail
    refine (HP.out _).mono ?_
    rintro e w1 ⟨rfl, q1⟩
    go_wp2_with fail
    refine (HSN.out _ _ (by omega) (by omega)).mono ?_
    rintro e w3 ⟨rfl, rfl⟩
    go_wp2_with fail
    go_ret2
    exact ⟨rfl, q1⟩
  · by_cases c : 0 < r
    · have d : decide (0 < r) = true := by simpa using c
      rw [if_pos c]
      go_enter Try.func54, Try.ntmps54
      go_wp2_with fail
      refine (HP.out _).mono ?_
      rintro e w1 ⟨rfl, q1⟩
      go_wp2_with fail
      refine (HSY.out _ _ (by omega) (by omega)).mono ?_
      rintro e w3 ⟨rfl, rfl⟩
      go_wp2_with fail
      go_ret2
      exact ⟨rfl, q1⟩
    · have d : decide (0 < r) = false := by simpa using c
      rw [if_neg c]
      go_enter Try.func54, Try.ntmps54
      go_wp2_with fail
      refine (HP.out _).mono ?_
      rintro e w1 ⟨rfl, q1⟩
      go_wp2_with fail
      refine (HSY.out _ _ (by omega) (by omega)).mono ?_
      rintro e w3 ⟨rfl, rfl⟩
      go_wp2_with fail
      go_ret2
      exact ⟨rfl, q1⟩
theorem rfloor_pos (a b : Int) (ha0 : -9223372036854775807 ≤ a) (ha1 : a ≤ 9223372036854775807) (hb0 : 2 ≤ b) (hb1 : b ≤ 4611686018427387904) (w : World) :
    Calls Try.prog 54 #[.int .i64 a, .int .i64 b] w fun e w' => e = .returned (.tuple #[.int .i64 (a / b), .int .i64 0]) ∧ Q w w' := by
  obtain ⟨m, hm⟩ : ∃ m : Int, m = (a.natAbs : Int) := ⟨_, rfl⟩
  have hm0 : 0 ≤ m := by omega
  have hq0 : 0 ≤ m / b := Int.ediv_nonneg hm0 (by omega)
  have hq1 : m / b ≤ m := Int.ediv_le_self _ hm0
  have hr0 := Int.emod_nonneg m (show b ≠ 0 by omega)
  have hr1 := Int.emod_lt_of_pos m (show 0 < b by omega)
  have hd := Int.mul_ediv_add_emod m b
  rw [Int.mul_comm] at hd
  have hh : m / b * 2 ≤ m / b * b := Int.mul_le_mul_of_nonneg_left hb0 hq0
  have hb2 : 1 ≤ b := by omega
  have key := rfloor_core a b (m / b) (m % b) (decide (a < 0)) ha0 ha1 hb2 hb1 hq0 (by omega) hr0 hr1 (fun W => parts_pos a b m _ _ _ ha0 ha1 hb2 hb1 hm rfl rfl rfl W) w
  refine key.mono fun e w' ⟨he, hw⟩ => ⟨he.trans (ret_i2 ?_), hw⟩
  by_cases c : a < 0
  · rw [if_pos (by simpa using c)]
    have ea : a = -(m / b * b + m % b) := by omega
    by_cases d : 0 < m % b
    · rw [if_pos d]
      have : a / b = -(m / b + 1) := by
        rw [show a = (b - m % b) + (-(m / b + 1)) * b by rw [Int.neg_mul, Int.add_mul]; omega, Int.add_mul_ediv_right _ _ (by omega), Int.ediv_eq_zero_of_lt (by omega) (by omega)]
        omega
      exact this.symm
    · rw [if_neg d]
      have : a / b = -(m / b) := by
        rw [show a = 0 + (-(m / b)) * b by rw [Int.neg_mul]; omega, Int.add_mul_ediv_right _ _ (by omega)]
        simp
      exact this.symm
  · have ea : a = m := by omega
    rw [if_neg (by simpa using c), ea]
end Go.Proofs.Ytmagppjmjjkbjaa
