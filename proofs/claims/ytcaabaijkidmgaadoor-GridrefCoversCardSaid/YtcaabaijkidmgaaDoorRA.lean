/- RA: joined texts. -/
import Derived.Test.YtcaabaijkidmgaaDoorSin
/- Contracts of the reference's small functions (package mapsheetsref11): over, rounded, half, modulo. -/
namespace Go.Proofs.YtcaabaijkidmgaaDoor
open Go.RowKit
set_option linter.unusedVariables false

theorem wrap64_id (n : Int) (h0 : -9223372036854775808 ≤ n) (h1 : n ≤ 9223372036854775807) : wrap64 n = n := IntWalk.wrap64_in n ⟨h0, h1⟩

set_option maxHeartbeats 4000000 in
theorem rhalf_core (a b h a1 a0 b1 b0 p1 p2 p12 p0 p3 m p4 m1 r : Int) (ha0 : 0 ≤ a) (hb0 : 0 ≤ b) (hh1 : 1 ≤ h)
    (e1 : wrap64 (a.tdiv h) = a1) (e2 : a % h = a0) (e3 : wrap64 (b.tdiv h) = b1) (e4 : b % h = b0)
    (f1 : wrap64 (a1 * b0) = p1) (f2 : wrap64 (a0 * b1) = p2) (f3 : wrap64 (p1 + p2) = p12) (f4 : wrap64 (a0 * b0) = p0) (f5 : wrap64 (p0.tdiv h) = p3) (f6 : wrap64 (p12 + p3) = m)
    (g1 : wrap64 (a1 * b1) = p4) (g2 : wrap64 (m.tdiv h) = m1) (g3 : wrap64 (p4 + m1) = r) (w : World) :
    Calls Tryd.prog 99 #[.int .i64 a, .int .i64 b, .int .i64 h] w fun e w' => e = .returned (.int .i64 r) ∧ ∃ n, w' = w.drewN n := by
  have dn : ¬ h = 0 := by omega
  go_enter Tryd.func99, Tryd.ntmps99
  go_wp2
  go_quiet (fail)
  go_wp2
  go_quiet (fail)
  go_wp2
  go_ret
  exact ⟨by rw [← g3]; rfl, _, World.drewN_drewN _ _ _⟩

namespace Num
/-- The school method on parts above and below h. -/
theorem half_eq (a b h : Int) (ha0 : 0 ≤ a) (hb0 : 0 ≤ b) (hh1 : 1 ≤ h) :
    a / h * (b / h) + (a / h * (b % h) + a % h * (b / h) + a % h * (b % h) / h) / h = a * b / (h * h) := by
  have ea := Int.mul_ediv_add_emod a h
  have eb := Int.mul_ediv_add_emod b h
  generalize a / h = a1 at *
  generalize a % h = a0 at *
  generalize b / h = b1 at *
  generalize b % h = b0 at *
  subst ea eb
  rw [← Int.ediv_ediv_of_nonneg (by omega : (0 : Int) ≤ h)]
  have e : (h * a1 + a0) * (h * b1 + b0) = a0 * b0 + h * (h * (a1 * b1) + (a1 * b0 + a0 * b1)) := by
    simp only [Int.mul_add, Int.add_mul]
    have x1 : h * a1 * (h * b1) = h * (h * (a1 * b1)) := by rw [Int.mul_assoc, Int.mul_left_comm a1]
    have x2 : h * a1 * b0 = h * (a1 * b0) := by rw [Int.mul_assoc]
    have x3 : a0 * (h * b1) = h * (a0 * b1) := by rw [Int.mul_left_comm]
    rw [x1, x2, x3]
    omega
  rw [e, Int.add_mul_ediv_left _ _ (by omega)]
  have e2 : a0 * b0 / h + (h * (a1 * b1) + (a1 * b0 + a0 * b1)) = (a1 * b0 + a0 * b1 + a0 * b0 / h) + h * (a1 * b1) := by omega
  rw [e2, Int.add_mul_ediv_left _ _ (by omega)]
  omega
end Num

theorem rhalf_q (a b h : Int) (ha0 : 0 ≤ a) (hb0 : 0 ≤ b) (hh1 : 1 ≤ h) (hh2 : h ≤ 1073741824) (ha1 : a ≤ 9223372036854775807) (hb1 : b ≤ 9223372036854775807)
    (hA : a / h ≤ 4294967296) (hB : b / h ≤ 2147483648) (hr : a * b / (h * h) ≤ 9223372036854775807) (w : World) :
    Calls Tryd.prog 99 #[.int .i64 a, .int .i64 b, .int .i64 h] w fun e w' => e = .returned (.int .i64 (a * b / (h * h))) ∧ Q w w' := by
  have a10 := Int.ediv_nonneg ha0 (show 0 ≤ h by omega)
  have b10 := Int.ediv_nonneg hb0 (show 0 ≤ h by omega)
  have a00 := Int.emod_nonneg a (show h ≠ 0 by omega)
  have b00 := Int.emod_nonneg b (show h ≠ 0 by omega)
  have a01 := Int.emod_lt_of_pos a (show 0 < h by omega)
  have b01 := Int.emod_lt_of_pos b (show 0 < h by omega)
  have he := Num.half_eq a b h ha0 hb0 hh1
  have q1 : a / h * (b % h) ≤ 4294967296 * 1073741824 := Int.mul_le_mul hA (by omega) b00 (by omega)
  have q2 : a % h * (b / h) ≤ 1073741824 * 2147483648 := Int.mul_le_mul (by omega) hB b10 (by omega)
  have q3 : a % h * (b % h) ≤ 1073741824 * 1073741824 := Int.mul_le_mul (by omega) (by omega) b00 (by omega)
  have q10 := Int.mul_nonneg a10 b00
  have q20 := Int.mul_nonneg a00 b10
  have q30 := Int.mul_nonneg a00 b00
  have q40 := Int.mul_nonneg a10 b10
  have q5 : a % h * (b % h) / h ≤ a % h * (b % h) := Int.ediv_le_self _ q30
  have q50 := Int.ediv_nonneg q30 (show 0 ≤ h by omega)
  have q5' : a % h * (b % h) / h ≤ 1073741824 := by
    have h1 : a % h * (b % h) ≤ a % h * h := Int.mul_le_mul_of_nonneg_left (by omega) a00
    have h2 : a % h * (b % h) / h ≤ a % h * h / h := Int.ediv_le_ediv (by omega) h1
    rw [Int.mul_ediv_cancel _ (by omega)] at h2
    omega
  have q60 : 0 ≤ (a / h * (b % h) + a % h * (b / h) + a % h * (b % h) / h) / h := Int.ediv_nonneg (by omega) (by omega)
  have q6 : (a / h * (b % h) + a % h * (b / h) + a % h * (b % h) / h) / h ≤ a / h * (b % h) + a % h * (b / h) + a % h * (b % h) / h := Int.ediv_le_self _ (by omega)
  refine (rhalf_core a b h (a / h) (a % h) (b / h) (b % h) (a / h * (b % h)) (a % h * (b / h)) (a / h * (b % h) + a % h * (b / h)) (a % h * (b % h)) (a % h * (b % h) / h) (a / h * (b % h) + a % h * (b / h) + a % h * (b % h) / h) (a / h * (b / h)) ((a / h * (b % h) + a % h * (b / h) + a % h * (b % h) / h) / h) (a * b / (h * h)) ha0 hb0 hh1 ?_ rfl ?_ rfl ?_ ?_ ?_ ?_ ?_ ?_ ?_ ?_ ?_ w).mono fun _ _ ⟨he, n, hn⟩ => ⟨he, by rw [hn]; exact (Q.refl w).drewN n⟩
  · rw [Int.tdiv_eq_ediv_of_nonneg ha0]
    exact wrap64_id _ (by omega) (by omega)
  · rw [Int.tdiv_eq_ediv_of_nonneg hb0]
    exact wrap64_id _ (by omega) (by omega)
  · exact wrap64_id _ (by omega) (by omega)
  · exact wrap64_id _ (by omega) (by omega)
  · exact wrap64_id _ (by omega) (by omega)
  · exact wrap64_id _ (by omega) (by omega)
  · rw [Int.tdiv_eq_ediv_of_nonneg q30]
    exact wrap64_id _ (by omega) (by omega)
  · exact wrap64_id _ (by omega) (by omega)
  · exact wrap64_id _ (by omega) (by omega)
  · rw [Int.tdiv_eq_ediv_of_nonneg (by omega)]
    exact wrap64_id _ (by omega) (by omega)
  · rw [he]
    exact wrap64_id _ (by omega) (by omega)

theorem over_any (n d : Int) (hn0 : -9223372036854775808 ≤ n) (hn1 : n ≤ 9223372036854775807) (hd0 : 1 ≤ d) (hd1 : d ≤ 9223372036854775807) (w : World) :
    Calls Tryd.prog 97 #[.int .i64 n, .int .i64 d] w fun e w' => e = .returned (.int .i64 (n / d)) ∧ w = w' := by
  obtain ⟨h1, h2, h3, h4, h5⟩ := Num.tdiv_pos n d hd0
  obtain ⟨h6, h7⟩ := Num.tdiv_bd n d hd0 hn0 hn1
  obtain ⟨h8, h9⟩ := Num.ediv_bd n d hd0 hn0 hn1
  have dn : ¬ d = 0 := by omega
  obtain ⟨t, ht⟩ : ∃ t, n.tdiv d = t := ⟨_, rfl⟩
  obtain ⟨m, hm⟩ : ∃ m, n.tmod d = m := ⟨_, rfl⟩
  rw [ht, hm] at h1 h4 h5
  rw [hm] at h2 h3
  rw [ht] at h6 h7
  have H4 := Lib.hid h4
  have H5 := Lib.hid h5
  clear h1 h4 h5
  by_cases c : m < 0
  · have HF := Lib.hid (H5.out c)
    have hb : -9223372036854775808 ≤ t - 1 := by have := HF.out; omega
    go_enter Tryd.func97, Tryd.ntmps97
    go_wp2
    go_ret
    exact ⟨by rw [HF.out]; rfl, rfl⟩
  · have HF := Lib.hid (H4.out (by omega))
    go_enter Tryd.func97, Tryd.ntmps97
    go_wp2
    go_ret
    exact ⟨by rw [HF.out]; rfl, rfl⟩

theorem rnd_even (n c : Int) (hc : 1 ≤ c) : (n + c) / (2 * c) = Ser.rnd n (2 * c) := by
  unfold Ser.rnd
  rw [show 2 * n + 2 * c = 2 * (n + c) by omega, Int.mul_ediv_mul_of_pos _ _ (by omega)]

theorem rounded_any (n c : Int) (hn0 : -9223372036854775808 ≤ n) (hn1 : n + c ≤ 9223372036854775807) (hc0 : 1 ≤ c) (hc1 : 2 * c ≤ 9223372036854775807) (d : Int) (hd : Hid (d = 2 * c)) (w : World) :
    Calls Tryd.prog 84 #[.int .i64 n, .int .i64 d] w fun e w' => e = .returned (.int .i64 (Ser.rnd n d)) ∧ w = w' := by
  have hd0 : 1 ≤ d := by have := hd.out; omega
  have hd1 : d ≤ 9223372036854775807 := by have := hd.out; omega
  have hd2 : d / 2 = c := by have := hd.out; omega
  have HE := Lib.hid (show (n + c) / d = Ser.rnd n d by rw [hd.out]; exact rnd_even n c hc0)
  go_enter Tryd.func84, Tryd.ntmps84
  go_wp2_with (go_at_call 97; refine (over_any _ _ (by omega) (by omega) hd0 hd1 _).mono ?_; rintro e w' ⟨rfl, rfl⟩)
  go_ret
  exact ⟨by rw [← HE.out]; rfl, rfl⟩

theorem modulo_any (x : Int) (h0 : -9223372036854775808 ≤ x) (h1 : x ≤ 9223372036854775807) (w : World) :
    Calls Tryd.prog 88 #[.int .i64 x] w fun e w' => e = .returned (.int .i64 (x % 1296000)) ∧ w = w' := by
  have HO := Lib.hid (fun W => over_any x 1296000 h0 h1 (by omega) (by omega) W)
  obtain ⟨q, hq⟩ : ∃ q, x / 1296000 = q := ⟨_, rfl⟩
  have HX := Lib.hid (show wrap64 (x - wrap64 (q * 1296000)) = x % 1296000 by unfold wrap64; omega)
  rw [hq] at HO
  clear hq
  go_enter Tryd.func88, Tryd.ntmps88
  go_wp2_with (go_at_call 97; refine (HO.out _).mono ?_; rintro e w' ⟨rfl, rfl⟩)
  go_ret
  exact ⟨by rw [← HX.out]; rfl, rfl⟩

end Go.Proofs.YtcaabaijkidmgaaDoor

/- Contracts of the reference's Floor and Round (package mapsheetsref01) for positive divisors. -/
namespace Go.Proofs.YtcaabaijkidmgaaDoor
open Go.RowKit
set_option linter.unusedVariables false

theorem rsize_any (n m : Int) (h0 : -9223372036854775808 ≤ n) (h1 : n ≤ 9223372036854775807) (hm : m = (n.natAbs : Int)) (w : World) :
    Calls Tryd.prog 86 #[.int .i64 n] w fun e w' => e = .returned (.int .u64 m) ∧ w' = w := by
  by_cases h : n < 0
  · have e1 : IntKind.u64.wrap (-IntKind.u64.wrap n) = m := by simp only [IntKind.wrap_u64]; omega
    clear hm
    go_enter Tryd.func86, Tryd.ntmps86
    go_wp2
    go_ret
    exact ⟨rfl, rfl⟩
  · obtain rfl : m = n := by omega
    clear hm
    go_enter Tryd.func86, Tryd.ntmps86
    go_wp2
    go_ret
    exact ⟨rfl, rfl⟩

theorem parts_pos (a b m q r : Int) (mi : Bool) (ha0 : -9223372036854775807 ≤ a) (ha1 : a ≤ 9223372036854775807) (hb0 : 1 ≤ b) (hb1 : b ≤ 4611686018427387904) (hm : m = (a.natAbs : Int)) (hq : m / b = q) (hr : m % b = r) (hmi : mi = decide (a < 0)) (w : World) :
    Calls Tryd.prog 85 #[.int .i64 a, .int .i64 b] w fun e w' => e = .returned (.tuple #[.int .u64 q, .int .u64 r, .bool mi]) ∧ Q w w' := by
  have HA := Lib.hid (fun W => rsize_any a m (by omega) (by omega) hm W)
  have HB := Lib.hid (fun W => rsize_any b b (by omega) (by omega) (by omega) W)
  have hm0 : 0 ≤ m := by omega
  have hm1 : m ≤ 9223372036854775807 := by omega
  have hq0 : 0 ≤ q := by rw [← hq]; exact Int.ediv_nonneg hm0 (by omega)
  have hq1 : q ≤ m := by rw [← hq]; exact Int.ediv_le_self _ hm0
  have e1 : IntKind.u64.wrap (m.tdiv b) = q := by
    rw [Int.tdiv_eq_ediv_of_nonneg hm0, hq]
    simp only [IntKind.wrap_u64]
    omega
  have e2 : m.tmod b = r := by rw [Int.tmod_eq_emod_of_nonneg hm0, hr]
  have dn : ¬ b = 0 := by omega
  have d3 : decide (0 < b) = true := by simp; omega
  have d4 : decide (b < 0) = false := by simp; omega
  by_cases c1 : a < 0
  · have d1 : decide (a < 0) = true := by simpa using c1
    obtain rfl : mi = true := by rw [hmi]; exact d1
    clear hmi hq hr hm
    go_enter Tryd.func85, Tryd.ntmps85
    go_wp2_with fail
    go_quiet (first | (with_reducible exact Calls.quiet_of_same (HA.out _)) | (with_reducible exact Calls.quiet_of_same (HB.out _)))
    go_wp2_with fail
    go_ret3
    exact ⟨rfl, (Q.refl _).drewN _⟩
  · have d1 : decide (a < 0) = false := by simpa using c1
    obtain rfl : mi = false := by rw [hmi]; exact d1
    clear hmi hq hr hm
    by_cases c2 : 0 < a
    · have d2 : decide (0 < a) = true := by simpa using c2
      go_enter Tryd.func85, Tryd.ntmps85
      go_wp2_with fail
      go_quiet (first | (with_reducible exact Calls.quiet_of_same (HA.out _)) | (with_reducible exact Calls.quiet_of_same (HB.out _)))
      go_wp2_with fail
      go_ret3
      exact ⟨rfl, (Q.refl _).drewN _⟩
    · have d2 : decide (0 < a) = false := by simpa using c2
      go_enter Tryd.func85, Tryd.ntmps85
      go_wp2_with fail
      go_quiet (first | (with_reducible exact Calls.quiet_of_same (HA.out _)) | (with_reducible exact Calls.quiet_of_same (HB.out _)))
      go_wp2_with fail
      go_ret3
      exact ⟨rfl, (Q.refl _).drewN _⟩

theorem ret_i2 {k : IntKind} {a b : Int} {v : Value} (h : a = b) : Ending.returned (.tuple #[.int k a, v]) = .returned (.tuple #[.int k b, v]) := by rw [h]
theorem rsigned_yes (m : Int) (h0 : 0 ≤ m) (h1 : m ≤ 4611686018427387905) (w : World) :
    Calls Tryd.prog 87 #[.bool true, .int .u64 m] w fun e w' => e = .returned (.tuple #[.int .i64 (-m), .int .i64 0]) ∧ w = w' := by
  have E1 := Lib.hid (show wrap64 (IntKind.u64.wrap (-m)) = -m by simp only [IntKind.wrap_u64, wrap64]; omega)
  go_enter Tryd.func87, Tryd.ntmps87
  go_wp2_with fail
  go_ret2
  exact ⟨ret_i2 E1.out, rfl⟩
theorem rsigned_no (m : Int) (h0 : 0 ≤ m) (h1 : m ≤ 4611686018427387905) (w : World) :
    Calls Tryd.prog 87 #[.bool false, .int .u64 m] w fun e w' => e = .returned (.tuple #[.int .i64 m, .int .i64 0]) ∧ w = w' := by
  go_enter Tryd.func87, Tryd.ntmps87
  go_wp2_with fail
  go_ret2
  exact ⟨rfl, rfl⟩

theorem rnd_neg (a b q r : Int) (hb : 1 ≤ b) (h : -a = q * b + r) (hr0 : 0 ≤ r) (hr : r < b) : Num.rnd a b = if b < 2 * r then -(q + 1) else -q := by
  have e : 2 * a + b = (b - 2 * r) + (-q) * (2 * b) := by
    rw [Int.neg_mul, show q * (2 * b) = 2 * (q * b) by rw [Int.mul_left_comm]]
    omega
  unfold Num.rnd
  rw [e, Int.add_mul_ediv_right _ _ (by omega)]
  split
  · have : (b - 2 * r) / (2 * b) = -1 := by
      rw [show b - 2 * r = (3 * b - 2 * r) + (-1) * (2 * b) by omega, Int.add_mul_ediv_right _ _ (by omega), Int.ediv_eq_zero_of_lt (by omega) (by omega)]
      omega
    omega
  · rw [Int.ediv_eq_zero_of_lt (by omega) (by omega)]
    omega
theorem rnd_nn (a b q r : Int) (hb : 1 ≤ b) (hq : a / b = q) (hr : a % b = r) : Num.rnd a b = if b ≤ 2 * r then q + 1 else q := by
  split
  · rw [Num.rnd_up a b hb (by omega), hq]
  · rw [Num.rnd_down a b hb (by omega), hq]

set_option maxHeartbeats 1000000 in
theorem rround_core (a b q r : Int) (mi up : Bool) (ha0 : -9223372036854775807 ≤ a) (ha1 : a ≤ 9223372036854775807) (hb0 : 1 ≤ b) (hb1 : b ≤ 4611686018427387904) (hq0 : 0 ≤ q) (hq1 : q ≤ 4611686018427387904) (hr0 : 0 ≤ r) (hr1 : r < b)
    (HP : Hid (∀ w, Calls Tryd.prog 85 #[.int .i64 a, .int .i64 b] w fun e w' => e = .returned (.tuple #[.int .u64 q, .int .u64 r, .bool mi]) ∧ Q w w'))
    (hup : up = (decide (b - r < r) || (r == b - r && !mi))) (w : World) :
    Calls Tryd.prog 63 #[.int .i64 a, .int .i64 b] w fun e w' => e = .returned (.tuple #[.int .i64 (if mi then -(if up then q + 1 else q) else (if up then q + 1 else q)), .int .i64 0]) ∧ Q w w' := by
  have HB := Lib.hid (fun W => rsize_any b b (by omega) (by omega) (by omega) W)
  have dn : (b == 0) = false := by simp; omega
  have HU := Lib.hid hup
  clear hup
  have HSY := Lib.hid (fun (m : Int) W (h0 : 0 ≤ m) (h1 : m ≤ 4611686018427387905) => rsigned_yes m h0 h1 W)
  have HSN := Lib.hid (fun (m : Int) W (h0 : 0 ≤ m) (h1 : m ≤ 4611686018427387905) => rsigned_no m h0 h1 W)
  by_cases c1 : b - r < r
  · have d1 : decide (b - r < r) = true := by simpa using c1
    obtain rfl : up = true := by rw [HU.out, d1]; rfl
    clear HU c1
    cases mi
    · go_enter Tryd.func63, Tryd.ntmps63
      go_wp2_with fail
      refine (HP.out _).mono ?_
      rintro e w1 ⟨rfl, q1⟩
      go_wp2_with fail
      refine (HB.out _).mono ?_
      rintro e w2 ⟨rfl, rfl⟩
      go_wp2_with fail
      refine (HSN.out _ _ (by omega) (by omega)).mono ?_
      rintro e w3 ⟨rfl, rfl⟩
      go_wp2_with fail
      go_ret2
      exact ⟨rfl, q1⟩
    · go_enter Tryd.func63, Tryd.ntmps63
      go_wp2_with fail
      refine (HP.out _).mono ?_
      rintro e w1 ⟨rfl, q1⟩
      go_wp2_with fail
      refine (HB.out _).mono ?_
      rintro e w2 ⟨rfl, rfl⟩
      go_wp2_with fail
      refine (HSY.out _ _ (by omega) (by omega)).mono ?_
      rintro e w3 ⟨rfl, rfl⟩
      go_wp2_with fail
      go_ret2
      exact ⟨rfl, q1⟩
  · have d1 : decide (b - r < r) = false := by simpa using c1
    by_cases c2 : r = b - r
    · have d2 : (r == b - r) = true := by simpa using c2
      clear c1 c2
      cases mi
      · obtain rfl : up = true := by rw [HU.out, d1, d2]; rfl
        clear HU
        go_enter Tryd.func63, Tryd.ntmps63
        go_wp2_with fail
        refine (HP.out _).mono ?_
        rintro e w1 ⟨rfl, q1⟩
        go_wp2_with fail
        refine (HB.out _).mono ?_
        rintro e w2 ⟨rfl, rfl⟩
        go_wp2_with fail
        refine (HSN.out _ _ (by omega) (by omega)).mono ?_
        rintro e w3 ⟨rfl, rfl⟩
        go_wp2_with fail
        go_ret2
        exact ⟨rfl, q1⟩
      · obtain rfl : up = false := by rw [HU.out, d1, d2]; rfl
        clear HU
        go_enter Tryd.func63, Tryd.ntmps63
        go_wp2_with fail
        refine (HP.out _).mono ?_
        rintro e w1 ⟨rfl, q1⟩
        go_wp2_with fail
        refine (HB.out _).mono ?_
        rintro e w2 ⟨rfl, rfl⟩
        go_wp2_with fail
        refine (HSY.out _ _ (by omega) (by omega)).mono ?_
        rintro e w3 ⟨rfl, rfl⟩
        go_wp2_with fail
        go_ret2
        exact ⟨rfl, q1⟩
    · have d2 : (r == b - r) = false := by simpa using c2
      clear c1 c2
      obtain rfl : up = false := by rw [HU.out, d1, d2]; rfl
      clear HU
      cases mi
      · go_enter Tryd.func63, Tryd.ntmps63
        go_wp2_with fail
        refine (HP.out _).mono ?_
        rintro e w1 ⟨rfl, q1⟩
        go_wp2_with fail
        refine (HB.out _).mono ?_
        rintro e w2 ⟨rfl, rfl⟩
        go_wp2_with fail
        refine (HSN.out _ _ (by omega) (by omega)).mono ?_
        rintro e w3 ⟨rfl, rfl⟩
        go_wp2_with fail
        go_ret2
        exact ⟨rfl, q1⟩
      · go_enter Tryd.func63, Tryd.ntmps63
        go_wp2_with fail
        refine (HP.out _).mono ?_
        rintro e w1 ⟨rfl, q1⟩
        go_wp2_with fail
        refine (HB.out _).mono ?_
        rintro e w2 ⟨rfl, rfl⟩
        go_wp2_with fail
        refine (HSY.out _ _ (by omega) (by omega)).mono ?_
        rintro e w3 ⟨rfl, rfl⟩
        go_wp2_with fail
        go_ret2
        exact ⟨rfl, q1⟩

/-- Round of the reference, for positive divisors. -/
theorem rround_pos (a b : Int) (ha0 : -9223372036854775807 ≤ a) (ha1 : a ≤ 9223372036854775807) (hb0 : 2 ≤ b) (hb1 : b ≤ 4611686018427387904) (w : World) :
    Calls Tryd.prog 63 #[.int .i64 a, .int .i64 b] w fun e w' => e = .returned (.tuple #[.int .i64 (Num.rnd a b), .int .i64 0]) ∧ Q w w' := by
  obtain ⟨m, hm⟩ : ∃ m : Int, m = (a.natAbs : Int) := ⟨_, rfl⟩
  have hm0 : 0 ≤ m := by omega
  have hq0 : 0 ≤ m / b := Int.ediv_nonneg hm0 (by omega)
  have hq1 : m / b ≤ m := Int.ediv_le_self _ hm0
  have hr0 := Int.emod_nonneg m (show b ≠ 0 by omega)
  have hr1 := Int.emod_lt_of_pos m (show 0 < b by omega)
  have hd := Int.mul_ediv_add_emod m b
  rw [Int.mul_comm] at hd
  have hh : m / b * 2 ≤ m / b * b := Int.mul_le_mul_of_nonneg_left hb0 hq0
  have hb2 : 1 ≤ b := by omega
  have key := rround_core a b (m / b) (m % b) (decide (a < 0)) _ ha0 ha1 hb2 hb1 hq0 (by omega) hr0 hr1 (fun W => parts_pos a b m _ _ _ ha0 ha1 hb2 hb1 hm rfl rfl rfl W) rfl w
  refine key.mono fun e w' ⟨he, hw⟩ => ⟨he.trans (ret_i2 ?_), hw⟩
  by_cases c : a < 0
  · rw [if_pos (by simpa using c), rnd_neg a b (m / b) (m % b) hb2 (by omega) hr0 hr1]
    have e : (decide (b - m % b < m % b) || (m % b == b - m % b && !decide (a < 0))) = decide (b < 2 * (m % b)) := by
      rw [show decide (a < 0) = true by simpa using c]
      simp
      omega
    rw [e]
    by_cases d : b < 2 * (m % b) <;> simp [d]
  · have ea : a = m := by omega
    rw [if_neg (by simpa using c), rnd_nn a b (m / b) (m % b) hb2 (by rw [ea]) (by rw [ea])]
    have e : (decide (b - m % b < m % b) || (m % b == b - m % b && !decide (a < 0))) = decide (b ≤ 2 * (m % b)) := by
      rw [show decide (a < 0) = false by simpa using c, Bool.eq_iff_iff]
      simp
      omega
    rw [e]
    by_cases d : b ≤ 2 * (m % b) <;> simp [d]

end Go.Proofs.YtcaabaijkidmgaaDoor

/- Contracts of the reference's fine, Sin, Cos and Rad (package mapsheetsref11): each returns the number of the same plain Lean function as the program's. -/
namespace Go.Proofs.YtcaabaijkidmgaaDoor
open Go.RowKit
set_option linter.unusedVariables false

theorem rhalf60 (x a : Int) (hx0 : 0 ≤ x) (ha0 : 0 ≤ a) (hx1 : x ≤ 4611686018427387904) (ha1 : a ≤ 1811004864519280710) (hr : x * a / 1152921504606846976 ≤ 9223372036854775807) (w : World) :
    Calls Tryd.prog 99 #[.int .i64 x, .int .i64 a, .int .i64 1073741824] w fun e w' => e = .returned (.int .i64 (x * a / 1152921504606846976)) ∧ Q w w' :=
  rhalf_q x a 1073741824 hx0 ha0 (by omega) (by omega) (by omega) (by omega) (by omega) (by omega) hr w

set_option maxRecDepth 100000 in
set_option maxHeartbeats 4000000 in
theorem rfine_any (t : Int) (h0 : 0 ≤ t) (h1 : t ≤ 324000) (w : World) :
    Calls Tryd.prog 90 #[.int .i64 t] w fun e w' => e = .returned (.int .i64 (Ser.fine t)) ∧ Q w w' := by
  have hab := Ser.ang_bd t h0 h1
  have hav : t * 5589521186787 + t * 585421 / 648000 = Ser.ang t := by unfold Ser.ang; omega
  have HF := Lib.hid (show Ser.fine t = Ser.part (Ser.ang t) 14 from rfl)
  obtain ⟨a, ha⟩ : ∃ a : Int, Ser.ang t = a := ⟨_, rfl⟩
  rw [ha] at hab hav HF
  obtain ⟨ha0, ha1⟩ := hab
  clear ha
  go_enter Tryd.func90, Tryd.ntmps90
  go_wp2_with fail
  clear hav
  go_loopw [4, 5, 6] (fun s p i wr => ∃ k : Nat, k ≤ 13 ∧ i = .int .i64 (k + 1) ∧ p = .int .i64 (Ser.term a k) ∧ s = .int .i64 (Ser.part a (k + 1)) ∧ Q w wr) (fun _ _ i _ => 14 - (intOf i).toNat)
  case atStart => exact ⟨0, by omega, rfl, rfl, by simp [Ser.part, Ser.term], Q.refl _⟩
  case round =>
    obtain ⟨k, hk, rfl, rfl, rfl, hq⟩ := hrel
    by_cases hlt : k < 13
    · have hd1 := Ser.den_pos k
      have hd2 := den_le k hlt
      have htd := Ser.term_down a ha0 (by omega) k
      have HT := Lib.hid (show Ser.term a (k + 1) = Ser.term a k * a / 1152921504606846976 * a / 1152921504606846976 / (2 * ((k : Int) + 1) * (2 * ((k : Int) + 1) + 1)) from rfl)
      obtain ⟨d, hd⟩ : ∃ d : Int, 2 * ((k : Int) + 1) * (2 * ((k : Int) + 1) + 1) = d := ⟨_, rfl⟩
      rw [hd] at HT hd1 hd2
      obtain ⟨x, hx⟩ : ∃ x : Int, Ser.term a k = x := ⟨_, rfl⟩
      rw [hx] at HT htd
      obtain ⟨hx0, hx1, ht0, ht1⟩ := htd
      have hy := Ser.mul_bd x a hx0 ha0 (by omega)
      have HY := Lib.hid (fun W => rhalf60 x a hx0 ha0 (by omega) (by omega) (by omega) W)
      obtain ⟨y, hye⟩ : ∃ y : Int, x * a / 1152921504606846976 = y := ⟨_, rfl⟩
      rw [hye] at HY HT hy
      obtain ⟨hy0, hy1⟩ := hy
      have hz := Ser.mul_bd y a hy0 ha0 (by omega)
      have HZ := Lib.hid (fun W => rhalf60 y a hy0 ha0 (by omega) (by omega) (by omega) W)
      obtain ⟨z, hze⟩ : ∃ z : Int, y * a / 1152921504606846976 = z := ⟨_, rfl⟩
      rw [hze] at HZ HT hz
      obtain ⟨hz0, hz1⟩ := hz
      clear hye hze
      have hp := Ser.part_in a ha0 (by omega) (k + 1)
      have hp1 := Ser.part_in a ha0 (by omega) (k + 1 + 1)
      have HP := Lib.hid (show Ser.part a (k + 1 + 1) = if (k + 1) % 2 = 0 then Ser.part a (k + 1) + Ser.term a (k + 1) else Ser.part a (k + 1) - Ser.term a (k + 1) from rfl)
      obtain ⟨s, hs⟩ : ∃ s : Int, Ser.part a (k + 1) = s := ⟨_, rfl⟩
      rw [HT.out] at ht0 ht1
      rw [hs, HT.out] at HP
      rw [hs] at hp
      obtain ⟨hp0, hpl⟩ := hp
      obtain ⟨u, hu⟩ : ∃ u : Int, z / d = u := ⟨_, rfl⟩
      rw [hu] at HT HP ht0 ht1
      by_cases hev : (k + 1) % 2 = 0
      · have he : (((k : Int) + 1) % 2 == 1) = false := by simp; omega
        rw [if_pos hev] at HP
        rw [HP.out] at hp1
        go_wp2_with fail
        refine (HY.out _).mono ?_
        rintro e w2 ⟨rfl, hq2⟩
        go_wp2_with fail
        refine (HZ.out _).mono ?_
        rintro e w3 ⟨rfl, hq3⟩
        go_wp2_with fail
        go_roundw
        case rel => exact ⟨k + 1, by omega, by go_num, by rw [HT.out, ← hu], by rw [HP.out], hq.trans (hq2.trans hq3)⟩
        case measure => simp [intOf]; omega
      · have he : (((k : Int) + 1) % 2 == 1) = true := by simp; omega
        rw [if_neg hev] at HP
        rw [HP.out] at hp1
        go_wp2_with fail
        refine (HY.out _).mono ?_
        rintro e w2 ⟨rfl, hq2⟩
        go_wp2_with fail
        refine (HZ.out _).mono ?_
        rintro e w3 ⟨rfl, hq3⟩
        go_wp2_with fail
        go_roundw
        case rel => exact ⟨k + 1, by omega, by go_num, by rw [HT.out, ← hu], by rw [HP.out], hq.trans (hq2.trans hq3)⟩
        case measure => simp [intOf]; omega
    · obtain rfl : k = 13 := by omega
      go_wp2_with fail
      go_ret
      exact ⟨by rw [HF.out]; rfl, hq⟩

/-- The reference's sine of an angle from 0 to half a turn. -/
theorem rsin_half (x : Int) (h0 : 0 ≤ x) (h1 : x ≤ 648000) (w : World) :
    Calls Tryd.prog 67 #[.int .i64 x] w fun e w' => e = .returned (.int .i64 (Ser.sin0 x)) ∧ Q w w' := by
  have HT := Lib.hid (fun W => modulo_any x (by omega) (by omega) W)
  have e : x % 1296000 = x := by omega
  rw [e] at HT
  clear e
  by_cases c : 324000 < x
  · have hmin : min x (648000 - x) = 648000 - x := by omega
    have HF := Lib.hid (fun W => rfine_any (648000 - x) (by omega) (by omega) W)
    have HS := Lib.hid (show Ser.sin0 x = Ser.rnd (Ser.fine (648000 - x)) 1073741824 by unfold Ser.sin0; rw [if_pos c])
    have hb := Ser.fine_bd (648000 - x) (by omega) (by omega)
    obtain ⟨f, hf⟩ : ∃ f, Ser.fine (648000 - x) = f := ⟨_, rfl⟩
    rw [hf] at HF HS hb
    obtain ⟨hb0, hb1⟩ := hb
    clear hf
    go_enter Tryd.func67, Tryd.ntmps67
    go_wp2_with (first | (go_at_call 88; refine (HT.out _).mono ?_; rintro e w' ⟨rfl, rfl⟩) | (go_at_call 90; refine (HF.out _).mono ?_; rintro e w1 ⟨rfl, hq1⟩) | (go_at_call 84; refine (rounded_any _ 536870912 (by omega) (by omega) (by omega) (by omega) _ rfl _).mono ?_; rintro e w' ⟨rfl, rfl⟩))
    go_ret
    exact ⟨by rw [HS.out]; rfl, hq1⟩
  · have hmin : min x (648000 - x) = x := by omega
    have HF := Lib.hid (fun W => rfine_any x (by omega) (by omega) W)
    have HS := Lib.hid (show Ser.sin0 x = Ser.rnd (Ser.fine x) 1073741824 by unfold Ser.sin0; rw [if_neg c])
    have hb := Ser.fine_bd x (by omega) (by omega)
    obtain ⟨f, hf⟩ : ∃ f, Ser.fine x = f := ⟨_, rfl⟩
    rw [hf] at HF HS hb
    obtain ⟨hb0, hb1⟩ := hb
    clear hf
    go_enter Tryd.func67, Tryd.ntmps67
    go_wp2_with (first | (go_at_call 88; refine (HT.out _).mono ?_; rintro e w' ⟨rfl, rfl⟩) | (go_at_call 90; refine (HF.out _).mono ?_; rintro e w1 ⟨rfl, hq1⟩) | (go_at_call 84; refine (rounded_any _ 536870912 (by omega) (by omega) (by omega) (by omega) _ rfl _).mono ?_; rintro e w' ⟨rfl, rfl⟩))
    go_ret
    exact ⟨by rw [HS.out]; rfl, hq1⟩

theorem rsin_any (x : Int) (h0 : -9223372036854775808 ≤ x) (h1 : x ≤ 9223372036854775807) (w : World) :
    Calls Tryd.prog 67 #[.int .i64 x] w fun e w' => e = .returned (.int .i64 (Ser.sin x)) ∧ Q w w' := by
  have HT := Lib.hid (fun W => modulo_any x h0 h1 W)
  obtain ⟨r, hr⟩ : ∃ r, x % 1296000 = r := ⟨_, rfl⟩
  have hr0 : 0 ≤ r := by omega
  have hr1 : r ≤ 1295999 := by omega
  rw [hr] at HT
  by_cases c : 648000 < r
  · have HS := Lib.hid (show Ser.sin x = -Ser.sin0 (1296000 - r) by unfold Ser.sin; rw [hr, if_pos c])
    have HC := Lib.hid (fun W => rsin_half (1296000 - r) (by omega) (by omega) W)
    have hb := Ser.sin0_bd (1296000 - r) (by omega) (by omega)
    obtain ⟨s, hs⟩ : ∃ s, Ser.sin0 (1296000 - r) = s := ⟨_, rfl⟩
    rw [hs] at HS HC hb
    obtain ⟨hb0, hb1⟩ := hb
    clear hs hr
    go_enter Tryd.func67, Tryd.ntmps67
    go_wp2_with (first | (go_at_call 88; refine (HT.out _).mono ?_; rintro e w' ⟨rfl, rfl⟩) | (go_at_call 67; refine (HC.out _).mono ?_; rintro e w1 ⟨rfl, hq1⟩))
    go_ret
    exact ⟨by rw [HS.out]; rfl, hq1⟩
  · have HS := Lib.hid (show Ser.sin x = Ser.sin0 r by unfold Ser.sin; rw [hr, if_neg c])
    by_cases c2 : 324000 < r
    · have hmin : min r (648000 - r) = 648000 - r := by omega
      have HF := Lib.hid (fun W => rfine_any (648000 - r) (by omega) (by omega) W)
      have HS2 := Lib.hid (show Ser.sin0 r = Ser.rnd (Ser.fine (648000 - r)) 1073741824 by unfold Ser.sin0; rw [if_pos c2])
      have hb := Ser.fine_bd (648000 - r) (by omega) (by omega)
      obtain ⟨f, hf⟩ : ∃ f, Ser.fine (648000 - r) = f := ⟨_, rfl⟩
      rw [hf] at HF HS2 hb
      obtain ⟨hb0, hb1⟩ := hb
      clear hf hr
      go_enter Tryd.func67, Tryd.ntmps67
      go_wp2_with (first | (go_at_call 88; refine (HT.out _).mono ?_; rintro e w' ⟨rfl, rfl⟩) | (go_at_call 90; refine (HF.out _).mono ?_; rintro e w1 ⟨rfl, hq1⟩) | (go_at_call 84; refine (rounded_any _ 536870912 (by omega) (by omega) (by omega) (by omega) _ rfl _).mono ?_; rintro e w' ⟨rfl, rfl⟩))
      go_ret
      exact ⟨by rw [HS.out, HS2.out]; rfl, hq1⟩
    · have hmin : min r (648000 - r) = r := by omega
      have HF := Lib.hid (fun W => rfine_any r (by omega) (by omega) W)
      have HS2 := Lib.hid (show Ser.sin0 r = Ser.rnd (Ser.fine r) 1073741824 by unfold Ser.sin0; rw [if_neg c2])
      have hb := Ser.fine_bd r (by omega) (by omega)
      obtain ⟨f, hf⟩ : ∃ f, Ser.fine r = f := ⟨_, rfl⟩
      rw [hf] at HF HS2 hb
      obtain ⟨hb0, hb1⟩ := hb
      clear hf hr
      go_enter Tryd.func67, Tryd.ntmps67
      go_wp2_with (first | (go_at_call 88; refine (HT.out _).mono ?_; rintro e w' ⟨rfl, rfl⟩) | (go_at_call 90; refine (HF.out _).mono ?_; rintro e w1 ⟨rfl, hq1⟩) | (go_at_call 84; refine (rounded_any _ 536870912 (by omega) (by omega) (by omega) (by omega) _ rfl _).mono ?_; rintro e w' ⟨rfl, rfl⟩))
      go_ret
      exact ⟨by rw [HS.out, HS2.out]; rfl, hq1⟩

theorem rcos_any (x : Int) (h0 : -9223372036854775808 ≤ x) (h1 : x ≤ 9223372036854775807) (w : World) :
    Calls Tryd.prog 64 #[.int .i64 x] w fun e w' => e = .returned (.int .i64 (Ser.cos x)) ∧ Q w w' := by
  have HT := Lib.hid (fun W => modulo_any x h0 h1 W)
  have HS := Lib.hid (fun W => rsin_any (324000 - x % 1296000) (by omega) (by omega) W)
  have HC := Lib.hid (show Ser.cos x = Ser.sin (324000 - x % 1296000) from rfl)
  obtain ⟨r, hr⟩ : ∃ r, x % 1296000 = r := ⟨_, rfl⟩
  have hr0 : 0 ≤ r := by omega
  have hr1 : r ≤ 1295999 := by omega
  rw [hr] at HT HS HC
  clear hr
  go_enter Tryd.func64, Tryd.ntmps64
  go_wp2_with (first | (go_at_call 88; refine (HT.out _).mono ?_; rintro e w' ⟨rfl, rfl⟩) | (go_at_call 67; refine (HS.out _).mono ?_; rintro e w1 ⟨rfl, hq1⟩))
  go_ret
  exact ⟨by rw [HC.out]; rfl, hq1⟩

theorem rrad_any (x : Int) (h0 : -9223372036854775808 ≤ x) (h1 : x ≤ 9223372036854775807) (w : World) :
    Calls Tryd.prog 62 #[.int .i64 x] w fun e w' => e = .returned (.int .i64 (Ser.rad x)) ∧ w = w' := by
  by_cases c1 : x < -2147483648
  · have HR := Lib.hid (show Ser.rad x = 0 by unfold Ser.rad; rw [if_pos (.inl c1)])
    have d : decide (x < -2147483648) = true := by simpa using c1
    go_enter Tryd.func62, Tryd.ntmps62
    go_wp2_with fail
    go_ret
    exact ⟨by rw [HR.out]; rfl, rfl⟩
  · have d : decide (x < -2147483648) = false := by simpa using c1
    by_cases c2 : 2147483648 < x
    · have HR := Lib.hid (show Ser.rad x = 0 by unfold Ser.rad; rw [if_pos (.inr c2)])
      have d2 : decide (2147483648 < x) = true := by simpa using c2
      go_enter Tryd.func62, Tryd.ntmps62
      go_wp2_with fail
      go_ret
      exact ⟨by rw [HR.out]; rfl, rfl⟩
    · have HR := Lib.hid (show Ser.rad x = Ser.rnd (x * 3373259426) 648000 by unfold Ser.rad; rw [if_neg (by omega)])
      have d2 : decide (2147483648 < x) = false := by simpa using c2
      go_enter Tryd.func62, Tryd.ntmps62
      go_wp2_with (first | (go_at_call 84; refine (rounded_any _ 324000 (by omega) (by omega) (by omega) (by omega) _ rfl _).mono ?_; rintro e w' ⟨rfl, rfl⟩))
      go_ret
      exact ⟨by rw [HR.out]; rfl, rfl⟩
end Go.Proofs.YtcaabaijkidmgaaDoor
