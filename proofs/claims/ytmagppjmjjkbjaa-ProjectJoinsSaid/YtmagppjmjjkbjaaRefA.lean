/- Contracts of the reference's small functions (package mapsheetsref11): over, rounded, half, modulo. -/
import Derived.Test.YtmagppjmjjkbjaaSin
namespace Go.Proofs.Ytmagppjmjjkbjaa
open Go.RowKit
set_option linter.unusedVariables false

theorem wrap64_id (n : Int) (h0 : -9223372036854775808 ≤ n) (h1 : n ≤ 9223372036854775807) : wrap64 n = n := IntWalk.wrap64_in n ⟨h0, h1⟩

set_option maxHeartbeats 4000000 in
theorem rhalf_core (a b h a1 a0 b1 b0 p1 p2 p12 p0 p3 m p4 m1 r : Int) (ha0 : 0 ≤ a) (hb0 : 0 ≤ b) (hh1 : 1 ≤ h)
    (e1 : wrap64 (a.tdiv h) = a1) (e2 : a % h = a0) (e3 : wrap64 (b.tdiv h) = b1) (e4 : b % h = b0)
    (f1 : wrap64 (a1 * b0) = p1) (f2 : wrap64 (a0 * b1) = p2) (f3 : wrap64 (p1 + p2) = p12) (f4 : wrap64 (a0 * b0) = p0) (f5 : wrap64 (p0.tdiv h) = p3) (f6 : wrap64 (p12 + p3) = m)
    (g1 : wrap64 (a1 * b1) = p4) (g2 : wrap64 (m.tdiv h) = m1) (g3 : wrap64 (p4 + m1) = r) (w : World) :
    Calls Try.prog 71 #[.int .i64 a, .int .i64 b, .int .i64 h] w fun e w' => e = .returned (.int .i64 r) ∧ ∃ n, w' = w.drewN n := by
  have dn : ¬ h = 0 := by omega
  go_enter Try.func71, Try.ntmps71
  go_wp2
  go_quiet (fail)
  go_wp2
  go_quiet (fail)
  go_wp2
  go_ret
  exact ⟨by rw [← g3]; rfl, _, World.drewN_drewN _ _ _⟩

namespace Num
/-- The school method on parts above and below h. -/
theorem half_eq (a b h : Int) (ha0 : 0 ≤ a) (hb0 : 0 ≤ b) (hh1 : 1 ≤ h) :
    a / h * (b / h) + (a / h * (b % h) + a % h * (b / h) + a % h * (b % h) / h) / h = a * b / (h * h) := by
  have ea := Int.mul_ediv_add_emod a h
  have eb := Int.mul_ediv_add_emod b h
  generalize a / h = a1 at *
  generalize a % h = a0 at *
  generalize b / h = b1 at *
  generalize b % h = b0 at *
  subst ea eb
  rw [← Int.ediv_ediv_of_nonneg (by omega : (0 : Int) ≤ h)]
  have e : (h * a1 + a0) * (h * b1 + b0) = a0 * b0 + h * (h * (a1 * b1) + (a1 * b0 + a0 * b1)) := by
    simp only [Int.mul_add, Int.add_mul]
    have x1 : h * a1 * (h * b1) = h * (h * (a1 * b1)) := by rw [Int.mul_assoc, Int.mul_left_comm a1]
    have x2 : h * a1 * b0 = h * (a1 * b0) := by rw [Int.mul_assoc]
    have x3 : a0 * (h * b1) = h * (a0 * b1) := by rw [Int.mul_left_comm]
    rw [x1, x2, x3]
    omega
  rw [e, Int.add_mul_ediv_left _ _ (by omega)]
  have e2 : a0 * b0 / h + (h * (a1 * b1) + (a1 * b0 + a0 * b1)) = (a1 * b0 + a0 * b1 + a0 * b0 / h) + h * (a1 * b1) := by omega
  rw [e2, Int.add_mul_ediv_left _ _ (by omega)]
  omega
end Num

theorem rhalf_q (a b h : Int) (ha0 : 0 ≤ a) (hb0 : 0 ≤ b) (hh1 : 1 ≤ h) (hh2 : h ≤ 1073741824) (ha1 : a ≤ 9223372036854775807) (hb1 : b ≤ 9223372036854775807)
    (hA : a / h ≤ 4294967296) (hB : b / h ≤ 2147483648) (hr : a * b / (h * h) ≤ 9223372036854775807) (w : World) :
    Calls Try.prog 71 #[.int .i64 a, .int .i64 b, .int .i64 h] w fun e w' => e = .returned (.int .i64 (a * b / (h * h))) ∧ Q w w' := by
  have a10 := Int.ediv_nonneg ha0 (show 0 ≤ h by omega)
  have b10 := Int.ediv_nonneg hb0 (show 0 ≤ h by omega)
  have a00 := Int.emod_nonneg a (show h ≠ 0 by omega)
  have b00 := Int.emod_nonneg b (show h ≠ 0 by omega)
  have a01 := Int.emod_lt_of_pos a (show 0 < h by omega)
  have b01 := Int.emod_lt_of_pos b (show 0 < h by omega)
  have he := Num.half_eq a b h ha0 hb0 hh1
  have q1 : a / h * (b % h) ≤ 4294967296 * 1073741824 := Int.mul_le_mul hA (by omega) b00 (by omega)
  have q2 : a % h * (b / h) ≤ 1073741824 * 2147483648 := Int.mul_le_mul (by omega) hB b10 (by omega)
  have q3 : a % h * (b % h) ≤ 1073741824 * 1073741824 := Int.mul_le_mul (by omega) (by omega) b00 (by omega)
  have q10 := Int.mul_nonneg a10 b00
  have q20 := Int.mul_nonneg a00 b10
  have q30 := Int.mul_nonneg a00 b00
  have q40 := Int.mul_nonneg a10 b10
  have q5 : a % h * (b % h) / h ≤ a % h * (b % h) := Int.ediv_le_self _ q30
  have q50 := Int.ediv_nonneg q30 (show 0 ≤ h by omega)
  have q5' : a % h * (b % h) / h ≤ 1073741824 := by
    have h1 : a % h * (b % h) ≤ a % h * h := Int.mul_le_mul_of_nonneg_left (by omega) a00
    have h2 : a % h * (b % h) / h ≤ a % h * h / h := Int.ediv_le_ediv (by omega) h1
    rw [Int.mul_ediv_cancel _ (by omega)] at h2
    omega
  have q60 : 0 ≤ (a / h * (b % h) + a % h * (b / h) + a % h * (b % h) / h) / h := Int.ediv_nonneg (by omega) (by omega)
  have q6 : (a / h * (b % h) + a % h * (b / h) + a % h * (b % h) / h) / h ≤ a / h * (b % h) + a % h * (b / h) + a % h * (b % h) / h := Int.ediv_le_self _ (by omega)
  refine (rhalf_core a b h (a / h) (a % h) (b / h) (b % h) (a / h * (b % h)) (a % h * (b / h)) (a / h * (b % h) + a % h * (b / h)) (a % h * (b % h)) (a % h * (b % h) / h) (a / h * (b % h) + a % h * (b / h) + a % h * (b % h) / h) (a / h * (b / h)) ((a / h * (b % h) + a % h * (b / h) + a % h * (b % h) / h) / h) (a * b / (h * h)) ha0 hb0 hh1 ?_ rfl ?_ rfl ?_ ?_ ?_ ?_ ?_ ?_ ?_ ?_ ?_ w).mono fun _ _ ⟨he, n, hn⟩ => ⟨he, by rw [hn]; exact (Q.refl w).drewN n⟩
  · rw [Int.tdiv_eq_ediv_of_nonneg ha0]
    exact wrap64_id _ (by omega) (by omega)
  · rw [Int.tdiv_eq_ediv_of_nonneg hb0]
    exact wrap64_id _ (by omega) (by omega)
  · exact wrap64_id _ (by omega) (by omega)
  · exact wrap64_id _ (by omega) (by omega)
  · exact wrap64_id _ (by omega) (by omega)
  · exact wrap64_id _ (by omega) (by omega)
  · rw [Int.tdiv_eq_ediv_of_nonneg q30]
    exact wrap64_id _ (by omega) (by omega)
  · exact wrap64_id _ (by omega) (by omega)
  · exact wrap64_id _ (by omega) (by omega)
  · rw [Int.tdiv_eq_ediv_of_nonneg (by omega)]
    exact wrap64_id _ (by omega) (by omega)
  · rw [he]
    exact wrap64_id _ (by omega) (by omega)

theorem over_any (n d : Int) (hn0 : -9223372036854775808 ≤ n) (hn1 : n ≤ 9223372036854775807) (hd0 : 1 ≤ d) (hd1 : d ≤ 9223372036854775807) (w : World) :
    Calls Try.prog 69 #[.int .i64 n, .int .i64 d] w fun e w' => e = .returned (.int .i64 (n / d)) ∧ w = w' := by
  obtain ⟨h1, h2, h3, h4, h5⟩ := Num.tdiv_pos n d hd0
  obtain ⟨h6, h7⟩ := Num.tdiv_bd n d hd0 hn0 hn1
  obtain ⟨h8, h9⟩ := Num.ediv_bd n d hd0 hn0 hn1
  have dn : ¬ d = 0 := by omega
  obtain ⟨t, ht⟩ : ∃ t, n.tdiv d = t := ⟨_, rfl⟩
  obtain ⟨m, hm⟩ : ∃ m, n.tmod d = m := ⟨_, rfl⟩
  rw [ht, hm] at h1 h4 h5
  rw [hm] at h2 h3
  rw [ht] at h6 h7
  have H4 := Lib.hid h4
  have H5 := Lib.hid h5
  clear h1 h4 h5
  by_cases c : m < 0
  · have HF := Lib.hid (H5.out c)
    have hb : -9223372036854775808 ≤ t - 1 := by have := HF.out; omega
    go_enter Try.func69, Try.ntmps69
    go_wp2
    go_ret
    exact ⟨by rw [HF.out]; rfl, rfl⟩
  · have HF := Lib.hid (H4.out (by omega))
    go_enter Try.func69, Try.ntmps69
    go_wp2
    go_ret
    exact ⟨by rw [HF.out]; rfl, rfl⟩

theorem rnd_even (n c : Int) (hc : 1 ≤ c) : (n + c) / (2 * c) = Ser.rnd n (2 * c) := by
  unfold Ser.rnd
  rw [show 2 * n + 2 * c = 2 * (n + c) by omega, Int.mul_ediv_mul_of_pos _ _ (by omega)]

theorem rounded_any (n c : Int) (hn0 : -9223372036854775808 ≤ n) (hn1 : n + c ≤ 9223372036854775807) (hc0 : 1 ≤ c) (hc1 : 2 * c ≤ 9223372036854775807) (d : Int) (hd : Hid (d = 2 * c)) (w : World) :
    Calls Try.prog 59 #[.int .i64 n, .int .i64 d] w fun e w' => e = .returned (.int .i64 (Ser.rnd n d)) ∧ w = w' := by
  have hd0 : 1 ≤ d := by have := hd.out; omega
  have hd1 : d ≤ 9223372036854775807 := by have := hd.out; omega
  have hd2 : d / 2 = c := by have := hd.out; omega
  have HE := Lib.hid (show (n + c) / d = Ser.rnd n d by rw [hd.out]; exact rnd_even n c hc0)
  go_enter Try.func59, Try.ntmps59
  go_wp2_with (go_at_call 69; refine (over_any _ _ (by omega) (by omega) hd0 hd1 _).mono ?_; rintro e w' ⟨rfl, rfl⟩)
  go_ret
  exact ⟨by rw [← HE.out]; rfl, rfl⟩

theorem modulo_any (x : Int) (h0 : -9223372036854775808 ≤ x) (h1 : x ≤ 9223372036854775807) (w : World) :
    Calls Try.prog 63 #[.int .i64 x] w fun e w' => e = .returned (.int .i64 (x % 1296000)) ∧ w = w' := by
  have HO := Lib.hid (fun W => over_any x 1296000 h0 h1 (by omega) (by omega) W)
  obtain ⟨q, hq⟩ : ∃ q, x / 1296000 = q := ⟨_, rfl⟩
  have HX := Lib.hid (show wrap64 (x - wrap64 (q * 1296000)) = x % 1296000 by unfold wrap64; omega)
  rw [hq] at HO
  clear hq
  go_enter Try.func63, Try.ntmps63
  go_wp2_with (go_at_call 69; refine (HO.out _).mono ?_; rintro e w' ⟨rfl, rfl⟩)
  go_ret
  exact ⟨by rw [← HX.out]; rfl, rfl⟩

end Go.Proofs.Ytmagppjmjjkbjaa
