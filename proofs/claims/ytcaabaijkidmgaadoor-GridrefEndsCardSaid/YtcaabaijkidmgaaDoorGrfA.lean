
/- Contracts of num.Ceil for numbers from 0 on, and of gridref.locate and stripe. -/
import Derived.Test.YtcaabaijkidmgaaDoorNum
import Derived.Test.YtcaabaijkidmgaaDoorCell
namespace Go.Proofs.YtcaabaijkidmgaaDoor
open Go.RowKit
set_option linter.unusedVariables false

namespace Grf
/-- The quotient rounded up. -/
def cl (a b : Int) : Int := if a % b = 0 then a / b else a / b + 1
/-- The sheet in which an offset lies. -/
def sh (d l n : Int) : Int := if d / l ≤ n - 1 then d / l else n - 1
/-- The square of its sheet in which it lies. -/
def sq (d l n : Int) : Int := if 8 * (d - sh d l n * l) / l ≤ 7 then 8 * (d - sh d l n * l) / l else 7
end Grf
theorem check_nn (a b : Int) (a0 : 0 ≤ a) (a1 : a ≤ 4611686018427387904) (b0 : 1 ≤ b) (b1 : b ≤ 9223372036854775807) (w : World) :
    Calls Tryd.prog 69 #[.int .i64 a, .int .i64 b] w fun e w' => e = .returned (.int .i64 0) ∧ w = w' := by
  have d1 : (b == 0) = false := by simp; omega
  have d2 : (b == -1) = false := by simp; omega
  have c' : (a == -9223372036854775808) = false := by simp; omega
  go_enter Tryd.func69, Tryd.ntmps69
  go_wp2_with fail
  go_ret
  exact ⟨rfl, rfl⟩
theorem ceil_nn (a b : Int) (a0 : 0 ≤ a) (a1 : a ≤ 4611686018427387904) (b0 : 1 ≤ b) (b1 : b ≤ 9223372036854775807) (w : World) :
    Calls Tryd.prog 55 #[.int .i64 a, .int .i64 b] w fun e w' => e = .returned (.tuple #[.int .i64 (Grf.cl a b), .int .i64 0]) ∧ w = w' := by
  have HK := Lib.hid (fun W => check_nn a b a0 a1 b0 b1 W)
  have dn : (b == 0) = false := by simp; omega
  have db : decide (b < 0) = false := by simp; omega
  obtain ⟨q, hq⟩ : ∃ q, a / b = q := ⟨_, rfl⟩
  obtain ⟨r, hr⟩ : ∃ r, a % b = r := ⟨_, rfl⟩
  have HC := Lib.hid (show Grf.cl a b = if r = 0 then q else q + 1 by unfold Grf.cl; rw [hq, hr])
  have q0 : 0 ≤ q := by rw [← hq]; exact Int.ediv_nonneg a0 (by omega)
  have q1 : q ≤ a := by rw [← hq]; exact Int.ediv_le_self _ a0
  have r0 : 0 ≤ r := by rw [← hr]; exact Int.emod_nonneg _ (by omega)
  have dr : decide (r < 0) = false := by simp; omega
  have tq : a.tdiv b = q := by rw [Int.tdiv_eq_ediv_of_nonneg a0]; exact hq
  have tr : a.tmod b = r := by rw [Int.tmod_eq_emod_of_nonneg a0]; exact hr
  by_cases c : r = 0
  · have d : (r != 0) = false := by simpa using c
    rw [if_pos c] at HC
    clear c
    go_enter Tryd.func55, Tryd.ntmps55
    go_wp2_with fail
    refine (HK.out _).mono ?_
    rintro e w1 ⟨rfl, rfl⟩
    go_wp2_with fail
    go_ret2
    exact ⟨by rw [HC.out]; rfl, rfl⟩
  · have d : (r != 0) = true := by simpa using c
    rw [if_neg c] at HC
    clear c
    go_enter Tryd.func55, Tryd.ntmps55
    go_wp2_with fail
    refine (HK.out _).mono ?_
    rintro e w1 ⟨rfl, rfl⟩
    go_wp2_with fail
    go_ret2
    exact ⟨by rw [HC.out]; rfl, rfl⟩
theorem locate_any (d l n : Int) (d0 : 0 ≤ d) (d1 : d ≤ 1099511627776) (l0 : 1 ≤ l) (l1 : l ≤ 4294967296) (n0 : 1 ≤ n) (n1 : n ≤ 65536) (w : World) :
    Calls Tryd.prog 27 #[.int .i64 d, .int .i64 l, .int .i64 n] w fun e w' => e = .returned (.tuple #[.int .i64 (Grf.sh d l n), .int .i64 (Grf.sq d l n)]) ∧ w = w' := by
  have hl : (l == 0) = false := by simp; omega
  obtain ⟨q, hq⟩ : ∃ q, d / l = q := ⟨_, rfl⟩
  have q0 : 0 ≤ q := by rw [← hq]; exact Int.ediv_nonneg d0 (by omega)
  have q1 : q ≤ d := by rw [← hq]; exact Int.ediv_le_self _ d0
  have tq : d.tdiv l = q := by rw [Int.tdiv_eq_ediv_of_nonneg d0]; exact hq
  have hm := Int.mul_ediv_add_emod d l
  have hr0 := Int.emod_nonneg d (show l ≠ 0 by omega)
  rw [hq, Int.mul_comm] at hm
  obtain ⟨s, hs⟩ : ∃ s, Grf.sh d l n = s := ⟨_, rfl⟩
  have hs' : s = if q ≤ n - 1 then q else n - 1 := by rw [← hs]; unfold Grf.sh; rw [hq]
  have s0 : 0 ≤ s := by rw [hs']; split <;> omega
  have sq' : s ≤ q := by rw [hs']; split <;> omega
  have hsl : s * l ≤ q * l := Int.mul_le_mul_of_nonneg_right sq' (by omega)
  have hsl0 : 0 ≤ s * l := Int.mul_nonneg s0 (by omega)
  obtain ⟨p, hp⟩ : ∃ p, s * l = p := ⟨_, rfl⟩
  obtain ⟨z, hz⟩ : ∃ z, 8 * (d - p) / l = z := ⟨_, rfl⟩
  have z0 : 0 ≤ z := by rw [← hz]; exact Int.ediv_nonneg (by omega) (by omega)
  have z1 : z ≤ 8 * (d - p) := by rw [← hz]; exact Int.ediv_le_self _ (by omega)
  have tz : (8 * (d - p)).tdiv l = z := by rw [Int.tdiv_eq_ediv_of_nonneg (by omega)]; exact hz
  have HQ := Lib.hid (show Grf.sq d l n = if z ≤ 7 then z else 7 by unfold Grf.sq; rw [hs, hp, hz])
  have HS := Lib.hid hs
  have m1 : min q (n - 1) = s := by rw [hs']; exact Int.min_def ..
  have m2 : min z 7 = if z ≤ 7 then z else 7 := Int.min_def ..
  have HM2 := Lib.hid m2
  clear m2 hm hr0 hsl hs' hs sq'
  go_enter Tryd.func27, Tryd.ntmps27
  go_wp2_with fail
  go_ret2
  refine ⟨?_, rfl⟩
  rw [HS.out, HQ.out, ← HM2.out]
  try rfl
end Go.Proofs.YtcaabaijkidmgaaDoor
