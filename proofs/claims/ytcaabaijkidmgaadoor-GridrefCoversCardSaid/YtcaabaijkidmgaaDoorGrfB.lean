
/- Contracts of gridref.stripe and of the reference's part. -/
import Derived.Test.YtcaabaijkidmgaaDoorGrfA
import Derived.Deep.LoopGhost
namespace Go.Proofs.YtcaabaijkidmgaaDoor
open Go.RowKit
set_option linter.unusedVariables false

theorem Grf.cl_bd (a b : Int) (a0 : 0 ≤ a) (b0 : 1 ≤ b) : 0 ≤ Grf.cl a b ∧ Grf.cl a b ≤ a + 1 := by
  unfold Grf.cl
  have h0 := Int.ediv_nonneg a0 (show 0 ≤ b by omega)
  have h1 := Int.ediv_le_self b a0
  split <;> omega
namespace Grf
/-- The last offset of a square in its sheet. -/
def la (k l s n : Int) : Int := if k = 7 ∧ s = n - 1 then l else cl ((k + 1) * l) 8 - 1
end Grf
theorem ret_ii {a b c d : Int} (h : a = c) (k : b = d) : Ending.returned (.tuple #[.int .i64 a, .int .i64 b]) = .returned (.tuple #[.int .i64 c, .int .i64 d]) := by rw [h, k]
theorem stripe_any (k l s n : Int) (k0 : 0 ≤ k) (k1 : k ≤ 7) (l0 : 1 ≤ l) (l1 : l ≤ 4294967296) (s0 : 0 ≤ s) (s1 : s ≤ 65536) (n0 : 1 ≤ n) (n1 : n ≤ 65536) (w : World) :
    Calls Tryd.prog 35 #[.int .i64 k, .int .i64 l, .int .i64 s, .int .i64 n] w fun e w' => e = .returned (.tuple #[.int .i64 (s * l + Grf.cl (k * l) 8), .int .i64 (s * l + Grf.la k l s n)]) ∧ w = w' := by
  have a0 : 0 ≤ k * l := Int.mul_nonneg k0 (by omega)
  have a1 : k * l ≤ 7 * l := Int.mul_le_mul_of_nonneg_right k1 (by omega)
  have b0 : (k + 1) * l = k * l + l := by rw [Int.add_mul]; omega
  have c0 : 0 ≤ s * l := Int.mul_nonneg s0 (by omega)
  have c1 : s * l ≤ 65536 * l := Int.mul_le_mul_of_nonneg_right s1 (by omega)
  have H1 := Lib.hid (fun W => ceil_nn (k * l) 8 (by omega) (by omega) (by omega) (by omega) W)
  have H2 := Lib.hid (fun W => ceil_nn ((k + 1) * l) 8 (by omega) (by omega) (by omega) (by omega) W)
  have e1 := Grf.cl_bd (k * l) 8 (by omega) (by omega)
  have e2 := Grf.cl_bd ((k + 1) * l) 8 (by omega) (by omega)
  have HL := Lib.hid (show Grf.la k l s n = if k = 7 ∧ s = n - 1 then l else Grf.cl ((k + 1) * l) 8 - 1 from rfl)
  obtain ⟨e10, e11⟩ := e1
  obtain ⟨e20, e21⟩ := e2
  generalize Grf.cl (k * l) 8 = f at *
  generalize Grf.cl ((k + 1) * l) 8 = g at *
  generalize Grf.la k l s n = la at *
  obtain ⟨p, hp⟩ : ∃ p, k * l = p := ⟨_, rfl⟩
  obtain ⟨r, hr⟩ : ∃ r, (k + 1) * l = r := ⟨_, rfl⟩
  obtain ⟨t, ht⟩ : ∃ t, s * l = t := ⟨_, rfl⟩
  rw [hp] at H1 a0 a1 b0 e11
  rw [hr] at H2 b0 e21
  rw [ht] at c0 c1 ⊢
  have r0 : 0 ≤ r := by omega
  have r1 : r ≤ 34359738368 := by omega
  clear b0
  by_cases c : k = 7
  · have d1 : (k == 7) = true := by simpa using c
    by_cases d : s = n - 1
    · have d2 : (s == n - 1) = true := by simpa using d
      rw [if_pos ⟨c, d⟩] at HL
      clear c d
      go_enter Tryd.func35, Tryd.ntmps35
      go_wp2_with fail
      refine (H1.out _).mono ?_
      rintro e w1 ⟨rfl, rfl⟩
      go_wp2_with fail
      refine (H2.out _).mono ?_
      rintro e w2 ⟨rfl, rfl⟩
      go_wp2_with fail
      go_ret2
      exact ⟨ret_ii rfl (by rw [HL.out]), rfl⟩
    · have d2 : (s == n - 1) = false := by simpa using d
      rw [if_neg (fun h => d h.2)] at HL
      clear c d
      go_enter Tryd.func35, Tryd.ntmps35
      go_wp2_with fail
      refine (H1.out _).mono ?_
      rintro e w1 ⟨rfl, rfl⟩
      go_wp2_with fail
      refine (H2.out _).mono ?_
      rintro e w2 ⟨rfl, rfl⟩
      go_wp2_with fail
      go_ret2
      exact ⟨ret_ii rfl (by rw [HL.out]), rfl⟩
  · have d1 : (k == 7) = false := by simpa using c
    rw [if_neg (fun h => c h.1)] at HL
    clear c
    go_enter Tryd.func35, Tryd.ntmps35
    go_wp2_with fail
    refine (H1.out _).mono ?_
    rintro e w1 ⟨rfl, rfl⟩
    go_wp2_with fail
    refine (H2.out _).mono ?_
    rintro e w2 ⟨rfl, rfl⟩
    go_wp2_with fail
    go_ret2
    exact ⟨ret_ii rfl (by rw [HL.out]), rfl⟩

namespace Grf
/-- The part, of c equal ones of a length, in which a distance lies. -/
def pa (d l c : Int) : Int := if d * c / l ≤ c - 1 then d * c / l else c - 1
theorem pa_bd (d l c : Int) (d0 : 0 ≤ d) (l0 : 1 ≤ l) (c0 : 1 ≤ c) : 0 ≤ pa d l c ∧ pa d l c ≤ c - 1 ∧ pa d l c ≤ d * c / l := by
  have h := Int.ediv_nonneg (Int.mul_nonneg d0 (show 0 ≤ c by omega)) (show 0 ≤ l by omega)
  unfold pa
  split <;> omega
end Grf
set_option maxHeartbeats 2000000 in
theorem part_any (d l c : Int) (d0 : 0 ≤ d) (d1 : d ≤ 1099511627776) (l0 : 1 ≤ l) (l1 : l ≤ 1099511627776) (c0 : 1 ≤ c) (c1 : c ≤ 64) (w : World) :
    Calls Tryd.prog 31 #[.int .i64 d, .int .i64 l, .int .i64 c] w fun e w' => e = .returned (.int .i64 (Grf.pa d l c)) ∧ w = w' := by
  have hb := Grf.pa_bd d l c d0 l0 c0
  have HU := Lib.hid (show Grf.pa d l c = if d * c / l ≤ c - 1 then d * c / l else c - 1 from rfl)
  obtain ⟨P, hP⟩ : ∃ P, Grf.pa d l c = P := ⟨_, rfl⟩
  rw [hP] at hb HU ⊢
  clear hP
  have m0 : 0 ≤ d * c := Int.mul_nonneg d0 (by omega)
  have m1 : d * c ≤ 1099511627776 * c := Int.mul_le_mul_of_nonneg_right d1 (by omega)
  have HD := Lib.hid (fun x : Int => Int.le_ediv_iff_mul_le (a := x) (b := d * c) (show 0 < l by omega))
  obtain ⟨m, hm⟩ : ∃ m, d * c = m := ⟨_, rfl⟩
  rw [hm] at m0 m1 HU HD hb
  have HB := Lib.hid hb
  have m2 : m ≤ 70368744177664 := by omega
  have P0 := hb.1
  have P1 := hb.2.1
  clear hb m1
  go_enter Tryd.func31, Tryd.ntmps31
  go_wp2_with fail
  go_loop [7] (fun a => ∃ k : Int, a = .int .i64 k ∧ 0 ≤ k ∧ k ≤ P) (fun a => (P - intOf a).toNat)
  case atStart => exact ⟨0, rfl, by omega, P0⟩
  case round =>
    obtain ⟨k, rfl, k0, k1⟩ := hrel
    have r1 : (k + 1) * l ≤ 64 * 1099511627776 := Int.mul_le_mul (by omega) l1 (by omega) (by omega)
    have r0 : 0 ≤ (k + 1) * l := Int.mul_nonneg (by omega) (by omega)
    have HX := Lib.hid (HD.out (k + 1))
    obtain ⟨r, hr⟩ : ∃ r, (k + 1) * l = r := ⟨_, rfl⟩
    rw [hr] at r0 r1 HX
    by_cases e : k = P
    · by_cases e1 : k + 1 < c
      · have d1 : decide (k + 1 < c) = true := by simpa using e1
        have d2 : decide (r ≤ m) = false := by
          have h1 := HU.out
          have h2 := HX.out
          have : ¬ r ≤ m := fun h => by
            have h3 := h2.2 h
            split at h1 <;> omega
          simpa using this
        have HE := Lib.hid e
        clear e1 e
        go_wp2_with fail
        go_ret
        exact ⟨congrArg (fun z => Ending.returned (.int .i64 z)) HE.out, rfl⟩
      · have d1 : decide (k + 1 < c) = false := by simpa using e1
        have HE := Lib.hid e
        clear e1 e
        go_wp2_with fail
        go_ret
        exact ⟨congrArg (fun z => Ending.returned (.int .i64 z)) HE.out, rfl⟩
    · have d1 : decide (k + 1 < c) = true := by simp; omega
      have d2 : decide (r ≤ m) = true := by
        have h2 := HX.out.1 (by have := HB.out.2.2; omega)
        simpa using h2
      go_wp2_with fail
      go_round
      case rel => exact ⟨k + 1, rfl, by omega, by omega⟩
      case measure => simp [intOf]; omega
end Go.Proofs.YtcaabaijkidmgaaDoor
