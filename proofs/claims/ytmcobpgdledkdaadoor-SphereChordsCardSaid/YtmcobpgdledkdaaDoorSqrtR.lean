
/- Contract of the reference's Sqrt (package mapsheetsref01). -/
import Derived.Test.YtmcobpgdledkdaaDoorSqrt
import Derived.Deep.LoopGhost
namespace Go.Proofs.YtmcobpgdledkdaaDoor
open Go.RowKit
set_option linter.unusedVariables false

theorem shl_pw' (k : Nat) (kk : Int) (hk : 31 - (k : Int) = kk) (h : k < 32) : wrap64 (2 ^ kk.toNat) = pw (k + 1) := by
  have := shl_pw k (k : Int) rfl h
  rw [show (31 - (k : Int)).toNat = kk.toNat by rw [hk]] at this
  exact this
set_option maxRecDepth 100000 in
set_option maxHeartbeats 4000000 in
theorem rsqrt_nn (n : Int) (h0 : 0 ≤ n) (h1 : n ≤ 9223372036854775807) (w : World) :
    Calls Tryd.prog 29 #[.int .i64 n] w fun e w' => (∃ r, e = .returned (.int .i64 r) ∧ IsSqrt n r) ∧ w = w' := by
  go_enter Tryd.func29, Tryd.ntmps29
  go_wp2_with fail
  go_loop [3, 4] (fun a b => ∃ (k : Nat) (r kk : Int), k ≤ 32 ∧ a = .int .i64 r ∧ b = .int .i64 kk ∧ Hid (31 - (k : Int) = kk) ∧ Hid (SqI n r (pw k))) (fun _ b => (intOf b + 1).toNat)
  case atStart => exact ⟨0, _, _, by omega, rfl, rfl, Lib.hid rfl, Lib.hid (SqI.start n h0 h1)⟩
  case round =>
    obtain ⟨k, r, kk, hk, rfl, rfl, HK, HI⟩ := hrel
    by_cases hkc : k = 32
    · have d1 : decide (0 ≤ kk) = false := by have := HK.out; simp; omega
      go_wp2_with fail
      go_ret
      exact ⟨⟨_, rfl, by have := HI.out; rw [hkc] at this; exact SqI.root this⟩, rfl⟩
    · have d1 : decide (0 ≤ kk) = true := by have := HK.out; simp; omega
      have k0 : 0 ≤ kk := by have := HK.out; omega
      have k1 : kk < 32 := by have := HK.out; omega
      have hsh := shl_pw' k kk HK.out (by omega)
      have hst := pw_step k (by omega)
      have HI2 := Lib.hid HI.out
      rw [hst] at HI2
      have t1 := HI2.out.2.2.2.2
      have t0 := HI2.out.2.1
      have hpp := pw_pos (k + 1)
      obtain ⟨p, hp⟩ : ∃ p, pw (k + 1) = p := ⟨_, rfl⟩
      have HPP := Lib.hid hp
      rw [hp] at hsh HI2 t1 hpp
      clear hst hp
      obtain ⟨t, ht⟩ : ∃ t, r + p = t := ⟨_, rfl⟩
      have HT := Lib.hid ht
      have tp : 0 < t := by omega
      have t2 : t ≤ 4294967295 := by omega
      obtain ⟨m, hm⟩ : ∃ m, t * t = m := ⟨_, rfl⟩
      have HM := Lib.hid hm
      have m0 : 0 < m := by rw [← hm]; exact Int.mul_pos tp tp
      have m1 : m ≤ 18446744065119617025 := by
        have := Int.mul_le_mul t2 t2 (by omega) (by omega)
        omega
      have hw : IntKind.i64.wrap (r + p) = t := by rw [ht]; exact IntWalk.i64_in _ (by omega)
      by_cases c : m ≤ n
      · have d2 : decide (0 < n) = true := by simp; omega
        have d3 : decide (m ≤ n) = true := by simpa using c
        have NI := Lib.hid (SqI.up hpp HI2.out (by rw [HT.out, HM.out]; exact c))
        clear c
        go_wp2_with fail
        go_round
        case rel => exact ⟨k + 1, _, _, by omega, rfl, rfl, Lib.hid (by have := HK.out; omega), Lib.hid (by rw [HPP.out, ← HT.out]; exact NI.out)⟩
        case measure => simp [intOf]; omega
      · have d3 : decide (m ≤ n) = false := by simpa using c
        have NI := Lib.hid (SqI.stay hpp HI2.out (by rw [HT.out, HM.out]; exact c))
        clear c
        by_cases c2 : 0 < n
        · have d2 : decide (0 < n) = true := by simpa using c2
          go_wp2_with fail
          go_round
          case rel => exact ⟨k + 1, _, _, by omega, rfl, rfl, Lib.hid (by have := HK.out; omega), Lib.hid (by rw [HPP.out]; exact NI.out)⟩
          case measure => simp [intOf]; omega
        · have d2 : decide (0 < n) = false := by simpa using c2
          go_wp2_with fail
          go_round
          case rel => exact ⟨k + 1, _, _, by omega, rfl, rfl, Lib.hid (by have := HK.out; omega), Lib.hid (by rw [HPP.out]; exact NI.out)⟩
          case measure => simp [intOf]; omega
end Go.Proofs.YtmcobpgdledkdaaDoor
