
/- Contract of the reference's digits (package mapsheetsref12). -/
import Derived.Test.YtmcobpgdledkdaaDoorSphA
import Derived.Deep.LoopGhost
namespace Go.Proofs.YtmcobpgdledkdaaDoor
open Go.RowKit
set_option linter.unusedVariables false
theorem ret_ib {a b : Int} {v : Value} (h : a = b) : Ending.returned (.tuple #[.int .i64 a, v]) = .returned (.tuple #[.int .i64 b, v]) := by rw [h]

set_option maxRecDepth 100000 in
set_option maxHeartbeats 4000000 in
theorem rdigits_yes (s : ByteArray) (c : Nat) (hc : c ≤ 3) (hd : ∀ i, i < c → Sph.dg (byt s i)) (hs : s.size = c) (w : World) :
    Calls Tryd.prog 32 #[.string s] w fun e w' => e = .returned (.tuple #[.int .i64 (Sph.val s c), .bool true]) ∧ w = w' := by
  have HD := Lib.hid hd
  have HV := Lib.hid (Sph.val_bd s c hd)
  obtain ⟨z, hz⟩ : ∃ z : Int, (s.size : Int) = z := ⟨_, rfl⟩
  have HZ := Lib.hid hz
  have step : ∀ k : Nat, k < c → ∃ kk v x : Int, (k : Int) = kk ∧ Sph.val s k = v ∧ Hid (Sph.val s (k + 1) = 10 * v + (x - 48)) ∧ 0 ≤ kk ∧ kk < 3 ∧ kk < z ∧ 0 ≤ v ∧ v ≤ 99 ∧ 48 ≤ x ∧ x ≤ 57 ∧ ∀ W, (Instr.index 9 (.string s) (.int .i64 kk)).run Tryd.prog W = .ok (.int .u8 x) W := by
    intro k hk
    have h := HD.out k hk
    have hb := HV.out k (by omega)
    have hl := Sph.dg_lt h
    have hp : (10 : Int) ^ k ≤ 100 := by
      match k, (show k ≤ 2 by omega) with
      | 0, _ => decide
      | 1, _ => decide
      | 2, _ => decide
    unfold Sph.dg at h
    exact ⟨_, _, _, rfl, rfl, Lib.hid rfl, by omega, by omega, by have := HZ.out; omega, by omega, by omega, h.1, h.2, byt_run s k hl⟩
  have stop : ∃ kk v : Int, (c : Int) = kk ∧ Sph.val s c = v ∧ 0 ≤ kk ∧ kk ≤ 3 ∧ kk = z ∧ 0 ≤ v ∧ v ≤ 999 := by
    have hb := HV.out c (by omega)
    have hp : (10 : Int) ^ c ≤ 1000 := by
      match c, hc with
      | 0, _ => decide
      | 1, _ => decide
      | 2, _ => decide
      | 3, _ => decide
    exact ⟨_, _, rfl, rfl, by omega, by omega, by have := HZ.out; omega, by omega, by omega⟩
  have HT := Lib.hid stop
  clear stop hs
  have HG := Lib.hid step
  have hz0 : 0 ≤ z := by omega
  clear step hd
  go_enter Tryd.func32, Tryd.ntmps32
  go_wp2_with fail
  go_loop [4, 5] (fun n i => ∃ (k : Nat) (kk v : Int), k ≤ c ∧ n = .int .i64 v ∧ i = .int .i64 kk ∧ Hid ((k : Int) = kk) ∧ Hid (Sph.val s k = v)) (fun _ i => 3 - (intOf i).toNat)
  case atStart => exact ⟨0, _, _, by omega, rfl, rfl, Lib.hid rfl, Lib.hid rfl⟩
  case round =>
    obtain ⟨k, kk, v, hk, rfl, rfl, HK, HVV⟩ := hrel
    by_cases hkc : k = c
    · subst hkc
      obtain ⟨kk', v', e1, e2, g0, g1, g2, g3, g4⟩ := HT.out
      obtain rfl : kk' = kk := e1.symm.trans HK.out
      obtain rfl : v' = v := e2.symm.trans HVV.out
      have HE2 := Lib.hid HVV.out
      clear e1
      have d1 : decide (kk' < z) = false := by simp; omega
      go_wp2_with fail
      go_ret2
      exact ⟨(by first | rfl | exact ret_ib HE2.out.symm), rfl⟩
    · obtain ⟨kk', v', x, e1, e2, HX, g0, g1, g2, g3, g4, x0, x1, i1⟩ := HG.out k (by omega)
      obtain rfl : kk' = kk := e1.symm.trans HK.out
      obtain rfl : v' = v := e2.symm.trans HVV.out
      clear e1
      have d1 : decide (kk' < z) = true := by simpa using g2
      have d3 : decide (x < 48) = false := by simp; omega
      have d4 : decide (57 < x) = false := by simp; omega
      go_wp2_with fail
      go_round
      case rel => exact ⟨k + 1, _, _, by omega, rfl, rfl, Lib.hid (by have := HK.out; omega), Lib.hid (by have := HX.out; omega)⟩
      case measure => simp [intOf]; omega
set_option maxRecDepth 100000 in
set_option maxHeartbeats 4000000 in
theorem rdigits_no (s : ByteArray) (c : Nat) (hc : c ≤ 3) (hd : ∀ i, i < c → Sph.dg (byt s i)) (hs : c < s.size) (hc2 : c < 3) (hn : ¬ Sph.dg (byt s c)) (w : World) :
    Calls Tryd.prog 32 #[.string s] w fun e w' => e = .returned (.tuple #[.int .i64 0, .bool false]) ∧ w = w' := by
  have HD := Lib.hid hd
  have HV := Lib.hid (Sph.val_bd s c hd)
  obtain ⟨z, hz⟩ : ∃ z : Int, (s.size : Int) = z := ⟨_, rfl⟩
  have HZ := Lib.hid hz
  have step : ∀ k : Nat, k < c → ∃ kk v x : Int, (k : Int) = kk ∧ Sph.val s k = v ∧ Hid (Sph.val s (k + 1) = 10 * v + (x - 48)) ∧ 0 ≤ kk ∧ kk < 3 ∧ kk < z ∧ 0 ≤ v ∧ v ≤ 99 ∧ 48 ≤ x ∧ x ≤ 57 ∧ ∀ W, (Instr.index 9 (.string s) (.int .i64 kk)).run Tryd.prog W = .ok (.int .u8 x) W := by
    intro k hk
    have h := HD.out k hk
    have hb := HV.out k (by omega)
    have hl := Sph.dg_lt h
    have hp : (10 : Int) ^ k ≤ 100 := by
      match k, (show k ≤ 2 by omega) with
      | 0, _ => decide
      | 1, _ => decide
      | 2, _ => decide
    unfold Sph.dg at h
    exact ⟨_, _, _, rfl, rfl, Lib.hid rfl, by omega, by omega, by have := HZ.out; omega, by omega, by omega, h.1, h.2, byt_run s k hl⟩
  have stop : ∃ kk x : Int, (c : Int) = kk ∧ 0 ≤ kk ∧ kk < 3 ∧ kk < z ∧ 0 ≤ x ∧ x ≤ 255 ∧ (∀ W, (Instr.index 9 (.string s) (.int .i64 kk)).run Tryd.prog W = .ok (.int .u8 x) W) ∧ (decide (x < 48) = true ∨ decide (x < 48) = false ∧ decide (57 < x) = true) := by
    refine ⟨_, _, rfl, by omega, by omega, by have := HZ.out; omega, (byt_bd s c).1, (byt_bd s c).2, byt_run s c hs, ?_⟩
    unfold Sph.dg at hn
    by_cases c3 : byt s c < 48
    · left
      simpa using c3
    · right
      exact ⟨by simpa using c3, by simp; omega⟩
  have HT := Lib.hid stop
  clear stop hs hn
  have HG := Lib.hid step
  have hz0 : 0 ≤ z := by omega
  clear step hd
  go_enter Tryd.func32, Tryd.ntmps32
  go_wp2_with fail
  go_loop [4, 5] (fun n i => ∃ (k : Nat) (kk v : Int), k ≤ c ∧ n = .int .i64 v ∧ i = .int .i64 kk ∧ Hid ((k : Int) = kk) ∧ Hid (Sph.val s k = v)) (fun _ i => 3 - (intOf i).toNat)
  case atStart => exact ⟨0, _, _, by omega, rfl, rfl, Lib.hid rfl, Lib.hid rfl⟩
  case round =>
    obtain ⟨k, kk, v, hk, rfl, rfl, HK, HVV⟩ := hrel
    by_cases hkc : k = c
    · subst hkc
      obtain ⟨kk', x, e1, g0, g1, g2, x0, x1, i1, hx⟩ := HT.out
      obtain rfl : kk' = kk := e1.symm.trans HK.out
      clear e1
      have d1 : decide (kk' < z) = true := by simpa using g2
      rcases hx with d3 | ⟨d3, d4⟩
      · go_wp2_with fail
        go_ret2
        exact ⟨rfl, rfl⟩
      · go_wp2_with fail
        go_ret2
        exact ⟨rfl, rfl⟩
    · obtain ⟨kk', v', x, e1, e2, HX, g0, g1, g2, g3, g4, x0, x1, i1⟩ := HG.out k (by omega)
      obtain rfl : kk' = kk := e1.symm.trans HK.out
      obtain rfl : v' = v := e2.symm.trans HVV.out
      clear e1
      have d1 : decide (kk' < z) = true := by simpa using g2
      have d3 : decide (x < 48) = false := by simp; omega
      have d4 : decide (57 < x) = false := by simp; omega
      go_wp2_with fail
      go_round
      case rel => exact ⟨k + 1, _, _, by omega, rfl, rfl, Lib.hid (by have := HK.out; omega), Lib.hid (by have := HX.out; omega)⟩
      case measure => simp [intOf]; omega
end Go.Proofs.YtmcobpgdledkdaaDoor
