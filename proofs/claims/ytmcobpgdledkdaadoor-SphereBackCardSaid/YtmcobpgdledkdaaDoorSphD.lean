
/- Contract of sphere.digits. -/
import Derived.Test.YtmcobpgdledkdaaDoorSphA
import Derived.Deep.LoopGhost
namespace Go.Proofs.YtmcobpgdledkdaaDoor
open Go.RowKit
set_option linter.unusedVariables false

theorem ret_i2' {a b c d : Int} (h : a = c) (k : b = d) : Ending.returned (.tuple #[.int .i64 a, .int .i64 b]) = .returned (.tuple #[.int .i64 c, .int .i64 d]) := by rw [h, k]

set_option maxRecDepth 100000 in
set_option maxHeartbeats 4000000 in
theorem sdigits_any (s : ByteArray) (hm : s.size ≤ 9223372036854775807) (w : World) :
    Calls Tryd.prog 31 #[.string s] w fun e w' => e = .returned (.tuple #[.int .i64 (Sph.val s (Sph.cnt s)), .int .i64 (Sph.cnt s : Int)]) ∧ w = w' := by
  obtain ⟨c, hc⟩ : ∃ c, Sph.cnt s = c := ⟨_, rfl⟩
  have HD := Lib.hid (Sph.cnt_dg s)
  have HS := Lib.hid (Sph.cnt_stop s)
  have hc3 := Sph.cnt_le s
  rw [hc] at HD HS hc3 ⊢
  clear hc
  have HV := Lib.hid (Sph.val_bd s c HD.out)
  obtain ⟨z, hz⟩ : ∃ z : Int, (s.size : Int) = z := ⟨_, rfl⟩
  have HZ := Lib.hid hz
  have step : ∀ k : Nat, k < c → ∃ kk v x : Int, (k : Int) = kk ∧ Sph.val s k = v ∧ Hid (Sph.val s (k + 1) = 10 * v + (x - 48)) ∧ 0 ≤ kk ∧ kk < 3 ∧ kk < z ∧ 0 ≤ v ∧ v ≤ 99 ∧ 48 ≤ x ∧ x ≤ 57 ∧ ∀ W, (Instr.index 9 (.string s) (.int .i64 kk)).run Tryd.prog W = .ok (.int .u8 x) W := by
    intro k hk
    have h := HD.out k hk
    have hb := HV.out k (by omega)
    have hl := Sph.dg_lt h
    have hp : (10 : Int) ^ k ≤ 100 := by
      match k, (show k ≤ 2 by omega) with
      | 0, _ => decide
      | 1, _ => decide
      | 2, _ => decide
    unfold Sph.dg at h
    exact ⟨_, _, _, rfl, rfl, Lib.hid rfl, by omega, by omega, by have := HZ.out; omega, by omega, by omega, h.1, h.2, byt_run s k hl⟩
  have stop : ∃ kk v : Int, (c : Int) = kk ∧ Sph.val s c = v ∧ 0 ≤ kk ∧ kk ≤ 3 ∧ kk ≤ z ∧ 0 ≤ v ∧ v ≤ 999 ∧ (decide (kk < z) = false ∨ decide (kk < 3) = false ∨ (decide (kk < z) = true ∧ decide (kk < 3) = true ∧ ∃ x, 0 ≤ x ∧ x ≤ 255 ∧ (∀ W, (Instr.index 9 (.string s) (.int .i64 kk)).run Tryd.prog W = .ok (.int .u8 x) W) ∧ (decide (48 ≤ x) = false ∨ decide (48 ≤ x) = true ∧ decide (x ≤ 57) = false))) := by
    have hb := HV.out c (by omega)
    have hcs : c ≤ s.size := by
      rcases Nat.eq_zero_or_pos c with h | h
      · omega
      · have := Sph.dg_lt (HD.out (c - 1) (by omega))
        omega
    have hp : (10 : Int) ^ c ≤ 1000 := by
      match c, hc3 with
      | 0, _ => decide
      | 1, _ => decide
      | 2, _ => decide
      | 3, _ => decide
    refine ⟨_, _, rfl, rfl, by omega, by omega, by have := HZ.out; omega, by omega, by omega, ?_⟩
    by_cases c1 : c < s.size
    · by_cases c2 : c < 3
      · right; right
        refine ⟨by simp; have := HZ.out; omega, by simp; omega, _, (byt_bd s c).1, (byt_bd s c).2, byt_run s c c1, ?_⟩
        have := HS.out
        unfold Sph.dg at this
        by_cases c3 : 48 ≤ byt s c
        · right
          exact ⟨by simpa using c3, by simp; omega⟩
        · left
          simpa using c3
      · right; left
        simp; omega
    · left
      simp; have := HZ.out; omega
  have HG := Lib.hid step
  have HT := Lib.hid stop
  have HN := Lib.hid (show ((0 : Nat) : Int) = 0 from rfl)
  have hz0 : 0 ≤ z := by omega
  have hz1 : z ≤ 9223372036854775807 := by omega
  clear step stop hm
  go_enter Tryd.func31, Tryd.ntmps31
  go_wp2_with fail
  refine wp_scope_jumps 0 (fun a' w' => w' = w ∧ ∃ (k : Nat) (kk v : Int) (u4 u5 u6 u7 u8 u9 u10 u11 u12 u13 u14 u15 u16 u17 u18 u19 u20 u21 u22 u23 u24 u25 u26 u27 u28 u29 u30 u31 u32 u33 u34 u35 : Value), k ≤ c ∧ (k : Int) = kk ∧ Hid (Sph.val s k = v) ∧ a' = { tmps := #[.string s, undef, .int .i64 v, .int .i64 kk, u4, u5, u6, u7, u8, u9, u10, u11, u12, u13, u14, u15, u16, u17, u18, u19, u20, u21, u22, u23, u24, u25, u26, u27, u28, u29, u30, u31, u32, u33, u34, u35], defers := [] }) (fun a' _ => 3 - (intOf (a'.tmps.getD 3 undef)).toNat) rfl ?_ ?_
  · go_wp2_with fail
    go_step3
    by_cases hkc : c = 0
    · subst hkc
      obtain ⟨kk', v', e1, e2, g0, g1, g2, g3, g4, hs⟩ := HT.out
      have HE := Lib.hid e1
      have HE2 := Lib.hid e2
      obtain rfl : 0 = kk' := by simpa using e1
      obtain rfl : 0 = v' := e2
      clear e1
      rcases hs with d1 | d2 | ⟨d1, d2, x, x0, x1, i1, d3 | ⟨d3, d4⟩⟩
      · go_wp2_with fail
        simp only [Exit.jump]
        go_ret2
        exact ⟨ret_i2' HE2.out.symm HE.out.symm, rfl⟩
      · simp at d2
      · go_wp2_with fail
        simp only [Exit.jump]
        go_ret2
        exact ⟨ret_i2' HE2.out.symm HE.out.symm, rfl⟩
      · go_wp2_with fail
        simp only [Exit.jump]
        go_ret2
        exact ⟨ret_i2' HE2.out.symm HE.out.symm, rfl⟩
    · obtain ⟨kk', v', x, e1, e2, HX, g0, g1, g2, g3, g4, x0, x1, i1⟩ := HG.out 0 (by omega)
      obtain rfl : 0 = kk' := by simpa using e1
      obtain rfl : 0 = v' := e2
      clear e1
      have d1 : decide (0 < z) = true := by simpa using g2
      have d3 : decide (48 ≤ x) = true := by simpa using x0
      have d4 : decide (x ≤ 57) = true := by simpa using x1
      go_wp2_with fail
      go_step3
      refine ⟨rfl, rfl, 1, _, _, _, _, _, _, _, _, _, _, _, _, _, _, _, _, _, _, _, _, _, _, _, _, _, _, _, _, _, _, _, _, _, _, by omega, ?_, ?_, rfl⟩
      · rfl
      · exact Lib.hid (HX.out.trans (by omega))
  · rintro a' w' ⟨rfl, k, kk, v, u4, u5, u6, u7, u8, u9, u10, u11, u12, u13, u14, u15, u16, u17, u18, u19, u20, u21, u22, u23, u24, u25, u26, u27, u28, u29, u30, u31, u32, u33, u34, u35, hk, hkk, HVV, rfl⟩
    by_cases hkc : k = c
    · subst hkc
      obtain ⟨kk', v', e1, e2, g0, g1, g2, g3, g4, hs⟩ := HT.out
      obtain rfl : kk' = kk := e1.symm.trans hkk
      obtain rfl : v' = v := e2.symm.trans HVV.out
      have HE := Lib.hid e1
      have HE2 := Lib.hid e2
      clear e1 e2 hkk
      rcases hs with d1 | d2 | ⟨d1, d2, x, x0, x1, i1, d3 | ⟨d3, d4⟩⟩
      · go_wp2_with fail
        simp only [Exit.jump]
        go_ret2
        exact ⟨ret_i2' HE2.out.symm HE.out.symm, rfl⟩
      · by_cases d1 : decide (kk' < z) = true
        · go_wp2_with fail
          simp only [Exit.jump]
          go_ret2
          exact ⟨ret_i2' HE2.out.symm HE.out.symm, rfl⟩
        · simp only [Bool.not_eq_true] at d1
          go_wp2_with fail
          simp only [Exit.jump]
          go_ret2
          exact ⟨ret_i2' HE2.out.symm HE.out.symm, rfl⟩
      · go_wp2_with fail
        simp only [Exit.jump]
        go_ret2
        exact ⟨ret_i2' HE2.out.symm HE.out.symm, rfl⟩
      · go_wp2_with fail
        simp only [Exit.jump]
        go_ret2
        exact ⟨ret_i2' HE2.out.symm HE.out.symm, rfl⟩
    · obtain ⟨kk', v', x, e1, e2, HX, g0, g1, g2, g3, g4, x0, x1, i1⟩ := HG.out k (by omega)
      obtain rfl : kk' = kk := e1.symm.trans hkk
      obtain rfl : v' = v := e2.symm.trans HVV.out
      have HE := Lib.hid e1
      clear e1 e2 hkk
      have d1 : decide (kk' < z) = true := by simpa using g2
      have d2 : decide (kk' < 3) = true := by simpa using g1
      have d3 : decide (48 ≤ x) = true := by simpa using x0
      have d4 : decide (x ≤ 57) = true := by simpa using x1
      go_wp2_with fail
      go_step3
      refine ⟨rfl, ⟨rfl, k + 1, _, _, _, _, _, _, _, _, _, _, _, _, _, _, _, _, _, _, _, _, _, _, _, _, _, _, _, _, _, _, _, _, _, _, by omega, ?_, ?_, rfl⟩, ?_⟩
      · have := HE.out
        omega
      · exact Lib.hid HX.out
      · simp [intOf]
        omega
end Go.Proofs.YtmcobpgdledkdaaDoor
