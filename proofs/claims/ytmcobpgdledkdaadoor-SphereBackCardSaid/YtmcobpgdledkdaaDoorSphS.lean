
/- Contract of the reference's Parse. -/
import Derived.Test.YtmcobpgdledkdaaDoorSphQ
import Derived.Deep.LoopGhost
import Derived.Deep.RegionHeld3
import Derived.Deep.DeepCutAuto
namespace Go.Proofs.YtmcobpgdledkdaaDoor
open Go.RowKit
set_option linter.unusedVariables false

set_option maxHeartbeats 4000000 in
theorem rparse_none (s : ByteArray) (hm : s.size ≤ 9223372036854775807) (hn : ∀ i, i < s.size → byt s i ≠ 32) (w : World) :
    Calls Tryd.prog 16 #[.string s] w fun e w' => e = .returned (.tuple #[.agg #[.int .i64 0, .int .i64 0], .int .i64 20]) ∧ Q w w' := by
  have HN := Lib.hid hn
  obtain ⟨z, hz⟩ : ∃ z : Int, (s.size : Int) = z := ⟨_, rfl⟩
  have HZ := Lib.hid hz
  clear hn
  go_enter Tryd.func16, Tryd.ntmps16
  go_wp2_with fail
  go_loop [4] (fun i => ∃ (k : Nat) (kk : Int), k ≤ s.size ∧ i = .int .i64 kk ∧ Hid ((k : Int) = kk)) (fun i => s.size - (intOf i).toNat)
  case atStart => exact ⟨0, _, by omega, rfl, Lib.hid rfl⟩
  case round =>
    obtain ⟨k, kk, hk, rfl, HK⟩ := hrel
    have k0 : 0 ≤ kk := by have := HK.out; omega
    have k1 : kk ≤ z := by have := HK.out; have := HZ.out; omega
    by_cases hkc : k = s.size
    · have d1 : decide (kk < z) = false := by have := HK.out; have := HZ.out; simp; omega
      have d2 : (kk == z) = true := by have := HK.out; have := HZ.out; simp; omega
      clear hkc hk
      go_wp2_with fail
      refine bodyPost_ret (results_cell_tmp rfl _ _ _ _ _ _ _ rfl (heap_alloc_new _ _) Tryd.underlying23 rfl (by kernel_rfl)) rfl ⟨rfl, (Q.refl _).alloc _⟩
    · have d1 : decide (kk < z) = true := by have := HK.out; have := HZ.out; simp; omega
      have i1 := byt_run' s kk k HK.out (by omega)
      have d3 : (byt s k != 32) = true := by have := HN.out k (by omega); simpa using this
      obtain ⟨x, hx⟩ : ∃ x, byt s k = x := ⟨_, rfl⟩
      rw [hx] at i1 d3
      clear hx
      have kz : kk < z := by simpa using d1
      go_wp2_with fail
      go_round
      case rel => exact ⟨k + 1, _, by omega, rfl, Lib.hid (by have := HK.out; omega)⟩
      case measure => simp [intOf]; have := HK.out; omega

/-- The result's block as it was laid, and nothing else of the world before changed. -/
def KR (w v : World) : Prop := v.heap[w.heap.size]? = some (.cells #[.int .i64 0, .int .i64 0] 23 (0, 0)) ∧ Q w v
theorem KR.alloc {w v : World} (h : KR w v) (o : Obj) : KR w (v.alloc o) := ⟨b_next ((Q.refl _).alloc _) h.1, h.2.alloc _⟩
theorem KR.drew {w v : World} (h : KR w v) : KR w v.drew := ⟨h.1, h.2.drew⟩
theorem KR.next {w v u : World} (h : KR w v) (q : Q v u) : KR w u := ⟨b_next q h.1, h.2.trans q⟩
theorem KR.start (w : World) : KR w (w.alloc (.cells #[.int .i64 0, .int .i64 0] 23)) := ⟨heap_alloc_new _ _, (Q.refl _).alloc _⟩
theorem KR.set3 {w v : World} (h : KR w v) {g : Nat} (hg : w.heap.size < g) (x y z : Value) : KR w (((v.setCell ⟨g, 0, none⟩ x).setCell ⟨g, 1, none⟩ y).setCell ⟨g, 2, none⟩ z) :=
  ⟨set_else (by omega) (set_else (by omega) (set_else (by omega) h.1)), ((h.2.setCell (Nat.le_of_lt hg) _).setCell (Nat.le_of_lt hg) _).setCell (Nat.le_of_lt hg) _⟩
/-- What the reference's Parse returns behind the two readings. -/
def Sph.pres (o1 o2 f1 f2 : Bool) (x1 x2 : Int) : Value := if o1 = true ∧ o2 = true then (if f1 = true ∧ f2 = true ∧ Sph.vld x2 x1 then .tuple #[.agg #[.int .i64 x2, .int .i64 x1], .int .i64 0] else .tuple #[.agg #[.int .i64 0, .int .i64 0], .int .i64 2]) else .tuple #[.agg #[.int .i64 0, .int .i64 0], .int .i64 20]
set_option maxHeartbeats 8000000 in
theorem rparse_at (s b h : ByteArray) (j : Nat) (hm : s.size ≤ 9223372036854775807) (hj : Spc s j) (w : World)
    (hb : ∀ W, (Instr.slice 9 (.string s) none (some (.int .i64 (j : Int))) none).run Tryd.prog W = .ok (.string b) W)
    (hh : ∀ W, (Instr.slice 9 (.string s) (some (.int .i64 ((j : Int) + 1))) none none).run Tryd.prog W = .ok (.string h) W)
    (x1 x2 : Int) (o1 f1 o2 f2 : Bool)
    (HA : Hid (∀ W, Calls Tryd.prog 23 #[.string b, .int .u8 78, .int .u8 83] W fun e w' => e = .returned (.agg #[.int .i64 x1, .bool o1, .bool f1]) ∧ Q W w'))
    (HB : Hid (∀ W, Calls Tryd.prog 23 #[.string h, .int .u8 69, .int .u8 87] W fun e w' => e = .returned (.agg #[.int .i64 x2, .bool o2, .bool f2]) ∧ Q W w')) :
    Calls Tryd.prog 16 #[.string s] w fun e w' => e = .returned (Sph.pres o1 o2 f1 f2 x1 x2) ∧ Q w w' := by
  have HJ := Lib.hid hj
  obtain ⟨z, hz⟩ : ∃ z : Int, (s.size : Int) = z := ⟨_, rfl⟩
  obtain ⟨jj, hjj⟩ : ∃ z : Int, (j : Int) = z := ⟨_, rfl⟩
  have HZ := Lib.hid hz
  have HJJ := Lib.hid hjj
  rw [hjj] at hb hh
  have jz : jj < z := by have := hj.1; omega
  have j0 : 0 ≤ jj := by omega
  have hz1 : z ≤ 9223372036854775807 := by omega
  clear hj hjj
  go_enter Tryd.func16, Tryd.ntmps16
  go_wp2_with fail
  go_loop [4] (fun i => ∃ (k : Nat) (kk : Int), k ≤ j ∧ i = .int .i64 kk ∧ Hid ((k : Int) = kk)) (fun i => j - (intOf i).toNat)
  case atStart => exact ⟨0, _, by omega, rfl, Lib.hid rfl⟩
  case round =>
    obtain ⟨k, kk, hk, rfl, HK⟩ := hrel
    have k0 : 0 ≤ kk := by have := HK.out; omega
    by_cases hkc : k = j
    · subst hkc
      obtain rfl : jj = kk := HJJ.out.symm.trans HK.out
      have d1 : decide (jj < z) = true := by simpa using jz
      have d2 : (jj == z) = false := by simp; omega
      have i1 := byt_run' s jj k HK.out (by have := HK.out; have := HZ.out; omega)
      rw [HJ.out.2.1] at i1
      clear hk
      have hw1 : IntKind.i64.wrap (jj + 1) = jj + 1 := IntWalk.i64_in _ (by omega)
      go_upto_region 6 with fail
      go_cut [5, 6] (fun p q wx => ∃ g5 g6 : Nat, p = .pointer (some ⟨g5, 0, none⟩) ∧ q = .pointer (some ⟨g6, 0, none⟩) ∧ wx.cell? ⟨g5, 0, none⟩ = some (.int .i64 x1) ∧ wx.cell? ⟨g5, 1, none⟩ = some (.bool o1) ∧ wx.cell? ⟨g5, 2, none⟩ = some (.bool f1) ∧ wx.cell? ⟨g6, 0, none⟩ = some (.int .i64 x2) ∧ wx.cell? ⟨g6, 1, none⟩ = some (.bool o2) ∧ wx.cell? ⟨g6, 2, none⟩ = some (.bool f2) ∧ KR w wx)
      case first =>
        go_region_with (first | (go_at_call_of 23 (Value.string b); refine (HA.out _).mono ?_; (rintro e w1 ⟨rfl, q1⟩; obtain ⟨c1, p1⟩ := bcell q1; have K1 : Hid (KR w w1) := Lib.hid (KR.next (by repeat first | exact KR.start w | refine KR.alloc ?_ _ | refine KR.drew ?_) q1); have s1 := q1.sz; (try simp only [size_alloc, World.size_drew] at s1); have s10 : w.heap.size < w1.heap.size := (by omega); (try have s11 : w.heap.size + 1 < w1.heap.size := (by omega)); (try have s12 : w.heap.size + 2 < w1.heap.size := (by omega)))) | (go_at_call_of 23 (Value.string h); refine (HB.out _).mono ?_; (rintro e w2 ⟨rfl, q2⟩; obtain ⟨c2, p2⟩ := bcell q2; (try obtain ⟨r1, r2, r3, r4, r5, r6⟩ := row3 (b_next q2 (b_next ((Q.refl _).alloc _) (heap_alloc_new w1 (.cells #[.int .i64 0, .bool false, .bool false] 43))))); have K2 : Hid (KR w w2) := Lib.hid (KR.next (by repeat first | exact K1.out | refine KR.alloc ?_ _) q2); have s2 := q2.sz; (try simp only [size_alloc] at s2); have s20 : w.heap.size < w2.heap.size := (by omega); (try have s21 : w.heap.size + 1 < w2.heap.size := (by omega)); (try have s22 : w.heap.size + 2 < w2.heap.size := (by omega)); (try have s23 : w1.heap.size < w2.heap.size := (by omega)); (try have s24 : w1.heap.size + 1 < w2.heap.size := (by omega)))))
        all_goals (go_wp2_with fail; go_meet)
        all_goals (refine ⟨_, _, rfl, rfl, ?_, ?_, ?_, ?_, ?_, ?_, (by repeat first | (with_reducible exact K2.out) | (with_reducible refine KR.alloc ?_ _) | (with_reducible refine KR.set3 ?_ (by first | assumption | omega) _ _ _))⟩)
        all_goals first | (go_simp; done) | (refine set_other (set_other (set_other ?_ (by omega)) (by omega)) (by omega); go_simp; done)
      case rest =>
        obtain ⟨g5, g6, rfl, rfl, c50, c51, c52, c60, c61, c62, KX⟩ := hcut
        have HK := Lib.hid KX
        obtain ⟨m0, m1, m2, m3⟩ := row2 KX.1
        have z0 := block_lt_of_cell m0
        have z5 := block_lt_of_cell c50
        have z6 := block_lt_of_cell c60
        clear KX hb hh HA HB d1 d2 i1
        cases o2
        · have HPV : Hid (Ending.returned (.tuple #[.agg #[.int .i64 0, .int .i64 0], .int .i64 20]) = Ending.returned (Sph.pres o1 false f1 f2 x1 x2)) := Lib.hid (by unfold Sph.pres; rw [if_neg (by simp)])
          go_wp2_with fail
          refine bodyPost_ret (results_cell_tmp rfl _ _ _ _ _ _ _ rfl (set2 HK.out.1) Tryd.underlying23 rfl (by kernel_rfl)) rfl ⟨?_, ?_⟩
          · exact HPV.out
          repeat first | (refine Q.setCell ?_ (by simp; try omega) _) | (refine Q.alloc ?_ _)
          exact HK.out.2
        cases o1
        · have HPV : Hid (Ending.returned (.tuple #[.agg #[.int .i64 0, .int .i64 0], .int .i64 20]) = Ending.returned (Sph.pres false true f1 f2 x1 x2)) := Lib.hid (by unfold Sph.pres; rw [if_neg (by simp)])
          go_wp2_with fail
          refine bodyPost_ret (results_cell_tmp rfl _ _ _ _ _ _ _ rfl (set2 HK.out.1) Tryd.underlying23 rfl (by kernel_rfl)) rfl ⟨?_, ?_⟩
          · exact HPV.out
          repeat first | (refine Q.setCell ?_ (by simp; try omega) _) | (refine Q.alloc ?_ _)
          exact HK.out.2
        cases f2
        · have HPV : Hid (Ending.returned (.tuple #[.agg #[.int .i64 0, .int .i64 0], .int .i64 2]) = Ending.returned (Sph.pres true true f1 false x1 x2)) := Lib.hid (by unfold Sph.pres; rw [if_pos (by simp), if_neg (by simp)])
          go_wp2_with fail
          refine bodyPost_ret (results_cell_tmp rfl _ _ _ _ _ _ _ rfl (b_next ((Q.refl _).alloc _) (set2 HK.out.1)) Tryd.underlying23 rfl (by kernel_rfl)) rfl ⟨?_, ?_⟩
          · exact HPV.out
          repeat first | (refine Q.setCell ?_ (by simp; try omega) _) | (refine Q.alloc ?_ _)
          exact HK.out.2
        cases f1
        · have HPV : Hid (Ending.returned (.tuple #[.agg #[.int .i64 0, .int .i64 0], .int .i64 2]) = Ending.returned (Sph.pres true true false true x1 x2)) := Lib.hid (by unfold Sph.pres; rw [if_pos (by simp), if_neg (by simp)])
          go_wp2_with fail
          refine bodyPost_ret (results_cell_tmp rfl _ _ _ _ _ _ _ rfl (b_next ((Q.refl _).alloc _) (set2 HK.out.1)) Tryd.underlying23 rfl (by kernel_rfl)) rfl ⟨?_, ?_⟩
          · exact HPV.out
          repeat first | (refine Q.setCell ?_ (by simp; try omega) _) | (refine Q.alloc ?_ _)
          exact HK.out.2
        by_cases hv : Sph.vld x2 x1
        · have HPV : Hid (Ending.returned (.tuple #[.agg #[.int .i64 x2, .int .i64 x1], .int .i64 0]) = Ending.returned (Sph.pres true true true true x1 x2)) := Lib.hid (by unfold Sph.pres; rw [if_pos (by simp), if_pos (by simpa using hv)])
          have HV := Lib.hid (fun W => rvalid_yes x2 x1 W hv)
          clear hv
          go_wp2_with fail
          refine (HV.out _).mono ?_
          rintro e w5 ⟨rfl, q5⟩
          have hb5 := b_next q5 (b_next ((Q.refl _).alloc _) HK.out.1)
          have hp5 := b_next q5 (heap_alloc_new _ _)
          obtain ⟨n0, n1, n2, n3⟩ := row2 hb5
          obtain ⟨l0, l1, l2, l3⟩ := row2 hp5
          have HB5 := Lib.hid hb5
          have Q5 := Lib.hid ((HK.out.2.alloc _).trans q5)
          clear hb5 hp5 m0 m1 m2 m3 c50 c51 c52 c60 c61 c62 q5
          go_wp2_with fail
          refine bodyPost_ret (results_cell_tmp rfl _ _ _ _ _ _ _ rfl (set2 HB5.out) Tryd.underlying23 rfl (by kernel_rfl)) rfl ⟨?_, ?_⟩
          · exact HPV.out
          repeat first | (refine Q.setCell ?_ (by simp; try omega) _) | (refine Q.alloc ?_ _)
          exact Q5.out
        · have HPV : Hid (Ending.returned (.tuple #[.agg #[.int .i64 0, .int .i64 0], .int .i64 2]) = Ending.returned (Sph.pres true true true true x1 x2)) := Lib.hid (by unfold Sph.pres; rw [if_pos (by simp), if_neg (by simpa using hv)])
          have HV := Lib.hid (fun W => rvalid_no x2 x1 W hv)
          clear hv
          go_wp2_with fail
          refine (HV.out _).mono ?_
          rintro e w5 ⟨rfl, q5⟩
          have hb5 := b_next q5 (b_next ((Q.refl _).alloc _) HK.out.1)
          have hp5 := b_next q5 (heap_alloc_new _ _)
          obtain ⟨n0, n1, n2, n3⟩ := row2 hb5
          obtain ⟨l0, l1, l2, l3⟩ := row2 hp5
          have HB5 := Lib.hid hb5
          have Q5 := Lib.hid ((HK.out.2.alloc _).trans q5)
          clear hb5 hp5 m0 m1 m2 m3 c50 c51 c52 c60 c61 c62 q5
          go_wp2_with fail
          refine bodyPost_ret (results_cell_tmp rfl _ _ _ _ _ _ _ rfl (set2 HB5.out) Tryd.underlying23 rfl (by kernel_rfl)) rfl ⟨?_, ?_⟩
          · exact HPV.out
          repeat first | (refine Q.setCell ?_ (by simp; try omega) _) | (refine Q.alloc ?_ _)
          exact Q5.out
    · have k1 : kk < jj := by have := HK.out; have := HJJ.out; omega
      have d1 : decide (kk < z) = true := by simp; omega
      have i1 := byt_run' s kk k HK.out (by have := HK.out; have := HZ.out; omega)
      have d3 : (byt s k != 32) = true := by have := HJ.out.2.2 k (by omega); simpa using this
      obtain ⟨x, hx⟩ : ∃ x, byt s k = x := ⟨_, rfl⟩
      rw [hx] at i1 d3
      clear hx
      go_wp2_with fail
      go_round
      case rel => exact ⟨k + 1, _, by omega, rfl, Lib.hid (by have := HK.out; omega)⟩
      case measure => simp [intOf]; have := HK.out; omega
end Go.Proofs.YtmcobpgdledkdaaDoor
