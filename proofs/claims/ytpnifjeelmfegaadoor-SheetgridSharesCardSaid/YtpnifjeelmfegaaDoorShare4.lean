
/- The walk of SheetgridShares with a neighbour on side 4. -/
import Derived.Test.YtpnifjeelmfegaaDoorGridAwake
import Derived.Test.YtpnifjeelmfegaaDoorShareA
import Derived.Deep.RegionHeld3
namespace Go.Proofs.YtpnifjeelmfegaaDoor.sheetgridShares
open Go.RowKit
set_option linter.unusedVariables false


set_option maxRecDepth 100000 in
set_option maxHeartbeats 16000000 in
theorem both4 (X Y W H C R a b n x0 y0 x1 y1 u0 v0 u1 v1 z0 t0 z1 t1 e0 e1 e2 e3 : Int) (hab : Apart a b x0 y0 x1 y1 u0 v0 u1 v1)
    (E0 : (if x0 < z0 then z0 else x0) = e0) (E1 : (if y0 < t0 then t0 else y0) = e1) (E2 : (if z1 < x1 then z1 else x1) = e2) (E3 : (if t1 < y1 then t1 else y1) = e3)
    (b0 : -4194304 ≤ e0 ∧ e0 ≤ 4194304) (b1 : -4194304 ≤ e1 ∧ e1 ≤ 4194304) (b2 : -4194304 ≤ e2 ∧ e2 ≤ 4194304) (b3 : -4194304 ≤ e3 ∧ e3 ≤ 4194304) (f1 : (e2 - e0 == W) = true) (f2 : (e3 - e1 == H) = false) (f3 : (e0 == e2) = false) (f4 : (e1 == e3) = true) (w : World) (hM : Mv w)
    (HA : Hid (∀ w, Calls Tryd.prog 10 #[.agg #[.int .i64 X, .int .i64 Y, .int .i64 W, .int .i64 H, .int .i64 C, .int .i64 R], .int .i64 a] w fun e w' => e = .returned (.tuple #[.agg #[.int .i64 x0, .int .i64 y0, .int .i64 x1, .int .i64 y1], .int .i64 0]) ∧ Q w w')) (HB : Hid (∀ w, Calls Tryd.prog 10 #[.agg #[.int .i64 X, .int .i64 Y, .int .i64 W, .int .i64 H, .int .i64 C, .int .i64 R], .int .i64 b] w fun e w' => e = .returned (.tuple #[.agg #[.int .i64 u0, .int .i64 v0, .int .i64 u1, .int .i64 v1], .int .i64 0]) ∧ Q w w')) (HZ : Hid (∀ w, Calls Tryd.prog 10 #[.agg #[.int .i64 X, .int .i64 Y, .int .i64 W, .int .i64 H, .int .i64 C, .int .i64 R], .int .i64 n] w fun e w' => e = .returned (.tuple #[.agg #[.int .i64 z0, .int .i64 t0, .int .i64 z1, .int .i64 t1], .int .i64 0]) ∧ Q w w'))
    (HN : Hid (∀ w, Mv w → Calls Tryd.prog 20 #[.agg #[.int .i64 X, .int .i64 Y, .int .i64 W, .int .i64 H, .int .i64 C, .int .i64 R], .int .i64 a, .int .i64 4] w fun e w' => e = .returned (.tuple #[.int .i64 n, .bool true]) ∧ Q w w')) (HK : Hid (∀ w, Mv w → Calls Tryd.prog 20 #[.agg #[.int .i64 X, .int .i64 Y, .int .i64 W, .int .i64 H, .int .i64 C, .int .i64 R], .int .i64 n, .int .i64 2] w fun e w' => e = .returned (.tuple #[.int .i64 a, .bool true]) ∧ Q w w')) :
    Calls Tryd.prog 8 #[.agg #[.int .i64 X, .int .i64 Y, .int .i64 W, .int .i64 H, .int .i64 C, .int .i64 R], .int .i64 a, .int .i64 b, .int .i64 4] w fun e w' => e = .returned (.bool true) ∧ Q w w' := by
  have HM := Lib.hid hM
  have HS := Lib.hid (SeAt.fresh w X Y W H C R)
  clear hM
  have HAB := Lib.hid hab
  have HE := Lib.hid (And.intro E0 (And.intro E1 (And.intro E2 E3)))
  have HF := Lib.hid (And.intro f1 (And.intro f2 (And.intro f3 f4)))
  clear hab E0 E1 E2 E3 f1 f2 f3 f4
  go_enter Tryd.func8, Tryd.ntmps8
  go_wp2_with fail
  refine (HA.out _).mono ?_
  rintro e w1 ⟨rfl, q1⟩
  obtain ⟨k0, k1, k2, k3, k4, k5, k6⟩ := HS.out.next q1; clear k6
  have zz : w.heap.size < w1.heap.size := by have := q1.sz; simp at this; omega
  have HX := Lib.hid (BoxAt.fresh w1 x0 y0 x1 y1)
  have q1' := Q.alloc q1 (.cells #[.int .i64 x0, .int .i64 y0, .int .i64 x1, .int .i64 y1] 27)
  go_wp2_with fail
  refine (HB.out _).mono ?_
  rintro e w2 ⟨rfl, q2⟩
  clear k0 k1 k2 k3 k4 k5
  have HY := Lib.hid (BoxAt.fresh w2 u0 v0 u1 v1)
  have q2' := Q.alloc q2 (.cells #[.int .i64 u0, .int .i64 v0, .int .i64 u1, .int .i64 v1] 27)
  have HQ2 := Lib.hid (q1'.trans q2')
  obtain ⟨f0, f1, f2, f3, _⟩ := HX.out.next q2'
  have zz2 : w1.heap.size < w2.heap.size := by have := q2.sz; simp at this; omega
  have zz3 : w.heap.size < w2.heap.size := by omega
  obtain ⟨m1, hm1⟩ : ∃ m, (if x0 < u0 then u0 else x0) = m := ⟨_, rfl⟩
  obtain ⟨m2, hm2⟩ : ∃ m, (if u1 < x1 then u1 else x1) = m := ⟨_, rfl⟩
  obtain ⟨m3, hm3⟩ : ∃ m, (if y0 < v0 then v0 else y0) = m := ⟨_, rfl⟩
  obtain ⟨m4, hm4⟩ : ∃ m, (if v1 < y1 then v1 else y1) = m := ⟨_, rfl⟩
  unfold Apart at HAB
  rw [hm1, hm2, hm3, hm4] at HAB
  obtain ⟨k0, k1, k2, k3, k4, k5, k6⟩ := (HS.out.next q1').next q2'; clear k6
  have HM2 := Lib.hid ((HM.out.alloc _).next HQ2.out)
  rcases HAB.out with d1 | ⟨d1, d2⟩ | ⟨d1, d2, d3⟩
  all_goals
    go_wp2_with fail
    refine (HN.out _ HM2.out).mono ?_
    rintro e w3 ⟨rfl, q3⟩
    clear f0 f1 f2 f3 hm1 hm2 hm3 hm4 d1
    try clear d2
    try clear d3
    clear k0 k1 k2 k3 k4 k5
    obtain ⟨k0, k1, k2, k3, k4, k5, k6⟩ := ((HS.out.next q1').next q2').next q3; clear k6
    go_wp2_with fail
    refine (HZ.out _).mono ?_
    rintro e w4 ⟨rfl, q4⟩
    clear k0 k1 k2 k3 k4 k5
    have q4' := Q.alloc q4 (.cells #[.int .i64 z0, .int .i64 t0, .int .i64 z1, .int .i64 t1] 27)
    have q34 := q3.trans q4'
    have HSZ := Lib.hid (((HS.out.next q1').next q2').next q34)
    have HMZ := Lib.hid (HM2.out.next q34)
    have HXZ := Lib.hid ((HX.out.next q2').next q34)
    have HZZ := Lib.hid (BoxAt.fresh w4 z0 t0 z1 t1)
    have HQZ := Lib.hid (HQ2.out.trans q34)
    have zz4 : w2.heap.size < w4.heap.size := by have := (q3.trans q4).sz; simp at this; omega
    go_wp2_with fail
    obtain ⟨wk, hwk⟩ : ∃ wk, w4.alloc (.cells #[.int .i64 z0, .int .i64 t0, .int .i64 z1, .int .i64 t1] 27) = wk := ⟨_, rfl⟩
    rw [hwk] at HSZ HMZ HXZ HZZ HQZ ⊢
    clear hwk q4' q34 zz4
    have zk := HSZ.out.lt
    obtain ⟨k0, k1, k2, k3, k4, k5, k6⟩ := HSZ.out
    clear k6
    go_region_with (go_at_call 20; refine (HK.out _ ?_).mono ?_; (first | exact (HMZ.out.alloc _).next ((Q.refl _).drew)); (rintro e w5 ⟨rfl, q5⟩))
    all_goals
      have qq : Q wk w5 := (((Q.refl _).alloc _).drew).trans q5
      clear k0 k1 k2 k3 k4 k5
      obtain ⟨f0, f1, f2, f3, f4⟩ := HXZ.out.next qq
      obtain ⟨g0, g1, g2, g3, g4⟩ := HZZ.out.next qq
      obtain ⟨E0, E1, E2, E3⟩ := HE.out
      clear f4 g4 q5
      go_wp2_with fail
      refine (awake_true _ ((HMZ.out.next qq).alloc _)).mono ?_
      rintro e w6 ⟨rfl, q6⟩
      clear f0 f1 f2 f3 g0 g1 g2 g3 E0 E1 E2 E3
      obtain ⟨c0, c1, c2, c3, c4⟩ := (BoxAt.fresh w5 e0 e1 e2 e3).next q6
      obtain ⟨k0, k1, k2, k3, k4, k5, k6⟩ := (HSZ.out.next (qq.alloc _)).next q6; clear k6
      obtain ⟨f1, f2, f3, f4⟩ := HF.out
      clear c4
      go_wp2_with fail
      go_ret
      exact ⟨rfl, (HQZ.out.behind _).trans ((qq.alloc _).trans q6)⟩

end Go.Proofs.YtpnifjeelmfegaaDoor.sheetgridShares
