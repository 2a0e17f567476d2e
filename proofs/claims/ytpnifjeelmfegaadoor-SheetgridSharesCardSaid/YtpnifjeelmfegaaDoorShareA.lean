
/- The walks of SheetgridShares without a neighbour. -/
import Derived.Test.YtpnifjeelmfegaaDoorGridAwake
import Derived.Test.YtpnifjeelmfegaaDoorGridPlain
import Derived.Deep.RegionHeld3
namespace Go.Proofs.YtpnifjeelmfegaaDoor.sheetgridShares
open Go.RowKit
set_option linter.unusedVariables false


theorem err1 (X Y W H C R a b side x0 y0 x1 y1 u0 v0 u1 v1 er fr : Int) (her : (er != 0) = true) (w : World) (hM : Mv w)
    (HA : Hid (∀ w, Calls Tryd.prog 10 #[.agg #[.int .i64 X, .int .i64 Y, .int .i64 W, .int .i64 H, .int .i64 C, .int .i64 R], .int .i64 a] w fun e w' => e = .returned (.tuple #[.agg #[.int .i64 x0, .int .i64 y0, .int .i64 x1, .int .i64 y1], .int .i64 er]) ∧ Q w w')) (HB : Hid (∀ w, Calls Tryd.prog 10 #[.agg #[.int .i64 X, .int .i64 Y, .int .i64 W, .int .i64 H, .int .i64 C, .int .i64 R], .int .i64 b] w fun e w' => e = .returned (.tuple #[.agg #[.int .i64 u0, .int .i64 v0, .int .i64 u1, .int .i64 v1], .int .i64 fr]) ∧ Q w w')) :
    Calls Tryd.prog 8 #[.agg #[.int .i64 X, .int .i64 Y, .int .i64 W, .int .i64 H, .int .i64 C, .int .i64 R], .int .i64 a, .int .i64 b, .int .i64 side] w fun e w' => e = .returned (.bool true) ∧ Q w w' := by
  have HM := Lib.hid hM
  have HS := Lib.hid (SeAt.fresh w X Y W H C R)
  clear hM
  go_enter Tryd.func8, Tryd.ntmps8
  go_wp2_with fail
  refine (HA.out _).mono ?_
  rintro e w1 ⟨rfl, q1⟩
  obtain ⟨k0, k1, k2, k3, k4, k5, k6⟩ := HS.out.next q1; clear k6
  have zz : w.heap.size < w1.heap.size := by have := q1.sz; simp at this; omega
  have HX := Lib.hid (BoxAt.fresh w1 x0 y0 x1 y1)
  have q1' := Q.alloc q1 (.cells #[.int .i64 x0, .int .i64 y0, .int .i64 x1, .int .i64 y1] 27)
  go_wp2_with fail
  refine (HB.out _).mono ?_
  rintro e w2 ⟨rfl, q2⟩
  clear k0 k1 k2 k3 k4 k5
  have HY := Lib.hid (BoxAt.fresh w2 u0 v0 u1 v1)
  have q2' := Q.alloc q2 (.cells #[.int .i64 u0, .int .i64 v0, .int .i64 u1, .int .i64 v1] 27)
  have HQ2 := Lib.hid (q1'.trans q2')
  go_wp2_with fail
  refine (awake_true _ ((HM.out.alloc _).next HQ2.out)).mono ?_
  rintro e w3 ⟨rfl, q3⟩
  go_wp2_with fail
  go_ret
  exact ⟨rfl, (HQ2.out.behind _).trans q3⟩
theorem err2 (X Y W H C R a b side x0 y0 x1 y1 u0 v0 u1 v1 fr : Int) (hfr : (fr != 0) = true) (w : World) (hM : Mv w)
    (HA : Hid (∀ w, Calls Tryd.prog 10 #[.agg #[.int .i64 X, .int .i64 Y, .int .i64 W, .int .i64 H, .int .i64 C, .int .i64 R], .int .i64 a] w fun e w' => e = .returned (.tuple #[.agg #[.int .i64 x0, .int .i64 y0, .int .i64 x1, .int .i64 y1], .int .i64 0]) ∧ Q w w')) (HB : Hid (∀ w, Calls Tryd.prog 10 #[.agg #[.int .i64 X, .int .i64 Y, .int .i64 W, .int .i64 H, .int .i64 C, .int .i64 R], .int .i64 b] w fun e w' => e = .returned (.tuple #[.agg #[.int .i64 u0, .int .i64 v0, .int .i64 u1, .int .i64 v1], .int .i64 fr]) ∧ Q w w')) :
    Calls Tryd.prog 8 #[.agg #[.int .i64 X, .int .i64 Y, .int .i64 W, .int .i64 H, .int .i64 C, .int .i64 R], .int .i64 a, .int .i64 b, .int .i64 side] w fun e w' => e = .returned (.bool true) ∧ Q w w' := by
  have HM := Lib.hid hM
  have HS := Lib.hid (SeAt.fresh w X Y W H C R)
  clear hM
  go_enter Tryd.func8, Tryd.ntmps8
  go_wp2_with fail
  refine (HA.out _).mono ?_
  rintro e w1 ⟨rfl, q1⟩
  obtain ⟨k0, k1, k2, k3, k4, k5, k6⟩ := HS.out.next q1; clear k6
  have zz : w.heap.size < w1.heap.size := by have := q1.sz; simp at this; omega
  have HX := Lib.hid (BoxAt.fresh w1 x0 y0 x1 y1)
  have q1' := Q.alloc q1 (.cells #[.int .i64 x0, .int .i64 y0, .int .i64 x1, .int .i64 y1] 27)
  go_wp2_with fail
  refine (HB.out _).mono ?_
  rintro e w2 ⟨rfl, q2⟩
  clear k0 k1 k2 k3 k4 k5
  have HY := Lib.hid (BoxAt.fresh w2 u0 v0 u1 v1)
  have q2' := Q.alloc q2 (.cells #[.int .i64 u0, .int .i64 v0, .int .i64 u1, .int .i64 v1] 27)
  have HQ2 := Lib.hid (q1'.trans q2')
  go_wp2_with fail
  refine (awake_true _ ((HM.out.alloc _).next HQ2.out)).mono ?_
  rintro e w3 ⟨rfl, q3⟩
  go_wp2_with fail
  go_ret
  exact ⟨rfl, (HQ2.out.behind _).trans q3⟩

/-- The boxes of two sheets have at most points of edges in common, as the walk tests it. -/
def Apart (a b x0 y0 x1 y1 u0 v0 u1 v1 : Int) : Prop :=
  (a != b) = false ∨ ((a != b) = true ∧ decide ((if x0 < u0 then u0 else x0) < (if u1 < x1 then u1 else x1)) = false) ∨
  ((a != b) = true ∧ decide ((if x0 < u0 then u0 else x0) < (if u1 < x1 then u1 else x1)) = true ∧ decide ((if y0 < v0 then v0 else y0) < (if v1 < y1 then v1 else y1)) = false)

set_option maxRecDepth 100000 in
set_option maxHeartbeats 4000000 in
theorem alone (X Y W H C R a b side x0 y0 x1 y1 u0 v0 u1 v1 : Int) (hab : Apart a b x0 y0 x1 y1 u0 v0 u1 v1) (w : World) (hM : Mv w)
    (HA : Hid (∀ w, Calls Tryd.prog 10 #[.agg #[.int .i64 X, .int .i64 Y, .int .i64 W, .int .i64 H, .int .i64 C, .int .i64 R], .int .i64 a] w fun e w' => e = .returned (.tuple #[.agg #[.int .i64 x0, .int .i64 y0, .int .i64 x1, .int .i64 y1], .int .i64 0]) ∧ Q w w')) (HB : Hid (∀ w, Calls Tryd.prog 10 #[.agg #[.int .i64 X, .int .i64 Y, .int .i64 W, .int .i64 H, .int .i64 C, .int .i64 R], .int .i64 b] w fun e w' => e = .returned (.tuple #[.agg #[.int .i64 u0, .int .i64 v0, .int .i64 u1, .int .i64 v1], .int .i64 0]) ∧ Q w w'))
    (HN : Hid (∀ w, Mv w → Calls Tryd.prog 20 #[.agg #[.int .i64 X, .int .i64 Y, .int .i64 W, .int .i64 H, .int .i64 C, .int .i64 R], .int .i64 a, .int .i64 side] w fun e w' => e = .returned (.tuple #[.int .i64 0, .bool false]) ∧ Q w w')) :
    Calls Tryd.prog 8 #[.agg #[.int .i64 X, .int .i64 Y, .int .i64 W, .int .i64 H, .int .i64 C, .int .i64 R], .int .i64 a, .int .i64 b, .int .i64 side] w fun e w' => e = .returned (.bool true) ∧ Q w w' := by
  have HM := Lib.hid hM
  have HS := Lib.hid (SeAt.fresh w X Y W H C R)
  clear hM
  have HAB := Lib.hid hab
  clear hab
  go_enter Tryd.func8, Tryd.ntmps8
  go_wp2_with fail
  refine (HA.out _).mono ?_
  rintro e w1 ⟨rfl, q1⟩
  obtain ⟨k0, k1, k2, k3, k4, k5, k6⟩ := HS.out.next q1; clear k6
  have zz : w.heap.size < w1.heap.size := by have := q1.sz; simp at this; omega
  have HX := Lib.hid (BoxAt.fresh w1 x0 y0 x1 y1)
  have q1' := Q.alloc q1 (.cells #[.int .i64 x0, .int .i64 y0, .int .i64 x1, .int .i64 y1] 27)
  go_wp2_with fail
  refine (HB.out _).mono ?_
  rintro e w2 ⟨rfl, q2⟩
  clear k0 k1 k2 k3 k4 k5
  have HY := Lib.hid (BoxAt.fresh w2 u0 v0 u1 v1)
  have q2' := Q.alloc q2 (.cells #[.int .i64 u0, .int .i64 v0, .int .i64 u1, .int .i64 v1] 27)
  have HQ2 := Lib.hid (q1'.trans q2')
  obtain ⟨f0, f1, f2, f3, _⟩ := HX.out.next q2'
  have zz2 : w1.heap.size < w2.heap.size := by have := q2.sz; simp at this; omega
  have zz3 : w.heap.size < w2.heap.size := by omega
  obtain ⟨m1, hm1⟩ : ∃ m, (if x0 < u0 then u0 else x0) = m := ⟨_, rfl⟩
  obtain ⟨m2, hm2⟩ : ∃ m, (if u1 < x1 then u1 else x1) = m := ⟨_, rfl⟩
  obtain ⟨m3, hm3⟩ : ∃ m, (if y0 < v0 then v0 else y0) = m := ⟨_, rfl⟩
  obtain ⟨m4, hm4⟩ : ∃ m, (if v1 < y1 then v1 else y1) = m := ⟨_, rfl⟩
  unfold Apart at HAB
  rw [hm1, hm2, hm3, hm4] at HAB
  obtain ⟨k0, k1, k2, k3, k4, k5, k6⟩ := (HS.out.next q1').next q2'; clear k6
  have HM2 := Lib.hid ((HM.out.alloc _).next HQ2.out)
  rcases HAB.out with d1 | ⟨d1, d2⟩ | ⟨d1, d2, d3⟩
  all_goals
    go_wp2_with fail
    refine (HN.out _ HM2.out).mono ?_
    rintro e w3 ⟨rfl, q3⟩
    go_wp2_with fail
    refine (awake_true _ (HM2.out.next q3)).mono ?_
    rintro e w4 ⟨rfl, q4⟩
    go_wp2_with fail
    go_ret
    exact ⟨rfl, (HQ2.out.behind _).trans (q3.trans q4)⟩

end Go.Proofs.YtpnifjeelmfegaaDoor.sheetgridShares
