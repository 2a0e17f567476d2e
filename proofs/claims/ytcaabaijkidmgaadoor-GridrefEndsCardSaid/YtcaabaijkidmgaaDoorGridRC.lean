/- Contracts of the reference's Point and Check (packages mapsheetsref10 and mapsheetsref40). -/
import Derived.Test.YtcaabaijkidmgaaDoorGridBox
namespace Go.Proofs.YtcaabaijkidmgaaDoor
open Go.RowKit
set_option linter.unusedVariables false

theorem point_yes (x y : Int) (w : World) (h : (-1048576 ≤ x ∧ x ≤ 1048576) ∧ (-1048576 ≤ y ∧ y ≤ 1048576)) :
    Calls Tryd.prog 48 #[.agg #[.int .i64 x, .int .i64 y]] w fun e w' => e = .returned (.bool true) ∧ Q w w' := by
  have d0 : decide (-1048576 ≤ x) = true := by simp; omega
  have d1 : decide (x ≤ 1048576) = true := by simp; omega
  have d2 : decide (-1048576 ≤ y) = true := by simp; omega
  have d3 : decide (y ≤ 1048576) = true := by simp; omega
  clear h
  go_enter Tryd.func48, Tryd.ntmps48
  go_wp2_with fail
  go_ret
  exact ⟨rfl, (Q.refl w).alloc _⟩
theorem point_no (x y : Int) (w : World) (h : ¬ ((-1048576 ≤ x ∧ x ≤ 1048576) ∧ (-1048576 ≤ y ∧ y ≤ 1048576))) :
    Calls Tryd.prog 48 #[.agg #[.int .i64 x, .int .i64 y]] w fun e w' => e = .returned (.bool false) ∧ Q w w' := by
  by_cases k0 : -1048576 ≤ x
  rotate_left
  · have d0 : decide (-1048576 ≤ x) = false := by simpa using k0
    clear h
    go_enter Tryd.func48, Tryd.ntmps48
    go_wp2_with fail
    go_ret
    exact ⟨rfl, (Q.refl w).alloc _⟩
  have d0 : decide (-1048576 ≤ x) = true := by simpa using k0
  by_cases k1 : x ≤ 1048576
  rotate_left
  · have d1 : decide (x ≤ 1048576) = false := by simpa using k1
    clear h
    go_enter Tryd.func48, Tryd.ntmps48
    go_wp2_with fail
    go_ret
    exact ⟨rfl, (Q.refl w).alloc _⟩
  have d1 : decide (x ≤ 1048576) = true := by simpa using k1
  by_cases k2 : -1048576 ≤ y
  rotate_left
  · have d2 : decide (-1048576 ≤ y) = false := by simpa using k2
    clear h
    go_enter Tryd.func48, Tryd.ntmps48
    go_wp2_with fail
    go_ret
    exact ⟨rfl, (Q.refl w).alloc _⟩
  have d2 : decide (-1048576 ≤ y) = true := by simpa using k2
  have d3 : decide (y ≤ 1048576) = false := by simp; omega
  clear h
  go_enter Tryd.func48, Tryd.ntmps48
  go_wp2_with fail
  go_ret
  exact ⟨rfl, (Q.refl w).alloc _⟩

set_option maxHeartbeats 4000000 in
theorem rcheck_no (X Y W H C R : Int) (w : World) (h : ¬ Grid.Ok X Y W H C R) :
    Calls Tryd.prog 29 #[.agg #[.int .i64 X, .int .i64 Y, .int .i64 W, .int .i64 H, .int .i64 C, .int .i64 R]] w fun e w' => e = .returned (.int .i64 2) ∧ Q w w' := by
  rw [Grid.ok_iff] at h
  by_cases c0 : ((-1048576 ≤ X ∧ X ≤ 1048576) ∧ (-1048576 ≤ Y ∧ Y ≤ 1048576))
  rotate_left
  · clear h
    go_enter Tryd.func29, Tryd.ntmps29
    go_wp2_with fail
    refine (point_no X Y _ c0).mono ?_
    rintro e w1 ⟨rfl, q1⟩
    obtain ⟨n0, n1, n2, n3, n4, n5, n6⟩ := (SeAt.fresh w X Y W H C R).next q1
    clear n6
    go_wp2_with fail
    go_ret
    exact ⟨rfl, q1.behind _⟩
  by_cases t0 : W < 1
  · have d0 : decide (W < 1) = true := by simpa using t0
    clear h
    go_enter Tryd.func29, Tryd.ntmps29
    go_wp2_with fail
    refine (point_yes X Y _ c0).mono ?_
    rintro e w1 ⟨rfl, q1⟩
    obtain ⟨n0, n1, n2, n3, n4, n5, n6⟩ := (SeAt.fresh w X Y W H C R).next q1
    clear n6
    go_wp2_with fail
    go_ret
    exact ⟨rfl, q1.behind _⟩
  have d0 : decide (W < 1) = false := by simpa using t0
  by_cases t1 : 65536 < W
  · have d1 : decide (65536 < W) = true := by simpa using t1
    clear h
    go_enter Tryd.func29, Tryd.ntmps29
    go_wp2_with fail
    refine (point_yes X Y _ c0).mono ?_
    rintro e w1 ⟨rfl, q1⟩
    obtain ⟨n0, n1, n2, n3, n4, n5, n6⟩ := (SeAt.fresh w X Y W H C R).next q1
    clear n6
    go_wp2_with fail
    go_ret
    exact ⟨rfl, q1.behind _⟩
  have d1 : decide (65536 < W) = false := by simpa using t1
  by_cases t2 : H < 1
  · have d2 : decide (H < 1) = true := by simpa using t2
    clear h
    go_enter Tryd.func29, Tryd.ntmps29
    go_wp2_with fail
    refine (point_yes X Y _ c0).mono ?_
    rintro e w1 ⟨rfl, q1⟩
    obtain ⟨n0, n1, n2, n3, n4, n5, n6⟩ := (SeAt.fresh w X Y W H C R).next q1
    clear n6
    go_wp2_with fail
    go_ret
    exact ⟨rfl, q1.behind _⟩
  have d2 : decide (H < 1) = false := by simpa using t2
  by_cases t3 : 65536 < H
  · have d3 : decide (65536 < H) = true := by simpa using t3
    clear h
    go_enter Tryd.func29, Tryd.ntmps29
    go_wp2_with fail
    refine (point_yes X Y _ c0).mono ?_
    rintro e w1 ⟨rfl, q1⟩
    obtain ⟨n0, n1, n2, n3, n4, n5, n6⟩ := (SeAt.fresh w X Y W H C R).next q1
    clear n6
    go_wp2_with fail
    go_ret
    exact ⟨rfl, q1.behind _⟩
  have d3 : decide (65536 < H) = false := by simpa using t3
  by_cases t4 : C < 1
  · have d4 : decide (C < 1) = true := by simpa using t4
    clear h
    go_enter Tryd.func29, Tryd.ntmps29
    go_wp2_with fail
    refine (point_yes X Y _ c0).mono ?_
    rintro e w1 ⟨rfl, q1⟩
    obtain ⟨n0, n1, n2, n3, n4, n5, n6⟩ := (SeAt.fresh w X Y W H C R).next q1
    clear n6
    go_wp2_with fail
    go_ret
    exact ⟨rfl, q1.behind _⟩
  have d4 : decide (C < 1) = false := by simpa using t4
  by_cases t5 : 16 < C
  · have d5 : decide (16 < C) = true := by simpa using t5
    clear h
    go_enter Tryd.func29, Tryd.ntmps29
    go_wp2_with fail
    refine (point_yes X Y _ c0).mono ?_
    rintro e w1 ⟨rfl, q1⟩
    obtain ⟨n0, n1, n2, n3, n4, n5, n6⟩ := (SeAt.fresh w X Y W H C R).next q1
    clear n6
    go_wp2_with fail
    go_ret
    exact ⟨rfl, q1.behind _⟩
  have d5 : decide (16 < C) = false := by simpa using t5
  by_cases t6 : R < 1
  · have d6 : decide (R < 1) = true := by simpa using t6
    clear h
    go_enter Tryd.func29, Tryd.ntmps29
    go_wp2_with fail
    refine (point_yes X Y _ c0).mono ?_
    rintro e w1 ⟨rfl, q1⟩
    obtain ⟨n0, n1, n2, n3, n4, n5, n6⟩ := (SeAt.fresh w X Y W H C R).next q1
    clear n6
    go_wp2_with fail
    go_ret
    exact ⟨rfl, q1.behind _⟩
  have d6 : decide (R < 1) = false := by simpa using t6
  by_cases t7 : 16 < R
  · have d7 : decide (16 < R) = true := by simpa using t7
    clear h
    go_enter Tryd.func29, Tryd.ntmps29
    go_wp2_with fail
    refine (point_yes X Y _ c0).mono ?_
    rintro e w1 ⟨rfl, q1⟩
    obtain ⟨n0, n1, n2, n3, n4, n5, n6⟩ := (SeAt.fresh w X Y W H C R).next q1
    clear n6
    go_wp2_with fail
    go_ret
    exact ⟨rfl, q1.behind _⟩
  have d7 : decide (16 < R) = false := by simpa using t7
  have b1 := Grid.prod_bd C W 16 65536 (by omega) (by omega) (by omega) (by omega)
  have b2 := Grid.prod_bd R H 16 65536 (by omega) (by omega) (by omega) (by omega)
  have c5 : ¬ ((-1048576 ≤ X + C * W ∧ X + C * W ≤ 1048576) ∧ (-1048576 ≤ Y + R * H ∧ Y + R * H ≤ 1048576)) := fun c => h ⟨c0, by omega, by omega, by omega, by omega, c.1, c.2⟩
  clear h
  obtain ⟨p, hp⟩ : ∃ p, C * W = p := ⟨_, rfl⟩
  obtain ⟨q, hq⟩ : ∃ q, R * H = q := ⟨_, rfl⟩
  rw [hp] at b1 c5
  rw [hq] at b2 c5
  obtain ⟨b10, b11⟩ := b1
  obtain ⟨b20, b21⟩ := b2
  obtain ⟨⟨x0, x1⟩, y0, y1⟩ := c0
  have HC5 := Lib.hid c5
  clear c5
  go_enter Tryd.func29, Tryd.ntmps29
  go_wp2_with fail
  refine (point_yes X Y _ ⟨⟨x0, x1⟩, y0, y1⟩).mono ?_
  rintro e w1 ⟨rfl, q1⟩
  obtain ⟨n0, n1, n2, n3, n4, n5, n6⟩ := (SeAt.fresh w X Y W H C R).next q1
  clear n6
  go_wp2_with fail
  refine (point_no (X + p) (Y + q) _ HC5.out).mono ?_
  rintro e w2 ⟨rfl, q2⟩
  go_wp2_with fail
  go_ret
  exact ⟨rfl, (q1.behind _).trans q2⟩

set_option maxHeartbeats 4000000 in
theorem rcheck_yes (X Y W H C R : Int) (w : World) (h : Grid.Ok X Y W H C R) :
    Calls Tryd.prog 29 #[.agg #[.int .i64 X, .int .i64 Y, .int .i64 W, .int .i64 H, .int .i64 C, .int .i64 R]] w fun e w' => e = .returned (.int .i64 0) ∧ Q w w' := by
  obtain ⟨x0, x1, y0, y1, w0, wu, h0, hu, c0, cu, r0, ru, ex0, ex1, ey0, ey1⟩ := h
  have d0 : decide (W < 1) = false := by simp; omega
  have d1 : decide (65536 < W) = false := by simp; omega
  have d2 : decide (H < 1) = false := by simp; omega
  have d3 : decide (65536 < H) = false := by simp; omega
  have d4 : decide (C < 1) = false := by simp; omega
  have d5 : decide (16 < C) = false := by simp; omega
  have d6 : decide (R < 1) = false := by simp; omega
  have d7 : decide (16 < R) = false := by simp; omega
  have b1 := Grid.prod_bd C W 16 65536 (by omega) (by omega) (by omega) (by omega)
  have b2 := Grid.prod_bd R H 16 65536 (by omega) (by omega) (by omega) (by omega)
  obtain ⟨p, hp⟩ : ∃ p, C * W = p := ⟨_, rfl⟩
  obtain ⟨q, hq⟩ : ∃ q, R * H = q := ⟨_, rfl⟩
  rw [hp] at b1 ex0 ex1
  rw [hq] at b2 ey0 ey1
  obtain ⟨b10, b11⟩ := b1
  obtain ⟨b20, b21⟩ := b2
  go_enter Tryd.func29, Tryd.ntmps29
  go_wp2_with fail
  refine (point_yes X Y _ ⟨⟨x0, x1⟩, y0, y1⟩).mono ?_
  rintro e w1 ⟨rfl, q1⟩
  obtain ⟨n0, n1, n2, n3, n4, n5, n6⟩ := (SeAt.fresh w X Y W H C R).next q1
  clear n6
  go_wp2_with fail
  refine (point_yes (X + p) (Y + q) _ ⟨⟨ex0, ex1⟩, ey0, ey1⟩).mono ?_
  rintro e w2 ⟨rfl, q2⟩
  go_wp2_with fail
  go_ret
  exact ⟨rfl, (q1.behind _).trans q2⟩
end Go.Proofs.YtcaabaijkidmgaaDoor
