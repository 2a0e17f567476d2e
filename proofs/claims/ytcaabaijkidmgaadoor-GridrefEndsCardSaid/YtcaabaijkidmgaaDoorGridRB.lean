/- Contracts of the reference's there, place and Box (package mapsheetsref40). -/
import Derived.Test.YtcaabaijkidmgaaDoorGridRC
namespace Go.Proofs.YtcaabaijkidmgaaDoor
open Go.RowKit
set_option linter.unusedVariables false

theorem there_yes (X Y W H C R s : Int) (w : World) (h : Grid.Ok X Y W H C R) (hs0 : 1 ≤ s) (hs1 : s ≤ C * R) :
    Calls Tryd.prog 40 #[.agg #[.int .i64 X, .int .i64 Y, .int .i64 W, .int .i64 H, .int .i64 C, .int .i64 R], .int .i64 s] w fun e w' => e = .returned (.bool true) ∧ Q w w' := by
  have hp := Grid.prod_bd C R 16 16 h.c0 h.c1 h.r0 h.r1
  obtain ⟨n, hn⟩ : ∃ n, C * R = n := ⟨_, rfl⟩
  rw [hn] at hs1 hp
  obtain ⟨hp0, hp1⟩ := hp
  clear h
  have d1 : decide (1 ≤ s) = true := by simp; omega
  have d2 : decide (s ≤ n) = true := by simp; omega
  go_enter Tryd.func40, Tryd.ntmps40
  go_wp2_with fail
  go_ret
  exact ⟨rfl, (Q.refl w).alloc _⟩
theorem there_no (X Y W H C R s : Int) (w : World) (h : Grid.Ok X Y W H C R) (hs : s < 1 ∨ C * R < s) :
    Calls Tryd.prog 40 #[.agg #[.int .i64 X, .int .i64 Y, .int .i64 W, .int .i64 H, .int .i64 C, .int .i64 R], .int .i64 s] w fun e w' => e = .returned (.bool false) ∧ Q w w' := by
  have hp := Grid.prod_bd C R 16 16 h.c0 h.c1 h.r0 h.r1
  obtain ⟨n, hn⟩ : ∃ n, C * R = n := ⟨_, rfl⟩
  rw [hn] at hs hp
  obtain ⟨hp0, hp1⟩ := hp
  clear h
  by_cases k : 1 ≤ s
  · have d1 : decide (1 ≤ s) = true := by simpa using k
    have d2 : decide (s ≤ n) = false := by simp; omega
    go_enter Tryd.func40, Tryd.ntmps40
    go_wp2_with fail
    go_ret
    exact ⟨rfl, (Q.refl w).alloc _⟩
  · have d1 : decide (1 ≤ s) = false := by simpa using k
    go_enter Tryd.func40, Tryd.ntmps40
    go_wp2_with fail
    go_ret
    exact ⟨rfl, (Q.refl w).alloc _⟩
theorem place_any (X Y W H C R s : Int) (w : World) (h : Grid.Ok X Y W H C R) (hs0 : 1 ≤ s) (hs1 : s ≤ 256) :
    Calls Tryd.prog 53 #[.agg #[.int .i64 X, .int .i64 Y, .int .i64 W, .int .i64 H, .int .i64 C, .int .i64 R], .int .i64 s] w fun e w' => e = .returned (.tuple #[.int .i64 ((s - 1) % C), .int .i64 ((s - 1) / C)]) ∧ Q w w' := by
  have hc0 := h.c0
  have hc1 := h.c1
  clear h
  have dn : ¬ C = 0 := by omega
  have hw1 : IntKind.i64.wrap (s - 1) = s - 1 := IntWalk.i64_in _ (by omega)
  have hq0 : 0 ≤ (s - 1) / C := Int.ediv_nonneg (by omega) (by omega)
  have hq1 : (s - 1) / C ≤ s - 1 := Int.ediv_le_self _ (by omega)
  have hw2 : wrap64 ((s - 1).tdiv C) = (s - 1) / C := by
    rw [Int.tdiv_eq_ediv_of_nonneg (by omega)]
    exact IntWalk.wrap64_in _ ⟨by omega, by omega⟩
  have hw3 : (s - 1).tmod C = (s - 1) % C := Int.tmod_eq_emod_of_nonneg (by omega)
  go_enter Tryd.func53, Tryd.ntmps53
  go_wp2_with fail
  go_quiet (fail)
  go_wp2_with fail
  go_ret2
  exact ⟨rfl, ((Q.refl w).alloc _).drewN _⟩

set_option maxHeartbeats 4000000 in
theorem rbox_core (X Y W H C R s c r p q a b : Int) (w : World) (h : Grid.Ok X Y W H C R) (hs0 : 1 ≤ s) (hs1 : s ≤ C * R) (hc : (s - 1) % C = c) (hr : (s - 1) / C = r)
    (e1 : wrap64 (c * W) = p) (e2 : wrap64 (X + p) = a) (e3 : wrap64 (r * H) = q) (e4 : wrap64 (Y + q) = b) (ha0 : -1048576 ≤ a) (ha1 : a ≤ 1048576) (hb0 : -1048576 ≤ b) (hb1 : b ≤ 1048576) :
    Calls Tryd.prog 36 #[.agg #[.int .i64 X, .int .i64 Y, .int .i64 W, .int .i64 H, .int .i64 C, .int .i64 R], .int .i64 s] w fun e w' => e = .returned (.tuple #[.agg #[.int .i64 a, .int .i64 b, .int .i64 (a + W), .int .i64 (b + H)], .int .i64 0]) ∧ Q w w' := by
  have hp := Grid.prod_bd C R 16 16 h.c0 h.c1 h.r0 h.r1
  have HC := Lib.hid (fun W' => rcheck_yes X Y W H C R W' h)
  have HT := Lib.hid (fun W' => there_yes X Y W H C R s W' h hs0 hs1)
  have HP := Lib.hid (fun W' => place_any X Y W H C R s W' h hs0 (by omega))
  rw [hc, hr] at HP
  have w0 := h.w0
  have wu := h.w1
  have h0 := h.h0
  have hu := h.h1
  clear h hc hr hp hs0 hs1
  go_enter Tryd.func36, Tryd.ntmps36
  go_wp2_with fail
  refine (HC.out _).mono ?_
  rintro e w1 ⟨rfl, q1⟩
  have hse := ((SeAt.fresh w X Y W H C R).next ((Q.refl _).alloc _)).next q1
  have HSE := Lib.hid hse
  obtain ⟨k0, k1, k2, k3, k4, k5, k6⟩ := hse
  clear k6
  go_wp2_with fail
  refine (HT.out _).mono ?_
  rintro e w2 ⟨rfl, q2⟩
  clear k0 k1 k2 k3 k4 k5
  obtain ⟨k0, k1, k2, k3, k4, k5, k6⟩ := HSE.out.next q2
  clear k6
  go_wp2_with fail
  refine (HP.out _).mono ?_
  rintro e w3 ⟨rfl, q3⟩
  clear k0 k1 k2 k3 k4 k5
  obtain ⟨k0, k1, k2, k3, k4, k5, k6⟩ := (HSE.out.next q2).next q3
  clear k6
  have q13 := q1.trans (q2.trans q3)
  have hb : w3.heap[w.heap.size + 1]? = some (.cells #[.int .i64 0, .int .i64 0, .int .i64 0, .int .i64 0] 33 (0, 0)) := by
    rw [q13.block (by simp)]
    exact heap_alloc2_new w _ _
  have m0 : w3.cell? ⟨w.heap.size + 1, 0, none⟩ = some (.int .i64 0) := by rw [cell_of_row w3 _ 0 _ _ _ hb]; rfl
  have m1 : w3.cell? ⟨w.heap.size + 1, 1, none⟩ = some (.int .i64 0) := by rw [cell_of_row w3 _ 1 _ _ _ hb]; rfl
  have m2 : w3.cell? ⟨w.heap.size + 1, 2, none⟩ = some (.int .i64 0) := by rw [cell_of_row w3 _ 2 _ _ _ hb]; rfl
  have m3 : w3.cell? ⟨w.heap.size + 1, 3, none⟩ = some (.int .i64 0) := by rw [cell_of_row w3 _ 3 _ _ _ hb]; rfl
  have f0 := frozen_of_row w3 _ 0 _ _ hb
  have f1 := frozen_of_row w3 _ 1 _ _ hb
  have f2 := frozen_of_row w3 _ 2 _ _ hb
  have f3 := frozen_of_row w3 _ 3 _ _ hb
  have HB := Lib.hid hb
  clear hb
  go_wp2_with fail
  go_quiet (fail)
  rw [e2, e4]
  clear e1 e2 e3 e4
  go_wp2_with fail
  refine bodyPost_ret (results_cell_tmp rfl _ _ _ _ _ _ _ rfl (heap_setCell_same _ _ _ _ _ _ (heap_setCell_same _ _ _ _ _ _ (heap_setCell_same _ _ _ _ _ _ (heap_setCell_same _ _ _ _ _ _ (show (w3.drewN _).heap[w.heap.size + 1]? = _ from HB.out))))) Tryd.underlying33 rfl (by kernel_rfl)) rfl ⟨rfl, ?_⟩
  · repeat (refine Q.setCell ?_ (by simp) _)
    exact ((q13.behind _).behind _).drewN _

theorem rbox_there (X Y W H C R s : Int) (w : World) (h : Grid.Ok X Y W H C R) (hs0 : 1 ≤ s) (hs1 : s ≤ C * R) :
    Calls Tryd.prog 36 #[.agg #[.int .i64 X, .int .i64 Y, .int .i64 W, .int .i64 H, .int .i64 C, .int .i64 R], .int .i64 s] w fun e w' => e = .returned (.tuple #[.agg #[.int .i64 (Grid.bx X W C s), .int .i64 (Grid.by' Y H C s), .int .i64 (Grid.bx X W C s + W), .int .i64 (Grid.by' Y H C s + H)], .int .i64 0]) ∧ Q w w' := by
  obtain ⟨p0, p1, p2, p3⟩ := Grid.place C R s h.c0 hs0 hs1
  have a := Grid.place_bd _ _ (C * W) W p0 p1 h.w0 (Int.le_refl _)
  have b := Grid.place_bd _ _ (R * H) H p2 p3 h.h0 (Int.le_refl _)
  have ca := Grid.prod_bd C W 16 65536 h.c0 h.c1 h.w0 h.w1
  have cb := Grid.prod_bd R H 16 65536 h.r0 h.r1 h.h0 h.h1
  have x0 := h.x0
  have y0 := h.y0
  have ex1 := h.ex1
  have ey1 := h.ey1
  have w0 := h.w0
  have h0 := h.h0
  unfold Grid.bx Grid.by'
  exact rbox_core X Y W H C R s _ _ _ _ _ _ w h hs0 hs1 rfl rfl (IntWalk.wrap64_in _ ⟨by omega, by omega⟩) (IntWalk.wrap64_in _ ⟨by omega, by omega⟩) (IntWalk.wrap64_in _ ⟨by omega, by omega⟩) (IntWalk.wrap64_in _ ⟨by omega, by omega⟩) (by omega) (by omega) (by omega) (by omega)

set_option maxHeartbeats 4000000 in
theorem rbox_bad (X Y W H C R s : Int) (w : World) (h : ¬ Grid.Ok X Y W H C R) :
    Calls Tryd.prog 36 #[.agg #[.int .i64 X, .int .i64 Y, .int .i64 W, .int .i64 H, .int .i64 C, .int .i64 R], .int .i64 s] w fun e w' => e = .returned (.tuple #[.agg #[.int .i64 0, .int .i64 0, .int .i64 0, .int .i64 0], .int .i64 2]) ∧ Q w w' := by
  go_enter Tryd.func36, Tryd.ntmps36
  go_wp2_with fail
  refine (rcheck_no X Y W H C R _ h).mono ?_
  rintro e wX ⟨rfl, qX⟩
  have hb : wX.heap[w.heap.size + 1]? = some (.cells #[.int .i64 0, .int .i64 0, .int .i64 0, .int .i64 0] 33 (0, 0)) := by
    rw [qX.block (by simp)]
    exact heap_alloc2_new w _ _
  have m0 : wX.cell? ⟨w.heap.size + 1, 0, none⟩ = some (.int .i64 0) := by rw [cell_of_row wX _ 0 _ _ _ hb]; rfl
  have m1 : wX.cell? ⟨w.heap.size + 1, 1, none⟩ = some (.int .i64 0) := by rw [cell_of_row wX _ 1 _ _ _ hb]; rfl
  have m2 : wX.cell? ⟨w.heap.size + 1, 2, none⟩ = some (.int .i64 0) := by rw [cell_of_row wX _ 2 _ _ _ hb]; rfl
  have m3 : wX.cell? ⟨w.heap.size + 1, 3, none⟩ = some (.int .i64 0) := by rw [cell_of_row wX _ 3 _ _ _ hb]; rfl
  have f0 := frozen_of_row wX _ 0 _ _ hb
  have f1 := frozen_of_row wX _ 1 _ _ hb
  have f2 := frozen_of_row wX _ 2 _ _ hb
  have f3 := frozen_of_row wX _ 3 _ _ hb
  have HB := Lib.hid hb
  clear hb
  go_wp2_with fail
  refine bodyPost_ret (results_cell_tmp rfl _ _ _ _ _ _ _ rfl (heap_setCell_same _ _ _ _ _ _ (heap_setCell_same _ _ _ _ _ _ (heap_setCell_same _ _ _ _ _ _ (heap_setCell_same _ _ _ _ _ _ HB.out)))) Tryd.underlying33 rfl (by kernel_rfl)) rfl ⟨rfl, ?_⟩
  · repeat (refine Q.setCell ?_ (by simp) _)
    exact (qX.behind _).behind _

set_option maxHeartbeats 4000000 in
theorem rbox_none (X Y W H C R s : Int) (w : World) (h : Grid.Ok X Y W H C R) (hs : s < 1 ∨ C * R < s) :
    Calls Tryd.prog 36 #[.agg #[.int .i64 X, .int .i64 Y, .int .i64 W, .int .i64 H, .int .i64 C, .int .i64 R], .int .i64 s] w fun e w' => e = .returned (.tuple #[.agg #[.int .i64 0, .int .i64 0, .int .i64 0, .int .i64 0], .int .i64 7]) ∧ Q w w' := by
  have HT := Lib.hid (fun W' => there_no X Y W H C R s W' h hs)
  have HC := Lib.hid (fun W' => rcheck_yes X Y W H C R W' h)
  clear h hs
  go_enter Tryd.func36, Tryd.ntmps36
  go_wp2_with fail
  refine (HC.out _).mono ?_
  rintro e w1 ⟨rfl, q1⟩
  obtain ⟨k0, k1, k2, k3, k4, k5, k6⟩ := ((SeAt.fresh w X Y W H C R).next ((Q.refl _).alloc _)).next q1
  clear k6
  go_wp2_with fail
  refine (HT.out _).mono ?_
  rintro e wX ⟨rfl, q2⟩
  have qX := q1.trans q2
  clear k0 k1 k2 k3 k4 k5
  have hb : wX.heap[w.heap.size + 1]? = some (.cells #[.int .i64 0, .int .i64 0, .int .i64 0, .int .i64 0] 33 (0, 0)) := by
    rw [qX.block (by simp)]
    exact heap_alloc2_new w _ _
  have m0 : wX.cell? ⟨w.heap.size + 1, 0, none⟩ = some (.int .i64 0) := by rw [cell_of_row wX _ 0 _ _ _ hb]; rfl
  have m1 : wX.cell? ⟨w.heap.size + 1, 1, none⟩ = some (.int .i64 0) := by rw [cell_of_row wX _ 1 _ _ _ hb]; rfl
  have m2 : wX.cell? ⟨w.heap.size + 1, 2, none⟩ = some (.int .i64 0) := by rw [cell_of_row wX _ 2 _ _ _ hb]; rfl
  have m3 : wX.cell? ⟨w.heap.size + 1, 3, none⟩ = some (.int .i64 0) := by rw [cell_of_row wX _ 3 _ _ _ hb]; rfl
  have f0 := frozen_of_row wX _ 0 _ _ hb
  have f1 := frozen_of_row wX _ 1 _ _ hb
  have f2 := frozen_of_row wX _ 2 _ _ hb
  have f3 := frozen_of_row wX _ 3 _ _ hb
  have HB := Lib.hid hb
  clear hb
  go_wp2_with fail
  refine bodyPost_ret (results_cell_tmp rfl _ _ _ _ _ _ _ rfl (heap_setCell_same _ _ _ _ _ _ (heap_setCell_same _ _ _ _ _ _ (heap_setCell_same _ _ _ _ _ _ (heap_setCell_same _ _ _ _ _ _ HB.out)))) Tryd.underlying33 rfl (by kernel_rfl)) rfl ⟨rfl, ?_⟩
  · repeat (refine Q.setCell ?_ (by simp) _)
    exact (qX.behind _).behind _
end Go.Proofs.YtcaabaijkidmgaaDoor
