/- Contract of sheetgrid.Box: the box of a sheet, or the error. -/
import Derived.Test.YtpnifjeelmfegaaDoorGridFind
namespace Go.Proofs.YtpnifjeelmfegaaDoor
open Go.RowKit
set_option linter.unusedVariables false

set_option maxHeartbeats 4000000 in
theorem box_yes (X Y W H C R s : Int) (w : World) (h : Grid.Ok X Y W H C R) (hs0 : 1 ≤ s) (hs1 : s ≤ C * R) (c r : Int) (hc : (s - 1) % C = c) (hr : (s - 1) / C = r) (p q : Int) (hp : c * W = p) (hq : r * H = q)
    (hp0 : 0 ≤ p) (hp1 : p ≤ 1048576) (hq0 : 0 ≤ q) (hq1 : q ≤ 1048576) :
    Calls Tryd.prog 10 #[.agg #[.int .i64 X, .int .i64 Y, .int .i64 W, .int .i64 H, .int .i64 C, .int .i64 R], .int .i64 s] w fun e w' => e = .returned (.tuple #[.agg #[.int .i64 (X + p), .int .i64 (Y + q), .int .i64 (X + p + W), .int .i64 (Y + q + H)], .int .i64 0]) ∧ Q w w' := by
  have HF := Lib.hid (fun W' => find_yes X Y W H C R s W' h hs0 hs1)
  rw [hc, hr] at HF
  obtain ⟨x0, x1, y0, y1, w0, w1, h0, h1, c0, c1, r0, r1, ex0, ex1, ey0, ey1⟩ := h
  clear ex0 ex1 ey0 ey1 hc hr
  go_enter Tryd.func10, Tryd.ntmps10
  go_wp2_with fail
  refine (HF.out _).mono ?_
  rintro e w1 ⟨rfl, q1⟩
  have hse := ((SeAt.fresh w X Y W H C R).next ((Q.refl _).alloc _)).next q1
  obtain ⟨k0, k1, k2, k3, k4, k5, k6⟩ := hse
  have hb : w1.heap[w.heap.size + 1]? = some (.cells #[.int .i64 0, .int .i64 0, .int .i64 0, .int .i64 0] 27 (0, 0)) := by
    rw [q1.block (by simp)]
    exact heap_alloc2_new w _ _
  have m0 : w1.cell? ⟨w.heap.size + 1, 0, none⟩ = some (.int .i64 0) := by rw [cell_of_row w1 _ 0 _ _ _ hb]; rfl
  have m1 : w1.cell? ⟨w.heap.size + 1, 1, none⟩ = some (.int .i64 0) := by rw [cell_of_row w1 _ 1 _ _ _ hb]; rfl
  have m2 : w1.cell? ⟨w.heap.size + 1, 2, none⟩ = some (.int .i64 0) := by rw [cell_of_row w1 _ 2 _ _ _ hb]; rfl
  have m3 : w1.cell? ⟨w.heap.size + 1, 3, none⟩ = some (.int .i64 0) := by rw [cell_of_row w1 _ 3 _ _ _ hb]; rfl
  have f0 := frozen_of_row w1 _ 0 _ _ hb
  have f1 := frozen_of_row w1 _ 1 _ _ hb
  have f2 := frozen_of_row w1 _ 2 _ _ hb
  have f3 := frozen_of_row w1 _ 3 _ _ hb
  have HB := Lib.hid hb
  clear hb k4 k5 k6
  go_wp2_with fail
  refine bodyPost_ret (results_cell_tmp rfl _ _ _ _ _ _ _ rfl (heap_setCell_same _ _ _ _ _ _ (heap_setCell_same _ _ _ _ _ _ (heap_setCell_same _ _ _ _ _ _ (heap_setCell_same _ _ _ _ _ _ (heap_setCell_same _ _ _ _ _ _ (heap_setCell_same _ _ _ _ _ _ (heap_setCell_same _ _ _ _ _ _ (heap_setCell_same _ _ _ _ _ _ HB.out)))))))) Tryd.underlying27 rfl (by kernel_rfl)) rfl ⟨rfl, ?_⟩
  · repeat (refine Q.setCell ?_ (by simp) _)
    exact (q1.behind _).behind _

set_option maxHeartbeats 4000000 in
theorem box_err (X Y W H C R s er : Int) (w : World) (her : (er != 0) = true) (HF : Hid (∀ W', Calls Tryd.prog 27 #[.agg #[.int .i64 X, .int .i64 Y, .int .i64 W, .int .i64 H, .int .i64 C, .int .i64 R], .int .i64 s] W' fun e w' => e = .returned (.tuple #[.int .i64 0, .int .i64 0, .int .i64 er]) ∧ Q W' w')) :
    Calls Tryd.prog 10 #[.agg #[.int .i64 X, .int .i64 Y, .int .i64 W, .int .i64 H, .int .i64 C, .int .i64 R], .int .i64 s] w fun e w' => e = .returned (.tuple #[.agg #[.int .i64 0, .int .i64 0, .int .i64 0, .int .i64 0], .int .i64 er]) ∧ Q w w' := by
  go_enter Tryd.func10, Tryd.ntmps10
  go_wp2_with fail
  refine (HF.out _).mono ?_
  rintro e w1 ⟨rfl, q1⟩
  have hb : w1.heap[w.heap.size + 1]? = some (.cells #[.int .i64 0, .int .i64 0, .int .i64 0, .int .i64 0] 27 (0, 0)) := by
    rw [q1.block (by simp)]
    exact heap_alloc2_new w _ _
  have m0 : w1.cell? ⟨w.heap.size + 1, 0, none⟩ = some (.int .i64 0) := by rw [cell_of_row w1 _ 0 _ _ _ hb]; rfl
  have m1 : w1.cell? ⟨w.heap.size + 1, 1, none⟩ = some (.int .i64 0) := by rw [cell_of_row w1 _ 1 _ _ _ hb]; rfl
  have m2 : w1.cell? ⟨w.heap.size + 1, 2, none⟩ = some (.int .i64 0) := by rw [cell_of_row w1 _ 2 _ _ _ hb]; rfl
  have m3 : w1.cell? ⟨w.heap.size + 1, 3, none⟩ = some (.int .i64 0) := by rw [cell_of_row w1 _ 3 _ _ _ hb]; rfl
  have f0 := frozen_of_row w1 _ 0 _ _ hb
  have f1 := frozen_of_row w1 _ 1 _ _ hb
  have f2 := frozen_of_row w1 _ 2 _ _ hb
  have f3 := frozen_of_row w1 _ 3 _ _ hb
  have HB := Lib.hid hb
  clear hb
  go_wp2_with fail
  refine bodyPost_ret (results_cell_tmp rfl _ _ _ _ _ _ _ rfl (heap_setCell_same _ _ _ _ _ _ (heap_setCell_same _ _ _ _ _ _ (heap_setCell_same _ _ _ _ _ _ (heap_setCell_same _ _ _ _ _ _ HB.out)))) Tryd.underlying27 rfl (by kernel_rfl)) rfl ⟨rfl, ?_⟩
  · repeat (refine Q.setCell ?_ (by simp) _)
    exact (q1.behind _).behind _

namespace Grid
/-- The column and the row of a sheet of a series of C columns and R rows. -/
theorem place (C R s : Int) (hc0 : 1 ≤ C) (hs0 : 1 ≤ s) (hs1 : s ≤ C * R) : 0 ≤ (s - 1) % C ∧ (s - 1) % C < C ∧ 0 ≤ (s - 1) / C ∧ (s - 1) / C < R := by
  refine ⟨Int.emod_nonneg _ (by omega), Int.emod_lt_of_pos _ (by omega), Int.ediv_nonneg (by omega) (by omega), ?_⟩
  refine (Int.ediv_lt_iff_lt_mul (by omega)).2 ?_
  rw [Int.mul_comm]
  omega
theorem place_bd (a b n : Int) (W : Int) (ha0 : 0 ≤ a) (ha : a < b) (hW : 1 ≤ W) (h : b * W ≤ n) : 0 ≤ a * W ∧ a * W + W ≤ n := by
  have h1 : (a + 1) * W ≤ b * W := Int.mul_le_mul_of_nonneg_right (by omega) (by omega)
  rw [Int.add_mul] at h1
  exact ⟨Int.mul_nonneg ha0 (by omega), by omega⟩
/-- Where the box of a sheet begins. -/
def bx (X W C s : Int) : Int := X + (s - 1) % C * W
def by' (Y H C s : Int) : Int := Y + (s - 1) / C * H
end Grid

/-- The box of a sheet that is there. -/
theorem box_there (X Y W H C R s : Int) (w : World) (h : Grid.Ok X Y W H C R) (hs0 : 1 ≤ s) (hs1 : s ≤ C * R) :
    Calls Tryd.prog 10 #[.agg #[.int .i64 X, .int .i64 Y, .int .i64 W, .int .i64 H, .int .i64 C, .int .i64 R], .int .i64 s] w fun e w' => e = .returned (.tuple #[.agg #[.int .i64 (Grid.bx X W C s), .int .i64 (Grid.by' Y H C s), .int .i64 (Grid.bx X W C s + W), .int .i64 (Grid.by' Y H C s + H)], .int .i64 0]) ∧ Q w w' := by
  obtain ⟨p0, p1, p2, p3⟩ := Grid.place C R s h.c0 hs0 hs1
  have a := Grid.place_bd _ _ (C * W) W p0 p1 h.w0 (Int.le_refl _)
  have b := Grid.place_bd _ _ (R * H) H p2 p3 h.h0 (Int.le_refl _)
  have ca := Grid.prod_bd C W 16 65536 h.c0 h.c1 h.w0 h.w1
  have cb := Grid.prod_bd R H 16 65536 h.r0 h.r1 h.h0 h.h1
  exact box_yes X Y W H C R s w h hs0 hs1 _ _ rfl rfl _ _ rfl rfl a.1 (by have := h.w0; omega) b.1 (by have := h.h0; omega)
theorem box_bad (X Y W H C R s : Int) (w : World) (h : ¬ Grid.Ok X Y W H C R) :
    Calls Tryd.prog 10 #[.agg #[.int .i64 X, .int .i64 Y, .int .i64 W, .int .i64 H, .int .i64 C, .int .i64 R], .int .i64 s] w fun e w' => e = .returned (.tuple #[.agg #[.int .i64 0, .int .i64 0, .int .i64 0, .int .i64 0], .int .i64 2]) ∧ Q w w' :=
  box_err X Y W H C R s 2 w rfl (fun W' => find_bad X Y W H C R s W' h)
theorem box_none (X Y W H C R s : Int) (w : World) (h : Grid.Ok X Y W H C R) (hs : s < 1 ∨ C * R < s) :
    Calls Tryd.prog 10 #[.agg #[.int .i64 X, .int .i64 Y, .int .i64 W, .int .i64 H, .int .i64 C, .int .i64 R], .int .i64 s] w fun e w' => e = .returned (.tuple #[.agg #[.int .i64 0, .int .i64 0, .int .i64 0, .int .i64 0], .int .i64 7]) ∧ Q w w' :=
  box_err X Y W H C R s 7 w rfl (fun W' => find_none X Y W H C R s W' h hs)
end Go.Proofs.YtpnifjeelmfegaaDoor
