
/- The examples of chapter 13 hold (mapsheetslaw13.awake). -/
import Derived.Test.YtmagppjmjjkbjaaPrjS
namespace Go.Proofs.Ytmagppjmjjkbjaa
open Go.RowKit
set_option linter.unusedVariables false

theorem ok1 : Prj.Ok 1 0 0 1000 := by decide
theorem ok2 : Prj.Ok 1 0 0 524288 := by decide
theorem Pts.row {w : World} {B : Nat} {T : TypeId} {fr : Nat × Nat} (l : List (Int × Int)) (h : w.heap[B]? = some (.cells (ptCells l).toArray T fr)) : Pts w (.slice (some ⟨B, 0, none⟩) l.length l.length) l := by
  refine ⟨_, _, rfl, Nat.le_refl _, ptCells_len l, fun hn => ⟨_, rfl, (Array.getElem?_eq_some_iff.1 h).1, fun j u hu => ?_⟩⟩
  have e : (⟨B, 0, none⟩ : Addr).add j = ⟨B, j, none⟩ := by
    unfold Addr.add
    split
    · rename_i h0; rw [h0]
    · simp
  rw [e, cell_of_row w B j _ _ _ h]
  simpa using hu
theorem v1 : Prj.qx 1 0 0 1000 206265 0 = 1000 ∧ Prj.qy 1 0 0 1000 206265 0 = 0 ∧ Prj.qe 1 0 0 1000 206265 0 = 0 := by decide +kernel
theorem v2 : Prj.fx 1 0 0 1000 1000 0 = 206162 ∧ Prj.fy 1 0 0 1000 1000 0 = -103 ∧ Prj.fe 1 0 0 1000 1000 0 = 0 := by decide +kernel
theorem v3 : Prj.pl 1 0 0 1000 [(0, 0), (0, 1), (0, 206265)] = [(0, 0), (0, 1000)] ∧ Prj.pe 1 0 0 1000 [(0, 0), (0, 1), (0, 206265)] = 0 := by decide +kernel
theorem v4 : Prj.qx 1 0 0 524288 1 0 = 3 ∧ Prj.qy 1 0 0 524288 1 0 = 0 ∧ Prj.qe 1 0 0 524288 1 0 = 0 := by decide +kernel
theorem v5 : Prj.qx 1 0 0 1000 0 306001 = 0 ∧ Prj.qy 1 0 0 1000 0 306001 = 0 ∧ Prj.qe 1 0 0 1000 0 306001 = 2 := by decide +kernel

set_option maxRecDepth 100000 in
set_option maxHeartbeats 2000000 in
theorem pawake_true (w : World) : Calls Try.prog 10 #[] w fun e w' => e = .returned (.bool true) ∧ Q w w' := by
  have H1 := Lib.hid (fun W => To_ok 1 0 0 1000 206265 0 W ok1)
  rw [v1.1, v1.2.1, v1.2.2] at H1
  have H2 := Lib.hid (fun W => From_ok 1 0 0 1000 1000 0 W ok1)
  rw [v2.1, v2.2.1, v2.2.2] at H2
  have H3 := Lib.hid (fun v W hv => Path_in 1 0 0 1000 v [(0, 0), (0, 1), (0, 206265)] W ok1 hv (by decide))
  rw [v3.1, v3.2] at H3
  have H4 := Lib.hid (fun W => To_ok 1 0 0 524288 1 0 W ok2)
  rw [v4.1, v4.2.1, v4.2.2] at H4
  have H5 := Lib.hid (fun W => To_ok 1 0 0 1000 0 306001 W ok1)
  rw [v5.1, v5.2.1, v5.2.2] at H5
  have HP := Lib.hid (prs_fresh 1 0 0 1000 w)
  go_enter Try.func10, Try.ntmps10
  go_wp2_with fail
  refine (H1.out _).mono ?_
  rintro e w1 ⟨rfl, q1⟩
  have q1a := q1.alloc (.cells #[.int .i64 1000, .int .i64 0] 29)
  have A1 := Lib.hid (heap_alloc_new w1 (.cells #[.int .i64 1000, .int .i64 0] 29))
  obtain ⟨k0, k1, k2, k3, _⟩ := pr_next HP.out q1
  have z1 : w.heap.size < w1.heap.size := block_lt_of_cell k0
  go_wp2_with fail
  refine (H2.out _).mono ?_
  rintro e w2 ⟨rfl, q2⟩
  clear k0 k1 k2 k3 z1
  have q12 := q1a.trans q2
  have q2a := q12.alloc (.cells #[.int .i64 206162, .int .i64 (-103)] 29)
  have A2 := Lib.hid (heap_alloc_new w2 (.cells #[.int .i64 206162, .int .i64 (-103)] 29))
  obtain ⟨k0, k1, k2, k3, _⟩ := pr_next HP.out q12
  have z2 : w.heap.size < w2.heap.size := block_lt_of_cell k0
  have q2s := q2a.alloc (.cells #[.int .i64 0, .int .i64 0, .int .i64 0, .int .i64 1, .int .i64 0, .int .i64 206265] 29)
  have HPT := Lib.hid (show Pts ((w2.alloc (.cells #[.int .i64 206162, .int .i64 (-103)] 29)).alloc (.cells #[.int .i64 0, .int .i64 0, .int .i64 0, .int .i64 1, .int .i64 0, .int .i64 206265] 29)) (.slice (some ⟨w2.heap.size + 1, 0, none⟩) 3 3) [(0, 0), (0, 1), (0, 206265)] by
    have := Pts.row [(0, 0), (0, 1), (0, 206265)] (heap_alloc_new (w2.alloc (.cells #[.int .i64 206162, .int .i64 (-103)] 29)) (.cells #[.int .i64 0, .int .i64 0, .int .i64 0, .int .i64 1, .int .i64 0, .int .i64 206265] 29))
    rw [size_alloc] at this
    exact this)
  go_wp2_with fail
  refine (H3.out _ _ HPT.out).mono ?_
  rintro e w3 ⟨v, rfl, hp3, q3⟩
  have HV := Lib.hid hp3
  clear k0 k1 k2 k3 z2 hp3
  have q13 := q2s.trans q3
  go_wp2_with fail
  refine (H4.out _).mono ?_
  rintro e w4 ⟨rfl, q4⟩
  have q14 := q13.trans q4
  have q4a := q14.alloc (.cells #[.int .i64 3, .int .i64 0] 29)
  have A4 := Lib.hid (heap_alloc_new w4 (.cells #[.int .i64 3, .int .i64 0] 29))
  obtain ⟨k0, k1, k2, k3, _⟩ := pr_next HP.out q14
  have z4 : w.heap.size < w4.heap.size := block_lt_of_cell k0
  go_wp2_with fail
  refine (H5.out _).mono ?_
  rintro e w5 ⟨rfl, q5⟩
  clear k0 k1 k2 k3 z4
  have b1 := b_next ((((((q2.alloc (.cells #[.int .i64 206162, .int .i64 (-103)] 29)).alloc (.cells #[.int .i64 0, .int .i64 0, .int .i64 0, .int .i64 1, .int .i64 0, .int .i64 206265] 29)).trans q3).trans q4).alloc (.cells #[.int .i64 3, .int .i64 0] 29)).trans q5) A1.out
  have b2 := b_next ((((((Q.refl _).alloc (.cells #[.int .i64 0, .int .i64 0, .int .i64 0, .int .i64 1, .int .i64 0, .int .i64 206265] 29)).trans q3).trans q4).alloc (.cells #[.int .i64 3, .int .i64 0] 29)).trans q5) A2.out
  have b4 := b_next q5 A4.out
  have c10 := row_cell (i := 0) b1 rfl
  have c11 := row_cell (i := 1) b1 rfl
  have c20 := row_cell (i := 0) b2 rfl
  have c21 := row_cell (i := 1) b2 rfl
  have c40 := row_cell (i := 0) b4 rfl
  have c41 := row_cell (i := 1) b4 rfl
  have y1 : w1.heap.size < w5.heap.size := block_lt_of_cell c10
  have y2 : w2.heap.size < w5.heap.size := block_lt_of_cell c20
  have y4 : w4.heap.size < w5.heap.size := block_lt_of_cell c40
  have HVE := Lib.hid (HV.out.next (((q4.alloc (.cells #[.int .i64 3, .int .i64 0] 29)).trans q5).alloc (.cells #[.int .i64 0, .int .i64 0] 29) |>.alloc (.cells #[.int .i64 0, .int .i64 0, .int .i64 0, .int .i64 1000] 29)))
  have HPE := Lib.hid (show Pts ((w5.alloc (.cells #[.int .i64 0, .int .i64 0] 29)).alloc (.cells #[.int .i64 0, .int .i64 0, .int .i64 0, .int .i64 1000] 29)) (.slice (some ⟨w5.heap.size + 1, 0, none⟩) 2 2) [(0, 0), (0, 1000)] by
    have := Pts.row [(0, 0), (0, 1000)] (heap_alloc_new (w5.alloc (.cells #[.int .i64 0, .int .i64 0] 29)) (.cells #[.int .i64 0, .int .i64 0, .int .i64 0, .int .i64 1000] 29))
    rw [size_alloc] at this
    exact this)
  clear b1 b2 b4
  go_wp2_with fail
  refine (psame_true _ _ [(0, 0), (0, 1000)] _ HVE.out HPE.out (by decide)).mono ?_
  rintro e w8 ⟨rfl, q8⟩
  have m40 := t_next q8 (t_next (((Q.refl w5).alloc (.cells #[.int .i64 0, .int .i64 0] 29)).alloc (.cells #[.int .i64 0, .int .i64 0, .int .i64 0, .int .i64 1000] 29)) c40)
  have m41 := t_next q8 (t_next (((Q.refl w5).alloc (.cells #[.int .i64 0, .int .i64 0] 29)).alloc (.cells #[.int .i64 0, .int .i64 0, .int .i64 0, .int .i64 1000] 29)) c41)
  clear c10 c11 c20 c21 c40 c41
  go_wp2_with fail
  go_ret
  exact ⟨rfl, ((q4a.behind _).trans q5).trans ((q8.behind _).behind _)⟩
end Go.Proofs.Ytmagppjmjjkbjaa
