/- GE: joined texts. -/
import Derived.Test.YtcaabaijkidmgaaDoorGC
import Derived.Test.YtcaabaijkidmgaaDoorGridNm
import Derived.Deep.RegionHeld3
import Derived.Test.YtcaabaijkidmgaaDoorGridRB

/- Contract of gridref.Parse. -/
namespace Go.Proofs.YtcaabaijkidmgaaDoor
open Go.RowKit
set_option linter.unusedVariables false

/-- A call that leaves the world alone, behind some draws of a region. -/
theorem quiet_l {P : Program} {f : FuncId} {args : Array Value} {w : World} {n : Nat} {v : Value}
    (h : Calls P f args (w.drewN n) fun e w' => e = .returned v ∧ w.drewN n = w') : Calls P f args (w.drewN n) fun e w' => e = .returned v ∧ ∃ m, w' = w.drewN m := by
  refine h.mono ?_
  rintro e w' ⟨he, hw⟩
  exact ⟨he, n, hw.symm⟩
theorem quiet_l2 {P : Program} {f : FuncId} {args : Array Value} {w : World} {k n : Nat} {v : Value}
    (h : Calls P f args (w.drewN (k + n)) fun e w' => e = .returned v ∧ w.drewN (k + n) = w') : Calls P f args (w.drewN (k + n)) fun e w' => e = .returned v ∧ ∃ m, w' = w.drewN (k + m) := by
  refine h.mono ?_
  rintro e w' ⟨he, hw⟩
  exact ⟨he, n, hw.symm⟩
theorem row4 {w : World} {g : Nat} {a b c d : Value} {T : TypeId} (h : w.heap[g]? = some (.cells #[a, b, c, d] T (0, 0))) : w.cell? ⟨g, 0, none⟩ = some a ∧ w.cell? ⟨g, 1, none⟩ = some b ∧ w.cell? ⟨g, 2, none⟩ = some c ∧ w.cell? ⟨g, 3, none⟩ = some d ∧ w.frozen? ⟨g, 0, none⟩ = false ∧ w.frozen? ⟨g, 1, none⟩ = false ∧ w.frozen? ⟨g, 2, none⟩ = false ∧ w.frozen? ⟨g, 3, none⟩ = false :=
  ⟨by rw [cell_of_row w _ 0 _ _ _ h]; rfl, by rw [cell_of_row w _ 1 _ _ _ h]; rfl, by rw [cell_of_row w _ 2 _ _ _ h]; rfl, by rw [cell_of_row w _ 3 _ _ _ h]; rfl, frozen_of_row w _ 0 _ _ h, frozen_of_row w _ 1 _ _ h, frozen_of_row w _ 2 _ _ h, frozen_of_row w _ 3 _ _ h⟩
set_option maxHeartbeats 2000000 in
theorem gparse_bad (X Y W H C R : Int) (s : ByteArray) (w : World) (h : ¬ Grid.Ok X Y W H C R) :
    Calls Tryd.prog 13 #[.agg #[.int .i64 X, .int .i64 Y, .int .i64 W, .int .i64 H, .int .i64 C, .int .i64 R], .string s] w fun e w' => e = .returned (.tuple #[.agg #[.int .i64 0, .int .i64 0, .int .i64 0, .int .i64 0], .int .i64 2]) ∧ Q w w' := by
  go_enter Tryd.func13, Tryd.ntmps13
  go_wp2_with fail
  refine (check_no X Y W H C R _ h).mono ?_
  rintro e w1 ⟨rfl, q1⟩
  have hb := b_next q1 (new1 w (.cells #[.int .i64 X, .int .i64 Y, .int .i64 W, .int .i64 H, .int .i64 C, .int .i64 R] 25) (.cells #[.int .i64 0, .int .i64 0, .int .i64 0, .int .i64 0] 33 (0, 0)))
  obtain ⟨m0, m1, m2, m3, f0, f1, f2, f3⟩ := row4 hb
  have HB := Lib.hid hb
  clear hb
  go_wp2_with fail
  (refine bodyPost_ret (results_cell_tmp rfl _ _ _ _ _ _ _ rfl (heap_setCell_same _ _ _ _ _ _ (heap_setCell_same _ _ _ _ _ _ (heap_setCell_same _ _ _ _ _ _ (heap_setCell_same _ _ _ _ _ _ HB.out)))) Tryd.underlying33 rfl (by kernel_rfl)) rfl ⟨rfl, ?_⟩; repeat (refine Q.setCell ?_ (by simp) _)); exact (q1.behind _).behind _
set_option maxHeartbeats 2000000 in
theorem gparse_short (X Y W H C R : Int) (s : ByteArray) (w : World) (h : Grid.Ok X Y W H C R) (hs : s.size < 3) :
    Calls Tryd.prog 13 #[.agg #[.int .i64 X, .int .i64 Y, .int .i64 W, .int .i64 H, .int .i64 C, .int .i64 R], .string s] w fun e w' => e = .returned (.tuple #[.agg #[.int .i64 0, .int .i64 0, .int .i64 0, .int .i64 0], .int .i64 20]) ∧ Q w w' := by
  have HK := Lib.hid (fun W' => check_yes X Y W H C R W' h)
  have d0 : decide ((s.size : Int) - 3 < 0) = true := by simp; omega
  clear h
  go_enter Tryd.func13, Tryd.ntmps13
  go_wp2_with fail
  refine (HK.out _).mono ?_
  rintro e w1 ⟨rfl, q1⟩
  have hb := b_next q1 (new1 w (.cells #[.int .i64 X, .int .i64 Y, .int .i64 W, .int .i64 H, .int .i64 C, .int .i64 R] 25) (.cells #[.int .i64 0, .int .i64 0, .int .i64 0, .int .i64 0] 33 (0, 0)))
  obtain ⟨m0, m1, m2, m3, f0, f1, f2, f3⟩ := row4 hb
  have HB := Lib.hid hb
  clear hb
  go_wp2_with fail
  (refine bodyPost_ret (results_cell_tmp rfl _ _ _ _ _ _ _ rfl (heap_setCell_same _ _ _ _ _ _ (heap_setCell_same _ _ _ _ _ _ (heap_setCell_same _ _ _ _ _ _ (heap_setCell_same _ _ _ _ _ _ HB.out)))) Tryd.underlying33 rfl (by kernel_rfl)) rfl ⟨rfl, ?_⟩; repeat (refine Q.setCell ?_ (by simp) _)); exact (q1.behind _).behind _
/-- What the last three bytes are asked for. -/
def Grf.ft (x y z : Int) : Prop := x = 45 ∧ 97 ≤ y ∧ y ≤ 104 ∧ 49 ≤ z ∧ z ≤ 56
set_option maxRecDepth 100000 in
set_option maxHeartbeats 4000000 in
theorem gparse_syntax (X Y W H C R N x y z : Int) (s : ByteArray) (w : World) (h : Grid.Ok X Y W H C R) (zs : (s.size : Int) - 3 = N) (N0 : 0 ≤ N) (N1 : N ≤ 9223372036854775804)
    (i0 : ∀ W, (Instr.index 9 (.string s) (.int .i64 N)).run Tryd.prog W = .ok (.int .u8 x) W)
    (i1 : ∀ W, (Instr.index 9 (.string s) (.int .i64 (N + 1))).run Tryd.prog W = .ok (.int .u8 y) W)
    (i2 : ∀ W, (Instr.index 9 (.string s) (.int .i64 (N + 2))).run Tryd.prog W = .ok (.int .u8 z) W) (hf : ¬ Grf.ft x y z) :
    Calls Tryd.prog 13 #[.agg #[.int .i64 X, .int .i64 Y, .int .i64 W, .int .i64 H, .int .i64 C, .int .i64 R], .string s] w fun e w' => e = .returned (.tuple #[.agg #[.int .i64 0, .int .i64 0, .int .i64 0, .int .i64 0], .int .i64 20]) ∧ Q w w' := by
  have HK := Lib.hid (fun W' => check_yes X Y W H C R W' h)
  have z0 : (s.size : Int) ≤ 9223372036854775807 := by omega
  have d0 : decide (N < 0) = false := by simp; omega
  clear h
  unfold Grf.ft at hf
  by_cases c0 : x = 45
  · have d1 : (x != 45) = false := by simpa using c0
    by_cases c1 : y < 97
    · have d2 : decide (y < 97) = true := by simpa using c1
      clear hf c0
      go_enter Tryd.func13, Tryd.ntmps13
      go_wp2_with fail
      refine (HK.out _).mono ?_
      rintro e w1 ⟨rfl, q1⟩
      have hb := b_next q1 (new1 w (.cells #[.int .i64 X, .int .i64 Y, .int .i64 W, .int .i64 H, .int .i64 C, .int .i64 R] 25) (.cells #[.int .i64 0, .int .i64 0, .int .i64 0, .int .i64 0] 33 (0, 0)))
      obtain ⟨m0, m1, m2, m3, f0, f1, f2, f3⟩ := row4 hb
      have HB := Lib.hid hb
      clear hb
      go_wp2_with fail
      (refine bodyPost_ret (results_cell_tmp rfl _ _ _ _ _ _ _ rfl (heap_setCell_same _ _ _ _ _ _ (heap_setCell_same _ _ _ _ _ _ (heap_setCell_same _ _ _ _ _ _ (heap_setCell_same _ _ _ _ _ _ HB.out)))) Tryd.underlying33 rfl (by kernel_rfl)) rfl ⟨rfl, ?_⟩; repeat (refine Q.setCell ?_ (by simp) _)); exact (q1.behind _).behind _
    have d2 : decide (y < 97) = false := by simpa using c1
    by_cases c2 : 104 < y
    · have d3 : decide (104 < y) = true := by simpa using c2
      clear hf c0
      go_enter Tryd.func13, Tryd.ntmps13
      go_wp2_with fail
      refine (HK.out _).mono ?_
      rintro e w1 ⟨rfl, q1⟩
      have hb := b_next q1 (new1 w (.cells #[.int .i64 X, .int .i64 Y, .int .i64 W, .int .i64 H, .int .i64 C, .int .i64 R] 25) (.cells #[.int .i64 0, .int .i64 0, .int .i64 0, .int .i64 0] 33 (0, 0)))
      obtain ⟨m0, m1, m2, m3, f0, f1, f2, f3⟩ := row4 hb
      have HB := Lib.hid hb
      clear hb
      go_wp2_with fail
      (refine bodyPost_ret (results_cell_tmp rfl _ _ _ _ _ _ _ rfl (heap_setCell_same _ _ _ _ _ _ (heap_setCell_same _ _ _ _ _ _ (heap_setCell_same _ _ _ _ _ _ (heap_setCell_same _ _ _ _ _ _ HB.out)))) Tryd.underlying33 rfl (by kernel_rfl)) rfl ⟨rfl, ?_⟩; repeat (refine Q.setCell ?_ (by simp) _)); exact (q1.behind _).behind _
    have d3 : decide (104 < y) = false := by simpa using c2
    by_cases c3 : z < 49
    · have d4 : decide (z < 49) = true := by simpa using c3
      clear hf c0
      go_enter Tryd.func13, Tryd.ntmps13
      go_wp2_with fail
      refine (HK.out _).mono ?_
      rintro e w1 ⟨rfl, q1⟩
      have hb := b_next q1 (new1 w (.cells #[.int .i64 X, .int .i64 Y, .int .i64 W, .int .i64 H, .int .i64 C, .int .i64 R] 25) (.cells #[.int .i64 0, .int .i64 0, .int .i64 0, .int .i64 0] 33 (0, 0)))
      obtain ⟨m0, m1, m2, m3, f0, f1, f2, f3⟩ := row4 hb
      have HB := Lib.hid hb
      clear hb
      go_wp2_with fail
      (refine bodyPost_ret (results_cell_tmp rfl _ _ _ _ _ _ _ rfl (heap_setCell_same _ _ _ _ _ _ (heap_setCell_same _ _ _ _ _ _ (heap_setCell_same _ _ _ _ _ _ (heap_setCell_same _ _ _ _ _ _ HB.out)))) Tryd.underlying33 rfl (by kernel_rfl)) rfl ⟨rfl, ?_⟩; repeat (refine Q.setCell ?_ (by simp) _)); exact (q1.behind _).behind _
    have d4 : decide (z < 49) = false := by simpa using c3
    have d5 : decide (56 < z) = true := by simp; omega
    clear hf c0
    go_enter Tryd.func13, Tryd.ntmps13
    go_wp2_with fail
    refine (HK.out _).mono ?_
    rintro e w1 ⟨rfl, q1⟩
    have hb := b_next q1 (new1 w (.cells #[.int .i64 X, .int .i64 Y, .int .i64 W, .int .i64 H, .int .i64 C, .int .i64 R] 25) (.cells #[.int .i64 0, .int .i64 0, .int .i64 0, .int .i64 0] 33 (0, 0)))
    obtain ⟨m0, m1, m2, m3, f0, f1, f2, f3⟩ := row4 hb
    have HB := Lib.hid hb
    clear hb
    go_wp2_with fail
    (refine bodyPost_ret (results_cell_tmp rfl _ _ _ _ _ _ _ rfl (heap_setCell_same _ _ _ _ _ _ (heap_setCell_same _ _ _ _ _ _ (heap_setCell_same _ _ _ _ _ _ (heap_setCell_same _ _ _ _ _ _ HB.out)))) Tryd.underlying33 rfl (by kernel_rfl)) rfl ⟨rfl, ?_⟩; repeat (refine Q.setCell ?_ (by simp) _)); exact (q1.behind _).behind _
  · have d1 : (x != 45) = true := by simpa using c0
    clear hf c0
    go_enter Tryd.func13, Tryd.ntmps13
    go_wp2_with fail
    refine (HK.out _).mono ?_
    rintro e w1 ⟨rfl, q1⟩
    have hb := b_next q1 (new1 w (.cells #[.int .i64 X, .int .i64 Y, .int .i64 W, .int .i64 H, .int .i64 C, .int .i64 R] 25) (.cells #[.int .i64 0, .int .i64 0, .int .i64 0, .int .i64 0] 33 (0, 0)))
    obtain ⟨m0, m1, m2, m3, f0, f1, f2, f3⟩ := row4 hb
    have HB := Lib.hid hb
    clear hb
    go_wp2_with fail
    (refine bodyPost_ret (results_cell_tmp rfl _ _ _ _ _ _ _ rfl (heap_setCell_same _ _ _ _ _ _ (heap_setCell_same _ _ _ _ _ _ (heap_setCell_same _ _ _ _ _ _ (heap_setCell_same _ _ _ _ _ _ HB.out)))) Tryd.underlying33 rfl (by kernel_rfl)) rfl ⟨rfl, ?_⟩; repeat (refine Q.setCell ?_ (by simp) _)); exact (q1.behind _).behind _
end Go.Proofs.YtcaabaijkidmgaaDoor


/- Contract of gridref.Parse where the text has the right form. -/
namespace Go.Proofs.YtcaabaijkidmgaaDoor
open Go.RowKit
set_option linter.unusedVariables false

theorem se_next {X Y W H C R : Int} {B : Nat} {wk u v : World} (h : (u.cell? ⟨B, 0, none⟩ = some (.int .i64 X) ∧ u.cell? ⟨B, 1, none⟩ = some (.int .i64 Y) ∧ u.cell? ⟨B, 2, none⟩ = some (.int .i64 W) ∧ u.cell? ⟨B, 3, none⟩ = some (.int .i64 H) ∧ u.cell? ⟨B, 4, none⟩ = some (.int .i64 C) ∧ u.cell? ⟨B, 5, none⟩ = some (.int .i64 R) ∧ Q wk u)) (q : Q u v) : (v.cell? ⟨B, 0, none⟩ = some (.int .i64 X) ∧ v.cell? ⟨B, 1, none⟩ = some (.int .i64 Y) ∧ v.cell? ⟨B, 2, none⟩ = some (.int .i64 W) ∧ v.cell? ⟨B, 3, none⟩ = some (.int .i64 H) ∧ v.cell? ⟨B, 4, none⟩ = some (.int .i64 C) ∧ v.cell? ⟨B, 5, none⟩ = some (.int .i64 R) ∧ Q wk v) := by
  obtain ⟨h0, h1, h2, h3, h4, h5, hq⟩ := h
  exact ⟨t_next q h0, t_next q h1, t_next q h2, t_next q h3, t_next q h4, t_next q h5, hq.trans q⟩
theorem se_q {X Y W H C R : Int} {B : Nat} {wk v : World} (h : (v.cell? ⟨B, 0, none⟩ = some (.int .i64 X) ∧ v.cell? ⟨B, 1, none⟩ = some (.int .i64 Y) ∧ v.cell? ⟨B, 2, none⟩ = some (.int .i64 W) ∧ v.cell? ⟨B, 3, none⟩ = some (.int .i64 H) ∧ v.cell? ⟨B, 4, none⟩ = some (.int .i64 C) ∧ v.cell? ⟨B, 5, none⟩ = some (.int .i64 R) ∧ Q wk v)) : Q wk v := h.2.2.2.2.2.2
set_option maxRecDepth 100000 in
set_option maxHeartbeats 4000000 in
theorem gparse_err (X Y W H C R N x y z m g : Int) (s t : ByteArray) (w : World) (h : Grid.Ok X Y W H C R) (zs : (s.size : Int) - 3 = N) (N0 : 0 ≤ N) (N1 : N ≤ 9223372036854775804)
    (i0 : ∀ W, (Instr.index 9 (.string s) (.int .i64 N)).run Tryd.prog W = .ok (.int .u8 x) W)
    (i1 : ∀ W, (Instr.index 9 (.string s) (.int .i64 (N + 1))).run Tryd.prog W = .ok (.int .u8 y) W)
    (i2 : ∀ W, (Instr.index 9 (.string s) (.int .i64 (N + 2))).run Tryd.prog W = .ok (.int .u8 z) W)
    (i3 : ∀ W, (Instr.slice 9 (.string s) none (some (.int .i64 N)) none).run Tryd.prog W = .ok (.string t) W) (hf : Grf.ft x y z)
    (hp : ∀ w, Calls Tryd.prog 34 #[.agg #[.int .i64 X, .int .i64 Y, .int .i64 W, .int .i64 H, .int .i64 C, .int .i64 R], .string t] w fun e w' => e = .returned (.tuple #[.int .i64 m, .int .i64 g]) ∧ Q w w') (hg : (g != 0) = true) :
    Calls Tryd.prog 13 #[.agg #[.int .i64 X, .int .i64 Y, .int .i64 W, .int .i64 H, .int .i64 C, .int .i64 R], .string s] w fun e w' => e = .returned (.tuple #[.agg #[.int .i64 0, .int .i64 0, .int .i64 0, .int .i64 0], .int .i64 g]) ∧ Q w w' := by
  have HK := Lib.hid (fun W' => check_yes X Y W H C R W' h)
  have HP := Lib.hid hp
  have z0 : (s.size : Int) ≤ 9223372036854775807 := by omega
  have d0 : decide (N < 0) = false := by simp; omega
  obtain ⟨c0, c1, c2, c3, c4⟩ := hf
  have d1 : (x != 45) = false := by simpa using c0
  have d2 : decide (y < 97) = false := by simpa using c1
  have d3 : decide (104 < y) = false := by simpa using c2
  have d4 : decide (z < 49) = false := by simpa using c3
  have d5 : decide (56 < z) = false := by simpa using c4
  have HS := Lib.hid (SeAt.fresh w X Y W H C R)
  clear h hp c0
  go_enter Tryd.func13, Tryd.ntmps13
  go_wp2_with fail
  refine (HK.out _).mono ?_
  rintro e w1 ⟨rfl, q1⟩
  have HB := Lib.hid (b_next q1 (new1 w (.cells #[.int .i64 X, .int .i64 Y, .int .i64 W, .int .i64 H, .int .i64 C, .int .i64 R] 25) (.cells #[.int .i64 0, .int .i64 0, .int .i64 0, .int .i64 0] 33 (0, 0))))
  have HK1 := Lib.hid (show (w1.cell? ⟨w.heap.size, 0, none⟩ = some (.int .i64 X) ∧ w1.cell? ⟨w.heap.size, 1, none⟩ = some (.int .i64 Y) ∧ w1.cell? ⟨w.heap.size, 2, none⟩ = some (.int .i64 W) ∧ w1.cell? ⟨w.heap.size, 3, none⟩ = some (.int .i64 H) ∧ w1.cell? ⟨w.heap.size, 4, none⟩ = some (.int .i64 C) ∧ w1.cell? ⟨w.heap.size, 5, none⟩ = some (.int .i64 R) ∧ Q w1 w1) by
    obtain ⟨h0, h1, h2, h3, h4, h5, _⟩ := (HS.out.next ((Q.refl _).alloc (.cells #[.int .i64 0, .int .i64 0, .int .i64 0, .int .i64 0] 33 (0, 0)))).next q1
    exact ⟨h0, h1, h2, h3, h4, h5, Q.refl _⟩)
  go_wp2_with fail
  go_region_held3 (fun v => (v.cell? ⟨w.heap.size, 0, none⟩ = some (.int .i64 X) ∧ v.cell? ⟨w.heap.size, 1, none⟩ = some (.int .i64 Y) ∧ v.cell? ⟨w.heap.size, 2, none⟩ = some (.int .i64 W) ∧ v.cell? ⟨w.heap.size, 3, none⟩ = some (.int .i64 H) ∧ v.cell? ⟨w.heap.size, 4, none⟩ = some (.int .i64 C) ∧ v.cell? ⟨w.heap.size, 5, none⟩ = some (.int .i64 R) ∧ Q w1 v)) ((first | (exact se_next HK1.out ((Q.refl _).drew)) | (refine se_next ?_ (by assumption); assumption)))
    ((go_at_call 34; refine (HP.out _).mono ?_; (rintro e w2 ⟨rfl, q2⟩)))
  all_goals
    have HQ := Lib.hid (se_q (by assumption : (w2.cell? ⟨w.heap.size, 0, none⟩ = some (.int .i64 X) ∧ w2.cell? ⟨w.heap.size, 1, none⟩ = some (.int .i64 Y) ∧ w2.cell? ⟨w.heap.size, 2, none⟩ = some (.int .i64 W) ∧ w2.cell? ⟨w.heap.size, 3, none⟩ = some (.int .i64 H) ∧ w2.cell? ⟨w.heap.size, 4, none⟩ = some (.int .i64 C) ∧ w2.cell? ⟨w.heap.size, 5, none⟩ = some (.int .i64 R) ∧ Q w1 w2)))
    have hb := b_next HQ.out HB.out
    obtain ⟨m0, m1, m2, m3, f0, f1, f2, f3⟩ := row4 hb
    have HB2 := Lib.hid hb
    clear hb
    go_wp2_with fail
    (refine bodyPost_ret (results_cell_tmp rfl _ _ _ _ _ _ _ rfl (heap_setCell_same _ _ _ _ _ _ (heap_setCell_same _ _ _ _ _ _ (heap_setCell_same _ _ _ _ _ _ (heap_setCell_same _ _ _ _ _ _ HB2.out)))) Tryd.underlying33 rfl (by kernel_rfl)) rfl ⟨rfl, ?_⟩; repeat (refine Q.setCell ?_ (by simp) _)); exact ((q1.behind _).behind _).trans HQ.out
/-- The answer of Parse, from the ends of the square's sides. -/
def Grf.pb (X Y x0 x1 y0 y1 : Int) : Value := if x1 < x0 ∨ y1 < y0 then .agg #[.int .i64 0, .int .i64 0, .int .i64 (-1), .int .i64 (-1)] else .agg #[.int .i64 (X + x0), .int .i64 (Y + y0), .int .i64 (X + x1), .int .i64 (Y + y1)]
set_option maxRecDepth 100000 in
set_option maxHeartbeats 8000000 in
theorem gparse_core (X Y W H C R N x y z m c r x0 x1 y0 y1 : Int) (s t : ByteArray) (w : World) (h : Grid.Ok X Y W H C R) (zs : (s.size : Int) - 3 = N) (N0 : 0 ≤ N) (N1 : N ≤ 9223372036854775804)
    (i0 : ∀ W, (Instr.index 9 (.string s) (.int .i64 N)).run Tryd.prog W = .ok (.int .u8 x) W)
    (i1 : ∀ W, (Instr.index 9 (.string s) (.int .i64 (N + 1))).run Tryd.prog W = .ok (.int .u8 y) W)
    (i2 : ∀ W, (Instr.index 9 (.string s) (.int .i64 (N + 2))).run Tryd.prog W = .ok (.int .u8 z) W)
    (i3 : ∀ W, (Instr.slice 9 (.string s) none (some (.int .i64 N)) none).run Tryd.prog W = .ok (.string t) W) (hf : Grf.ft x y z)
    (hp : ∀ w, Calls Tryd.prog 34 #[.agg #[.int .i64 X, .int .i64 Y, .int .i64 W, .int .i64 H, .int .i64 C, .int .i64 R], .string t] w fun e w' => e = .returned (.tuple #[.int .i64 m, .int .i64 0]) ∧ Q w w') (hm0 : 1 ≤ m) (hm1 : m ≤ 256)
    (hc : (m - 1).tmod C = c) (hr : (m - 1).tdiv C = r) (r0 : 0 ≤ r) (r1 : r ≤ 256)
    (hx : ∀ w, Calls Tryd.prog 35 #[.int .i64 (y - 97), .int .i64 W, .int .i64 c, .int .i64 C] w fun e w' => e = .returned (.tuple #[.int .i64 x0, .int .i64 x1]) ∧ w = w')
    (hy : ∀ w, Calls Tryd.prog 35 #[.int .i64 (z - 49), .int .i64 H, .int .i64 r, .int .i64 R] w fun e w' => e = .returned (.tuple #[.int .i64 y0, .int .i64 y1]) ∧ w = w')
    (bx0 : -8388608 ≤ x0) (bx1 : x0 ≤ 8388608) (bx2 : -8388608 ≤ x1) (bx3 : x1 ≤ 8388608) (by0 : -8388608 ≤ y0) (by1 : y0 ≤ 8388608) (by2 : -8388608 ≤ y1) (by3 : y1 ≤ 8388608) :
    Calls Tryd.prog 13 #[.agg #[.int .i64 X, .int .i64 Y, .int .i64 W, .int .i64 H, .int .i64 C, .int .i64 R], .string s] w fun e w' => e = .returned (.tuple #[Grf.pb X Y x0 x1 y0 y1, .int .i64 0]) ∧ Q w w' := by
  have HK := Lib.hid (fun W' => check_yes X Y W H C R W' h)
  have HP := Lib.hid hp
  have HX := Lib.hid hx
  have HY := Lib.hid hy
  have z0 : (s.size : Int) ≤ 9223372036854775807 := by omega
  have d0 : decide (N < 0) = false := by simp; omega
  obtain ⟨c0, c1, c2, c3, c4⟩ := hf
  have d1 : (x != 45) = false := by simpa using c0
  have d2 : decide (y < 97) = false := by simpa using c1
  have d3 : decide (104 < y) = false := by simpa using c2
  have d4 : decide (z < 49) = false := by simpa using c3
  have d5 : decide (56 < z) = false := by simpa using c4
  have HS := Lib.hid (SeAt.fresh w X Y W H C R)
  have hC := h.c0
  have dC : (C == 0) = false := by simp; omega
  have X0 := h.x0
  have X1 := h.x1
  have Y0 := h.y0
  have Y1 := h.y1
  clear h hp c0 hx hy
  go_enter Tryd.func13, Tryd.ntmps13
  go_wp2_with fail
  refine (HK.out _).mono ?_
  rintro e w1 ⟨rfl, q1⟩
  have HB := Lib.hid (b_next q1 (new1 w (.cells #[.int .i64 X, .int .i64 Y, .int .i64 W, .int .i64 H, .int .i64 C, .int .i64 R] 25) (.cells #[.int .i64 0, .int .i64 0, .int .i64 0, .int .i64 0] 33 (0, 0))))
  have HK1 := Lib.hid (show (w1.cell? ⟨w.heap.size, 0, none⟩ = some (.int .i64 X) ∧ w1.cell? ⟨w.heap.size, 1, none⟩ = some (.int .i64 Y) ∧ w1.cell? ⟨w.heap.size, 2, none⟩ = some (.int .i64 W) ∧ w1.cell? ⟨w.heap.size, 3, none⟩ = some (.int .i64 H) ∧ w1.cell? ⟨w.heap.size, 4, none⟩ = some (.int .i64 C) ∧ w1.cell? ⟨w.heap.size, 5, none⟩ = some (.int .i64 R) ∧ Q w1 w1) by
    obtain ⟨h0, h1, h2, h3, h4, h5, _⟩ := (HS.out.next ((Q.refl _).alloc (.cells #[.int .i64 0, .int .i64 0, .int .i64 0, .int .i64 0] 33 (0, 0)))).next q1
    exact ⟨h0, h1, h2, h3, h4, h5, Q.refl _⟩)
  go_wp2_with fail
  go_region_held3 (fun v => (v.cell? ⟨w.heap.size, 0, none⟩ = some (.int .i64 X) ∧ v.cell? ⟨w.heap.size, 1, none⟩ = some (.int .i64 Y) ∧ v.cell? ⟨w.heap.size, 2, none⟩ = some (.int .i64 W) ∧ v.cell? ⟨w.heap.size, 3, none⟩ = some (.int .i64 H) ∧ v.cell? ⟨w.heap.size, 4, none⟩ = some (.int .i64 C) ∧ v.cell? ⟨w.heap.size, 5, none⟩ = some (.int .i64 R) ∧ Q w1 v)) ((first | (exact se_next HK1.out ((Q.refl _).drew)) | (refine se_next ?_ (by assumption); assumption)))
    ((go_at_call 34; refine (HP.out _).mono ?_; (rintro e w2 ⟨rfl, q2⟩)))
  all_goals
    have HQ := Lib.hid (se_q (by assumption : (w2.cell? ⟨w.heap.size, 0, none⟩ = some (.int .i64 X) ∧ w2.cell? ⟨w.heap.size, 1, none⟩ = some (.int .i64 Y) ∧ w2.cell? ⟨w.heap.size, 2, none⟩ = some (.int .i64 W) ∧ w2.cell? ⟨w.heap.size, 3, none⟩ = some (.int .i64 H) ∧ w2.cell? ⟨w.heap.size, 4, none⟩ = some (.int .i64 C) ∧ w2.cell? ⟨w.heap.size, 5, none⟩ = some (.int .i64 R) ∧ Q w1 w2)))
    obtain ⟨k0, k1, k2, k3, k4, k5, k6⟩ := (by assumption : (w2.cell? ⟨w.heap.size, 0, none⟩ = some (.int .i64 X) ∧ w2.cell? ⟨w.heap.size, 1, none⟩ = some (.int .i64 Y) ∧ w2.cell? ⟨w.heap.size, 2, none⟩ = some (.int .i64 W) ∧ w2.cell? ⟨w.heap.size, 3, none⟩ = some (.int .i64 H) ∧ w2.cell? ⟨w.heap.size, 4, none⟩ = some (.int .i64 C) ∧ w2.cell? ⟨w.heap.size, 5, none⟩ = some (.int .i64 R) ∧ Q w1 w2))
    have hb := b_next HQ.out HB.out
    obtain ⟨m0, m1, m2, m3, f0, f1, f2, f3⟩ := row4 hb
    have HB2 := Lib.hid hb
    clear hb k6
    go_wp2_with fail
    go_quiet (fail)
    go_wp2_with fail
    clear hc hr
    go_quiet ((with_reducible exact quiet_l2 (HX.out _)))
    go_wp2_with fail
    go_quiet ((with_reducible exact quiet_l2 (HY.out _)))
    by_cases e0 : x1 < x0
    · have g0 : decide (x1 < x0) = true := by simpa using e0
      have HR := Lib.hid (show Grf.pb X Y x0 x1 y0 y1 = _ from if_pos (.inl e0))
      clear e0
      go_wp2_with fail
      rw [HR.out]
      (refine bodyPost_ret (results_cell_tmp rfl _ _ _ _ _ _ _ rfl (heap_setCell_same _ _ _ _ _ _ (heap_setCell_same _ _ _ _ _ _ (heap_setCell_same _ _ _ _ _ _ (heap_setCell_same _ _ _ _ _ _ (show (w2.drewN _).heap[w.heap.size + 1]? = _ from HB2.out))))) Tryd.underlying33 rfl (by kernel_rfl)) rfl ⟨rfl, ?_⟩; repeat (refine Q.setCell ?_ (by simp) _)); exact (((q1.behind _).behind _).trans HQ.out).drewN _
    have g0 : decide (x1 < x0) = false := by simpa using e0
    by_cases e1 : y1 < y0
    · have g1 : decide (y1 < y0) = true := by simpa using e1
      have HR := Lib.hid (show Grf.pb X Y x0 x1 y0 y1 = _ from if_pos (.inr e1))
      clear e0 e1
      go_wp2_with fail
      rw [HR.out]
      (refine bodyPost_ret (results_cell_tmp rfl _ _ _ _ _ _ _ rfl (heap_setCell_same _ _ _ _ _ _ (heap_setCell_same _ _ _ _ _ _ (heap_setCell_same _ _ _ _ _ _ (heap_setCell_same _ _ _ _ _ _ (show (w2.drewN _).heap[w.heap.size + 1]? = _ from HB2.out))))) Tryd.underlying33 rfl (by kernel_rfl)) rfl ⟨rfl, ?_⟩; repeat (refine Q.setCell ?_ (by simp) _)); exact (((q1.behind _).behind _).trans HQ.out).drewN _
    have g1 : decide (y1 < y0) = false := by simpa using e1
    have HR := Lib.hid (show Grf.pb X Y x0 x1 y0 y1 = _ from if_neg (by omega))
    clear e0 e1
    go_wp2_with fail
    rw [HR.out]
    (refine bodyPost_ret (results_cell_tmp rfl _ _ _ _ _ _ _ rfl (heap_setCell_same _ _ _ _ _ _ (heap_setCell_same _ _ _ _ _ _ (heap_setCell_same _ _ _ _ _ _ (heap_setCell_same _ _ _ _ _ _ (show (w2.drewN _).heap[w.heap.size + 1]? = _ from HB2.out))))) Tryd.underlying33 rfl (by kernel_rfl)) rfl ⟨rfl, ?_⟩; repeat (refine Q.setCell ?_ (by simp) _)); exact (((q1.behind _).behind _).trans HQ.out).drewN _
end Go.Proofs.YtcaabaijkidmgaaDoor


/- Contracts of the reference's whole and ends, and of geom's In in the reference. -/
namespace Go.Proofs.YtcaabaijkidmgaaDoor
open Go.RowKit
set_option linter.unusedVariables false

set_option maxHeartbeats 2000000 in
theorem whole_any (X Y W H C R : Int) (w : World) (h : Grid.Ok X Y W H C R) :
    Calls Tryd.prog 30 #[.agg #[.int .i64 X, .int .i64 Y, .int .i64 W, .int .i64 H, .int .i64 C, .int .i64 R]] w fun e w' => e = .returned (.agg #[.int .i64 X, .int .i64 Y, .int .i64 (X + C * W), .int .i64 (Y + R * H)]) ∧ Q w w' := by
  obtain ⟨x0, x1, y0, y1, w0, w1, h0, h1, c0, c1, r0, r1, ex0, ex1, ey0, ey1⟩ := h
  have p0 : 0 ≤ C * W := Int.mul_nonneg (by omega) (by omega)
  have p1 : 0 ≤ R * H := Int.mul_nonneg (by omega) (by omega)
  obtain ⟨cw, hcw⟩ : ∃ z, C * W = z := ⟨_, rfl⟩
  obtain ⟨rh, hrh⟩ : ∃ z, R * H = z := ⟨_, rfl⟩
  rw [hcw] at p0 ex0 ex1 ⊢
  rw [hrh] at p1 ey0 ey1 ⊢
  go_enter Tryd.func30, Tryd.ntmps30
  go_wp2_with fail
  refine bodyPost_ret (results_cell1 rfl _ _ _ _ _ _ _ rfl (by first | exact heap_alloc_new _ _ | exact new1 w _ _ | exact heap_alloc2_new w _ _) Tryd.underlying33 rfl (by kernel_rfl)) rfl ⟨rfl, ?_⟩
  exact ((Q.refl _).alloc _).alloc _
/-- Does a box contain a point? -/
def Grf.inB (a b c d x y : Int) : Bool := decide (a ≤ x ∧ x ≤ c ∧ b ≤ y ∧ y ≤ d)
set_option maxHeartbeats 2000000 in
theorem in_any (a b c d x y : Int) (w : World) :
    Calls Tryd.prog 19 #[.agg #[.int .i64 a, .int .i64 b, .int .i64 c, .int .i64 d], .agg #[.int .i64 x, .int .i64 y]] w fun e w' => e = .returned (.bool (Grf.inB a b c d x y)) ∧ Q w w' := by
  by_cases c0 : a ≤ x
  · have d0 : decide (a ≤ x) = true := by simpa using c0
    by_cases c1 : x ≤ c
    · have d1 : decide (x ≤ c) = true := by simpa using c1
      by_cases c2 : b ≤ y
      · have d2 : decide (b ≤ y) = true := by simpa using c2
        by_cases c3 : y ≤ d
        · have d3 : decide (y ≤ d) = true := by simpa using c3
          rw [show Grf.inB a b c d x y = true by unfold Grf.inB; simp; omega]
          go_enter Tryd.func19, Tryd.ntmps19
          go_wp2_with fail
          go_ret
          exact ⟨rfl, ((Q.refl _).alloc _).alloc _⟩
        · have d3 : decide (y ≤ d) = false := by simpa using c3
          rw [show Grf.inB a b c d x y = false by unfold Grf.inB; simp; omega]
          go_enter Tryd.func19, Tryd.ntmps19
          go_wp2_with fail
          go_ret
          exact ⟨rfl, ((Q.refl _).alloc _).alloc _⟩
      · have d2 : decide (b ≤ y) = false := by simpa using c2
        rw [show Grf.inB a b c d x y = false by unfold Grf.inB; simp; omega]
        go_enter Tryd.func19, Tryd.ntmps19
        go_wp2_with fail
        go_ret
        exact ⟨rfl, ((Q.refl _).alloc _).alloc _⟩
    · have d1 : decide (x ≤ c) = false := by simpa using c1
      rw [show Grf.inB a b c d x y = false by unfold Grf.inB; simp; omega]
      go_enter Tryd.func19, Tryd.ntmps19
      go_wp2_with fail
      go_ret
      exact ⟨rfl, ((Q.refl _).alloc _).alloc _⟩
  · have d0 : decide (a ≤ x) = false := by simpa using c0
    rw [show Grf.inB a b c d x y = false by unfold Grf.inB; simp; omega]
    go_enter Tryd.func19, Tryd.ntmps19
    go_wp2_with fail
    go_ret
    exact ⟨rfl, ((Q.refl _).alloc _).alloc _⟩
namespace Grf
/-- What the loop of ends holds after n offsets, of which those from F to L count. -/
def St (F L lo n a b : Int) (o : Bool) : Prop := if F < n ∧ F ≤ L then a = lo + F ∧ b = lo + (if L ≤ n - 1 then L else n - 1) ∧ o = true else a = 0 ∧ b = 0 ∧ o = false
theorem St.start (F L lo : Int) (h : 0 ≤ F) : St F L lo 0 0 0 false := by
  unfold St
  rw [if_neg (by omega)]
  exact ⟨rfl, rfl, rfl⟩
theorem St.first {F L lo n a b : Int} (h : St F L lo n a b false) (h0 : F ≤ n) (h1 : n ≤ L) : St F L lo (n + 1) (lo + n) (lo + n) true := by
  unfold St at h ⊢
  rw [if_pos (by omega)]
  by_cases c : F < n
  · rw [if_pos (by omega)] at h
    cases h.2.2
  · exact ⟨by omega, by split <;> omega, rfl⟩
theorem St.more {F L lo n a b : Int} (h : St F L lo n a b true) (h0 : F ≤ n) (h1 : n ≤ L) : St F L lo (n + 1) a (lo + n) true := by
  unfold St at h ⊢
  rw [if_pos (by omega)]
  by_cases c : F < n
  · rw [if_pos (by omega)] at h
    exact ⟨h.1, by split <;> omega, rfl⟩
  · rw [if_neg (by omega)] at h
    cases h.2.2
theorem St.none {F L lo n a b : Int} {o : Bool} (h : St F L lo n a b o) (h0 : ¬ (F ≤ n ∧ n ≤ L)) : St F L lo (n + 1) a b o := by
  unfold St at h ⊢
  by_cases c : F < n ∧ F ≤ L
  · rw [if_pos c] at h
    rw [if_pos (by omega), if_pos (by omega)]
    rw [if_pos (by omega)] at h
    exact h
  · rw [if_neg c] at h
    rw [if_neg (by omega)]
    exact h
end Grf
theorem ret_iib {a b c d : Int} {o p : Bool} (h : a = c) (k : b = d) (l : o = p) : Ending.returned (.tuple #[.int .i64 a, .int .i64 b, .bool o]) = .returned (.tuple #[.int .i64 c, .int .i64 d, .bool p]) := by rw [h, k, l]
set_option maxHeartbeats 4000000 in
theorem ends_any (lo hi last k l F L ra rb : Int) (ro : Bool) (w : World) (hl : hi - lo = l) (l0 : 1 ≤ l) (l1 : l ≤ 2000) (lo0 : -1048576 ≤ lo) (lo1 : lo ≤ 1048576) (F0 : 0 ≤ F) (L1 : L ≤ l)
    (hF : ∀ d, 0 ≤ d → d ≤ l → ((Grf.pa d l 8 = k ∧ (d < l ∨ hi = last)) ↔ (F ≤ d ∧ d ≤ L))) (hr : ∀ a b o, Grf.St F L lo (l + 1) a b o → a = ra ∧ b = rb ∧ o = ro) :
    Calls Tryd.prog 37 #[.int .i64 lo, .int .i64 hi, .int .i64 last, .int .i64 k] w fun e w' => e = .returned (.tuple #[.int .i64 ra, .int .i64 rb, .bool ro]) ∧ w = w' := by
  have HF := Lib.hid hF
  have HR := Lib.hid hr
  have h0 : -1048576 ≤ hi := by omega
  have h1 : hi ≤ 1050576 := by omega
  clear hF hr
  go_enter Tryd.func37, Tryd.ntmps37
  go_wp2_with fail
  go_loop [11, 12, 13, 14] (fun sa sb so sv => ∃ (n a b : Int) (o : Bool), sv = .int .i64 (lo + n) ∧ sa = .int .i64 a ∧ sb = .int .i64 b ∧ so = .bool o ∧ 0 ≤ n ∧ n ≤ l + 1 ∧ Grf.St F L lo n a b o) (fun _ _ _ sv => (lo + l + 1 - intOf sv).toNat)
  case atStart => exact ⟨0, 0, 0, false, by simp, rfl, rfl, rfl, by omega, by omega, Grf.St.start F L lo F0⟩
  case round =>
    obtain ⟨n, a, b, o, rfl, rfl, rfl, rfl, n0, n1, hst⟩ := hrel
    have HT := Lib.hid hst
    clear hst
    by_cases e : n ≤ l
    · have d0 : decide (lo + n ≤ hi) = true := by simp; omega
      have en : lo + n - lo = n := by omega
      have HP := Lib.hid (fun W => part_any n l 8 n0 (by omega) l0 (by omega) (by omega) (by omega) W)
      have HI := Lib.hid (HF.out n n0 e)
      obtain ⟨P, hP⟩ : ∃ P, Grf.pa n l 8 = P := ⟨_, rfl⟩
      rw [hP] at HP HI
      clear hP
      by_cases c : F ≤ n ∧ n ≤ L
      · obtain ⟨g1, g2⟩ := HI.out.2 c
        have d1 : (P == k) = true := by simpa using g1
        obtain ⟨cF, cL⟩ := c
        cases o
        · have HN := Lib.hid (HT.out.first cF cL)
          by_cases g3 : n < l
          · have d2 : decide (lo + n < hi) = true := by simp; omega
            clear g1 g2
            go_wp2_with fail
            refine (HP.out _).mono ?_
            rintro e w1 ⟨rfl, rfl⟩
            go_wp2_with fail
            go_round
            case rel => exact ⟨n + 1, lo + n, lo + n, true, by go_num, rfl, rfl, rfl, by omega, by omega, HN.out⟩
            case measure => simp [intOf]; omega
          · have d2 : decide (lo + n < hi) = false := by simp; omega
            have d3 : (hi == last) = true := by simp; omega
            clear g1 g2
            go_wp2_with fail
            refine (HP.out _).mono ?_
            rintro e w1 ⟨rfl, rfl⟩
            go_wp2_with fail
            go_round
            case rel => exact ⟨n + 1, lo + n, lo + n, true, by go_num, rfl, rfl, rfl, by omega, by omega, HN.out⟩
            case measure => simp [intOf]; omega
        · have HN := Lib.hid (HT.out.more cF cL)
          by_cases g3 : n < l
          · have d2 : decide (lo + n < hi) = true := by simp; omega
            clear g1 g2
            go_wp2_with fail
            refine (HP.out _).mono ?_
            rintro e w1 ⟨rfl, rfl⟩
            go_wp2_with fail
            go_round
            case rel => exact ⟨n + 1, a, lo + n, true, by go_num, rfl, rfl, rfl, by omega, by omega, HN.out⟩
            case measure => simp [intOf]; omega
          · have d2 : decide (lo + n < hi) = false := by simp; omega
            have d3 : (hi == last) = true := by simp; omega
            clear g1 g2
            go_wp2_with fail
            refine (HP.out _).mono ?_
            rintro e w1 ⟨rfl, rfl⟩
            go_wp2_with fail
            go_round
            case rel => exact ⟨n + 1, a, lo + n, true, by go_num, rfl, rfl, rfl, by omega, by omega, HN.out⟩
            case measure => simp [intOf]; omega
      · have HN := Lib.hid (HT.out.none c)
        have HI2 := Lib.hid (fun g => c (HI.out.1 g))
        clear c
        by_cases g1 : P = k
        · have d1 : (P == k) = true := by simpa using g1
          have d2 : decide (lo + n < hi) = false := by
            have : ¬ n < l := fun g => HI2.out ⟨g1, .inl g⟩
            simp; omega
          have d3 : (hi == last) = false := by
            have : ¬ hi = last := fun g => HI2.out ⟨g1, .inr g⟩
            simpa using this
          clear g1
          go_wp2_with fail
          refine (HP.out _).mono ?_
          rintro e w1 ⟨rfl, rfl⟩
          go_wp2_with fail
          go_round
          case rel => exact ⟨n + 1, a, b, o, by go_num, rfl, rfl, rfl, by omega, by omega, HN.out⟩
          case measure => simp [intOf]; omega
        · have d1 : (P == k) = false := by simpa using g1
          clear g1
          go_wp2_with fail
          refine (HP.out _).mono ?_
          rintro e w1 ⟨rfl, rfl⟩
          go_wp2_with fail
          go_round
          case rel => exact ⟨n + 1, a, b, o, by go_num, rfl, rfl, rfl, by omega, by omega, HN.out⟩
          case measure => simp [intOf]; omega
    · have d0 : decide (lo + n ≤ hi) = false := by simp; omega
      have en : n = l + 1 := by omega
      rw [en] at HT
      have HE := Lib.hid (HR.out a b o HT.out)
      clear en
      go_wp2_with fail
      go_ret3
      exact ⟨ret_iib HE.out.1 HE.out.2.1 HE.out.2.2, rfl⟩
end Go.Proofs.YtcaabaijkidmgaaDoor


/- Contract of the reference's Square. -/
namespace Go.Proofs.YtcaabaijkidmgaaDoor
open Go.RowKit
set_option linter.unusedVariables false

theorem gsp_next {X Y W H C R x y : Int} {B D : Nat} {wk u v : World} (h : (u.cell? ⟨B, 0, none⟩ = some (.int .i64 X) ∧ u.cell? ⟨B, 1, none⟩ = some (.int .i64 Y) ∧ u.cell? ⟨B, 2, none⟩ = some (.int .i64 W) ∧ u.cell? ⟨B, 3, none⟩ = some (.int .i64 H) ∧ u.cell? ⟨B, 4, none⟩ = some (.int .i64 C) ∧ u.cell? ⟨B, 5, none⟩ = some (.int .i64 R) ∧ u.cell? ⟨D, 0, none⟩ = some (.int .i64 x) ∧ u.cell? ⟨D, 1, none⟩ = some (.int .i64 y) ∧ Q wk u)) (q : Q u v) : (v.cell? ⟨B, 0, none⟩ = some (.int .i64 X) ∧ v.cell? ⟨B, 1, none⟩ = some (.int .i64 Y) ∧ v.cell? ⟨B, 2, none⟩ = some (.int .i64 W) ∧ v.cell? ⟨B, 3, none⟩ = some (.int .i64 H) ∧ v.cell? ⟨B, 4, none⟩ = some (.int .i64 C) ∧ v.cell? ⟨B, 5, none⟩ = some (.int .i64 R) ∧ v.cell? ⟨D, 0, none⟩ = some (.int .i64 x) ∧ v.cell? ⟨D, 1, none⟩ = some (.int .i64 y) ∧ Q wk v) := by
  obtain ⟨h0, h1, h2, h3, h4, h5, h6, h7, hq⟩ := h
  exact ⟨t_next q h0, t_next q h1, t_next q h2, t_next q h3, t_next q h4, t_next q h5, t_next q h6, t_next q h7, hq.trans q⟩
theorem gsp_q {X Y W H C R x y : Int} {B D : Nat} {wk v : World} (h : (v.cell? ⟨B, 0, none⟩ = some (.int .i64 X) ∧ v.cell? ⟨B, 1, none⟩ = some (.int .i64 Y) ∧ v.cell? ⟨B, 2, none⟩ = some (.int .i64 W) ∧ v.cell? ⟨B, 3, none⟩ = some (.int .i64 H) ∧ v.cell? ⟨B, 4, none⟩ = some (.int .i64 C) ∧ v.cell? ⟨B, 5, none⟩ = some (.int .i64 R) ∧ v.cell? ⟨D, 0, none⟩ = some (.int .i64 x) ∧ v.cell? ⟨D, 1, none⟩ = some (.int .i64 y) ∧ Q wk v)) : Q wk v := h.2.2.2.2.2.2.2.2
theorem rsquare_bad (X Y W H C R x y : Int) (w : World) (h : ¬ Grid.Ok X Y W H C R) :
    Calls Tryd.prog 10 #[.agg #[.int .i64 X, .int .i64 Y, .int .i64 W, .int .i64 H, .int .i64 C, .int .i64 R], .agg #[.int .i64 x, .int .i64 y]] w fun e w' => e = .returned (.tuple #[.string ⟨#[]⟩, .int .i64 2]) ∧ Q w w' := by
  go_enter Tryd.func10, Tryd.ntmps10
  go_wp2_with fail
  refine (rcheck_no X Y W H C R _ h).mono ?_
  rintro e w1 ⟨rfl, q1⟩
  go_wp2_with fail
  go_ret2
  exact ⟨rfl, (q1.behind _).behind _⟩
set_option maxHeartbeats 4000000 in
theorem rsquare_out (X Y W H C R x y : Int) (w : World) (h : Grid.Ok X Y W H C R) (ho : ¬ Grf.ins X Y W H C R x y) :
    Calls Tryd.prog 10 #[.agg #[.int .i64 X, .int .i64 Y, .int .i64 W, .int .i64 H, .int .i64 C, .int .i64 R], .agg #[.int .i64 x, .int .i64 y]] w fun e w' => e = .returned (.tuple #[.string ⟨#[]⟩, .int .i64 7]) ∧ Q w w' := by
  have HK := Lib.hid (fun W' => rcheck_yes X Y W H C R W' h)
  have HW := Lib.hid (fun W' => whole_any X Y W H C R W' h)
  have HI := Lib.hid (fun W' => in_any X Y (X + C * W) (Y + R * H) x y W')
  rw [show Grf.inB X Y (X + C * W) (Y + R * H) x y = false by unfold Grf.inB; unfold Grf.ins at ho; simpa using ho] at HI
  have HS := Lib.hid (SeAt.fresh w X Y W H C R)
  clear h ho
  go_enter Tryd.func10, Tryd.ntmps10
  go_wp2_with fail
  refine (HK.out _).mono ?_
  rintro e w1 ⟨rfl, q1⟩
  have HK1 := Lib.hid (show (w1.cell? ⟨w.heap.size, 0, none⟩ = some (.int .i64 X) ∧ w1.cell? ⟨w.heap.size, 1, none⟩ = some (.int .i64 Y) ∧ w1.cell? ⟨w.heap.size, 2, none⟩ = some (.int .i64 W) ∧ w1.cell? ⟨w.heap.size, 3, none⟩ = some (.int .i64 H) ∧ w1.cell? ⟨w.heap.size, 4, none⟩ = some (.int .i64 C) ∧ w1.cell? ⟨w.heap.size, 5, none⟩ = some (.int .i64 R) ∧ w1.cell? ⟨w.heap.size + 1, 0, none⟩ = some (.int .i64 x) ∧ w1.cell? ⟨w.heap.size + 1, 1, none⟩ = some (.int .i64 y) ∧ Q w1 w1) by
    obtain ⟨h0, h1, h2, h3, h4, h5, _⟩ := (HS.out.next ((Q.refl _).alloc (.cells #[.int .i64 x, .int .i64 y] 23))).next q1
    obtain ⟨p0, p1, _, _⟩ := row2 (b_next q1 (new1 w (.cells #[.int .i64 X, .int .i64 Y, .int .i64 W, .int .i64 H, .int .i64 C, .int .i64 R] 25) (.cells #[.int .i64 x, .int .i64 y] 23)))
    exact ⟨h0, h1, h2, h3, h4, h5, p0, p1, Q.refl _⟩)
  go_wp2_with fail
  go_region_held3 (fun v => (v.cell? ⟨w.heap.size, 0, none⟩ = some (.int .i64 X) ∧ v.cell? ⟨w.heap.size, 1, none⟩ = some (.int .i64 Y) ∧ v.cell? ⟨w.heap.size, 2, none⟩ = some (.int .i64 W) ∧ v.cell? ⟨w.heap.size, 3, none⟩ = some (.int .i64 H) ∧ v.cell? ⟨w.heap.size, 4, none⟩ = some (.int .i64 C) ∧ v.cell? ⟨w.heap.size, 5, none⟩ = some (.int .i64 R) ∧ v.cell? ⟨w.heap.size + 1, 0, none⟩ = some (.int .i64 x) ∧ v.cell? ⟨w.heap.size + 1, 1, none⟩ = some (.int .i64 y) ∧ Q w1 v)) ((first | (exact gsp_next HK1.out ((Q.refl _).drew)) | (refine gsp_next ?_ (by assumption); assumption)))
    (first
      | (go_at_call 30; refine (HW.out _).mono ?_; (rintro e w2 ⟨rfl, q2⟩))
      | (go_at_call 19; refine (HI.out _).mono ?_; (rintro e w3 ⟨rfl, q3⟩)))
  all_goals
    have HQ := Lib.hid (gsp_q (by assumption : (w3.cell? ⟨w.heap.size, 0, none⟩ = some (.int .i64 X) ∧ w3.cell? ⟨w.heap.size, 1, none⟩ = some (.int .i64 Y) ∧ w3.cell? ⟨w.heap.size, 2, none⟩ = some (.int .i64 W) ∧ w3.cell? ⟨w.heap.size, 3, none⟩ = some (.int .i64 H) ∧ w3.cell? ⟨w.heap.size, 4, none⟩ = some (.int .i64 C) ∧ w3.cell? ⟨w.heap.size, 5, none⟩ = some (.int .i64 R) ∧ w3.cell? ⟨w.heap.size + 1, 0, none⟩ = some (.int .i64 x) ∧ w3.cell? ⟨w.heap.size + 1, 1, none⟩ = some (.int .i64 y) ∧ Q w1 w3)))
    go_wp2_with fail
    go_ret2
    exact ⟨rfl, ((q1.behind _).behind _).trans HQ.out⟩
theorem letter_run (q : Int) (h0 : 0 ≤ q) (h1 : q ≤ 7) (w : World) : (Instr.slice 9 (.string ⟨#[97, 98, 99, 100, 101, 102, 103, 104]⟩) (some (.int .i64 q)) (some (.int .i64 (q + 1))) none).run Tryd.prog w = .ok (.string ⟨#[UInt8.ofNat (97 + q.toNat)]⟩) w := by
  obtain rfl | rfl | rfl | rfl | rfl | rfl | rfl | rfl : q = 0 ∨ q = 1 ∨ q = 2 ∨ q = 3 ∨ q = 4 ∨ q = 5 ∨ q = 6 ∨ q = 7 := by omega
  all_goals kernel_rfl
theorem figure_run (q : Int) (h0 : 0 ≤ q) (h1 : q ≤ 7) (w : World) : (Instr.slice 9 (.string ⟨#[49, 50, 51, 52, 53, 54, 55, 56]⟩) (some (.int .i64 q)) (some (.int .i64 (q + 1))) none).run Tryd.prog w = .ok (.string ⟨#[UInt8.ofNat (49 + q.toNat)]⟩) w := by
  obtain rfl | rfl | rfl | rfl | rfl | rfl | rfl | rfl : q = 0 ∨ q = 1 ∨ q = 2 ∨ q = 3 ∨ q = 4 ∨ q = 5 ∨ q = 6 ∨ q = 7 := by omega
  all_goals kernel_rfl
theorem Grf.pa_sh (d W C : Int) (W0 : 1 ≤ W) (C0 : 1 ≤ C) : Grf.pa d (C * W) C = Grf.sh d W C := by
  unfold Grf.pa Grf.sh
  rw [Int.mul_comm d C, Int.mul_ediv_mul_of_pos _ _ (by omega)]
theorem Grf.pa_sq (d W C : Int) : Grf.pa (d - Grf.sh d W C * W) W 8 = Grf.sq d W C := by
  unfold Grf.pa Grf.sq
  rw [Int.mul_comm _ 8]
  rfl
theorem Grf.sh_le (d l n : Int) (d0 : 0 ≤ d) (l0 : 1 ≤ l) (n0 : 1 ≤ n) (d1 : d ≤ n * l) : 0 ≤ Grf.sh d l n * l ∧ Grf.sh d l n * l ≤ d ∧ d ≤ Grf.sh d l n * l + l := by
  have hs := Grf.sh_bd d l n d0 l0 n0
  have h4 := Int.mul_ediv_add_emod d l
  have h5 := Int.emod_nonneg d (show l ≠ 0 by omega)
  have h6 := Int.emod_lt_of_pos d (show 0 < l by omega)
  rw [Int.mul_comm] at h4
  refine ⟨Int.mul_nonneg hs.1 (by omega), ?_, ?_⟩
  · have h2 : Grf.sh d l n ≤ d / l := by unfold Grf.sh; split <;> omega
    have h3 := Int.mul_le_mul_of_nonneg_right h2 (show 0 ≤ l by omega)
    omega
  · unfold Grf.sh
    split
    · omega
    · rw [Int.sub_mul]; omega
set_option maxRecDepth 100000 in
set_option maxHeartbeats 8000000 in
theorem rsquare_in (X Y W H C R x y : Int) (w : World) (h : Grid.Ok X Y W H C R) (hi : Grf.ins X Y W H C R x y) :
    Calls Tryd.prog 10 #[.agg #[.int .i64 X, .int .i64 Y, .int .i64 W, .int .i64 H, .int .i64 C, .int .i64 R], .agg #[.int .i64 x, .int .i64 y]] w fun e w' => e = .returned (.tuple #[.string ⟨(Grf.sn X Y W H C R x y).toArray⟩, .int .i64 0]) ∧ Q w w' := by
  have HK := Lib.hid (fun W' => rcheck_yes X Y W H C R W' h)
  have HW := Lib.hid (fun W' => whole_any X Y W H C R W' h)
  have HI := Lib.hid (fun W' => in_any X Y (X + C * W) (Y + R * H) x y W')
  rw [show Grf.inB X Y (X + C * W) (Y + R * H) x y = true by unfold Grf.inB; unfold Grf.ins at hi; simpa using hi] at HI
  have HS := Lib.hid (SeAt.fresh w X Y W H C R)
  have HO := Lib.hid h
  unfold Grf.ins at hi
  obtain ⟨i0, i1, i2, i3⟩ := hi
  obtain ⟨x0, x1, y0, y1, w0, w1, h0, h1, c0, c1, r0, r1, ex0, ex1, ey0, ey1⟩ := h
  have pc := Grid.prod_bd C W 16 65536 c0 c1 w0 w1
  have pr := Grid.prod_bd R H 16 65536 r0 r1 h0 h1
  have l1 := Grf.sh_le (x - X) W C (by omega) w0 c0 (by omega)
  have l2 := Grf.sh_le (y - Y) H R (by omega) h0 r0 (by omega)
  have H1 := Lib.hid (fun W' => part_any (x - X) (C * W) C (by omega) (by omega) (by omega) (by omega) (by omega) (by omega) W')
  have H2 := Lib.hid (fun W' => part_any (y - Y) (R * H) R (by omega) (by omega) (by omega) (by omega) (by omega) (by omega) W')
  have H3 := Lib.hid (fun W' => part_any (x - X - Grf.sh (x - X) W C * W) W 8 (by omega) (by omega) w0 (by omega) (by omega) (by omega) W')
  have H4 := Lib.hid (fun W' => part_any (y - Y - Grf.sh (y - Y) H R * H) H 8 (by omega) (by omega) h0 (by omega) (by omega) (by omega) W')
  rw [Grf.pa_sh _ _ _ w0 c0] at H1
  rw [Grf.pa_sh _ _ _ h0 r0] at H2
  rw [Grf.pa_sq] at H3 H4
  obtain ⟨a0, a1⟩ := Grf.sh_bd (x - X) W C (by omega) w0 c0
  obtain ⟨b0, b1⟩ := Grf.sh_bd (y - Y) H R (by omega) h0 r0
  obtain ⟨a2, a3⟩ := Grf.sq_bd (x - X) W C (by omega) w0 c0
  obtain ⟨b2, b3⟩ := Grf.sq_bd (y - Y) H R (by omega) h0 r0
  have m0 : 0 ≤ Grf.sh (y - Y) H R * C := Int.mul_nonneg b0 (by omega)
  have m1 : Grf.sh (y - Y) H R * C ≤ (R - 1) * C := Int.mul_le_mul_of_nonneg_right b1 (by omega)
  have m2 : (R - 1) * C = C * R - C := by rw [Int.sub_mul, Int.mul_comm R C]; omega
  have hp := Grid.prod_bd C R 16 16 c0 c1 r0 r1
  have HN := Lib.hid (fun W' => rname_nm X Y W H C R (Grf.no X Y W H C R x y) W' HO.out (by unfold Grf.no; omega) (by unfold Grf.no; omega))
  have zl : (Grid.nm C (Grf.no X Y W H C R x y)).length ≤ 3 := by
    unfold Grid.nm Grid.dec
    split <;> simp
  have HC : Hid ((⟨(Grid.nm C (Grf.no X Y W H C R x y)).toArray⟩ : ByteArray) ++ ⟨#[45]⟩ ++ ⟨#[UInt8.ofNat (97 + (Grf.sq (x - X) W C).toNat)]⟩ ++ ⟨#[UInt8.ofNat (49 + (Grf.sq (y - Y) H R).toNat)]⟩ = ⟨(Grf.sn X Y W H C R x y).toArray⟩) := Lib.hid (by
    unfold Grf.sn
    apply ByteArray.ext
    simp)
  obtain ⟨t, ht⟩ : ∃ t : ByteArray, (⟨(Grid.nm C (Grf.no X Y W H C R x y)).toArray⟩ : ByteArray) = t := ⟨_, rfl⟩
  have zt : t.size ≤ 3 := by rw [← ht]; show (Grid.nm C (Grf.no X Y W H C R x y)).toArray.size ≤ 3; simpa using zl
  rw [ht] at HN HC
  unfold Grf.no at HN
  clear ht zl hp m2
  obtain ⟨res, hres⟩ : ∃ z : ByteArray, ⟨(Grf.sn X Y W H C R x y).toArray⟩ = z := ⟨_, rfl⟩
  rw [hres] at HC ⊢
  obtain ⟨s1, hs1⟩ : ∃ z, Grf.sh (x - X) W C = z := ⟨_, rfl⟩
  obtain ⟨s2, hs2⟩ : ∃ z, Grf.sh (y - Y) H R = z := ⟨_, rfl⟩
  obtain ⟨q1, hq1⟩ : ∃ z, Grf.sq (x - X) W C = z := ⟨_, rfl⟩
  obtain ⟨q2, hq2⟩ : ∃ z, Grf.sq (y - Y) H R = z := ⟨_, rfl⟩
  rw [hs1] at H1 H3 l1 a0 a1
  rw [hs2] at H2 H4 l2 b0 b1 m0 m1
  rw [hq1] at H3 a2 a3 HC
  rw [hq2] at H4 b2 b3 HC
  rw [hs1, hs2] at HN
  clear hres hs1 hs2 hq1 hq2
  obtain ⟨cw, hcw⟩ : ∃ z, C * W = z := ⟨_, rfl⟩
  obtain ⟨rh, hrh⟩ : ∃ z, R * H = z := ⟨_, rfl⟩
  rw [hcw] at i1 ex0 ex1 H1 pc HW HI
  rw [hrh] at i3 ey0 ey1 H2 pr HW HI
  obtain ⟨sc, hsc⟩ : ∃ z, s2 * C = z := ⟨_, rfl⟩
  rw [hsc] at m0 m1 HN
  obtain ⟨sw, hsw⟩ : ∃ z, s1 * W = z := ⟨_, rfl⟩
  rw [hsw] at H3 l1
  obtain ⟨sg, hsg⟩ : ∃ z, s2 * H = z := ⟨_, rfl⟩
  rw [hsg] at H4 l2
  have m3 : sc ≤ 240 := by
    have := Int.mul_le_mul (show R - 1 ≤ 15 by omega) c1 (by omega) (by omega)
    omega
  clear m1
  obtain ⟨l10, l11, l12⟩ := l1
  obtain ⟨l20, l21, l22⟩ := l2
  obtain ⟨pc0, pc1⟩ := pc
  obtain ⟨pr0, pr1⟩ := pr
  have HL1 := Lib.hid (fun W' => letter_run q1 a2 a3 W')
  have HL2 := Lib.hid (fun W' => figure_run q2 b2 b3 W')
  obtain ⟨la, hla⟩ : ∃ z : ByteArray, ⟨#[UInt8.ofNat (97 + q1.toNat)]⟩ = z := ⟨_, rfl⟩
  obtain ⟨lb, hlb⟩ : ∃ z : ByteArray, ⟨#[UInt8.ofNat (49 + q2.toNat)]⟩ = z := ⟨_, rfl⟩
  rw [hla] at HL1 HC
  rw [hlb] at HL2 HC
  have za : la.size ≤ 1 := by rw [← hla]; exact Nat.le_refl _
  have zb : lb.size ≤ 1 := by rw [← hlb]; exact Nat.le_refl _
  clear hla hlb
  go_enter Tryd.func10, Tryd.ntmps10
  go_wp2_with fail
  refine (HK.out _).mono ?_
  rintro e w1 ⟨rfl, e1⟩
  have HK1 := Lib.hid (show (w1.cell? ⟨w.heap.size, 0, none⟩ = some (.int .i64 X) ∧ w1.cell? ⟨w.heap.size, 1, none⟩ = some (.int .i64 Y) ∧ w1.cell? ⟨w.heap.size, 2, none⟩ = some (.int .i64 W) ∧ w1.cell? ⟨w.heap.size, 3, none⟩ = some (.int .i64 H) ∧ w1.cell? ⟨w.heap.size, 4, none⟩ = some (.int .i64 C) ∧ w1.cell? ⟨w.heap.size, 5, none⟩ = some (.int .i64 R) ∧ w1.cell? ⟨w.heap.size + 1, 0, none⟩ = some (.int .i64 x) ∧ w1.cell? ⟨w.heap.size + 1, 1, none⟩ = some (.int .i64 y) ∧ Q w1 w1) by
    obtain ⟨h0, h1, h2, h3, h4, h5, _⟩ := (HS.out.next ((Q.refl _).alloc (.cells #[.int .i64 x, .int .i64 y] 23))).next e1
    obtain ⟨p0, p1, _, _⟩ := row2 (b_next e1 (new1 w (.cells #[.int .i64 X, .int .i64 Y, .int .i64 W, .int .i64 H, .int .i64 C, .int .i64 R] 25) (.cells #[.int .i64 x, .int .i64 y] 23)))
    exact ⟨h0, h1, h2, h3, h4, h5, p0, p1, Q.refl _⟩)
  go_wp2_with fail
  go_region_held3 (fun v => (v.cell? ⟨w.heap.size, 0, none⟩ = some (.int .i64 X) ∧ v.cell? ⟨w.heap.size, 1, none⟩ = some (.int .i64 Y) ∧ v.cell? ⟨w.heap.size, 2, none⟩ = some (.int .i64 W) ∧ v.cell? ⟨w.heap.size, 3, none⟩ = some (.int .i64 H) ∧ v.cell? ⟨w.heap.size, 4, none⟩ = some (.int .i64 C) ∧ v.cell? ⟨w.heap.size, 5, none⟩ = some (.int .i64 R) ∧ v.cell? ⟨w.heap.size + 1, 0, none⟩ = some (.int .i64 x) ∧ v.cell? ⟨w.heap.size + 1, 1, none⟩ = some (.int .i64 y) ∧ Q w1 v)) ((first | (exact gsp_next HK1.out ((Q.refl _).drew)) | (refine gsp_next ?_ (by assumption); assumption)))
    (first
      | (go_at_call 30; refine (HW.out _).mono ?_; (rintro e w2 ⟨rfl, e2⟩))
      | (go_at_call 19; refine (HI.out _).mono ?_; (rintro e w3 ⟨rfl, e3⟩)))
  all_goals
    have HK3 := Lib.hid (by assumption : (w3.cell? ⟨w.heap.size, 0, none⟩ = some (.int .i64 X) ∧ w3.cell? ⟨w.heap.size, 1, none⟩ = some (.int .i64 Y) ∧ w3.cell? ⟨w.heap.size, 2, none⟩ = some (.int .i64 W) ∧ w3.cell? ⟨w.heap.size, 3, none⟩ = some (.int .i64 H) ∧ w3.cell? ⟨w.heap.size, 4, none⟩ = some (.int .i64 C) ∧ w3.cell? ⟨w.heap.size, 5, none⟩ = some (.int .i64 R) ∧ w3.cell? ⟨w.heap.size + 1, 0, none⟩ = some (.int .i64 x) ∧ w3.cell? ⟨w.heap.size + 1, 1, none⟩ = some (.int .i64 y) ∧ Q w1 w3))
    obtain ⟨k0, k1, k2, k3, k4, k5, k7, k8, k9⟩ := HK3.out
    clear k9
    go_wp2_with fail
    go_quiet (first | (with_reducible exact quiet_l (H1.out _)) | (with_reducible exact quiet_l (H2.out _)))
    go_wp2_with fail
    go_quiet (fail)
    go_wp2_with fail
    refine (HN.out _).mono ?_
    rintro e w4 ⟨rfl, e4⟩
    clear k0 k1 k2 k3 k4 k5 k7 k8
    have HK4 := Lib.hid (gsp_next HK3.out (((Q.refl _).drewN _).trans e4))
    obtain ⟨k0, k1, k2, k3, k4, k5, k7, k8, k9⟩ := HK4.out
    clear k9
    go_wp2_with fail
    go_quiet (first | (with_reducible exact quiet_l (H3.out _)) | (with_reducible exact quiet_l (H4.out _)))
    clear k0 k1 k2 k3 k4 k5 k7 k8
    have g1 := HL1.out
    have g2 := HL2.out
    have g3 : IntKind.i64.wrap (q1 + 1) = q1 + 1 := IntWalk.i64_in _ (by omega)
    have g4 : IntKind.i64.wrap (q2 + 1) = q2 + 1 := IntWalk.i64_in _ (by omega)
    go_wp2_with fail
    go_quiet (fail)
    go_wp2_with fail
    go_ret2
    refine ⟨by rw [← HC.out]; rfl, ?_⟩
    first | exact (((e1.behind _).behind _).trans (gsp_q HK4.out)).drewN _ | exact ((((e1.behind _).behind _).trans (gsp_q HK4.out)).drewN _).drewN _
end Go.Proofs.YtcaabaijkidmgaaDoor


/- Contract of the reference's Parse. -/
namespace Go.Proofs.YtcaabaijkidmgaaDoor
open Go.RowKit
set_option linter.unusedVariables false

set_option maxHeartbeats 2000000 in
theorem rgparse_bad (X Y W H C R : Int) (s : ByteArray) (w : World) (h : ¬ Grid.Ok X Y W H C R) :
    Calls Tryd.prog 14 #[.agg #[.int .i64 X, .int .i64 Y, .int .i64 W, .int .i64 H, .int .i64 C, .int .i64 R], .string s] w fun e w' => e = .returned (.tuple #[.agg #[.int .i64 0, .int .i64 0, .int .i64 0, .int .i64 0], .int .i64 2]) ∧ Q w w' := by
  go_enter Tryd.func14, Tryd.ntmps14
  go_wp2_with fail
  refine (rcheck_no X Y W H C R _ h).mono ?_
  rintro e w1 ⟨rfl, q1⟩
  have hb := b_next q1 (new1 w (.cells #[.int .i64 X, .int .i64 Y, .int .i64 W, .int .i64 H, .int .i64 C, .int .i64 R] 25) (.cells #[.int .i64 0, .int .i64 0, .int .i64 0, .int .i64 0] 33 (0, 0)))
  obtain ⟨m0, m1, m2, m3, f0, f1, f2, f3⟩ := row4 hb
  have HB := Lib.hid hb
  clear hb
  go_wp2_with fail
  (refine bodyPost_ret (results_cell_tmp rfl _ _ _ _ _ _ _ rfl (heap_setCell_same _ _ _ _ _ _ (heap_setCell_same _ _ _ _ _ _ (heap_setCell_same _ _ _ _ _ _ (heap_setCell_same _ _ _ _ _ _ HB.out)))) Tryd.underlying33 rfl (by kernel_rfl)) rfl ⟨rfl, ?_⟩; repeat (refine Q.setCell ?_ (by simp) _)); exact (q1.behind _).behind _
set_option maxHeartbeats 2000000 in
theorem rgparse_short (X Y W H C R : Int) (s : ByteArray) (w : World) (h : Grid.Ok X Y W H C R) (hs : s.size < 3) :
    Calls Tryd.prog 14 #[.agg #[.int .i64 X, .int .i64 Y, .int .i64 W, .int .i64 H, .int .i64 C, .int .i64 R], .string s] w fun e w' => e = .returned (.tuple #[.agg #[.int .i64 0, .int .i64 0, .int .i64 0, .int .i64 0], .int .i64 20]) ∧ Q w w' := by
  have HK := Lib.hid (fun W' => rcheck_yes X Y W H C R W' h)
  have d0 : decide ((s.size : Int) < 3) = true := by simp; omega
  clear h
  go_enter Tryd.func14, Tryd.ntmps14
  go_wp2_with fail
  refine (HK.out _).mono ?_
  rintro e w1 ⟨rfl, q1⟩
  have hb := b_next q1 (new1 w (.cells #[.int .i64 X, .int .i64 Y, .int .i64 W, .int .i64 H, .int .i64 C, .int .i64 R] 25) (.cells #[.int .i64 0, .int .i64 0, .int .i64 0, .int .i64 0] 33 (0, 0)))
  obtain ⟨m0, m1, m2, m3, f0, f1, f2, f3⟩ := row4 hb
  have HB := Lib.hid hb
  clear hb
  go_wp2_with fail
  (refine bodyPost_ret (results_cell_tmp rfl _ _ _ _ _ _ _ rfl (heap_setCell_same _ _ _ _ _ _ (heap_setCell_same _ _ _ _ _ _ (heap_setCell_same _ _ _ _ _ _ (heap_setCell_same _ _ _ _ _ _ HB.out)))) Tryd.underlying33 rfl (by kernel_rfl)) rfl ⟨rfl, ?_⟩; repeat (refine Q.setCell ?_ (by simp) _)); exact (q1.behind _).behind _
set_option maxRecDepth 100000 in
set_option maxHeartbeats 4000000 in
theorem rgparse_syntax (X Y W H C R N x y z : Int) (s : ByteArray) (w : World) (h : Grid.Ok X Y W H C R) (zs : (s.size : Int) - 3 = N) (N0 : 0 ≤ N) (N1 : N ≤ 9223372036854775804)
    (i0 : ∀ W, (Instr.index 9 (.string s) (.int .i64 N)).run Tryd.prog W = .ok (.int .u8 x) W)
    (i1 : ∀ W, (Instr.index 9 (.string s) (.int .i64 (N + 1))).run Tryd.prog W = .ok (.int .u8 y) W)
    (i2 : ∀ W, (Instr.index 9 (.string s) (.int .i64 (N + 2))).run Tryd.prog W = .ok (.int .u8 z) W) (hf : ¬ Grf.ft x y z) :
    Calls Tryd.prog 14 #[.agg #[.int .i64 X, .int .i64 Y, .int .i64 W, .int .i64 H, .int .i64 C, .int .i64 R], .string s] w fun e w' => e = .returned (.tuple #[.agg #[.int .i64 0, .int .i64 0, .int .i64 0, .int .i64 0], .int .i64 20]) ∧ Q w w' := by
  have HK := Lib.hid (fun W' => rcheck_yes X Y W H C R W' h)
  have z0 : (s.size : Int) ≤ 9223372036854775807 := by omega
  have d0 : decide ((s.size : Int) < 3) = false := by simp; omega
  have zs2 : (s.size : Int) - 2 = N + 1 := by omega
  have zs1 : (s.size : Int) - 1 = N + 2 := by omega
  clear h
  unfold Grf.ft at hf
  by_cases c0 : x = 45
  · have d1 : (x != 45) = false := by simpa using c0
    by_cases c1 : y < 97
    · have d2 : decide (y < 97) = true := by simpa using c1
      clear hf c0
      go_enter Tryd.func14, Tryd.ntmps14
      go_wp2_with fail
      refine (HK.out _).mono ?_
      rintro e w1 ⟨rfl, q1⟩
      have hb := b_next q1 (new1 w (.cells #[.int .i64 X, .int .i64 Y, .int .i64 W, .int .i64 H, .int .i64 C, .int .i64 R] 25) (.cells #[.int .i64 0, .int .i64 0, .int .i64 0, .int .i64 0] 33 (0, 0)))
      obtain ⟨m0, m1, m2, m3, f0, f1, f2, f3⟩ := row4 hb
      have HB := Lib.hid hb
      clear hb
      go_wp2_with fail
      (refine bodyPost_ret (results_cell_tmp rfl _ _ _ _ _ _ _ rfl (heap_setCell_same _ _ _ _ _ _ (heap_setCell_same _ _ _ _ _ _ (heap_setCell_same _ _ _ _ _ _ (heap_setCell_same _ _ _ _ _ _ HB.out)))) Tryd.underlying33 rfl (by kernel_rfl)) rfl ⟨rfl, ?_⟩; repeat (refine Q.setCell ?_ (by simp) _)); exact (q1.behind _).behind _
    have d2 : decide (y < 97) = false := by simpa using c1
    by_cases c2 : 104 < y
    · have d3 : decide (104 < y) = true := by simpa using c2
      clear hf c0
      go_enter Tryd.func14, Tryd.ntmps14
      go_wp2_with fail
      refine (HK.out _).mono ?_
      rintro e w1 ⟨rfl, q1⟩
      have hb := b_next q1 (new1 w (.cells #[.int .i64 X, .int .i64 Y, .int .i64 W, .int .i64 H, .int .i64 C, .int .i64 R] 25) (.cells #[.int .i64 0, .int .i64 0, .int .i64 0, .int .i64 0] 33 (0, 0)))
      obtain ⟨m0, m1, m2, m3, f0, f1, f2, f3⟩ := row4 hb
      have HB := Lib.hid hb
      clear hb
      go_wp2_with fail
      (refine bodyPost_ret (results_cell_tmp rfl _ _ _ _ _ _ _ rfl (heap_setCell_same _ _ _ _ _ _ (heap_setCell_same _ _ _ _ _ _ (heap_setCell_same _ _ _ _ _ _ (heap_setCell_same _ _ _ _ _ _ HB.out)))) Tryd.underlying33 rfl (by kernel_rfl)) rfl ⟨rfl, ?_⟩; repeat (refine Q.setCell ?_ (by simp) _)); exact (q1.behind _).behind _
    have d3 : decide (104 < y) = false := by simpa using c2
    by_cases c3 : z < 49
    · have d4 : decide (z < 49) = true := by simpa using c3
      clear hf c0
      go_enter Tryd.func14, Tryd.ntmps14
      go_wp2_with fail
      refine (HK.out _).mono ?_
      rintro e w1 ⟨rfl, q1⟩
      have hb := b_next q1 (new1 w (.cells #[.int .i64 X, .int .i64 Y, .int .i64 W, .int .i64 H, .int .i64 C, .int .i64 R] 25) (.cells #[.int .i64 0, .int .i64 0, .int .i64 0, .int .i64 0] 33 (0, 0)))
      obtain ⟨m0, m1, m2, m3, f0, f1, f2, f3⟩ := row4 hb
      have HB := Lib.hid hb
      clear hb
      go_wp2_with fail
      (refine bodyPost_ret (results_cell_tmp rfl _ _ _ _ _ _ _ rfl (heap_setCell_same _ _ _ _ _ _ (heap_setCell_same _ _ _ _ _ _ (heap_setCell_same _ _ _ _ _ _ (heap_setCell_same _ _ _ _ _ _ HB.out)))) Tryd.underlying33 rfl (by kernel_rfl)) rfl ⟨rfl, ?_⟩; repeat (refine Q.setCell ?_ (by simp) _)); exact (q1.behind _).behind _
    have d4 : decide (z < 49) = false := by simpa using c3
    have d5 : decide (56 < z) = true := by simp; omega
    clear hf c0
    go_enter Tryd.func14, Tryd.ntmps14
    go_wp2_with fail
    refine (HK.out _).mono ?_
    rintro e w1 ⟨rfl, q1⟩
    have hb := b_next q1 (new1 w (.cells #[.int .i64 X, .int .i64 Y, .int .i64 W, .int .i64 H, .int .i64 C, .int .i64 R] 25) (.cells #[.int .i64 0, .int .i64 0, .int .i64 0, .int .i64 0] 33 (0, 0)))
    obtain ⟨m0, m1, m2, m3, f0, f1, f2, f3⟩ := row4 hb
    have HB := Lib.hid hb
    clear hb
    go_wp2_with fail
    (refine bodyPost_ret (results_cell_tmp rfl _ _ _ _ _ _ _ rfl (heap_setCell_same _ _ _ _ _ _ (heap_setCell_same _ _ _ _ _ _ (heap_setCell_same _ _ _ _ _ _ (heap_setCell_same _ _ _ _ _ _ HB.out)))) Tryd.underlying33 rfl (by kernel_rfl)) rfl ⟨rfl, ?_⟩; repeat (refine Q.setCell ?_ (by simp) _)); exact (q1.behind _).behind _
  · have d1 : (x != 45) = true := by simpa using c0
    clear hf c0
    go_enter Tryd.func14, Tryd.ntmps14
    go_wp2_with fail
    refine (HK.out _).mono ?_
    rintro e w1 ⟨rfl, q1⟩
    have hb := b_next q1 (new1 w (.cells #[.int .i64 X, .int .i64 Y, .int .i64 W, .int .i64 H, .int .i64 C, .int .i64 R] 25) (.cells #[.int .i64 0, .int .i64 0, .int .i64 0, .int .i64 0] 33 (0, 0)))
    obtain ⟨m0, m1, m2, m3, f0, f1, f2, f3⟩ := row4 hb
    have HB := Lib.hid hb
    clear hb
    go_wp2_with fail
    (refine bodyPost_ret (results_cell_tmp rfl _ _ _ _ _ _ _ rfl (heap_setCell_same _ _ _ _ _ _ (heap_setCell_same _ _ _ _ _ _ (heap_setCell_same _ _ _ _ _ _ (heap_setCell_same _ _ _ _ _ _ HB.out)))) Tryd.underlying33 rfl (by kernel_rfl)) rfl ⟨rfl, ?_⟩; repeat (refine Q.setCell ?_ (by simp) _)); exact (q1.behind _).behind _
set_option maxRecDepth 100000 in
set_option maxHeartbeats 4000000 in
theorem rgparse_err (X Y W H C R N x y z m g : Int) (s t : ByteArray) (w : World) (h : Grid.Ok X Y W H C R) (zs : (s.size : Int) - 3 = N) (N0 : 0 ≤ N) (N1 : N ≤ 9223372036854775804)
    (i0 : ∀ W, (Instr.index 9 (.string s) (.int .i64 N)).run Tryd.prog W = .ok (.int .u8 x) W)
    (i1 : ∀ W, (Instr.index 9 (.string s) (.int .i64 (N + 1))).run Tryd.prog W = .ok (.int .u8 y) W)
    (i2 : ∀ W, (Instr.index 9 (.string s) (.int .i64 (N + 2))).run Tryd.prog W = .ok (.int .u8 z) W)
    (i3 : ∀ W, (Instr.slice 9 (.string s) none (some (.int .i64 N)) none).run Tryd.prog W = .ok (.string t) W) (hf : Grf.ft x y z)
    (hp : ∀ w, Calls Tryd.prog 18 #[.agg #[.int .i64 X, .int .i64 Y, .int .i64 W, .int .i64 H, .int .i64 C, .int .i64 R], .string t] w fun e w' => e = .returned (.tuple #[.int .i64 m, .int .i64 g]) ∧ Q w w') (hg : (g != 0) = true) :
    Calls Tryd.prog 14 #[.agg #[.int .i64 X, .int .i64 Y, .int .i64 W, .int .i64 H, .int .i64 C, .int .i64 R], .string s] w fun e w' => e = .returned (.tuple #[.agg #[.int .i64 0, .int .i64 0, .int .i64 0, .int .i64 0], .int .i64 g]) ∧ Q w w' := by
  have HK := Lib.hid (fun W' => rcheck_yes X Y W H C R W' h)
  have HP := Lib.hid hp
  have z0 : (s.size : Int) ≤ 9223372036854775807 := by omega
  have d0 : decide ((s.size : Int) < 3) = false := by simp; omega
  have zs2 : (s.size : Int) - 2 = N + 1 := by omega
  have zs1 : (s.size : Int) - 1 = N + 2 := by omega
  obtain ⟨c0, c1, c2, c3, c4⟩ := hf
  have d1 : (x != 45) = false := by simpa using c0
  have d2 : decide (y < 97) = false := by simpa using c1
  have d3 : decide (104 < y) = false := by simpa using c2
  have d4 : decide (z < 49) = false := by simpa using c3
  have d5 : decide (56 < z) = false := by simpa using c4
  have HS := Lib.hid (SeAt.fresh w X Y W H C R)
  clear h hp c0
  go_enter Tryd.func14, Tryd.ntmps14
  go_wp2_with fail
  refine (HK.out _).mono ?_
  rintro e w1 ⟨rfl, q1⟩
  have HB := Lib.hid (b_next q1 (new1 w (.cells #[.int .i64 X, .int .i64 Y, .int .i64 W, .int .i64 H, .int .i64 C, .int .i64 R] 25) (.cells #[.int .i64 0, .int .i64 0, .int .i64 0, .int .i64 0] 33 (0, 0))))
  have HK1 := Lib.hid (show (w1.cell? ⟨w.heap.size, 0, none⟩ = some (.int .i64 X) ∧ w1.cell? ⟨w.heap.size, 1, none⟩ = some (.int .i64 Y) ∧ w1.cell? ⟨w.heap.size, 2, none⟩ = some (.int .i64 W) ∧ w1.cell? ⟨w.heap.size, 3, none⟩ = some (.int .i64 H) ∧ w1.cell? ⟨w.heap.size, 4, none⟩ = some (.int .i64 C) ∧ w1.cell? ⟨w.heap.size, 5, none⟩ = some (.int .i64 R) ∧ Q w1 w1) by
    obtain ⟨h0, h1, h2, h3, h4, h5, _⟩ := (HS.out.next ((Q.refl _).alloc (.cells #[.int .i64 0, .int .i64 0, .int .i64 0, .int .i64 0] 33 (0, 0)))).next q1
    exact ⟨h0, h1, h2, h3, h4, h5, Q.refl _⟩)
  go_wp2_with fail
  have wN : IntKind.i64.wrap N = N := IntWalk.i64_in _ (by omega)
  have wN1 : IntKind.i64.wrap (N + 1) = N + 1 := IntWalk.i64_in _ (by omega)
  have wN2 : IntKind.i64.wrap (N + 2) = N + 2 := IntWalk.i64_in _ (by omega)
  go_region_held3 (fun v => (v.cell? ⟨w.heap.size, 0, none⟩ = some (.int .i64 X) ∧ v.cell? ⟨w.heap.size, 1, none⟩ = some (.int .i64 Y) ∧ v.cell? ⟨w.heap.size, 2, none⟩ = some (.int .i64 W) ∧ v.cell? ⟨w.heap.size, 3, none⟩ = some (.int .i64 H) ∧ v.cell? ⟨w.heap.size, 4, none⟩ = some (.int .i64 C) ∧ v.cell? ⟨w.heap.size, 5, none⟩ = some (.int .i64 R) ∧ Q w1 v)) ((first | (exact se_next HK1.out ((Q.refl _).drew)) | (refine se_next ?_ (by assumption); assumption)))
    ((go_at_call 18; refine (HP.out _).mono ?_; (rintro e w2 ⟨rfl, q2⟩)))
  all_goals
    have HQ := Lib.hid (se_q (by assumption : (w2.cell? ⟨w.heap.size, 0, none⟩ = some (.int .i64 X) ∧ w2.cell? ⟨w.heap.size, 1, none⟩ = some (.int .i64 Y) ∧ w2.cell? ⟨w.heap.size, 2, none⟩ = some (.int .i64 W) ∧ w2.cell? ⟨w.heap.size, 3, none⟩ = some (.int .i64 H) ∧ w2.cell? ⟨w.heap.size, 4, none⟩ = some (.int .i64 C) ∧ w2.cell? ⟨w.heap.size, 5, none⟩ = some (.int .i64 R) ∧ Q w1 w2)))
    have hb := b_next HQ.out HB.out
    obtain ⟨m0, m1, m2, m3, f0, f1, f2, f3⟩ := row4 hb
    have HB2 := Lib.hid hb
    clear hb
    go_wp2_with fail
    (refine bodyPost_ret (results_cell_tmp rfl _ _ _ _ _ _ _ rfl (heap_setCell_same _ _ _ _ _ _ (heap_setCell_same _ _ _ _ _ _ (heap_setCell_same _ _ _ _ _ _ (heap_setCell_same _ _ _ _ _ _ HB2.out)))) Tryd.underlying33 rfl (by kernel_rfl)) rfl ⟨rfl, ?_⟩; repeat (refine Q.setCell ?_ (by simp) _)); exact ((q1.behind _).behind _).trans HQ.out
end Go.Proofs.YtcaabaijkidmgaaDoor


/- Contract of the reference's Parse where the text names a square. -/
namespace Go.Proofs.YtcaabaijkidmgaaDoor
open Go.RowKit
set_option linter.unusedVariables false

theorem sd_next {X Y W H C R p0 p1 p2 p3 : Int} {B D : Nat} {wk u v : World} (h : (u.cell? ⟨B, 0, none⟩ = some (.int .i64 X) ∧ u.cell? ⟨B, 1, none⟩ = some (.int .i64 Y) ∧ u.cell? ⟨B, 2, none⟩ = some (.int .i64 W) ∧ u.cell? ⟨B, 3, none⟩ = some (.int .i64 H) ∧ u.cell? ⟨B, 4, none⟩ = some (.int .i64 C) ∧ u.cell? ⟨B, 5, none⟩ = some (.int .i64 R) ∧ u.cell? ⟨D, 0, none⟩ = some (.int .i64 p0) ∧ u.cell? ⟨D, 1, none⟩ = some (.int .i64 p1) ∧ u.cell? ⟨D, 2, none⟩ = some (.int .i64 p2) ∧ u.cell? ⟨D, 3, none⟩ = some (.int .i64 p3) ∧ Q wk u)) (q : Q u v) : (v.cell? ⟨B, 0, none⟩ = some (.int .i64 X) ∧ v.cell? ⟨B, 1, none⟩ = some (.int .i64 Y) ∧ v.cell? ⟨B, 2, none⟩ = some (.int .i64 W) ∧ v.cell? ⟨B, 3, none⟩ = some (.int .i64 H) ∧ v.cell? ⟨B, 4, none⟩ = some (.int .i64 C) ∧ v.cell? ⟨B, 5, none⟩ = some (.int .i64 R) ∧ v.cell? ⟨D, 0, none⟩ = some (.int .i64 p0) ∧ v.cell? ⟨D, 1, none⟩ = some (.int .i64 p1) ∧ v.cell? ⟨D, 2, none⟩ = some (.int .i64 p2) ∧ v.cell? ⟨D, 3, none⟩ = some (.int .i64 p3) ∧ Q wk v) := by
  obtain ⟨h0, h1, h2, h3, h4, h5, g0, g1, g2, g3, hq⟩ := h
  exact ⟨t_next q h0, t_next q h1, t_next q h2, t_next q h3, t_next q h4, t_next q h5, t_next q g0, t_next q g1, t_next q g2, t_next q g3, hq.trans q⟩
theorem sd_q {X Y W H C R p0 p1 p2 p3 : Int} {B D : Nat} {wk v : World} (h : (v.cell? ⟨B, 0, none⟩ = some (.int .i64 X) ∧ v.cell? ⟨B, 1, none⟩ = some (.int .i64 Y) ∧ v.cell? ⟨B, 2, none⟩ = some (.int .i64 W) ∧ v.cell? ⟨B, 3, none⟩ = some (.int .i64 H) ∧ v.cell? ⟨B, 4, none⟩ = some (.int .i64 C) ∧ v.cell? ⟨B, 5, none⟩ = some (.int .i64 R) ∧ v.cell? ⟨D, 0, none⟩ = some (.int .i64 p0) ∧ v.cell? ⟨D, 1, none⟩ = some (.int .i64 p1) ∧ v.cell? ⟨D, 2, none⟩ = some (.int .i64 p2) ∧ v.cell? ⟨D, 3, none⟩ = some (.int .i64 p3) ∧ Q wk v)) : Q wk v := h.2.2.2.2.2.2.2.2.2.2
theorem field2 (a b c d : Int) (w : World) : (Instr.field 33 (.agg #[.int .i64 a, .int .i64 b, .int .i64 c, .int .i64 d]) 2).run Tryd.prog w = .ok (.int .i64 c) w := by kernel_rfl
theorem field3 (a b c d : Int) (w : World) : (Instr.field 33 (.agg #[.int .i64 a, .int .i64 b, .int .i64 c, .int .i64 d]) 3).run Tryd.prog w = .ok (.int .i64 d) w := by kernel_rfl
/-- The answer of the reference's Parse, from the ends of the square's sides. -/
def Grf.rb (xa xb : Int) (xo : Bool) (ya yb : Int) (yo : Bool) : Value := if xo = false ∨ yo = false then .agg #[.int .i64 0, .int .i64 0, .int .i64 (-1), .int .i64 (-1)] else .agg #[.int .i64 xa, .int .i64 ya, .int .i64 xb, .int .i64 yb]
set_option maxRecDepth 100000 in
set_option maxHeartbeats 8000000 in
theorem rgparse_core (X Y W H C R N x y z m p0 p1 p2 p3 xa xb ya yb : Int) (xo yo : Bool) (s t : ByteArray) (w : World) (h : Grid.Ok X Y W H C R) (zs : (s.size : Int) - 3 = N) (N0 : 0 ≤ N) (N1 : N ≤ 9223372036854775804)
    (i0 : ∀ W, (Instr.index 9 (.string s) (.int .i64 N)).run Tryd.prog W = .ok (.int .u8 x) W)
    (i1 : ∀ W, (Instr.index 9 (.string s) (.int .i64 (N + 1))).run Tryd.prog W = .ok (.int .u8 y) W)
    (i2 : ∀ W, (Instr.index 9 (.string s) (.int .i64 (N + 2))).run Tryd.prog W = .ok (.int .u8 z) W)
    (i3 : ∀ W, (Instr.slice 9 (.string s) none (some (.int .i64 N)) none).run Tryd.prog W = .ok (.string t) W) (hf : Grf.ft x y z)
    (hp : ∀ w, Calls Tryd.prog 18 #[.agg #[.int .i64 X, .int .i64 Y, .int .i64 W, .int .i64 H, .int .i64 C, .int .i64 R], .string t] w fun e w' => e = .returned (.tuple #[.int .i64 m, .int .i64 0]) ∧ Q w w')
    (hb : ∀ w, Calls Tryd.prog 36 #[.agg #[.int .i64 X, .int .i64 Y, .int .i64 W, .int .i64 H, .int .i64 C, .int .i64 R], .int .i64 m] w fun e w' => e = .returned (.tuple #[.agg #[.int .i64 p0, .int .i64 p1, .int .i64 p2, .int .i64 p3], .int .i64 0]) ∧ Q w w')
    (hx : ∀ w, Calls Tryd.prog 37 #[.int .i64 p0, .int .i64 p2, .int .i64 (X + C * W), .int .i64 (y - 97)] w fun e w' => e = .returned (.tuple #[.int .i64 xa, .int .i64 xb, .bool xo]) ∧ w = w')
    (hy : ∀ w, Calls Tryd.prog 37 #[.int .i64 p1, .int .i64 p3, .int .i64 (Y + R * H), .int .i64 (z - 49)] w fun e w' => e = .returned (.tuple #[.int .i64 ya, .int .i64 yb, .bool yo]) ∧ w = w') :
    Calls Tryd.prog 14 #[.agg #[.int .i64 X, .int .i64 Y, .int .i64 W, .int .i64 H, .int .i64 C, .int .i64 R], .string s] w fun e w' => e = .returned (.tuple #[Grf.rb xa xb xo ya yb yo, .int .i64 0]) ∧ Q w w' := by
  have HK := Lib.hid (fun W' => rcheck_yes X Y W H C R W' h)
  have HWH := Lib.hid (fun W' => whole_any X Y W H C R W' h)
  have HP := Lib.hid hp
  have HBX := Lib.hid hb
  have HX := Lib.hid hx
  have HY := Lib.hid hy
  have z0 : (s.size : Int) ≤ 9223372036854775807 := by omega
  have d0 : decide ((s.size : Int) < 3) = false := by simp; omega
  have zs2 : (s.size : Int) - 2 = N + 1 := by omega
  have zs1 : (s.size : Int) - 1 = N + 2 := by omega
  obtain ⟨c0, c1, c2, c3, c4⟩ := hf
  have d1 : (x != 45) = false := by simpa using c0
  have d2 : decide (y < 97) = false := by simpa using c1
  have d3 : decide (104 < y) = false := by simpa using c2
  have d4 : decide (z < 49) = false := by simpa using c3
  have d5 : decide (56 < z) = false := by simpa using c4
  have HS := Lib.hid (SeAt.fresh w X Y W H C R)
  clear h hp c0 hx hy hb
  go_enter Tryd.func14, Tryd.ntmps14
  go_wp2_with fail
  refine (HK.out _).mono ?_
  rintro e w1 ⟨rfl, q1⟩
  have HB := Lib.hid (b_next q1 (new1 w (.cells #[.int .i64 X, .int .i64 Y, .int .i64 W, .int .i64 H, .int .i64 C, .int .i64 R] 25) (.cells #[.int .i64 0, .int .i64 0, .int .i64 0, .int .i64 0] 33 (0, 0))))
  have HK1 := Lib.hid (show (w1.cell? ⟨w.heap.size, 0, none⟩ = some (.int .i64 X) ∧ w1.cell? ⟨w.heap.size, 1, none⟩ = some (.int .i64 Y) ∧ w1.cell? ⟨w.heap.size, 2, none⟩ = some (.int .i64 W) ∧ w1.cell? ⟨w.heap.size, 3, none⟩ = some (.int .i64 H) ∧ w1.cell? ⟨w.heap.size, 4, none⟩ = some (.int .i64 C) ∧ w1.cell? ⟨w.heap.size, 5, none⟩ = some (.int .i64 R) ∧ Q w1 w1) by
    obtain ⟨h0, h1, h2, h3, h4, h5, _⟩ := (HS.out.next ((Q.refl _).alloc (.cells #[.int .i64 0, .int .i64 0, .int .i64 0, .int .i64 0] 33 (0, 0)))).next q1
    exact ⟨h0, h1, h2, h3, h4, h5, Q.refl _⟩)
  go_wp2_with fail
  have wN : IntKind.i64.wrap N = N := IntWalk.i64_in _ (by omega)
  have wN1 : IntKind.i64.wrap (N + 1) = N + 1 := IntWalk.i64_in _ (by omega)
  have wN2 : IntKind.i64.wrap (N + 2) = N + 2 := IntWalk.i64_in _ (by omega)
  go_region_held3 (fun v => (v.cell? ⟨w.heap.size, 0, none⟩ = some (.int .i64 X) ∧ v.cell? ⟨w.heap.size, 1, none⟩ = some (.int .i64 Y) ∧ v.cell? ⟨w.heap.size, 2, none⟩ = some (.int .i64 W) ∧ v.cell? ⟨w.heap.size, 3, none⟩ = some (.int .i64 H) ∧ v.cell? ⟨w.heap.size, 4, none⟩ = some (.int .i64 C) ∧ v.cell? ⟨w.heap.size, 5, none⟩ = some (.int .i64 R) ∧ Q w1 v)) ((first | (exact se_next HK1.out ((Q.refl _).drew)) | (refine se_next ?_ (by assumption); assumption)))
    ((go_at_call 18; refine (HP.out _).mono ?_; (rintro e w2 ⟨rfl, q2⟩)))
  all_goals
    have HK2 := Lib.hid (by assumption : (w2.cell? ⟨w.heap.size, 0, none⟩ = some (.int .i64 X) ∧ w2.cell? ⟨w.heap.size, 1, none⟩ = some (.int .i64 Y) ∧ w2.cell? ⟨w.heap.size, 2, none⟩ = some (.int .i64 W) ∧ w2.cell? ⟨w.heap.size, 3, none⟩ = some (.int .i64 H) ∧ w2.cell? ⟨w.heap.size, 4, none⟩ = some (.int .i64 C) ∧ w2.cell? ⟨w.heap.size, 5, none⟩ = some (.int .i64 R) ∧ Q w1 w2))
    obtain ⟨k0, k1, k2, k3, k4, k5, k6⟩ := HK2.out
    clear k6
    go_wp2_with fail
    refine (HBX.out _).mono ?_
    rintro e w3 ⟨rfl, q3⟩
    clear k0 k1 k2 k3 k4 k5
    go_wp2_with fail
    obtain ⟨D, hD⟩ : ∃ D, w3.heap.size = D := ⟨_, rfl⟩
    obtain ⟨w4, hw4⟩ : ∃ v, w3.alloc (.cells #[.int .i64 p0, .int .i64 p1, .int .i64 p2, .int .i64 p3] 33) = v := ⟨_, rfl⟩
    have HK4 := Lib.hid (show (w4.cell? ⟨w.heap.size, 0, none⟩ = some (.int .i64 X) ∧ w4.cell? ⟨w.heap.size, 1, none⟩ = some (.int .i64 Y) ∧ w4.cell? ⟨w.heap.size, 2, none⟩ = some (.int .i64 W) ∧ w4.cell? ⟨w.heap.size, 3, none⟩ = some (.int .i64 H) ∧ w4.cell? ⟨w.heap.size, 4, none⟩ = some (.int .i64 C) ∧ w4.cell? ⟨w.heap.size, 5, none⟩ = some (.int .i64 R) ∧ w4.cell? ⟨D, 0, none⟩ = some (.int .i64 p0) ∧ w4.cell? ⟨D, 1, none⟩ = some (.int .i64 p1) ∧ w4.cell? ⟨D, 2, none⟩ = some (.int .i64 p2) ∧ w4.cell? ⟨D, 3, none⟩ = some (.int .i64 p3) ∧ Q w1 w4) by
      obtain ⟨h0, h1, h2, h3, h4, h5, h6⟩ := se_next HK2.out (q3.alloc (.cells #[.int .i64 p0, .int .i64 p1, .int .i64 p2, .int .i64 p3] 33))
      obtain ⟨g0, g1, g2, g3, _⟩ := row4 (heap_alloc_new w3 (.cells #[.int .i64 p0, .int .i64 p1, .int .i64 p2, .int .i64 p3] 33))
      rw [hw4] at h0 h1 h2 h3 h4 h5 h6 g0 g1 g2 g3
      rw [hD] at g0 g1 g2 g3
      exact ⟨h0, h1, h2, h3, h4, h5, g0, g1, g2, g3, h6⟩)
    rw [hD, hw4]
    clear hD hw4
    have u1 : IntKind.u8.wrap (y - 97) = y - 97 := IntWalk.u8_in _ (by omega)
    have u2 : IntKind.u8.wrap (z - 49) = z - 49 := IntWalk.u8_in _ (by omega)
    have u3 : IntKind.i64.wrap (y - 97) = y - 97 := IntWalk.i64_in _ (by omega)
    have u4 : IntKind.i64.wrap (z - 49) = z - 49 := IntWalk.i64_in _ (by omega)
    have hg2 := fun W' => field2 X Y (X + C * W) (Y + R * H) W'
    have hg3 := fun W' => field3 X Y (X + C * W) (Y + R * H) W'
    go_region_held3 (fun v => (v.cell? ⟨w.heap.size, 0, none⟩ = some (.int .i64 X) ∧ v.cell? ⟨w.heap.size, 1, none⟩ = some (.int .i64 Y) ∧ v.cell? ⟨w.heap.size, 2, none⟩ = some (.int .i64 W) ∧ v.cell? ⟨w.heap.size, 3, none⟩ = some (.int .i64 H) ∧ v.cell? ⟨w.heap.size, 4, none⟩ = some (.int .i64 C) ∧ v.cell? ⟨w.heap.size, 5, none⟩ = some (.int .i64 R) ∧ v.cell? ⟨D, 0, none⟩ = some (.int .i64 p0) ∧ v.cell? ⟨D, 1, none⟩ = some (.int .i64 p1) ∧ v.cell? ⟨D, 2, none⟩ = some (.int .i64 p2) ∧ v.cell? ⟨D, 3, none⟩ = some (.int .i64 p3) ∧ Q w1 v)) ((first | (with_reducible assumption) | (exact sd_next HK4.out ((Q.refl _).drew)) | (refine sd_next ?_ (by assumption); assumption)))
      (first
        | (go_at_call 30; refine (HWH.out _).mono ?_; (rintro e w5 ⟨rfl, q5⟩))
        | (go_at_call 37; ((with_reducible refine (HX.out _).mono ?_)); (rintro e w6 ⟨rfl, rfl⟩)))
    all_goals
      have HK5 := Lib.hid (by assumption : (w5.cell? ⟨w.heap.size, 0, none⟩ = some (.int .i64 X) ∧ w5.cell? ⟨w.heap.size, 1, none⟩ = some (.int .i64 Y) ∧ w5.cell? ⟨w.heap.size, 2, none⟩ = some (.int .i64 W) ∧ w5.cell? ⟨w.heap.size, 3, none⟩ = some (.int .i64 H) ∧ w5.cell? ⟨w.heap.size, 4, none⟩ = some (.int .i64 C) ∧ w5.cell? ⟨w.heap.size, 5, none⟩ = some (.int .i64 R) ∧ w5.cell? ⟨D, 0, none⟩ = some (.int .i64 p0) ∧ w5.cell? ⟨D, 1, none⟩ = some (.int .i64 p1) ∧ w5.cell? ⟨D, 2, none⟩ = some (.int .i64 p2) ∧ w5.cell? ⟨D, 3, none⟩ = some (.int .i64 p3) ∧ Q w1 w5))
      go_wp2_with fail
      go_region_held3 (fun v => (v.cell? ⟨w.heap.size, 0, none⟩ = some (.int .i64 X) ∧ v.cell? ⟨w.heap.size, 1, none⟩ = some (.int .i64 Y) ∧ v.cell? ⟨w.heap.size, 2, none⟩ = some (.int .i64 W) ∧ v.cell? ⟨w.heap.size, 3, none⟩ = some (.int .i64 H) ∧ v.cell? ⟨w.heap.size, 4, none⟩ = some (.int .i64 C) ∧ v.cell? ⟨w.heap.size, 5, none⟩ = some (.int .i64 R) ∧ v.cell? ⟨D, 0, none⟩ = some (.int .i64 p0) ∧ v.cell? ⟨D, 1, none⟩ = some (.int .i64 p1) ∧ v.cell? ⟨D, 2, none⟩ = some (.int .i64 p2) ∧ v.cell? ⟨D, 3, none⟩ = some (.int .i64 p3) ∧ Q w1 v)) ((first | (with_reducible assumption) | (exact sd_next HK5.out ((Q.refl _).drew)) | (refine sd_next ?_ (by assumption); assumption)))
        (first
          | (go_at_call 30; refine (HWH.out _).mono ?_; (rintro e w7 ⟨rfl, q7⟩))
          | (go_at_call 37; ((with_reducible refine (HY.out _).mono ?_)); (rintro e w8 ⟨rfl, rfl⟩)))
      all_goals
        have HQ := Lib.hid (sd_q (by assumption : (w7.cell? ⟨w.heap.size, 0, none⟩ = some (.int .i64 X) ∧ w7.cell? ⟨w.heap.size, 1, none⟩ = some (.int .i64 Y) ∧ w7.cell? ⟨w.heap.size, 2, none⟩ = some (.int .i64 W) ∧ w7.cell? ⟨w.heap.size, 3, none⟩ = some (.int .i64 H) ∧ w7.cell? ⟨w.heap.size, 4, none⟩ = some (.int .i64 C) ∧ w7.cell? ⟨w.heap.size, 5, none⟩ = some (.int .i64 R) ∧ w7.cell? ⟨D, 0, none⟩ = some (.int .i64 p0) ∧ w7.cell? ⟨D, 1, none⟩ = some (.int .i64 p1) ∧ w7.cell? ⟨D, 2, none⟩ = some (.int .i64 p2) ∧ w7.cell? ⟨D, 3, none⟩ = some (.int .i64 p3) ∧ Q w1 w7)))
        have hb := b_next HQ.out HB.out
        obtain ⟨m0, m1, m2, m3, f0, f1, f2, f3⟩ := row4 hb
        have HB2 := Lib.hid hb
        clear hb
        cases xo
        · have HR := Lib.hid (show Grf.rb xa xb false ya yb yo = _ from if_pos (.inl rfl))
          go_wp2_with fail
          rw [HR.out]
          (refine bodyPost_ret (results_cell_tmp rfl _ _ _ _ _ _ _ rfl (heap_setCell_same _ _ _ _ _ _ (heap_setCell_same _ _ _ _ _ _ (heap_setCell_same _ _ _ _ _ _ (heap_setCell_same _ _ _ _ _ _ HB2.out)))) Tryd.underlying33 rfl (by kernel_rfl)) rfl ⟨rfl, ?_⟩; repeat (refine Q.setCell ?_ (by simp) _)); exact ((q1.behind _).behind _).trans HQ.out
        · cases yo
          · have HR := Lib.hid (show Grf.rb xa xb true ya yb false = _ from if_pos (.inr rfl))
            go_wp2_with fail
            rw [HR.out]
            (refine bodyPost_ret (results_cell_tmp rfl _ _ _ _ _ _ _ rfl (heap_setCell_same _ _ _ _ _ _ (heap_setCell_same _ _ _ _ _ _ (heap_setCell_same _ _ _ _ _ _ (heap_setCell_same _ _ _ _ _ _ HB2.out)))) Tryd.underlying33 rfl (by kernel_rfl)) rfl ⟨rfl, ?_⟩; repeat (refine Q.setCell ?_ (by simp) _)); exact ((q1.behind _).behind _).trans HQ.out
          · have HR := Lib.hid (show Grf.rb xa xb true ya yb true = _ from if_neg (by simp))
            go_wp2_with fail
            rw [HR.out]
            (refine bodyPost_ret (results_cell_tmp rfl _ _ _ _ _ _ _ rfl (heap_setCell_same _ _ _ _ _ _ (heap_setCell_same _ _ _ _ _ _ (heap_setCell_same _ _ _ _ _ _ (heap_setCell_same _ _ _ _ _ _ HB2.out)))) Tryd.underlying33 rfl (by kernel_rfl)) rfl ⟨rfl, ?_⟩; repeat (refine Q.setCell ?_ (by simp) _)); exact ((q1.behind _).behind _).trans HQ.out
end Go.Proofs.YtcaabaijkidmgaaDoor
