
/- Contracts of both Contains; the examples of chapter 51 hold (mapsheetslaw51.awake). -/
import Derived.Test.YtcaabaijkidmgaaDoorGrfP
import Derived.Test.YtcaabaijkidmgaaDoorGrfN
namespace Go.Proofs.YtcaabaijkidmgaaDoor
open Go.RowKit
set_option linter.unusedVariables false

theorem gcontains_err (X Y W H C R x y g : Int) (s : ByteArray) (w : World) (hg : (g != 0) = true)
    (HP : Hid (∀ w, Calls Tryd.prog 13 #[.agg #[.int .i64 X, .int .i64 Y, .int .i64 W, .int .i64 H, .int .i64 C, .int .i64 R], .string s] w fun e w' => e = .returned (.tuple #[.agg #[.int .i64 0, .int .i64 0, .int .i64 0, .int .i64 0], .int .i64 g]) ∧ Q w w')) :
    Calls Tryd.prog 15 #[.agg #[.int .i64 X, .int .i64 Y, .int .i64 W, .int .i64 H, .int .i64 C, .int .i64 R], .string s, .agg #[.int .i64 x, .int .i64 y]] w fun e w' => e = .returned (.bool false) ∧ Q w w' := by
  have hg' : (g == 0) = false := by simpa using hg
  clear hg
  go_enter Tryd.func15, Tryd.ntmps15
  go_wp2_with fail
  refine (HP.out _).mono ?_
  rintro e w1 ⟨rfl, q1⟩
  go_wp2_with fail
  go_ret
  exact ⟨rfl, ((q1.behind _).behind _).alloc _⟩
set_option maxHeartbeats 2000000 in
theorem gcontains_box (X Y W H C R a b c d x y : Int) (s : ByteArray) (w : World)
    (HP : Hid (∀ w, Calls Tryd.prog 13 #[.agg #[.int .i64 X, .int .i64 Y, .int .i64 W, .int .i64 H, .int .i64 C, .int .i64 R], .string s] w fun e w' => e = .returned (.tuple #[.agg #[.int .i64 a, .int .i64 b, .int .i64 c, .int .i64 d], .int .i64 0]) ∧ Q w w')) :
    Calls Tryd.prog 15 #[.agg #[.int .i64 X, .int .i64 Y, .int .i64 W, .int .i64 H, .int .i64 C, .int .i64 R], .string s, .agg #[.int .i64 x, .int .i64 y]] w fun e w' => e = .returned (.bool (Grf.inB a b c d x y)) ∧ Q w w' := by
  by_cases c0 : a ≤ x
  rotate_left
  · have d0 : decide (a ≤ x) = false := by simpa using c0
    rw [show Grf.inB a b c d x y = false by unfold Grf.inB; simp; omega]
    go_enter Tryd.func15, Tryd.ntmps15
    go_wp2_with fail
    refine (HP.out _).mono ?_
    rintro e w1 ⟨rfl, q1⟩
    have hb := b_next q1 (new1 w (.cells #[.int .i64 X, .int .i64 Y, .int .i64 W, .int .i64 H, .int .i64 C, .int .i64 R] 25) (.cells #[.int .i64 x, .int .i64 y] 23))
    have t0 := row_cell (i := 0) hb rfl
    have t1 := row_cell (i := 1) hb rfl
    have z := block_lt_of_cell t0
    clear hb
    go_wp2_with fail
    go_ret
    exact ⟨rfl, ((q1.behind _).behind _).alloc _⟩
  have d0 : decide (a ≤ x) = true := by simpa using c0
  by_cases c1 : x ≤ c
  rotate_left
  · have d1 : decide (x ≤ c) = false := by simpa using c1
    rw [show Grf.inB a b c d x y = false by unfold Grf.inB; simp; omega]
    go_enter Tryd.func15, Tryd.ntmps15
    go_wp2_with fail
    refine (HP.out _).mono ?_
    rintro e w1 ⟨rfl, q1⟩
    have hb := b_next q1 (new1 w (.cells #[.int .i64 X, .int .i64 Y, .int .i64 W, .int .i64 H, .int .i64 C, .int .i64 R] 25) (.cells #[.int .i64 x, .int .i64 y] 23))
    have t0 := row_cell (i := 0) hb rfl
    have t1 := row_cell (i := 1) hb rfl
    have z := block_lt_of_cell t0
    clear hb
    go_wp2_with fail
    go_ret
    exact ⟨rfl, ((q1.behind _).behind _).alloc _⟩
  have d1 : decide (x ≤ c) = true := by simpa using c1
  by_cases c2 : b ≤ y
  rotate_left
  · have d2 : decide (b ≤ y) = false := by simpa using c2
    rw [show Grf.inB a b c d x y = false by unfold Grf.inB; simp; omega]
    go_enter Tryd.func15, Tryd.ntmps15
    go_wp2_with fail
    refine (HP.out _).mono ?_
    rintro e w1 ⟨rfl, q1⟩
    have hb := b_next q1 (new1 w (.cells #[.int .i64 X, .int .i64 Y, .int .i64 W, .int .i64 H, .int .i64 C, .int .i64 R] 25) (.cells #[.int .i64 x, .int .i64 y] 23))
    have t0 := row_cell (i := 0) hb rfl
    have t1 := row_cell (i := 1) hb rfl
    have z := block_lt_of_cell t0
    clear hb
    go_wp2_with fail
    go_ret
    exact ⟨rfl, ((q1.behind _).behind _).alloc _⟩
  have d2 : decide (b ≤ y) = true := by simpa using c2
  by_cases c3 : y ≤ d
  rotate_left
  · have d3 : decide (y ≤ d) = false := by simpa using c3
    rw [show Grf.inB a b c d x y = false by unfold Grf.inB; simp; omega]
    go_enter Tryd.func15, Tryd.ntmps15
    go_wp2_with fail
    refine (HP.out _).mono ?_
    rintro e w1 ⟨rfl, q1⟩
    have hb := b_next q1 (new1 w (.cells #[.int .i64 X, .int .i64 Y, .int .i64 W, .int .i64 H, .int .i64 C, .int .i64 R] 25) (.cells #[.int .i64 x, .int .i64 y] 23))
    have t0 := row_cell (i := 0) hb rfl
    have t1 := row_cell (i := 1) hb rfl
    have z := block_lt_of_cell t0
    clear hb
    go_wp2_with fail
    go_ret
    exact ⟨rfl, ((q1.behind _).behind _).alloc _⟩
  have d3 : decide (y ≤ d) = true := by simpa using c3
  rw [show Grf.inB a b c d x y = true by unfold Grf.inB; simp; omega]
  go_enter Tryd.func15, Tryd.ntmps15
  go_wp2_with fail
  refine (HP.out _).mono ?_
  rintro e w1 ⟨rfl, q1⟩
  have hb := b_next q1 (new1 w (.cells #[.int .i64 X, .int .i64 Y, .int .i64 W, .int .i64 H, .int .i64 C, .int .i64 R] 25) (.cells #[.int .i64 x, .int .i64 y] 23))
  have t0 := row_cell (i := 0) hb rfl
  have t1 := row_cell (i := 1) hb rfl
  have z := block_lt_of_cell t0
  clear hb
  go_wp2_with fail
  go_ret
  exact ⟨rfl, ((q1.behind _).behind _).alloc _⟩
theorem rcontains_err (X Y W H C R x y g : Int) (s t : ByteArray) (w : World) (hg : (g != 0) = true)
    (HP : Hid (∀ w, Calls Tryd.prog 10 #[.agg #[.int .i64 X, .int .i64 Y, .int .i64 W, .int .i64 H, .int .i64 C, .int .i64 R], .agg #[.int .i64 x, .int .i64 y]] w fun e w' => e = .returned (.tuple #[.string t, .int .i64 g]) ∧ Q w w')) :
    Calls Tryd.prog 16 #[.agg #[.int .i64 X, .int .i64 Y, .int .i64 W, .int .i64 H, .int .i64 C, .int .i64 R], .string s, .agg #[.int .i64 x, .int .i64 y]] w fun e w' => e = .returned (.bool false) ∧ Q w w' := by
  have hg' : (g == 0) = false := by simpa using hg
  clear hg
  go_enter Tryd.func16, Tryd.ntmps16
  go_wp2_with fail
  refine (HP.out _).mono ?_
  rintro e w1 ⟨rfl, q1⟩
  go_wp2_with fail
  go_ret
  exact ⟨rfl, (q1.behind _).behind _⟩
theorem rcontains_in (X Y W H C R x y : Int) (s t : ByteArray) (o : Bool) (w : World) (ho : (s.toList == t.toList) = o)
    (HP : Hid (∀ w, Calls Tryd.prog 10 #[.agg #[.int .i64 X, .int .i64 Y, .int .i64 W, .int .i64 H, .int .i64 C, .int .i64 R], .agg #[.int .i64 x, .int .i64 y]] w fun e w' => e = .returned (.tuple #[.string t, .int .i64 0]) ∧ Q w w')) :
    Calls Tryd.prog 16 #[.agg #[.int .i64 X, .int .i64 Y, .int .i64 W, .int .i64 H, .int .i64 C, .int .i64 R], .string s, .agg #[.int .i64 x, .int .i64 y]] w fun e w' => e = .returned (.bool o) ∧ Q w w' := by
  go_enter Tryd.func16, Tryd.ntmps16
  go_wp2_with fail
  refine (HP.out _).mono ?_
  rintro e w1 ⟨rfl, q1⟩
  go_wp2_with fail
  go_ret
  exact ⟨rfl, (q1.behind _).behind _⟩
theorem sheets_any (w : World) : Calls Tryd.prog 33 #[] w fun e w' => e = .returned (.agg #[.int .i64 0, .int .i64 0, .int .i64 16, .int .i64 16, .int .i64 2, .int .i64 1]) ∧ Q w w' := by
  go_enter Tryd.func33, Tryd.ntmps33
  go_wp2_with fail
  refine bodyPost_ret (results_cell1 rfl _ _ _ _ _ _ _ rfl (heap_alloc_new _ _) Tryd.underlying25 rfl (by kernel_rfl)) rfl ⟨rfl, ?_⟩
  exact (Q.refl _).alloc _
namespace Grf
theorem ok0 : Grid.Ok 0 0 16 16 2 1 := by decide
theorem in1 : ins 0 0 16 16 2 1 3 2 := by unfold ins; decide
theorem in2 : ins 0 0 16 16 2 1 16 16 := by unfold ins; decide
theorem in3 : ins 0 0 16 16 2 1 32 16 := by unfold ins; decide
theorem out4 : ¬ ins 0 0 16 16 2 1 33 0 := by unfold ins; decide
theorem n1 : (⟨(sn 0 0 16 16 2 1 3 2).toArray⟩ : ByteArray) = ⟨#[65, 49, 45, 98, 50]⟩ := by decide +kernel
theorem n2 : (⟨(sn 0 0 16 16 2 1 16 16).toArray⟩ : ByteArray) = ⟨#[66, 49, 45, 97, 56]⟩ := by decide +kernel
theorem n3 : (⟨(sn 0 0 16 16 2 1 32 16).toArray⟩ : ByteArray) = ⟨#[66, 49, 45, 104, 56]⟩ := by decide +kernel
theorem b1 : sqb 2 2 0 7 = ⟨#[66, 49, 45, 97, 56]⟩ := by decide +kernel
theorem b2 : sqb 2 1 1 1 = ⟨#[65, 49, 45, 98, 50]⟩ := by decide +kernel
theorem bv1 : bxv 0 0 16 16 2 1 2 0 7 = .agg #[.int .i64 16, .int .i64 14, .int .i64 17, .int .i64 16] := by kernel_rfl
theorem bv2 : bxv 0 0 16 16 2 1 1 1 1 = .agg #[.int .i64 2, .int .i64 2, .int .i64 3, .int .i64 3] := by kernel_rfl
theorem okp : Prj.Ok 1 0 0 206265 := by decide
theorem l1 : num 0 4 3 ++ [10] = [0, 4, 8, 10] := by decide
theorem inr1 : inr 0 10 4 := by unfold inr; decide
theorem inr2 : ¬ inr 0 10 0 := by unfold inr; decide
theorem cl1 : cl (10 - 0) 4 = ((3 : Nat) : Int) := by decide
theorem pl1 : Prj.pl 1 0 0 206265 (mer 0 [0, 4, 8, 10]) = [(0, 0), (0, 4), (0, 8), (0, 10)] ∧ Prj.pe 1 0 0 206265 (mer 0 [0, 4, 8, 10]) = 0 := by decide +kernel
theorem ft0 : ¬ ft (Grid.byt ⟨#[65, 49, 45, 105, 49]⟩ 2) (Grid.byt ⟨#[65, 49, 45, 105, 49]⟩ 3) (Grid.byt ⟨#[65, 49, 45, 105, 49]⟩ 4) := by unfold ft; decide +kernel
end Grf
set_option maxRecDepth 100000 in
set_option maxHeartbeats 4000000 in
theorem gawake_true (w : World) : Calls Tryd.prog 11 #[] w fun e w' => e = .returned (.bool true) ∧ Q w w' := by
  have H1 := Lib.hid (fun W => square_in 0 0 16 16 2 1 3 2 W Grf.ok0 Grf.in1)
  have H2 := Lib.hid (fun W => square_in 0 0 16 16 2 1 16 16 W Grf.ok0 Grf.in2)
  have H3 := Lib.hid (fun W => square_in 0 0 16 16 2 1 32 16 W Grf.ok0 Grf.in3)
  have H4 := Lib.hid (fun W => square_out 0 0 16 16 2 1 33 0 W Grf.ok0 Grf.out4)
  rw [Grf.n1] at H1
  rw [Grf.n2] at H2
  rw [Grf.n3] at H3
  have H5 := Lib.hid (fun W => gparse_sq 0 0 16 16 2 1 2 0 7 W Grf.ok0 (by decide) (by decide) (by decide) (by decide) (by decide) (by decide))
  rw [Grf.b1, Grf.bv1] at H5
  have H6 := Lib.hid (fun W => gparse_syntax 0 0 16 16 2 1 2 _ _ _ ⟨#[65, 49, 45, 105, 49]⟩ W Grf.ok0 rfl (by decide) (by decide) (fun W => byt_run _ 2 (by decide) W) (fun W => byt_run _ 3 (by decide) W) (fun W => byt_run _ 4 (by decide) W) Grf.ft0)
  have H7 := Lib.hid (fun W => gparse_sq 0 0 16 16 2 1 1 1 1 W Grf.ok0 (by decide) (by decide) (by decide) (by decide) (by decide) (by decide))
  rw [Grf.b2, Grf.bv2] at H7
  have H8 := Lib.hid (fun W => gcontains_box 0 0 16 16 2 1 2 2 3 3 3 2 ⟨#[65, 49, 45, 98, 50]⟩ W H7)
  rw [show Grf.inB 2 2 3 3 3 2 = true by decide] at H8
  have H9 := Lib.hid (fun W => mer_in 1 0 0 206265 0 0 10 4 [0, 4, 8, 10] W Grf.okp (by decide) (fun W => by rw [← Grf.l1]; exact steps_in 1 0 0 206265 0 10 4 3 W Grf.okp Grf.inr1 (by decide) Grf.cl1 (by decide)))
  rw [Grf.pl1.1, Grf.pl1.2] at H9
  have H10 := Lib.hid (fun W => par_err 1 0 0 206265 0 0 10 0 1 rfl W (fun W => steps_arg 1 0 0 206265 0 10 0 W Grf.okp Grf.inr2))
  have HS := Lib.hid sheets_any
  clear H7
  go_enter Tryd.func11, Tryd.ntmps11
  go_wp2_with fail
  refine (HS.out _).mono ?_
  rintro e w1 ⟨rfl, q1⟩
  go_wp2_with fail
  refine (H1.out _).mono ?_
  rintro e w2 ⟨rfl, q2⟩
  have p2 := Lib.hid (q1.trans q2)
  clear q1 q2
  go_wp2_with fail
  refine (HS.out _).mono ?_
  rintro e w3 ⟨rfl, q3⟩
  go_wp2_with fail
  refine (H2.out _).mono ?_
  rintro e w4 ⟨rfl, q4⟩
  have p4 := Lib.hid (p2.out.trans (q3.trans q4))
  clear q3 q4 p2
  go_wp2_with fail
  refine (HS.out _).mono ?_
  rintro e w5 ⟨rfl, q5⟩
  go_wp2_with fail
  refine (H3.out _).mono ?_
  rintro e w6 ⟨rfl, q6⟩
  have p6 := Lib.hid (p4.out.trans (q5.trans q6))
  clear q5 q6 p4
  go_wp2_with fail
  refine (HS.out _).mono ?_
  rintro e w7 ⟨rfl, q7⟩
  go_wp2_with fail
  refine (H4.out _).mono ?_
  rintro e w8 ⟨rfl, q8⟩
  have p8 := Lib.hid (p6.out.trans (q7.trans q8))
  clear q7 q8 p6
  go_wp2_with fail
  refine (HS.out _).mono ?_
  rintro e w9 ⟨rfl, q9⟩
  go_wp2_with fail
  refine (H5.out _).mono ?_
  rintro e wa ⟨rfl, qa⟩
  have pa := Lib.hid ((p8.out.trans (q9.trans qa)).alloc (.cells #[.int .i64 16, .int .i64 14, .int .i64 17, .int .i64 16] 33))
  have HA := Lib.hid (heap_alloc_new wa (.cells #[.int .i64 16, .int .i64 14, .int .i64 17, .int .i64 16] 33))
  clear q9 qa p8
  go_wp2_with fail
  refine (HS.out _).mono ?_
  rintro e wb ⟨rfl, qb⟩
  go_wp2_with fail
  refine (H6.out _).mono ?_
  rintro e wc ⟨rfl, qc⟩
  have pc := Lib.hid ((pa.out.trans (qb.trans qc)).alloc (.cells #[.int .i64 0, .int .i64 0, .int .i64 0, .int .i64 0] 33))
  have HC := Lib.hid (b_next (((qb.trans qc)).alloc (.cells #[.int .i64 0, .int .i64 0, .int .i64 0, .int .i64 0] 33)) HA.out)
  clear qb qc pa HA
  go_wp2_with fail
  refine (H9.out _).mono ?_
  rintro e wd ⟨v, rfl, hv, qd⟩
  obtain ⟨A', c', rfl, hc, _⟩ := hv
  go_wp2_with fail
  refine (H10.out _).mono ?_
  rintro e we ⟨v', rfl, hv', qe⟩
  clear hv'
  have HB := Lib.hid (b_next (qd.trans qe) HC.out)
  have pe := Lib.hid (pc.out.trans (qd.trans qe))
  clear qd qe pc HC
  obtain ⟨m0, m1, m2, m3, f0, f1, f2, f3⟩ := row4 HB.out
  go_wp2_with fail
  refine (HS.out _).mono ?_
  rintro e wf ⟨rfl, qf⟩
  go_wp2_with fail
  refine (H8.out _).mono ?_
  rintro e wg ⟨rfl, qg⟩
  go_wp2_with fail
  go_ret
  exact ⟨rfl, pe.out.trans (qf.trans qg)⟩
end Go.Proofs.YtcaabaijkidmgaaDoor
