
/- For every series, point and box, SheetgridFinds returns true: sheetgrid.At and Covering answer as the reference does. No condition. -/
import Derived.Test.YtpnifjeelmfegaaDoorCards
import Derived.Test.YtpnifjeelmfegaaDoorTie
import Derived.Test.YtpnifjeelmfegaaDoorGridAwake
import Derived.Test.YtpnifjeelmfegaaDoorGridRCov
import Derived.Test.YtpnifjeelmfegaaDoorGridLaid
import Derived.Test.YtpnifjeelmfegaaDoorFlat
import Derived.Deep.DeepHandedRow
import Derived.Lib.LaidTab
namespace Go.Proofs.YtpnifjeelmfegaaDoor.sheetgridFinds
open Go.ChangeShapes Go.WideShapes Go.ChangeAt Go.RowKit
set_option linter.unusedVariables false


set_option maxHeartbeats 4000000 in
theorem core (X Y W H C R x y x0 y0 x1 y1 er : Int) (l m : List Int) (hl : l.length ≤ 4294967296) (hm : m.length ≤ 4294967296) (w : World) (hM : Mv w)
    (HA : Hid (∀ w, Calls Tryd.prog 15 #[.agg #[.int .i64 X, .int .i64 Y, .int .i64 W, .int .i64 H, .int .i64 C, .int .i64 R], .agg #[.int .i64 x, .int .i64 y]] w fun e w' => ∃ v, e = .returned (.tuple #[v, .int .i64 er]) ∧ Ints w' v l ∧ Q w w'))
    (HC : Hid (∀ w, Calls Tryd.prog 16 #[.agg #[.int .i64 X, .int .i64 Y, .int .i64 W, .int .i64 H, .int .i64 C, .int .i64 R], .agg #[.int .i64 x0, .int .i64 y0, .int .i64 x1, .int .i64 y1]] w fun e w' => ∃ v, e = .returned (.tuple #[v, .int .i64 er]) ∧ Ints w' v m ∧ Q w w'))
    (HRA : Hid (∀ w, Calls Tryd.prog 17 #[.agg #[.int .i64 X, .int .i64 Y, .int .i64 W, .int .i64 H, .int .i64 C, .int .i64 R], .agg #[.int .i64 x, .int .i64 y]] w fun e w' => ∃ v, e = .returned (.tuple #[v, .int .i64 er]) ∧ Ints w' v l ∧ Q w w'))
    (HRC : Hid (∀ w, Calls Tryd.prog 18 #[.agg #[.int .i64 X, .int .i64 Y, .int .i64 W, .int .i64 H, .int .i64 C, .int .i64 R], .agg #[.int .i64 x0, .int .i64 y0, .int .i64 x1, .int .i64 y1]] w fun e w' => ∃ v, e = .returned (.tuple #[v, .int .i64 er]) ∧ Ints w' v m ∧ Q w w')) :
    Calls Tryd.prog 4 #[.agg #[.int .i64 X, .int .i64 Y, .int .i64 W, .int .i64 H, .int .i64 C, .int .i64 R], .agg #[.int .i64 x, .int .i64 y], .agg #[.int .i64 x0, .int .i64 y0, .int .i64 x1, .int .i64 y1]] w fun e w' => e = .returned (.bool true) ∧ Q w w' := by
  have HM := Lib.hid (((hM.alloc (.cells #[.int .i64 X, .int .i64 Y, .int .i64 W, .int .i64 H, .int .i64 C, .int .i64 R] 25)).alloc (.cells #[.int .i64 x, .int .i64 y] 23)).alloc (.cells #[.int .i64 x0, .int .i64 y0, .int .i64 x1, .int .i64 y1] 27))
  obtain ⟨wa, hwa⟩ : ∃ wa, ((w.alloc (.cells #[.int .i64 X, .int .i64 Y, .int .i64 W, .int .i64 H, .int .i64 C, .int .i64 R] 25)).alloc (.cells #[.int .i64 x, .int .i64 y] 23)).alloc (.cells #[.int .i64 x0, .int .i64 y0, .int .i64 x1, .int .i64 y1] 27) = wa := ⟨_, rfl⟩
  have HQ := Lib.hid (show Q w wa by rw [← hwa]; exact (((Q.refl w).alloc _).alloc _).alloc _)
  have HS := Lib.hid (show SeAt wa w.heap.size X Y W H C R by rw [← hwa]; exact (SeAt.fresh w X Y W H C R).next (((Q.refl _).alloc _).alloc _))
  have HP := Lib.hid (show wa.cell? ⟨w.heap.size + 1, 0, none⟩ = some (.int .i64 x) ∧ wa.cell? ⟨w.heap.size + 1, 1, none⟩ = some (.int .i64 y) by
    have hb : wa.heap[w.heap.size + 1]? = some (.cells #[.int .i64 x, .int .i64 y] 23 (0, 0)) := by rw [← hwa]; exact (((Q.refl _).alloc _).block (by simp)).trans (heap_alloc2_new w _ _)
    exact ⟨by rw [cell_of_row wa _ 0 _ _ _ hb]; rfl, by rw [cell_of_row wa _ 1 _ _ _ hb]; rfl⟩)
  have HB := Lib.hid (show BoxAt wa (w.heap.size + 2) x0 y0 x1 y1 by rw [← hwa]; have := BoxAt.fresh ((w.alloc (.cells #[.int .i64 X, .int .i64 Y, .int .i64 W, .int .i64 H, .int .i64 C, .int .i64 R] 25)).alloc (.cells #[.int .i64 x, .int .i64 y] 23)) x0 y0 x1 y1; rw [size_alloc, size_alloc] at this; exact this)
  have HZ := Lib.hid (show w.heap.size + 2 < wa.heap.size by rw [← hwa]; simp)
  rw [hwa] at HM
  have HW := Lib.hid hwa
  clear hM hwa
  go_enter Tryd.func4, Tryd.ntmps4
  go_wp2_with fail
  rw [HW.out]
  refine (HA.out _).mono ?_
  rintro e w1 ⟨v1, rfl, i1, q1⟩
  have HI1 := Lib.hid i1
  clear i1
  obtain ⟨k0, k1, k2, k3, k4, k5, k6⟩ := HS.out.next q1; clear k6
  obtain ⟨b0, b1, b2, b3, b4⟩ := HB.out.next q1
  clear b4
  go_wp2_with fail
  refine (HC.out _).mono ?_
  rintro e w2 ⟨v2, rfl, i2, q2⟩
  have HI2 := Lib.hid i2
  clear i2 b0 b1 b2 b3
  clear k0 k1 k2 k3 k4 k5
  have q12 := q1.trans q2
  obtain ⟨k0, k1, k2, k3, k4, k5, k6⟩ := HS.out.next q12; clear k6
  have p0 := (q12.cell (by have := HZ.out; omega)).trans HP.out.1
  have p1 := (q12.cell (by have := HZ.out; omega)).trans HP.out.2
  go_wp2_with fail
  refine (HRA.out _).mono ?_
  rintro e w3 ⟨v3, rfl, i3, q3⟩
  have HI3 := Lib.hid i3
  clear i3 p0 p1
  clear k0 k1 k2 k3 k4 k5
  have q13 := q12.trans q3
  obtain ⟨k0, k1, k2, k3, k4, k5, k6⟩ := HS.out.next q13; clear k6
  obtain ⟨b0, b1, b2, b3, b4⟩ := HB.out.next q13
  clear b4
  go_wp2_with fail
  refine (HRC.out _).mono ?_
  rintro e w4 ⟨v4, rfl, i4, q4⟩
  have HI4 := Lib.hid i4
  clear i4 b0 b1 b2 b3
  clear k0 k1 k2 k3 k4 k5
  have q14 := q13.trans q4
  go_wp2_with fail
  refine (awake_true _ (HM.out.next q14)).mono ?_
  rintro e w5 ⟨rfl, q5⟩
  go_wp2_with fail
  refine (same_true _ _ l _ (HI1.out.next (q2.trans (q3.trans (q4.trans q5)))) (HI3.out.next (q4.trans q5)) hl).mono ?_
  rintro e w6 ⟨rfl, q6⟩
  go_wp2_with fail
  refine (same_true _ _ m _ (HI2.out.next (q3.trans (q4.trans (q5.trans q6)))) (HI4.out.next (q5.trans q6)) hm).mono ?_
  rintro e w7 ⟨rfl, q7⟩
  go_wp2_with fail
  go_ret
  exact ⟨rfl, HQ.out.trans (q14.trans (q5.trans (q6.trans q7)))⟩

theorem cov_short (X Y W H C R x0 y0 x1 y1 : Int) (h : Grid.Ok X Y W H C R) : (Grid.cov X Y W H C x0 y0 x1 y1 (GridN C R)).length ≤ 4294967296 := by
  have hp := Grid.prod_bd C R 16 16 h.c0 h.c1 h.r0 h.r1
  have := Grid.cov_len X Y W H C x0 y0 x1 y1 (GridN C R)
  unfold GridN at *
  omega
theorem walk (X Y W H C R x y x0 y0 x1 y1 : Int) (_ : I64 X) (_ : I64 Y) (_ : I64 W) (_ : I64 H) (_ : I64 C) (_ : I64 R) (_ : I64 x) (_ : I64 y) (_ : I64 x0) (_ : I64 y0) (_ : I64 x1) (_ : I64 y1) (w : World) (hM : Mv w) :
    Calls Tryd.prog 4 #[.agg #[.int .i64 X, .int .i64 Y, .int .i64 W, .int .i64 H, .int .i64 C, .int .i64 R], .agg #[.int .i64 x, .int .i64 y], .agg #[.int .i64 x0, .int .i64 y0, .int .i64 x1, .int .i64 y1]] w fun e w' => e = .returned (.bool true) ∧ Q w w' := by
  by_cases h : Grid.Ok X Y W H C R
  · exact core X Y W H C R x y x0 y0 x1 y1 0 _ _ (cov_short X Y W H C R x y x y h) (cov_short X Y W H C R x0 y0 x1 y1 h) w hM (fun W' => at_any X Y W H C R x y W' h) (fun W' => covering_any X Y W H C R x0 y0 x1 y1 W' h) (fun W' => rat_any X Y W H C R x y W' h) (fun W' => rcovering_any X Y W H C R x0 y0 x1 y1 W' h)
  · exact core X Y W H C R x y x0 y0 x1 y1 2 [] [] (by simp) (by simp) w hM (fun W' => (at_bad X Y W H C R x y W' h).mono fun _ _ ⟨e, q⟩ => ⟨_, e, Ints.nil _, q⟩) (fun W' => (covering_bad X Y W H C R x0 y0 x1 y1 W' h).mono fun _ _ ⟨e, q⟩ => ⟨_, e, Ints.nil _, q⟩) (fun W' => (rat_bad X Y W H C R x y W' h).mono fun _ _ ⟨e, q⟩ => ⟨_, e, Ints.nil _, q⟩) (fun W' => (rcovering_bad X Y W H C R x0 y0 x1 y1 W' h).mono fun _ _ ⟨e, q⟩ => ⟨_, e, Ints.nil _, q⟩)

theorem own : ownKnob Tryd.prog.godebug = none := by kernel_rfl

theorem contract (H : Type) (enc : TypeId × Value → H) (W : World) (base : Nat) (args : Array Value) (ds gs : List (DataW H)) (before : List MemPlace)
    (hval : ∀ (j : Nat) t v, Tryd.f4.params[j]? = some t → args[j]? = some v → Value.okWide Tryd.prog W .any base t v)
    (hW : DataW.Whole enc Tryd.prog Tryd.f4.params.toList Rows.sheetgridFindsSpec.vars false W args.toList ds gs before) (hL : laidMetH Tryd.prog Rows.sheetgridFindsRow.laid W) :
    Calls Tryd.prog 4 args W fun e W' => ∃ v, e = .returned v ∧ Rows.sheetgridFindsSpec.post enc Tryd.prog Tryd.f4 false true false false W args v W' := by
  have hW' := hW
  obtain ⟨p, q, hA0, hV, rfl, hfz, hnd⟩ := hW
  have hA : DataW.TrodAll enc Tryd.prog W 0 (fun _ => true) true Tryd.f4.params.toList args.toList ds p := hA0
  rw [Tryd.params4] at hA hval
  obtain ⟨v0, vs0, d0, ds0, p0, q0, hargs, rfl, rfl, h0, r0⟩ := trodAll_cons hA
  obtain ⟨v1, vs1, d1, ds1, p1, q1, rfl, rfl, rfl, h1, r1⟩ := trodAll_cons r0
  obtain ⟨v2, vs2, d2, ds2, p2, q2, rfl, rfl, rfl, h2, r2⟩ := trodAll_cons r1
  obtain ⟨rfl, rfl, rfl⟩ := trodAll_nil r2
  obtain rfl : args = #[v0, v1, v2] := by cases args; simp_all
  obtain ⟨rfl, rfl⟩ := trodVars_none hV
  obtain ⟨rfl, cs0, rfl, hs0, hz0⟩ := flat_open 4 (by kernel_rfl) Tryd.underlying25 (hval 0 25 v0 rfl rfl) h0
  obtain ⟨x00, x01, x02, x03, x04, x05, rfl, b00, b01, b02, b03, b04, b05⟩ := agg6_of (hs0.trans (show Tryd.prog.cellsOf 25 = 6 by kernel_rfl)) hz0
  obtain ⟨rfl, cs1, rfl, hs1, hz1⟩ := flat_open 4 (by kernel_rfl) Tryd.underlying23 (hval 1 23 v1 rfl rfl) h1
  obtain ⟨x10, x11, rfl, b10, b11⟩ := agg2_of (hs1.trans (show Tryd.prog.cellsOf 23 = 2 by kernel_rfl)) hz1
  obtain ⟨rfl, cs2, rfl, hs2, hz2⟩ := flat_open 4 (by kernel_rfl) Tryd.underlying27 (hval 2 27 v2 rfl rfl) h2
  obtain ⟨x20, x21, x22, x23, rfl, b20, b21, b22, b23⟩ := agg4_of (hs2.trans (show Tryd.prog.cellsOf 27 = 4 by kernel_rfl)) hz2
  clear hA0
  simp only [List.append_nil] at hW'
  refine (walk x00 x01 x02 x03 x04 x05 x10 x11 x20 x21 x22 x23 b00 b01 b02 b03 b04 b05 b10 b11 b20 b21 b22 b23 W (mv_of_laid hL)).mono fun e W' ⟨he, bel⟩ => ?_
  subst he
  exact ⟨_, rfl, _, _, _, [], [], [], hW', trodAll_mk1 (shut_bool Tryd.underlying4 _), (trodAll_cons_mk (Below.trod laidOut (by kernel_rfl) (by decide +kernel) h0 bel (fun x hx => by cases hx)) (trodAll_cons_mk (Below.trod laidOut (by kernel_rfl) (by decide +kernel) h1 bel (fun x hx => by cases hx)) (trodAll_cons_mk (Below.trod laidOut (by kernel_rfl) (by decide +kernel) h2 bel (fun x hx => by cases hx)) trodAll_mk0))), rfl, Below.frame bel _, fun h => by cases h⟩

def setRow (h : Array Obj) (g : Nat) (cs : Array Value) : Array Obj := h.modify g fun
  | .cells _ t frozen => .cells cs t frozen
  | o => o
/-- A world for the witness: the settled one, the listed tables as their initialisers lay them. -/
noncomputable def laidWorld (os : Os) : World :=
  { World.holding Tryd.prog os ⟨#[], #[], []⟩ with heap := (setRow (setRow (setRow (setRow (World.holding Tryd.prog os ⟨#[], #[], []⟩).heap 2 #[.int .u8 0, .int .u8 1, .int .u8 28, .int .u8 2, .int .u8 29, .int .u8 14, .int .u8 24, .int .u8 3, .int .u8 30, .int .u8 22, .int .u8 20, .int .u8 15, .int .u8 25, .int .u8 17, .int .u8 4, .int .u8 8, .int .u8 31, .int .u8 27, .int .u8 13, .int .u8 23, .int .u8 21, .int .u8 19, .int .u8 16, .int .u8 7, .int .u8 26, .int .u8 12, .int .u8 18, .int .u8 6, .int .u8 11, .int .u8 5, .int .u8 10, .int .u8 9]) 3 #[.int .u8 0, .int .u8 1, .int .u8 56, .int .u8 2, .int .u8 57, .int .u8 49, .int .u8 28, .int .u8 3, .int .u8 61, .int .u8 58, .int .u8 42, .int .u8 50, .int .u8 38, .int .u8 29, .int .u8 17, .int .u8 4, .int .u8 62, .int .u8 47, .int .u8 59, .int .u8 36, .int .u8 45, .int .u8 43, .int .u8 51, .int .u8 22, .int .u8 53, .int .u8 39, .int .u8 33, .int .u8 30, .int .u8 24, .int .u8 18, .int .u8 12, .int .u8 5, .int .u8 63, .int .u8 55, .int .u8 48, .int .u8 27, .int .u8 60, .int .u8 41, .int .u8 37, .int .u8 16, .int .u8 46, .int .u8 35, .int .u8 44, .int .u8 21, .int .u8 52, .int .u8 32, .int .u8 23, .int .u8 11, .int .u8 54, .int .u8 26, .int .u8 40, .int .u8 15, .int .u8 34, .int .u8 20, .int .u8 31, .int .u8 10, .int .u8 25, .int .u8 14, .int .u8 19, .int .u8 9, .int .u8 13, .int .u8 8, .int .u8 7, .int .u8 6]) 1 #[.int .u64 1, .int .u64 10, .int .u64 100, .int .u64 1000, .int .u64 10000, .int .u64 100000, .int .u64 1000000, .int .u64 10000000, .int .u64 100000000, .int .u64 1000000000, .int .u64 10000000000, .int .u64 100000000000, .int .u64 1000000000000, .int .u64 10000000000000, .int .u64 100000000000000, .int .u64 1000000000000000, .int .u64 10000000000000000, .int .u64 100000000000000000, .int .u64 1000000000000000000, .int .u64 10000000000000000000]) 0 #[.int .i64 (-1), .int .i64 0, .int .i64 0, .int .i64 (-1), .int .i64 1, .int .i64 0, .int .i64 0, .int .i64 1]) }
set_option maxRecDepth 100000 in
theorem laid_met (os : Os) : laidMet Tryd.prog Rows.sheetgridFindsRow.laid ((laidWorld os).forCall (fun _ _ => 0) ⟨#[], #[.agg #[.int .i64 0, .int .i64 0, .int .i64 0, .int .i64 0, .int .i64 0, .int .i64 0], .agg #[.int .i64 0, .int .i64 0], .agg #[.int .i64 0, .int .i64 0, .int .i64 0, .int .i64 0]], []⟩).memory :=
  laidMet_of_run' 8 (by kernel_rfl) (by kernel_rfl)
theorem reads (os : Os) {H : Type} (enc : TypeId × Value → H) : ∃ places, DataW.whole enc Tryd.prog ((laidWorld os).forCall (fun _ _ => 0) ⟨#[], #[.agg #[.int .i64 0, .int .i64 0, .int .i64 0, .int .i64 0, .int .i64 0, .int .i64 0], .agg #[.int .i64 0, .int .i64 0], .agg #[.int .i64 0, .int .i64 0, .int .i64 0, .int .i64 0]], []⟩).memory Tryd.f4.params.toList Rows.sheetgridFindsSpec.vars false #[Value.agg #[.int .i64 0, .int .i64 0, .int .i64 0, .int .i64 0, .int .i64 0, .int .i64 0], .agg #[.int .i64 0, .int .i64 0], .agg #[.int .i64 0, .int .i64 0, .int .i64 0, .int .i64 0]].toList 8 = some ([.agg [.agg [.lit (.int .i64 0), .lit (.int .i64 0)], .lit (.int .i64 0), .lit (.int .i64 0), .lit (.int .i64 0), .lit (.int .i64 0)], .agg [.lit (.int .i64 0), .lit (.int .i64 0)], .agg [.lit (.int .i64 0), .lit (.int .i64 0), .lit (.int .i64 0), .lit (.int .i64 0)]], [], places) :=
  ⟨[], by kernel_rfl⟩

set_option maxRecDepth 100000 in
theorem lifted (os : Os) (started : os.Started) (H : Type) (enc : TypeId × Value → H) (F : Stop.Interp) :
    ReturnsInHanded {} Tryd.checked os 4 .any ((OpenSpec.ofChange Rows.sheetgridFindsSpec).preRow enc Tryd.prog Tryd.f4 Rows.sheetgridFindsRow.domain false Rows.sheetgridFindsRow.laid) (((OpenSpec.ofChange Rows.sheetgridFindsSpec).at F).post enc Tryd.prog Tryd.f4 false true false false) := by
  obtain ⟨places, hx⟩ := reads os enc
  refine returnsInHanded_of_row (C := Tryd.checked) (s := OpenSpec.ofChange Rows.sheetgridFindsSpec) own started (by kernel_rfl) Tryd.func4
    (witness_row_at (enc := enc) (C := Tryd.checked) false (laidWorld os) #[.agg #[.int .i64 0, .int .i64 0, .int .i64 0, .int .i64 0, .int .i64 0, .int .i64 0], .agg #[.int .i64 0, .int .i64 0], .agg #[.int .i64 0, .int .i64 0, .int .i64 0, .int .i64 0]] rfl (by kernel_rfl) (by kernel_rfl) (by kernel_rfl)
      (OpenSpec.preRow_of_cond 8 hx (by kernel_rfl) (fun k hk => by cases hk) (by kernel_rfl) (laid_met os))) ?_
  intro W base args ds gs before hval hW _ _ _ hL _ _
  exact contract H enc W base args ds gs before hval hW hL

theorem said : Rows.SheetgridFindsSaid :=
  OpenClaim.holds_of_cond 4 Tryd.f4 rfl rfl rfl rfl rfl rfl rfl ⟨rfl, rfl, rfl, rfl, rfl⟩ rfl rfl rfl rfl rfl (by kernel_rfl) Tryd.func4 (by kernel_rfl)
    (of_decide_eq_true (by kernel_rfl)) (by unfold Func.isWrapper; first | (rw [if_pos (by decide +kernel)]; kernel_rfl) | (rw [if_neg (by decide +kernel)]; exact ⟨rfl, rfl⟩))
    (fun os started H enc _ F => by rw [OpenClaim.pre_eq_preRow]; exact lifted os started H enc F)

theorem plain (f : FuncId) (fn : Func) (hf : Tryd.pinned.checked.prog.funcNamed "mapsheets/mapsheetslaw40.SheetgridFinds" = some f) (hfn : Tryd.pinned.checked.prog.funcs[f]? = some fn) :
    false = Tryd.pinned.checked.prog.looks [] ∧ ∀ (j : Nat) t, fn.params[j]? = some t → Tryd.pinned.checked.prog.wantsStandIn t = false := by
  obtain rfl : f = 4 := Option.some.inj ((show Tryd.prog.funcNamed "mapsheets/mapsheetslaw40.SheetgridFinds" = some 4 by kernel_rfl).symm.trans hf) |>.symm
  obtain rfl : fn = Tryd.f4 := (Option.some.inj (Tryd.func4.symm.trans hfn)).symm
  refine ⟨by kernel_rfl, fun j t ht => ?_⟩
  rw [Tryd.params4] at ht
  have all : ∀ t ∈ Tryd.f4.params, Tryd.prog.wantsStandIn t = false := by rw [Tryd.params4]; decide +kernel
  exact all t (by rw [Tryd.params4]; exact Array.mem_of_getElem? ht)

theorem card : Rows.SheetgridFindsCardSaid :=
  Claim7.holds_tied_plain_at .later [] _ _ _ _ said (fun _ h => by cases h) (by kernel_rfl) (fun _ h => by cases h) sheetgridFinds_row_tie rfl ⟨rfl, rfl⟩ (by kernel_rfl) rfl plain (by kernel_rfl)
end Go.Proofs.YtpnifjeelmfegaaDoor.sheetgridFinds
namespace Go.Proofs.YtpnifjeelmfegaaDoor
theorem sheetgridFinds_holds : Rows.SheetgridFindsCardSaid := sheetgridFinds.card
#print axioms sheetgridFinds_holds
end Go.Proofs.YtpnifjeelmfegaaDoor
