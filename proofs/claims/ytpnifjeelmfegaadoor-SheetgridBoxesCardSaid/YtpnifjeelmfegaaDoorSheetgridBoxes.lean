
/- For every series and number, SheetgridBoxes returns true: sheetgrid.Check and Box answer as the reference does. No condition. -/
import Derived.Test.YtpnifjeelmfegaaDoorCards
import Derived.Test.YtpnifjeelmfegaaDoorTie
import Derived.Test.YtpnifjeelmfegaaDoorGridAwake
import Derived.Test.YtpnifjeelmfegaaDoorGridRB
import Derived.Test.YtpnifjeelmfegaaDoorGridLaid
import Derived.Test.YtpnifjeelmfegaaDoorFlat
import Derived.Deep.DeepHandedRow
import Derived.Lib.LaidTab
import Derived.Deep.RegionHeld3
namespace Go.Proofs.YtpnifjeelmfegaaDoor.sheetgridBoxes
open Go.ChangeShapes Go.WideShapes Go.ChangeAt Go.RowKit
set_option linter.unusedVariables false


theorem sNext {X Y W H C R a b c d : Int} {A B D : Nat} {wk u v : World} (h : (u.cell? ⟨A, 0, none⟩ = some (.int .i64 X) ∧ u.cell? ⟨A, 1, none⟩ = some (.int .i64 Y) ∧ u.cell? ⟨A, 2, none⟩ = some (.int .i64 W) ∧ u.cell? ⟨A, 3, none⟩ = some (.int .i64 H) ∧ u.cell? ⟨A, 4, none⟩ = some (.int .i64 C) ∧ u.cell? ⟨A, 5, none⟩ = some (.int .i64 R) ∧ u.cell? ⟨B, 0, none⟩ = some (.int .i64 a) ∧ u.cell? ⟨B, 1, none⟩ = some (.int .i64 b) ∧ u.cell? ⟨B, 2, none⟩ = some (.int .i64 c) ∧ u.cell? ⟨B, 3, none⟩ = some (.int .i64 d) ∧ u.cell? ⟨D, 0, none⟩ = some (.int .i64 a) ∧ u.cell? ⟨D, 1, none⟩ = some (.int .i64 b) ∧ u.cell? ⟨D, 2, none⟩ = some (.int .i64 c) ∧ u.cell? ⟨D, 3, none⟩ = some (.int .i64 d) ∧ Mv u ∧ Q wk u)) (q : Q u v) : (v.cell? ⟨A, 0, none⟩ = some (.int .i64 X) ∧ v.cell? ⟨A, 1, none⟩ = some (.int .i64 Y) ∧ v.cell? ⟨A, 2, none⟩ = some (.int .i64 W) ∧ v.cell? ⟨A, 3, none⟩ = some (.int .i64 H) ∧ v.cell? ⟨A, 4, none⟩ = some (.int .i64 C) ∧ v.cell? ⟨A, 5, none⟩ = some (.int .i64 R) ∧ v.cell? ⟨B, 0, none⟩ = some (.int .i64 a) ∧ v.cell? ⟨B, 1, none⟩ = some (.int .i64 b) ∧ v.cell? ⟨B, 2, none⟩ = some (.int .i64 c) ∧ v.cell? ⟨B, 3, none⟩ = some (.int .i64 d) ∧ v.cell? ⟨D, 0, none⟩ = some (.int .i64 a) ∧ v.cell? ⟨D, 1, none⟩ = some (.int .i64 b) ∧ v.cell? ⟨D, 2, none⟩ = some (.int .i64 c) ∧ v.cell? ⟨D, 3, none⟩ = some (.int .i64 d) ∧ Mv v ∧ Q wk v) := by
  obtain ⟨h0, h1, h2, h3, h4, h5, g0, g1, g2, g3, f0, f1, f2, f3, hm, hq⟩ := h
  exact ⟨(q.cell (block_lt_of_cell h0)).trans h0, (q.cell (block_lt_of_cell h1)).trans h1, (q.cell (block_lt_of_cell h2)).trans h2, (q.cell (block_lt_of_cell h3)).trans h3, (q.cell (block_lt_of_cell h4)).trans h4, (q.cell (block_lt_of_cell h5)).trans h5,
    (q.cell (block_lt_of_cell g0)).trans g0, (q.cell (block_lt_of_cell g1)).trans g1, (q.cell (block_lt_of_cell g2)).trans g2, (q.cell (block_lt_of_cell g3)).trans g3,
    (q.cell (block_lt_of_cell f0)).trans f0, (q.cell (block_lt_of_cell f1)).trans f1, (q.cell (block_lt_of_cell f2)).trans f2, (q.cell (block_lt_of_cell f3)).trans f3, hm.next q, hq.trans q⟩
theorem sQ {X Y W H C R a b c d : Int} {A B D : Nat} {wk v : World} (h : (v.cell? ⟨A, 0, none⟩ = some (.int .i64 X) ∧ v.cell? ⟨A, 1, none⟩ = some (.int .i64 Y) ∧ v.cell? ⟨A, 2, none⟩ = some (.int .i64 W) ∧ v.cell? ⟨A, 3, none⟩ = some (.int .i64 H) ∧ v.cell? ⟨A, 4, none⟩ = some (.int .i64 C) ∧ v.cell? ⟨A, 5, none⟩ = some (.int .i64 R) ∧ v.cell? ⟨B, 0, none⟩ = some (.int .i64 a) ∧ v.cell? ⟨B, 1, none⟩ = some (.int .i64 b) ∧ v.cell? ⟨B, 2, none⟩ = some (.int .i64 c) ∧ v.cell? ⟨B, 3, none⟩ = some (.int .i64 d) ∧ v.cell? ⟨D, 0, none⟩ = some (.int .i64 a) ∧ v.cell? ⟨D, 1, none⟩ = some (.int .i64 b) ∧ v.cell? ⟨D, 2, none⟩ = some (.int .i64 c) ∧ v.cell? ⟨D, 3, none⟩ = some (.int .i64 d) ∧ Mv v ∧ Q wk v)) : Q wk v := h.2.2.2.2.2.2.2.2.2.2.2.2.2.2.2

set_option maxRecDepth 100000 in
set_option maxHeartbeats 8000000 in
theorem core (X Y W H C R s a b c d er ce : Int) (w : World) (hM : Mv w)
    (HB : Hid (∀ w, Calls Tryd.prog 10 #[.agg #[.int .i64 X, .int .i64 Y, .int .i64 W, .int .i64 H, .int .i64 C, .int .i64 R], .int .i64 s] w fun e w' => e = .returned (.tuple #[.agg #[.int .i64 a, .int .i64 b, .int .i64 c, .int .i64 d], .int .i64 er]) ∧ Q w w'))
    (HRB : Hid (∀ w, Calls Tryd.prog 11 #[.agg #[.int .i64 X, .int .i64 Y, .int .i64 W, .int .i64 H, .int .i64 C, .int .i64 R], .int .i64 s] w fun e w' => e = .returned (.tuple #[.agg #[.int .i64 a, .int .i64 b, .int .i64 c, .int .i64 d], .int .i64 er]) ∧ Q w w'))
    (HC : Hid (∀ w, Calls Tryd.prog 13 #[.agg #[.int .i64 X, .int .i64 Y, .int .i64 W, .int .i64 H, .int .i64 C, .int .i64 R]] w fun e w' => e = .returned (.int .i64 ce) ∧ Q w w'))
    (HRC : Hid (∀ w, Calls Tryd.prog 14 #[.agg #[.int .i64 X, .int .i64 Y, .int .i64 W, .int .i64 H, .int .i64 C, .int .i64 R]] w fun e w' => e = .returned (.int .i64 ce) ∧ Q w w')) :
    Calls Tryd.prog 3 #[.agg #[.int .i64 X, .int .i64 Y, .int .i64 W, .int .i64 H, .int .i64 C, .int .i64 R], .int .i64 s] w fun e w' => e = .returned (.bool true) ∧ Q w w' := by
  have HM := Lib.hid hM
  have HS := Lib.hid (SeAt.fresh w X Y W H C R)
  clear hM
  go_enter Tryd.func3, Tryd.ntmps3
  go_wp2_with fail
  refine (HB.out _).mono ?_
  rintro e w1 ⟨rfl, q1⟩
  obtain ⟨k0, k1, k2, k3, k4, k5, k6⟩ := HS.out.next q1; clear k6
  have z1 : w.heap.size < w1.heap.size := by have := q1.sz; simp at this; omega
  have HBX := Lib.hid (BoxAt.fresh w1 a b c d)
  have q1' := Q.alloc q1 (.cells #[.int .i64 a, .int .i64 b, .int .i64 c, .int .i64 d] 27)
  go_wp2_with fail
  refine (HRB.out _).mono ?_
  rintro e w2 ⟨rfl, q2⟩
  clear k0 k1 k2 k3 k4 k5
  have HBY := Lib.hid (BoxAt.fresh w2 a b c d)
  have q2' := Q.alloc q2 (.cells #[.int .i64 a, .int .i64 b, .int .i64 c, .int .i64 d] 27)
  go_wp2_with fail
  obtain ⟨A, hA⟩ : ∃ A, w.heap.size = A := ⟨_, rfl⟩
  obtain ⟨B, hB⟩ : ∃ B, w1.heap.size = B := ⟨_, rfl⟩
  obtain ⟨D, hD⟩ : ∃ D, w2.heap.size = D := ⟨_, rfl⟩
  rw [hA] at HS
  rw [hB] at HBX
  rw [hD] at HBY
  obtain ⟨wk, hwk⟩ : ∃ wk, w2.alloc (.cells #[.int .i64 a, .int .i64 b, .int .i64 c, .int .i64 d] 27) = wk := ⟨_, rfl⟩
  rw [hA, hB, hD, hwk]
  rw [hwk] at HBY q2'
  have HK := Lib.hid (show (wk.cell? ⟨A, 0, none⟩ = some (.int .i64 X) ∧ wk.cell? ⟨A, 1, none⟩ = some (.int .i64 Y) ∧ wk.cell? ⟨A, 2, none⟩ = some (.int .i64 W) ∧ wk.cell? ⟨A, 3, none⟩ = some (.int .i64 H) ∧ wk.cell? ⟨A, 4, none⟩ = some (.int .i64 C) ∧ wk.cell? ⟨A, 5, none⟩ = some (.int .i64 R) ∧ wk.cell? ⟨B, 0, none⟩ = some (.int .i64 a) ∧ wk.cell? ⟨B, 1, none⟩ = some (.int .i64 b) ∧ wk.cell? ⟨B, 2, none⟩ = some (.int .i64 c) ∧ wk.cell? ⟨B, 3, none⟩ = some (.int .i64 d) ∧ wk.cell? ⟨D, 0, none⟩ = some (.int .i64 a) ∧ wk.cell? ⟨D, 1, none⟩ = some (.int .i64 b) ∧ wk.cell? ⟨D, 2, none⟩ = some (.int .i64 c) ∧ wk.cell? ⟨D, 3, none⟩ = some (.int .i64 d) ∧ Mv wk ∧ Q wk wk) by
    obtain ⟨h0, h1, h2, h3, h4, h5, _⟩ := (HS.out.next q1').next q2'
    obtain ⟨g0, g1, g2, g3, _⟩ := HBX.out.next q2'
    obtain ⟨f0, f1, f2, f3, _⟩ := HBY.out
    exact ⟨h0, h1, h2, h3, h4, h5, g0, g1, g2, g3, f0, f1, f2, f3, (((HM.out.alloc _).next q1').next q2'), Q.refl _⟩)
  have HQ := Lib.hid (show Q w wk from (q1'.behind _).trans q2')
  clear hA hB hD hwk q1 q2 q1' q2' z1 HS HBX HBY HM HB HRB
  go_region_held3 (fun v => (v.cell? ⟨A, 0, none⟩ = some (.int .i64 X) ∧ v.cell? ⟨A, 1, none⟩ = some (.int .i64 Y) ∧ v.cell? ⟨A, 2, none⟩ = some (.int .i64 W) ∧ v.cell? ⟨A, 3, none⟩ = some (.int .i64 H) ∧ v.cell? ⟨A, 4, none⟩ = some (.int .i64 C) ∧ v.cell? ⟨A, 5, none⟩ = some (.int .i64 R) ∧ v.cell? ⟨B, 0, none⟩ = some (.int .i64 a) ∧ v.cell? ⟨B, 1, none⟩ = some (.int .i64 b) ∧ v.cell? ⟨B, 2, none⟩ = some (.int .i64 c) ∧ v.cell? ⟨B, 3, none⟩ = some (.int .i64 d) ∧ v.cell? ⟨D, 0, none⟩ = some (.int .i64 a) ∧ v.cell? ⟨D, 1, none⟩ = some (.int .i64 b) ∧ v.cell? ⟨D, 2, none⟩ = some (.int .i64 c) ∧ v.cell? ⟨D, 3, none⟩ = some (.int .i64 d) ∧ Mv v ∧ Q wk v)) ((first | (exact sNext HK.out ((Q.refl _).drew)) | (refine sNext ?_ (by assumption); assumption)))
    (first
      | (go_at_call 12; refine (awake_true _ ?_).mono ?_; (simp only [*]); (rintro e w' ⟨rfl, q⟩))
      | (go_at_call 13; refine (HC.out _).mono ?_; (rintro e w' ⟨rfl, q⟩))
      | (go_at_call 14; refine (HRC.out _).mono ?_; (rintro e w' ⟨rfl, q⟩)))
  all_goals
    go_wp2_with fail
    go_ret
    exact ⟨rfl, HQ.out.trans (sQ (by assumption))⟩

theorem walk (X Y W H C R s : Int) (_ : I64 X) (_ : I64 Y) (_ : I64 W) (_ : I64 H) (_ : I64 C) (_ : I64 R) (_ : I64 s) (w : World) (hM : Mv w) :
    Calls Tryd.prog 3 #[.agg #[.int .i64 X, .int .i64 Y, .int .i64 W, .int .i64 H, .int .i64 C, .int .i64 R], .int .i64 s] w fun e w' => e = .returned (.bool true) ∧ Q w w' := by
  by_cases h : Grid.Ok X Y W H C R
  · by_cases hs : s < 1 ∨ C * R < s
    · exact core X Y W H C R s 0 0 0 0 7 0 w hM (fun W' => box_none X Y W H C R s W' h hs) (fun W' => rbox_none X Y W H C R s W' h hs) (fun W' => check_yes X Y W H C R W' h) (fun W' => rcheck_yes X Y W H C R W' h)
    · exact core X Y W H C R s _ _ _ _ 0 0 w hM (fun W' => box_there X Y W H C R s W' h (by omega) (by omega)) (fun W' => rbox_there X Y W H C R s W' h (by omega) (by omega)) (fun W' => check_yes X Y W H C R W' h) (fun W' => rcheck_yes X Y W H C R W' h)
  · exact core X Y W H C R s 0 0 0 0 2 2 w hM (fun W' => box_bad X Y W H C R s W' h) (fun W' => rbox_bad X Y W H C R s W' h) (fun W' => check_no X Y W H C R W' h) (fun W' => rcheck_no X Y W H C R W' h)

theorem own : ownKnob Tryd.prog.godebug = none := by kernel_rfl

theorem contract (H : Type) (enc : TypeId × Value → H) (W : World) (base : Nat) (args : Array Value) (ds gs : List (DataW H)) (before : List MemPlace)
    (hval : ∀ (j : Nat) t v, Tryd.f3.params[j]? = some t → args[j]? = some v → Value.okWide Tryd.prog W .any base t v)
    (hW : DataW.Whole enc Tryd.prog Tryd.f3.params.toList Rows.sheetgridBoxesSpec.vars false W args.toList ds gs before) (hL : laidMetH Tryd.prog Rows.sheetgridBoxesRow.laid W) :
    Calls Tryd.prog 3 args W fun e W' => ∃ v, e = .returned v ∧ Rows.sheetgridBoxesSpec.post enc Tryd.prog Tryd.f3 false true false false W args v W' := by
  have hW' := hW
  obtain ⟨p, q, hA0, hV, rfl, hfz, hnd⟩ := hW
  have hA : DataW.TrodAll enc Tryd.prog W 0 (fun _ => true) true Tryd.f3.params.toList args.toList ds p := hA0
  rw [Tryd.params3] at hA hval
  obtain ⟨v0, vs0, d0, ds0, p0, q0, hargs, rfl, rfl, h0, r0⟩ := trodAll_cons hA
  obtain ⟨v1, vs1, d1, ds1, p1, q1, rfl, rfl, rfl, h1, r1⟩ := trodAll_cons r0
  obtain ⟨rfl, rfl, rfl⟩ := trodAll_nil r1
  obtain rfl : args = #[v0, v1] := by cases args; simp_all
  obtain ⟨rfl, rfl⟩ := trodVars_none hV
  obtain ⟨rfl, cs0, rfl, hs0, hz0⟩ := flat_open 4 (by kernel_rfl) Tryd.underlying25 (hval 0 25 v0 rfl rfl) h0
  obtain ⟨x00, x01, x02, x03, x04, x05, rfl, b00, b01, b02, b03, b04, b05⟩ := agg6_of (hs0.trans (show Tryd.prog.cellsOf 25 = 6 by kernel_rfl)) hz0
  obtain ⟨a1, rfl, rfl, rfl, w1⟩ := open_int Tryd.underlying3 (hval 1 3 v1 rfl rfl) h1
  clear hA0
  simp only [List.append_nil] at hW'
  refine (walk x00 x01 x02 x03 x04 x05 a1 b00 b01 b02 b03 b04 b05 (bd64 w1) W (mv_of_laid hL)).mono fun e W' ⟨he, bel⟩ => ?_
  subst he
  exact ⟨_, rfl, _, _, _, [], [], [], hW', trodAll_mk1 (shut_bool Tryd.underlying4 _), (trodAll_cons_mk (Below.trod laidOut (by kernel_rfl) (by decide +kernel) h0 bel (fun x hx => by cases hx)) (trodAll_cons_mk (shut_int Tryd.underlying3 w1) trodAll_mk0)), rfl, Below.frame bel _, fun h => by cases h⟩

def setRow (h : Array Obj) (g : Nat) (cs : Array Value) : Array Obj := h.modify g fun
  | .cells _ t frozen => .cells cs t frozen
  | o => o
/-- A world for the witness: the settled one, the listed tables as their initialisers lay them. -/
noncomputable def laidWorld (os : Os) : World :=
  { World.holding Tryd.prog os ⟨#[], #[], []⟩ with heap := (setRow (setRow (setRow (setRow (World.holding Tryd.prog os ⟨#[], #[], []⟩).heap 2 #[.int .u8 0, .int .u8 1, .int .u8 28, .int .u8 2, .int .u8 29, .int .u8 14, .int .u8 24, .int .u8 3, .int .u8 30, .int .u8 22, .int .u8 20, .int .u8 15, .int .u8 25, .int .u8 17, .int .u8 4, .int .u8 8, .int .u8 31, .int .u8 27, .int .u8 13, .int .u8 23, .int .u8 21, .int .u8 19, .int .u8 16, .int .u8 7, .int .u8 26, .int .u8 12, .int .u8 18, .int .u8 6, .int .u8 11, .int .u8 5, .int .u8 10, .int .u8 9]) 3 #[.int .u8 0, .int .u8 1, .int .u8 56, .int .u8 2, .int .u8 57, .int .u8 49, .int .u8 28, .int .u8 3, .int .u8 61, .int .u8 58, .int .u8 42, .int .u8 50, .int .u8 38, .int .u8 29, .int .u8 17, .int .u8 4, .int .u8 62, .int .u8 47, .int .u8 59, .int .u8 36, .int .u8 45, .int .u8 43, .int .u8 51, .int .u8 22, .int .u8 53, .int .u8 39, .int .u8 33, .int .u8 30, .int .u8 24, .int .u8 18, .int .u8 12, .int .u8 5, .int .u8 63, .int .u8 55, .int .u8 48, .int .u8 27, .int .u8 60, .int .u8 41, .int .u8 37, .int .u8 16, .int .u8 46, .int .u8 35, .int .u8 44, .int .u8 21, .int .u8 52, .int .u8 32, .int .u8 23, .int .u8 11, .int .u8 54, .int .u8 26, .int .u8 40, .int .u8 15, .int .u8 34, .int .u8 20, .int .u8 31, .int .u8 10, .int .u8 25, .int .u8 14, .int .u8 19, .int .u8 9, .int .u8 13, .int .u8 8, .int .u8 7, .int .u8 6]) 1 #[.int .u64 1, .int .u64 10, .int .u64 100, .int .u64 1000, .int .u64 10000, .int .u64 100000, .int .u64 1000000, .int .u64 10000000, .int .u64 100000000, .int .u64 1000000000, .int .u64 10000000000, .int .u64 100000000000, .int .u64 1000000000000, .int .u64 10000000000000, .int .u64 100000000000000, .int .u64 1000000000000000, .int .u64 10000000000000000, .int .u64 100000000000000000, .int .u64 1000000000000000000, .int .u64 10000000000000000000]) 0 #[.int .i64 (-1), .int .i64 0, .int .i64 0, .int .i64 (-1), .int .i64 1, .int .i64 0, .int .i64 0, .int .i64 1]) }
set_option maxRecDepth 100000 in
theorem laid_met (os : Os) : laidMet Tryd.prog Rows.sheetgridBoxesRow.laid ((laidWorld os).forCall (fun _ _ => 0) ⟨#[], #[.agg #[.int .i64 0, .int .i64 0, .int .i64 0, .int .i64 0, .int .i64 0, .int .i64 0], .int .i64 0], []⟩).memory :=
  laidMet_of_run' 8 (by kernel_rfl) (by kernel_rfl)
theorem reads (os : Os) {H : Type} (enc : TypeId × Value → H) : ∃ places, DataW.whole enc Tryd.prog ((laidWorld os).forCall (fun _ _ => 0) ⟨#[], #[.agg #[.int .i64 0, .int .i64 0, .int .i64 0, .int .i64 0, .int .i64 0, .int .i64 0], .int .i64 0], []⟩).memory Tryd.f3.params.toList Rows.sheetgridBoxesSpec.vars false #[Value.agg #[.int .i64 0, .int .i64 0, .int .i64 0, .int .i64 0, .int .i64 0, .int .i64 0], .int .i64 0].toList 8 = some ([.agg [.agg [.lit (.int .i64 0), .lit (.int .i64 0)], .lit (.int .i64 0), .lit (.int .i64 0), .lit (.int .i64 0), .lit (.int .i64 0)], .lit (.int .i64 0)], [], places) :=
  ⟨[], by kernel_rfl⟩

set_option maxRecDepth 100000 in
theorem lifted (os : Os) (started : os.Started) (H : Type) (enc : TypeId × Value → H) (F : Stop.Interp) :
    ReturnsInHanded {} Tryd.checked os 3 .any ((OpenSpec.ofChange Rows.sheetgridBoxesSpec).preRow enc Tryd.prog Tryd.f3 Rows.sheetgridBoxesRow.domain false Rows.sheetgridBoxesRow.laid) (((OpenSpec.ofChange Rows.sheetgridBoxesSpec).at F).post enc Tryd.prog Tryd.f3 false true false false) := by
  obtain ⟨places, hx⟩ := reads os enc
  refine returnsInHanded_of_row (C := Tryd.checked) (s := OpenSpec.ofChange Rows.sheetgridBoxesSpec) own started (by kernel_rfl) Tryd.func3
    (witness_row_at (enc := enc) (C := Tryd.checked) false (laidWorld os) #[.agg #[.int .i64 0, .int .i64 0, .int .i64 0, .int .i64 0, .int .i64 0, .int .i64 0], .int .i64 0] rfl (by kernel_rfl) (by kernel_rfl) (by kernel_rfl)
      (OpenSpec.preRow_of_cond 8 hx (by kernel_rfl) (fun k hk => by cases hk) (by kernel_rfl) (laid_met os))) ?_
  intro W base args ds gs before hval hW _ _ _ hL _ _
  exact contract H enc W base args ds gs before hval hW hL

theorem said : Rows.SheetgridBoxesSaid :=
  OpenClaim.holds_of_cond 3 Tryd.f3 rfl rfl rfl rfl rfl rfl rfl ⟨rfl, rfl, rfl, rfl, rfl⟩ rfl rfl rfl rfl rfl (by kernel_rfl) Tryd.func3 (by kernel_rfl)
    (of_decide_eq_true (by kernel_rfl)) (by unfold Func.isWrapper; first | (rw [if_pos (by decide +kernel)]; kernel_rfl) | (rw [if_neg (by decide +kernel)]; exact ⟨rfl, rfl⟩))
    (fun os started H enc _ F => by rw [OpenClaim.pre_eq_preRow]; exact lifted os started H enc F)

theorem plain (f : FuncId) (fn : Func) (hf : Tryd.pinned.checked.prog.funcNamed "mapsheets/mapsheetslaw40.SheetgridBoxes" = some f) (hfn : Tryd.pinned.checked.prog.funcs[f]? = some fn) :
    false = Tryd.pinned.checked.prog.looks [] ∧ ∀ (j : Nat) t, fn.params[j]? = some t → Tryd.pinned.checked.prog.wantsStandIn t = false := by
  obtain rfl : f = 3 := Option.some.inj ((show Tryd.prog.funcNamed "mapsheets/mapsheetslaw40.SheetgridBoxes" = some 3 by kernel_rfl).symm.trans hf) |>.symm
  obtain rfl : fn = Tryd.f3 := (Option.some.inj (Tryd.func3.symm.trans hfn)).symm
  refine ⟨by kernel_rfl, fun j t ht => ?_⟩
  rw [Tryd.params3] at ht
  have all : ∀ t ∈ Tryd.f3.params, Tryd.prog.wantsStandIn t = false := by rw [Tryd.params3]; decide +kernel
  exact all t (by rw [Tryd.params3]; exact Array.mem_of_getElem? ht)

theorem card : Rows.SheetgridBoxesCardSaid :=
  Claim7.holds_tied_plain_at .later [] _ _ _ _ said (fun _ h => by cases h) (by kernel_rfl) (fun _ h => by cases h) sheetgridBoxes_row_tie rfl ⟨rfl, rfl⟩ (by kernel_rfl) rfl plain (by kernel_rfl)
end Go.Proofs.YtpnifjeelmfegaaDoor.sheetgridBoxes
namespace Go.Proofs.YtpnifjeelmfegaaDoor
theorem sheetgridBoxes_holds : Rows.SheetgridBoxesCardSaid := sheetgridBoxes.card
#print axioms sheetgridBoxes_holds
end Go.Proofs.YtpnifjeelmfegaaDoor
