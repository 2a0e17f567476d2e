
/- For every series, number and side, SheetgridNeighbors returns true: sheetgrid.Neighbor answers as the reference does. No condition. -/
import Derived.Test.YtpnifjeelmfegaaDoorCards
import Derived.Test.YtpnifjeelmfegaaDoorTie
import Derived.Test.YtpnifjeelmfegaaDoorGridAwake
import Derived.Test.YtpnifjeelmfegaaDoorGridRNb
import Derived.Test.YtpnifjeelmfegaaDoorGridLaid
import Derived.Test.YtpnifjeelmfegaaDoorFlat
import Derived.Deep.DeepHandedRow
import Derived.Lib.LaidTab
namespace Go.Proofs.YtpnifjeelmfegaaDoor.sheetgridNeighbors
open Go.ChangeShapes Go.WideShapes Go.ChangeAt Go.RowKit
set_option linter.unusedVariables false

set_option maxHeartbeats 4000000 in
theorem core (X Y W H C R s side n : Int) (ok : Bool) (w : World) (hM : Mv w)
    (HN : Hid (∀ w, Mv w → Calls Tryd.prog 20 #[.agg #[.int .i64 X, .int .i64 Y, .int .i64 W, .int .i64 H, .int .i64 C, .int .i64 R], .int .i64 s, .int .i64 side] w fun e w' => e = .returned (.tuple #[.int .i64 n, .bool ok]) ∧ Q w w'))
    (HR : Hid (∀ w, Calls Tryd.prog 21 #[.agg #[.int .i64 X, .int .i64 Y, .int .i64 W, .int .i64 H, .int .i64 C, .int .i64 R], .int .i64 s, .int .i64 side] w fun e w' => e = .returned (.tuple #[.int .i64 n, .bool ok]) ∧ Q w w')) :
    Calls Tryd.prog 5 #[.agg #[.int .i64 X, .int .i64 Y, .int .i64 W, .int .i64 H, .int .i64 C, .int .i64 R], .int .i64 s, .int .i64 side] w fun e w' => e = .returned (.bool true) ∧ Q w w' := by
  have HM := Lib.hid hM
  have HS := Lib.hid (SeAt.fresh w X Y W H C R)
  clear hM
  go_enter Tryd.func5, Tryd.ntmps5
  go_wp2_with fail
  refine (HN.out _ (HM.out.alloc _)).mono ?_
  rintro e w1 ⟨rfl, q1⟩
  obtain ⟨k0, k1, k2, k3, k4, k5, k6⟩ := HS.out.next q1; clear k6
  go_wp2_with fail
  refine (HR.out _).mono ?_
  rintro e w2 ⟨rfl, q2⟩
  clear k0 k1 k2 k3 k4 k5
  go_wp2_with fail
  refine (awake_true _ (((HM.out.alloc _).next q1).next q2)).mono ?_
  rintro e w3 ⟨rfl, q3⟩
  cases ok
  all_goals
    go_wp2_with fail
    go_ret
    exact ⟨rfl, ((q1.behind _).trans q2).trans q3⟩

/-- What Neighbor answers for a sheet that is there. -/
theorem nbv_form (C R s side : Int) : ∃ n ok, Grid.nbv C R s side = .tuple #[.int .i64 n, .bool ok] := by
  unfold Grid.nbv
  split
  · exact ⟨_, _, rfl⟩
  · exact ⟨_, _, rfl⟩

theorem walk (X Y W H C R s side : Int) (_ : I64 X) (_ : I64 Y) (_ : I64 W) (_ : I64 H) (_ : I64 C) (_ : I64 R) (_ : I64 s) (_ : I64 side) (w : World) (hM : Mv w) :
    Calls Tryd.prog 5 #[.agg #[.int .i64 X, .int .i64 Y, .int .i64 W, .int .i64 H, .int .i64 C, .int .i64 R], .int .i64 s, .int .i64 side] w fun e w' => e = .returned (.bool true) ∧ Q w w' := by
  by_cases h : Grid.Ok X Y W H C R
  · by_cases hs : s < 1 ∨ C * R < s
    · exact core X Y W H C R s side _ _ w hM (fun W' _ => nb_err X Y W H C R s side 7 W' rfl (fun W' => find_none X Y W H C R s W' h hs)) (fun W' => rnb_none X Y W H C R s side W' h hs)
    · by_cases hd : side < 1 ∨ 4 < side
      · exact core X Y W H C R s side _ _ w hM (fun W' _ => nb_side X Y W H C R s side _ _ W' hd (fun W' => find_yes X Y W H C R s W' h (by omega) (by omega))) (fun W' => rnb_side X Y W H C R s side W' h (by omega) (by omega) hd)
      · obtain ⟨n, ok, e⟩ := nbv_form C R s side
        exact core X Y W H C R s side n ok w hM (fun W' m => by rw [← e]; exact nb_there X Y W H C R s side W' m h (by omega) (by omega) (by omega) (by omega)) (fun W' => by rw [← e]; exact rnb_there X Y W H C R s side W' h (by omega) (by omega) (by omega) (by omega))
  · exact core X Y W H C R s side _ _ w hM (fun W' _ => nb_err X Y W H C R s side 2 W' rfl (fun W' => find_bad X Y W H C R s W' h)) (fun W' => rnb_bad X Y W H C R s side W' h)

theorem own : ownKnob Tryd.prog.godebug = none := by kernel_rfl

theorem contract (H : Type) (enc : TypeId × Value → H) (W : World) (base : Nat) (args : Array Value) (ds gs : List (DataW H)) (before : List MemPlace)
    (hval : ∀ (j : Nat) t v, Tryd.f5.params[j]? = some t → args[j]? = some v → Value.okWide Tryd.prog W .any base t v)
    (hW : DataW.Whole enc Tryd.prog Tryd.f5.params.toList Rows.sheetgridNeighborsSpec.vars false W args.toList ds gs before) (hL : laidMetH Tryd.prog Rows.sheetgridNeighborsRow.laid W) :
    Calls Tryd.prog 5 args W fun e W' => ∃ v, e = .returned v ∧ Rows.sheetgridNeighborsSpec.post enc Tryd.prog Tryd.f5 false true false false W args v W' := by
  have hW' := hW
  obtain ⟨p, q, hA0, hV, rfl, hfz, hnd⟩ := hW
  have hA : DataW.TrodAll enc Tryd.prog W 0 (fun _ => true) true Tryd.f5.params.toList args.toList ds p := hA0
  rw [Tryd.params5] at hA hval
  obtain ⟨v0, vs0, d0, ds0, p0, q0, hargs, rfl, rfl, h0, r0⟩ := trodAll_cons hA
  obtain ⟨v1, vs1, d1, ds1, p1, q1, rfl, rfl, rfl, h1, r1⟩ := trodAll_cons r0
  obtain ⟨v2, vs2, d2, ds2, p2, q2, rfl, rfl, rfl, h2, r2⟩ := trodAll_cons r1
  obtain ⟨rfl, rfl, rfl⟩ := trodAll_nil r2
  obtain rfl : args = #[v0, v1, v2] := by cases args; simp_all
  obtain ⟨rfl, rfl⟩ := trodVars_none hV
  obtain ⟨rfl, cs0, rfl, hs0, hz0⟩ := flat_open 4 (by kernel_rfl) Tryd.underlying25 (hval 0 25 v0 rfl rfl) h0
  obtain ⟨x00, x01, x02, x03, x04, x05, rfl, b00, b01, b02, b03, b04, b05⟩ := agg6_of (hs0.trans (show Tryd.prog.cellsOf 25 = 6 by kernel_rfl)) hz0
  obtain ⟨a1, rfl, rfl, rfl, w1⟩ := open_int Tryd.underlying3 (hval 1 3 v1 rfl rfl) h1
  obtain ⟨a2, rfl, rfl, rfl, w2⟩ := open_int Tryd.underlying3 (hval 2 3 v2 rfl rfl) h2
  clear hA0
  simp only [List.append_nil] at hW'
  refine (walk x00 x01 x02 x03 x04 x05 a1 a2 b00 b01 b02 b03 b04 b05 (bd64 w1) (bd64 w2) W (mv_of_laid hL)).mono fun e W' ⟨he, bel⟩ => ?_
  subst he
  exact ⟨_, rfl, _, _, _, [], [], [], hW', trodAll_mk1 (shut_bool Tryd.underlying4 _), (trodAll_cons_mk (Below.trod laidOut (by kernel_rfl) (by decide +kernel) h0 bel (fun x hx => by cases hx)) (trodAll_cons_mk (shut_int Tryd.underlying3 w1) (trodAll_cons_mk (shut_int Tryd.underlying3 w2) trodAll_mk0))), rfl, Below.frame bel _, fun h => by cases h⟩

def setRow (h : Array Obj) (g : Nat) (cs : Array Value) : Array Obj := h.modify g fun
  | .cells _ t frozen => .cells cs t frozen
  | o => o
/-- A world for the witness: the settled one, the listed tables as their initialisers lay them. -/
noncomputable def laidWorld (os : Os) : World :=
  { World.holding Tryd.prog os ⟨#[], #[], []⟩ with heap := (setRow (setRow (setRow (setRow (World.holding Tryd.prog os ⟨#[], #[], []⟩).heap 2 #[.int .u8 0, .int .u8 1, .int .u8 28, .int .u8 2, .int .u8 29, .int .u8 14, .int .u8 24, .int .u8 3, .int .u8 30, .int .u8 22, .int .u8 20, .int .u8 15, .int .u8 25, .int .u8 17, .int .u8 4, .int .u8 8, .int .u8 31, .int .u8 27, .int .u8 13, .int .u8 23, .int .u8 21, .int .u8 19, .int .u8 16, .int .u8 7, .int .u8 26, .int .u8 12, .int .u8 18, .int .u8 6, .int .u8 11, .int .u8 5, .int .u8 10, .int .u8 9]) 3 #[.int .u8 0, .int .u8 1, .int .u8 56, .int .u8 2, .int .u8 57, .int .u8 49, .int .u8 28, .int .u8 3, .int .u8 61, .int .u8 58, .int .u8 42, .int .u8 50, .int .u8 38, .int .u8 29, .int .u8 17, .int .u8 4, .int .u8 62, .int .u8 47, .int .u8 59, .int .u8 36, .int .u8 45, .int .u8 43, .int .u8 51, .int .u8 22, .int .u8 53, .int .u8 39, .int .u8 33, .int .u8 30, .int .u8 24, .int .u8 18, .int .u8 12, .int .u8 5, .int .u8 63, .int .u8 55, .int .u8 48, .int .u8 27, .int .u8 60, .int .u8 41, .int .u8 37, .int .u8 16, .int .u8 46, .int .u8 35, .int .u8 44, .int .u8 21, .int .u8 52, .int .u8 32, .int .u8 23, .int .u8 11, .int .u8 54, .int .u8 26, .int .u8 40, .int .u8 15, .int .u8 34, .int .u8 20, .int .u8 31, .int .u8 10, .int .u8 25, .int .u8 14, .int .u8 19, .int .u8 9, .int .u8 13, .int .u8 8, .int .u8 7, .int .u8 6]) 1 #[.int .u64 1, .int .u64 10, .int .u64 100, .int .u64 1000, .int .u64 10000, .int .u64 100000, .int .u64 1000000, .int .u64 10000000, .int .u64 100000000, .int .u64 1000000000, .int .u64 10000000000, .int .u64 100000000000, .int .u64 1000000000000, .int .u64 10000000000000, .int .u64 100000000000000, .int .u64 1000000000000000, .int .u64 10000000000000000, .int .u64 100000000000000000, .int .u64 1000000000000000000, .int .u64 10000000000000000000]) 0 #[.int .i64 (-1), .int .i64 0, .int .i64 0, .int .i64 (-1), .int .i64 1, .int .i64 0, .int .i64 0, .int .i64 1]) }
set_option maxRecDepth 100000 in
theorem laid_met (os : Os) : laidMet Tryd.prog Rows.sheetgridNeighborsRow.laid ((laidWorld os).forCall (fun _ _ => 0) ⟨#[], #[.agg #[.int .i64 0, .int .i64 0, .int .i64 0, .int .i64 0, .int .i64 0, .int .i64 0], .int .i64 0, .int .i64 0], []⟩).memory :=
  laidMet_of_run' 8 (by kernel_rfl) (by kernel_rfl)
theorem reads (os : Os) {H : Type} (enc : TypeId × Value → H) : ∃ places, DataW.whole enc Tryd.prog ((laidWorld os).forCall (fun _ _ => 0) ⟨#[], #[.agg #[.int .i64 0, .int .i64 0, .int .i64 0, .int .i64 0, .int .i64 0, .int .i64 0], .int .i64 0, .int .i64 0], []⟩).memory Tryd.f5.params.toList Rows.sheetgridNeighborsSpec.vars false #[Value.agg #[.int .i64 0, .int .i64 0, .int .i64 0, .int .i64 0, .int .i64 0, .int .i64 0], .int .i64 0, .int .i64 0].toList 8 = some ([.agg [.agg [.lit (.int .i64 0), .lit (.int .i64 0)], .lit (.int .i64 0), .lit (.int .i64 0), .lit (.int .i64 0), .lit (.int .i64 0)], .lit (.int .i64 0), .lit (.int .i64 0)], [], places) :=
  ⟨[], by kernel_rfl⟩

set_option maxRecDepth 100000 in
theorem lifted (os : Os) (started : os.Started) (H : Type) (enc : TypeId × Value → H) (F : Stop.Interp) :
    ReturnsInHanded {} Tryd.checked os 5 .any ((OpenSpec.ofChange Rows.sheetgridNeighborsSpec).preRow enc Tryd.prog Tryd.f5 Rows.sheetgridNeighborsRow.domain false Rows.sheetgridNeighborsRow.laid) (((OpenSpec.ofChange Rows.sheetgridNeighborsSpec).at F).post enc Tryd.prog Tryd.f5 false true false false) := by
  obtain ⟨places, hx⟩ := reads os enc
  refine returnsInHanded_of_row (C := Tryd.checked) (s := OpenSpec.ofChange Rows.sheetgridNeighborsSpec) own started (by kernel_rfl) Tryd.func5
    (witness_row_at (enc := enc) (C := Tryd.checked) false (laidWorld os) #[.agg #[.int .i64 0, .int .i64 0, .int .i64 0, .int .i64 0, .int .i64 0, .int .i64 0], .int .i64 0, .int .i64 0] rfl (by kernel_rfl) (by kernel_rfl) (by kernel_rfl)
      (OpenSpec.preRow_of_cond 8 hx (by kernel_rfl) (fun k hk => by cases hk) (by kernel_rfl) (laid_met os))) ?_
  intro W base args ds gs before hval hW _ _ _ hL _ _
  exact contract H enc W base args ds gs before hval hW hL

theorem said : Rows.SheetgridNeighborsSaid :=
  OpenClaim.holds_of_cond 5 Tryd.f5 rfl rfl rfl rfl rfl rfl rfl ⟨rfl, rfl, rfl, rfl, rfl⟩ rfl rfl rfl rfl rfl (by kernel_rfl) Tryd.func5 (by kernel_rfl)
    (of_decide_eq_true (by kernel_rfl)) (by unfold Func.isWrapper; first | (rw [if_pos (by decide +kernel)]; kernel_rfl) | (rw [if_neg (by decide +kernel)]; exact ⟨rfl, rfl⟩))
    (fun os started H enc _ F => by rw [OpenClaim.pre_eq_preRow]; exact lifted os started H enc F)

theorem plain (f : FuncId) (fn : Func) (hf : Tryd.pinned.checked.prog.funcNamed "mapsheets/mapsheetslaw40.SheetgridNeighbors" = some f) (hfn : Tryd.pinned.checked.prog.funcs[f]? = some fn) :
    false = Tryd.pinned.checked.prog.looks [] ∧ ∀ (j : Nat) t, fn.params[j]? = some t → Tryd.pinned.checked.prog.wantsStandIn t = false := by
  obtain rfl : f = 5 := Option.some.inj ((show Tryd.prog.funcNamed "mapsheets/mapsheetslaw40.SheetgridNeighbors" = some 5 by kernel_rfl).symm.trans hf) |>.symm
  obtain rfl : fn = Tryd.f5 := (Option.some.inj (Tryd.func5.symm.trans hfn)).symm
  refine ⟨by kernel_rfl, fun j t ht => ?_⟩
  rw [Tryd.params5] at ht
  have all : ∀ t ∈ Tryd.f5.params, Tryd.prog.wantsStandIn t = false := by rw [Tryd.params5]; decide +kernel
  exact all t (by rw [Tryd.params5]; exact Array.mem_of_getElem? ht)

theorem card : Rows.SheetgridNeighborsCardSaid :=
  Claim7.holds_tied_plain_at .later [] _ _ _ _ said (fun _ h => by cases h) (by kernel_rfl) (fun _ h => by cases h) sheetgridNeighbors_row_tie rfl ⟨rfl, rfl⟩ (by kernel_rfl) rfl plain (by kernel_rfl)
end Go.Proofs.YtpnifjeelmfegaaDoor.sheetgridNeighbors
namespace Go.Proofs.YtpnifjeelmfegaaDoor
theorem sheetgridNeighbors_holds : Rows.SheetgridNeighborsCardSaid := sheetgridNeighbors.card
#print axioms sheetgridNeighbors_holds
end Go.Proofs.YtpnifjeelmfegaaDoor
