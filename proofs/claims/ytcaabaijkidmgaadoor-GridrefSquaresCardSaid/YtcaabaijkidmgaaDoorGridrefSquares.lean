
/- For every series and point, GridrefSquares returns true: Square returns the specified name of a square, or the specified error.
   Its listed tables are as the program's text lays them (the card ties them); no other condition. -/
import Derived.Test.YtcaabaijkidmgaaDoorGrfQ
import Derived.Test.YtcaabaijkidmgaaDoorFlat
import Derived.Test.YtcaabaijkidmgaaDoorCards
import Derived.Test.YtcaabaijkidmgaaDoorTie
import Derived.Deep.DeepHandedRow
import Derived.Lib.LaidTab
import Derived.Deep.RegionHeld3
import Derived.ProofKit
import Derived.OpenShut
import Derived.JoinedOf
import Derived.JoinedAt
import Derived.SevenTiedAt
namespace Go.Proofs.YtcaabaijkidmgaaDoor.gridrefSquares
open Go.ChangeShapes Go.WideShapes Go.ChangeAt Go.RowKit
set_option linter.unusedVariables false

set_option maxHeartbeats 4000000 in
theorem core (X Y W H C R x y er : Int) (t : ByteArray) (w : World)
    (H1 : Hid (∀ w, Calls Tryd.prog 9 #[.agg #[.int .i64 X, .int .i64 Y, .int .i64 W, .int .i64 H, .int .i64 C, .int .i64 R], .agg #[.int .i64 x, .int .i64 y]] w fun e w' => e = .returned (.tuple #[.string t, .int .i64 er]) ∧ Q w w'))
    (H2 : Hid (∀ w, Calls Tryd.prog 10 #[.agg #[.int .i64 X, .int .i64 Y, .int .i64 W, .int .i64 H, .int .i64 C, .int .i64 R], .agg #[.int .i64 x, .int .i64 y]] w fun e w' => e = .returned (.tuple #[.string t, .int .i64 er]) ∧ Q w w')) :
    Calls Tryd.prog 3 #[.agg #[.int .i64 X, .int .i64 Y, .int .i64 W, .int .i64 H, .int .i64 C, .int .i64 R], .agg #[.int .i64 x, .int .i64 y]] w fun e w' => e = .returned (.bool true) ∧ Q w w' := by
  have H3 := Lib.hid gawake_true
  have es : (t.toList == t.toList) = true := str_eq rfl
  have ee : (er == er) = true := by simp
  have HS := Lib.hid ((SeAt.fresh w X Y W H C R).next ((Q.refl _).alloc (.cells #[.int .i64 x, .int .i64 y] 23)))
  have HP := Lib.hid (new1 w (.cells #[.int .i64 X, .int .i64 Y, .int .i64 W, .int .i64 H, .int .i64 C, .int .i64 R] 25) (.cells #[.int .i64 x, .int .i64 y] 23))
  go_enter Tryd.func3, Tryd.ntmps3
  go_wp2_with fail
  refine (H1.out _).mono ?_
  rintro e w1 ⟨rfl, q1⟩
  obtain ⟨k0, k1, k2, k3, k4, k5, k6⟩ := HS.out.next q1
  have t0 := row_cell (i := 0) (b_next q1 HP.out) rfl
  have t1 := row_cell (i := 1) (b_next q1 HP.out) rfl
  clear k6
  go_wp2_with fail
  refine (H2.out _).mono ?_
  rintro e w2 ⟨rfl, q2⟩
  clear k0 k1 k2 k3 k4 k5
  clear t0 t1
  go_wp2_with fail
  refine (H3.out _).mono ?_
  rintro e w3 ⟨rfl, q3⟩
  go_wp2_with fail
  go_ret
  exact ⟨rfl, ((((q1.trans q2).trans q3).behind _).behind _)⟩
theorem walk (X Y W H C R x y : Int) (_ : I64 X) (_ : I64 Y) (_ : I64 W) (_ : I64 H) (_ : I64 C) (_ : I64 R) (_ : I64 x) (_ : I64 y) (w : World) : Calls Tryd.prog 3 #[.agg #[.int .i64 X, .int .i64 Y, .int .i64 W, .int .i64 H, .int .i64 C, .int .i64 R], .agg #[.int .i64 x, .int .i64 y]] w fun e w' => e = .returned (.bool true) ∧ Q w w' := by
  by_cases h : Grid.Ok X Y W H C R
  · by_cases hi : Grf.ins X Y W H C R x y
    · exact core X Y W H C R x y _ _ w (fun w => square_in X Y W H C R x y w h hi) (fun w => rsquare_in X Y W H C R x y w h hi)
    · exact core X Y W H C R x y _ _ w (fun w => square_out X Y W H C R x y w h hi) (fun w => rsquare_out X Y W H C R x y w h hi)
  · exact core X Y W H C R x y _ _ w (fun w => square_bad X Y W H C R x y w h) (fun w => rsquare_bad X Y W H C R x y w h)

theorem own : ownKnob Tryd.prog.godebug = none := by kernel_rfl

set_option maxRecDepth 100000 in
theorem contract (H : Type) (enc : TypeId × Value → H) (W : World) (base : Nat) (args : Array Value) (ds gs : List (DataW H)) (before : List MemPlace)
    (hval : ∀ (j : Nat) t v, Tryd.f3.params[j]? = some t → args[j]? = some v → Value.okWide Tryd.prog W .any base t v)
    (hW : DataW.Whole enc Tryd.prog Tryd.f3.params.toList Rows.gridrefSquaresSpec.vars false W args.toList ds gs before) (hL : laidMetH Tryd.prog Rows.gridrefSquaresRow.laid W) :
    Calls Tryd.prog 3 args W fun e W' => ∃ v, e = .returned v ∧ Rows.gridrefSquaresSpec.post enc Tryd.prog Tryd.f3 false true false false W args v W' := by
  have hW' := hW
  obtain ⟨p, q, hA0, hV, rfl, hfz, hnd⟩ := hW
  have hA : DataW.TrodAll enc Tryd.prog W 0 (fun _ => true) true Tryd.f3.params.toList args.toList ds p := hA0
  rw [Tryd.params3] at hA hval
  obtain ⟨v0, vs0, d0, ds0, p0, q0, hargs, rfl, rfl, h0, r0⟩ := trodAll_cons hA
  obtain ⟨v1, vs1, d1, ds1, p1, q1, rfl, rfl, rfl, h1, r1⟩ := trodAll_cons r0
  obtain ⟨rfl, rfl, rfl⟩ := trodAll_nil r1
  obtain rfl : args = #[v0, v1] := by cases args; simp_all
  obtain ⟨rfl, rfl⟩ := trodVars_none hV
  obtain ⟨rfl, cs0, rfl, hs0, hz0⟩ := flat_open 4 (by kernel_rfl) Tryd.underlying25 (hval 0 25 v0 rfl rfl) h0
  obtain ⟨x00, x01, x02, x03, x04, x05, rfl, b00, b01, b02, b03, b04, b05⟩ := agg6_of (hs0.trans (show Tryd.prog.cellsOf 25 = 6 by kernel_rfl)) hz0
  obtain ⟨rfl, cs1, rfl, hs1, hz1⟩ := flat_open 4 (by kernel_rfl) Tryd.underlying23 (hval 1 23 v1 rfl rfl) h1
  obtain ⟨x10, x11, rfl, b10, b11⟩ := agg2_of (hs1.trans (show Tryd.prog.cellsOf 23 = 2 by kernel_rfl)) hz1
  clear hA0
  simp only [List.append_nil] at hW'
  refine (walk x00 x01 x02 x03 x04 x05 x10 x11 b00 b01 b02 b03 b04 b05 b10 b11 W).mono fun e W' ⟨he, bel⟩ => ?_
  subst he
  exact ⟨_, rfl, _, _, _, [], [], [], hW', trodAll_mk1 (shut_bool Tryd.underlying4 _), (trodAll_cons_mk (Below.trod laidOut (by kernel_rfl) (by decide +kernel) h0 bel (fun x hx => by cases hx)) (trodAll_cons_mk (Below.trod laidOut (by kernel_rfl) (by decide +kernel) h1 bel (fun x hx => by cases hx)) trodAll_mk0)), rfl, Below.frame bel _, fun h => by cases h⟩

def setRow (h : Array Obj) (g : Nat) (cs : Array Value) : Array Obj := h.modify g fun
  | .cells _ t frozen => .cells cs t frozen
  | o => o
/-- A world for the witness: the settled one, the listed tables as their initialisers lay them. -/
noncomputable def laidWorld (os : Os) : World :=
  { World.holding Tryd.prog os ⟨#[], #[], []⟩ with heap := (setRow (setRow (setRow (World.holding Tryd.prog os ⟨#[], #[], []⟩).heap 3 #[.int .u8 0, .int .u8 1, .int .u8 28, .int .u8 2, .int .u8 29, .int .u8 14, .int .u8 24, .int .u8 3, .int .u8 30, .int .u8 22, .int .u8 20, .int .u8 15, .int .u8 25, .int .u8 17, .int .u8 4, .int .u8 8, .int .u8 31, .int .u8 27, .int .u8 13, .int .u8 23, .int .u8 21, .int .u8 19, .int .u8 16, .int .u8 7, .int .u8 26, .int .u8 12, .int .u8 18, .int .u8 6, .int .u8 11, .int .u8 5, .int .u8 10, .int .u8 9]) 4 #[.int .u8 0, .int .u8 1, .int .u8 56, .int .u8 2, .int .u8 57, .int .u8 49, .int .u8 28, .int .u8 3, .int .u8 61, .int .u8 58, .int .u8 42, .int .u8 50, .int .u8 38, .int .u8 29, .int .u8 17, .int .u8 4, .int .u8 62, .int .u8 47, .int .u8 59, .int .u8 36, .int .u8 45, .int .u8 43, .int .u8 51, .int .u8 22, .int .u8 53, .int .u8 39, .int .u8 33, .int .u8 30, .int .u8 24, .int .u8 18, .int .u8 12, .int .u8 5, .int .u8 63, .int .u8 55, .int .u8 48, .int .u8 27, .int .u8 60, .int .u8 41, .int .u8 37, .int .u8 16, .int .u8 46, .int .u8 35, .int .u8 44, .int .u8 21, .int .u8 52, .int .u8 32, .int .u8 23, .int .u8 11, .int .u8 54, .int .u8 26, .int .u8 40, .int .u8 15, .int .u8 34, .int .u8 20, .int .u8 31, .int .u8 10, .int .u8 25, .int .u8 14, .int .u8 19, .int .u8 9, .int .u8 13, .int .u8 8, .int .u8 7, .int .u8 6]) 0 #[.int .u64 1, .int .u64 10, .int .u64 100, .int .u64 1000, .int .u64 10000, .int .u64 100000, .int .u64 1000000, .int .u64 10000000, .int .u64 100000000, .int .u64 1000000000, .int .u64 10000000000, .int .u64 100000000000, .int .u64 1000000000000, .int .u64 10000000000000, .int .u64 100000000000000, .int .u64 1000000000000000, .int .u64 10000000000000000, .int .u64 100000000000000000, .int .u64 1000000000000000000, .int .u64 10000000000000000000]) }
set_option maxRecDepth 100000 in
theorem laid_met (os : Os) : laidMet Tryd.prog Rows.gridrefSquaresRow.laid ((laidWorld os).forCall (fun _ _ => 0) ⟨#[], #[.agg #[.int .i64 0, .int .i64 0, .int .i64 0, .int .i64 0, .int .i64 0, .int .i64 0], .agg #[.int .i64 0, .int .i64 0]], []⟩).memory :=
  laidMet_of_run' 8 (by kernel_rfl) (by kernel_rfl)
theorem reads (os : Os) {H : Type} (enc : TypeId × Value → H) : ∃ places, DataW.whole enc Tryd.prog ((laidWorld os).forCall (fun _ _ => 0) ⟨#[], #[.agg #[.int .i64 0, .int .i64 0, .int .i64 0, .int .i64 0, .int .i64 0, .int .i64 0], .agg #[.int .i64 0, .int .i64 0]], []⟩).memory Tryd.f3.params.toList Rows.gridrefSquaresSpec.vars false #[Value.agg #[.int .i64 0, .int .i64 0, .int .i64 0, .int .i64 0, .int .i64 0, .int .i64 0], .agg #[.int .i64 0, .int .i64 0]].toList 8 = some ([.agg [.agg [.lit (.int .i64 0), .lit (.int .i64 0)], .lit (.int .i64 0), .lit (.int .i64 0), .lit (.int .i64 0), .lit (.int .i64 0)], .agg [.lit (.int .i64 0), .lit (.int .i64 0)]], [], places) :=
  ⟨[], by kernel_rfl⟩

set_option maxRecDepth 100000 in
theorem lifted (os : Os) (started : os.Started) (H : Type) (enc : TypeId × Value → H) (F : Stop.Interp) :
    ReturnsInHanded {} Tryd.checked os 3 .any ((OpenSpec.ofChange Rows.gridrefSquaresSpec).preRow enc Tryd.prog Tryd.f3 Rows.gridrefSquaresRow.domain false Rows.gridrefSquaresRow.laid) (((OpenSpec.ofChange Rows.gridrefSquaresSpec).at F).post enc Tryd.prog Tryd.f3 false true false false) := by
  obtain ⟨places, hx⟩ := reads os enc
  refine returnsInHanded_of_row (C := Tryd.checked) (s := OpenSpec.ofChange Rows.gridrefSquaresSpec) own started (by kernel_rfl) Tryd.func3
    (witness_row_at (enc := enc) (C := Tryd.checked) false (laidWorld os) #[.agg #[.int .i64 0, .int .i64 0, .int .i64 0, .int .i64 0, .int .i64 0, .int .i64 0], .agg #[.int .i64 0, .int .i64 0]] rfl (by kernel_rfl) (by kernel_rfl) (by kernel_rfl)
      (OpenSpec.preRow_of_cond 8 hx (by kernel_rfl) (fun k hk => by cases hk) (by kernel_rfl) (laid_met os))) ?_
  intro W base args ds gs before hval hW _ _ _ hL _ _
  exact contract H enc W base args ds gs before hval hW hL

theorem said : Rows.GridrefSquaresSaid :=
  OpenClaim.holds_of_cond 3 Tryd.f3 rfl rfl rfl rfl rfl rfl rfl ⟨rfl, rfl, rfl, rfl, rfl⟩ rfl rfl rfl rfl rfl (by kernel_rfl) Tryd.func3 (by kernel_rfl)
    (of_decide_eq_true (by kernel_rfl)) (by unfold Func.isWrapper; first | (rw [if_pos (by decide +kernel)]; kernel_rfl) | (rw [if_neg (by decide +kernel)]; exact ⟨rfl, rfl⟩))
    (fun os started H enc _ F => by rw [OpenClaim.pre_eq_preRow]; exact lifted os started H enc F)

theorem plain (f : FuncId) (fn : Func) (hf : Tryd.pinned.checked.prog.funcNamed "mapsheets/mapsheetslaw51.GridrefSquares" = some f) (hfn : Tryd.pinned.checked.prog.funcs[f]? = some fn) :
    false = Tryd.pinned.checked.prog.looks [] ∧ ∀ (j : Nat) t, fn.params[j]? = some t → Tryd.pinned.checked.prog.wantsStandIn t = false := by
  obtain rfl : f = 3 := Option.some.inj ((show Tryd.prog.funcNamed "mapsheets/mapsheetslaw51.GridrefSquares" = some 3 by kernel_rfl).symm.trans hf) |>.symm
  obtain rfl : fn = Tryd.f3 := (Option.some.inj (Tryd.func3.symm.trans hfn)).symm
  refine ⟨by kernel_rfl, fun j t ht => ?_⟩
  rw [Tryd.params3] at ht
  have all : ∀ t ∈ Tryd.f3.params, Tryd.prog.wantsStandIn t = false := by rw [Tryd.params3]; decide +kernel
  exact all t (by rw [Tryd.params3]; exact Array.mem_of_getElem? ht)

theorem card : Rows.GridrefSquaresCardSaid :=
  Claim7.holds_tied_plain_at .later [] _ _ _ _ said (fun _ h => by cases h) (by kernel_rfl) (fun _ h => by cases h) gridrefSquares_row_tie rfl ⟨rfl, rfl⟩ (by kernel_rfl) rfl plain (by kernel_rfl)
end Go.Proofs.YtcaabaijkidmgaaDoor.gridrefSquares
namespace Go.Proofs.YtcaabaijkidmgaaDoor
theorem gridrefSquares_holds : Rows.GridrefSquaresCardSaid := gridrefSquares.card
#print axioms gridrefSquares_holds
end Go.Proofs.YtcaabaijkidmgaaDoor
