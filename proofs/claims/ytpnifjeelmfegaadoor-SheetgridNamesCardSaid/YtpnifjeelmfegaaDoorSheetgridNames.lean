
/- For every series, number and string, SheetgridNames returns true: sheetgrid.Name and Parse answer as the reference does. No condition. -/
import Derived.Test.YtpnifjeelmfegaaDoorCards
import Derived.Test.YtpnifjeelmfegaaDoorTie
import Derived.Test.YtpnifjeelmfegaaDoorGridAwake
import Derived.Test.YtpnifjeelmfegaaDoorGridNm
import Derived.Test.YtpnifjeelmfegaaDoorGridLaid
import Derived.Test.YtpnifjeelmfegaaDoorFlat
import Derived.Deep.DeepHandedRow
import Derived.Lib.LaidTab
namespace Go.Proofs.YtpnifjeelmfegaaDoor.sheetgridNames
open Go.ChangeShapes Go.WideShapes Go.ChangeAt Go.RowKit
set_option linter.unusedVariables false


theorem long (X Y W H C R s : Int) (t : ByteArray) (ht : 100 < t.size) (hm : t.size ≤ 9223372036854775807) (w : World) (hM : Mv w) :
    Calls Tryd.prog 6 #[.agg #[.int .i64 X, .int .i64 Y, .int .i64 W, .int .i64 H, .int .i64 C, .int .i64 R], .int .i64 s, .string t] w fun e w' => e = .returned (.bool true) ∧ Q w w' := by
  have HM := Lib.hid hM
  clear hM
  have d : decide (100 < (t.size : Int)) = true := by simp; omega
  go_enter Tryd.func6, Tryd.ntmps6
  go_wp2_with fail
  refine (awake_true _ (HM.out.alloc _)).mono ?_
  rintro e w1 ⟨rfl, q1⟩
  go_wp2_with fail
  go_ret
  exact ⟨rfl, q1.behind _⟩

set_option maxHeartbeats 4000000 in
theorem core (X Y W H C R s er n g : Int) (t nm : ByteArray) (ht : ¬ 100 < t.size) (w : World) (hM : Mv w)
    (HN : Hid (∀ w, Calls Tryd.prog 22 #[.agg #[.int .i64 X, .int .i64 Y, .int .i64 W, .int .i64 H, .int .i64 C, .int .i64 R], .int .i64 s] w fun e w' => e = .returned (.tuple #[.string nm, .int .i64 er]) ∧ Q w w'))
    (HRN : Hid (∀ w, Calls Tryd.prog 23 #[.agg #[.int .i64 X, .int .i64 Y, .int .i64 W, .int .i64 H, .int .i64 C, .int .i64 R], .int .i64 s] w fun e w' => e = .returned (.tuple #[.string nm, .int .i64 er]) ∧ Q w w'))
    (HP : Hid (∀ w, Calls Tryd.prog 24 #[.agg #[.int .i64 X, .int .i64 Y, .int .i64 W, .int .i64 H, .int .i64 C, .int .i64 R], .string t] w fun e w' => e = .returned (.tuple #[.int .i64 n, .int .i64 g]) ∧ Q w w'))
    (HRP : Hid (∀ w, Calls Tryd.prog 25 #[.agg #[.int .i64 X, .int .i64 Y, .int .i64 W, .int .i64 H, .int .i64 C, .int .i64 R], .string t] w fun e w' => e = .returned (.tuple #[.int .i64 n, .int .i64 g]) ∧ Q w w')) :
    Calls Tryd.prog 6 #[.agg #[.int .i64 X, .int .i64 Y, .int .i64 W, .int .i64 H, .int .i64 C, .int .i64 R], .int .i64 s, .string t] w fun e w' => e = .returned (.bool true) ∧ Q w w' := by
  have HM := Lib.hid hM
  have HS := Lib.hid (SeAt.fresh w X Y W H C R)
  have d : decide (100 < (t.size : Int)) = false := by simp; omega
  have hm : (t.size : Int) ≤ 100 := by omega
  clear hM ht
  go_enter Tryd.func6, Tryd.ntmps6
  go_wp2_with fail
  refine (HN.out _).mono ?_
  rintro e w1 ⟨rfl, q1⟩
  obtain ⟨k0, k1, k2, k3, k4, k5, k6⟩ := HS.out.next q1; clear k6
  go_wp2_with fail
  refine (HRN.out _).mono ?_
  rintro e w2 ⟨rfl, q2⟩
  clear k0 k1 k2 k3 k4 k5
  have q12 := q1.trans q2
  obtain ⟨k0, k1, k2, k3, k4, k5, k6⟩ := HS.out.next q12; clear k6
  go_wp2_with fail
  refine (HP.out _).mono ?_
  rintro e w3 ⟨rfl, q3⟩
  clear k0 k1 k2 k3 k4 k5
  have q13 := q12.trans q3
  obtain ⟨k0, k1, k2, k3, k4, k5, k6⟩ := HS.out.next q13; clear k6
  go_wp2_with fail
  refine (HRP.out _).mono ?_
  rintro e w4 ⟨rfl, q4⟩
  clear k0 k1 k2 k3 k4 k5
  have q14 := q13.trans q4
  go_wp2_with fail
  refine (awake_true _ ((HM.out.alloc _).next q14)).mono ?_
  rintro e w5 ⟨rfl, q5⟩
  go_wp2_with fail
  go_ret
  exact ⟨rfl, (q14.behind _).trans q5⟩

theorem walk (X Y W H C R s : Int) (t : ByteArray) (_ : I64 X) (_ : I64 Y) (_ : I64 W) (_ : I64 H) (_ : I64 C) (_ : I64 R) (_ : I64 s) (hm : t.size ≤ 9223372036854775807) (w : World) (hM : Mv w) :
    Calls Tryd.prog 6 #[.agg #[.int .i64 X, .int .i64 Y, .int .i64 W, .int .i64 H, .int .i64 C, .int .i64 R], .int .i64 s, .string t] w fun e w' => e = .returned (.bool true) ∧ Q w w' := by
  by_cases ht : 100 < t.size
  · exact long X Y W H C R s t ht hm w hM
  by_cases h : Grid.Ok X Y W H C R
  · obtain ⟨n, g, e⟩ := prs_shape C R t
    have HP : Hid (∀ w, Calls Tryd.prog 24 #[.agg #[.int .i64 X, .int .i64 Y, .int .i64 W, .int .i64 H, .int .i64 C, .int .i64 R], .string t] w fun e w' => e = .returned (.tuple #[.int .i64 n, .int .i64 g]) ∧ Q w w') := fun W' => by rw [← e]; exact parse_any X Y W H C R t W' h hm
    have HRP : Hid (∀ w, Calls Tryd.prog 25 #[.agg #[.int .i64 X, .int .i64 Y, .int .i64 W, .int .i64 H, .int .i64 C, .int .i64 R], .string t] w fun e w' => e = .returned (.tuple #[.int .i64 n, .int .i64 g]) ∧ Q w w') := fun W' => by rw [← e]; exact rparse_any X Y W H C R t W' h hm
    by_cases hs : s < 1 ∨ C * R < s
    · exact core X Y W H C R s 7 n g t _ ht w hM (fun W' => name_err X Y W H C R s 7 W' rfl (fun W' => find_none X Y W H C R s W' h hs)) (fun W' => rname_none X Y W H C R s W' h hs) HP HRP
    · exact core X Y W H C R s 0 n g t _ ht w hM (fun W' => name_nm X Y W H C R s W' h (by omega) (by omega)) (fun W' => rname_nm X Y W H C R s W' h (by omega) (by omega)) HP HRP
  · exact core X Y W H C R s 2 0 2 t _ ht w hM (fun W' => name_err X Y W H C R s 2 W' rfl (fun W' => find_bad X Y W H C R s W' h)) (fun W' => rname_bad X Y W H C R s W' h) (fun W' => parse_bad X Y W H C R t W' h) (fun W' => rparse_bad X Y W H C R t W' h)

theorem own : ownKnob Tryd.prog.godebug = none := by kernel_rfl

theorem contract (H : Type) (enc : TypeId × Value → H) (W : World) (base : Nat) (args : Array Value) (ds gs : List (DataW H)) (before : List MemPlace)
    (hval : ∀ (j : Nat) t v, Tryd.f6.params[j]? = some t → args[j]? = some v → Value.okWide Tryd.prog W .any base t v)
    (hW : DataW.Whole enc Tryd.prog Tryd.f6.params.toList Rows.sheetgridNamesSpec.vars false W args.toList ds gs before) (hL : laidMetH Tryd.prog Rows.sheetgridNamesRow.laid W) :
    Calls Tryd.prog 6 args W fun e W' => ∃ v, e = .returned v ∧ Rows.sheetgridNamesSpec.post enc Tryd.prog Tryd.f6 false true false false W args v W' := by
  have hW' := hW
  obtain ⟨p, q, hA0, hV, rfl, hfz, hnd⟩ := hW
  have hA : DataW.TrodAll enc Tryd.prog W 0 (fun _ => true) true Tryd.f6.params.toList args.toList ds p := hA0
  rw [Tryd.params6] at hA hval
  obtain ⟨v0, vs0, d0, ds0, p0, q0, hargs, rfl, rfl, h0, r0⟩ := trodAll_cons hA
  obtain ⟨v1, vs1, d1, ds1, p1, q1, rfl, rfl, rfl, h1, r1⟩ := trodAll_cons r0
  obtain ⟨v2, vs2, d2, ds2, p2, q2, rfl, rfl, rfl, h2, r2⟩ := trodAll_cons r1
  obtain ⟨rfl, rfl, rfl⟩ := trodAll_nil r2
  obtain rfl : args = #[v0, v1, v2] := by cases args; simp_all
  obtain ⟨rfl, rfl⟩ := trodVars_none hV
  obtain ⟨rfl, cs0, rfl, hs0, hz0⟩ := flat_open 4 (by kernel_rfl) Tryd.underlying25 (hval 0 25 v0 rfl rfl) h0
  obtain ⟨x00, x01, x02, x03, x04, x05, rfl, b00, b01, b02, b03, b04, b05⟩ := agg6_of (hs0.trans (show Tryd.prog.cellsOf 25 = 6 by kernel_rfl)) hz0
  obtain ⟨a1, rfl, rfl, rfl, w1⟩ := open_int Tryd.underlying3 (hval 1 3 v1 rfl rfl) h1
  obtain ⟨s2, rfl, rfl, rfl, ws2⟩ := ChangeMaps.open_string Tryd.underlying9 (hval 2 9 v2 rfl rfl) h2
  clear hA0
  simp only [List.append_nil] at hW'
  refine (walk x00 x01 x02 x03 x04 x05 a1 s2 b00 b01 b02 b03 b04 b05 (bd64 w1) ws2 W (mv_of_laid hL)).mono fun e W' ⟨he, bel⟩ => ?_
  subst he
  exact ⟨_, rfl, _, _, _, [], [], [], hW', trodAll_mk1 (shut_bool Tryd.underlying4 _), (trodAll_cons_mk (Below.trod laidOut (by kernel_rfl) (by decide +kernel) h0 bel (fun x hx => by cases hx)) (trodAll_cons_mk (shut_int Tryd.underlying3 w1) (trodAll_cons_mk (ChangeMaps.shut_string Tryd.underlying9 ws2) trodAll_mk0))), rfl, Below.frame bel _, fun h => by cases h⟩

def setRow (h : Array Obj) (g : Nat) (cs : Array Value) : Array Obj := h.modify g fun
  | .cells _ t frozen => .cells cs t frozen
  | o => o
/-- A world for the witness: the settled one, the listed tables as their initialisers lay them. -/
noncomputable def laidWorld (os : Os) : World :=
  { World.holding Tryd.prog os ⟨#[], #[], []⟩ with heap := (setRow (setRow (setRow (setRow (World.holding Tryd.prog os ⟨#[], #[], []⟩).heap 2 #[.int .u8 0, .int .u8 1, .int .u8 28, .int .u8 2, .int .u8 29, .int .u8 14, .int .u8 24, .int .u8 3, .int .u8 30, .int .u8 22, .int .u8 20, .int .u8 15, .int .u8 25, .int .u8 17, .int .u8 4, .int .u8 8, .int .u8 31, .int .u8 27, .int .u8 13, .int .u8 23, .int .u8 21, .int .u8 19, .int .u8 16, .int .u8 7, .int .u8 26, .int .u8 12, .int .u8 18, .int .u8 6, .int .u8 11, .int .u8 5, .int .u8 10, .int .u8 9]) 3 #[.int .u8 0, .int .u8 1, .int .u8 56, .int .u8 2, .int .u8 57, .int .u8 49, .int .u8 28, .int .u8 3, .int .u8 61, .int .u8 58, .int .u8 42, .int .u8 50, .int .u8 38, .int .u8 29, .int .u8 17, .int .u8 4, .int .u8 62, .int .u8 47, .int .u8 59, .int .u8 36, .int .u8 45, .int .u8 43, .int .u8 51, .int .u8 22, .int .u8 53, .int .u8 39, .int .u8 33, .int .u8 30, .int .u8 24, .int .u8 18, .int .u8 12, .int .u8 5, .int .u8 63, .int .u8 55, .int .u8 48, .int .u8 27, .int .u8 60, .int .u8 41, .int .u8 37, .int .u8 16, .int .u8 46, .int .u8 35, .int .u8 44, .int .u8 21, .int .u8 52, .int .u8 32, .int .u8 23, .int .u8 11, .int .u8 54, .int .u8 26, .int .u8 40, .int .u8 15, .int .u8 34, .int .u8 20, .int .u8 31, .int .u8 10, .int .u8 25, .int .u8 14, .int .u8 19, .int .u8 9, .int .u8 13, .int .u8 8, .int .u8 7, .int .u8 6]) 1 #[.int .u64 1, .int .u64 10, .int .u64 100, .int .u64 1000, .int .u64 10000, .int .u64 100000, .int .u64 1000000, .int .u64 10000000, .int .u64 100000000, .int .u64 1000000000, .int .u64 10000000000, .int .u64 100000000000, .int .u64 1000000000000, .int .u64 10000000000000, .int .u64 100000000000000, .int .u64 1000000000000000, .int .u64 10000000000000000, .int .u64 100000000000000000, .int .u64 1000000000000000000, .int .u64 10000000000000000000]) 0 #[.int .i64 (-1), .int .i64 0, .int .i64 0, .int .i64 (-1), .int .i64 1, .int .i64 0, .int .i64 0, .int .i64 1]) }
set_option maxRecDepth 100000 in
theorem laid_met (os : Os) : laidMet Tryd.prog Rows.sheetgridNamesRow.laid ((laidWorld os).forCall (fun _ _ => 0) ⟨#[], #[.agg #[.int .i64 0, .int .i64 0, .int .i64 0, .int .i64 0, .int .i64 0, .int .i64 0], .int .i64 0, .string ⟨#[]⟩], []⟩).memory :=
  laidMet_of_run' 8 (by kernel_rfl) (by kernel_rfl)
theorem reads (os : Os) {H : Type} (enc : TypeId × Value → H) : ∃ places, DataW.whole enc Tryd.prog ((laidWorld os).forCall (fun _ _ => 0) ⟨#[], #[.agg #[.int .i64 0, .int .i64 0, .int .i64 0, .int .i64 0, .int .i64 0, .int .i64 0], .int .i64 0, .string ⟨#[]⟩], []⟩).memory Tryd.f6.params.toList Rows.sheetgridNamesSpec.vars false #[Value.agg #[.int .i64 0, .int .i64 0, .int .i64 0, .int .i64 0, .int .i64 0, .int .i64 0], .int .i64 0, .string ⟨#[]⟩].toList 8 = some ([.agg [.agg [.lit (.int .i64 0), .lit (.int .i64 0)], .lit (.int .i64 0), .lit (.int .i64 0), .lit (.int .i64 0), .lit (.int .i64 0)], .lit (.int .i64 0), .lit (.string [])], [], places) :=
  ⟨[], by kernel_rfl⟩

set_option maxRecDepth 100000 in
theorem lifted (os : Os) (started : os.Started) (H : Type) (enc : TypeId × Value → H) (F : Stop.Interp) :
    ReturnsInHanded {} Tryd.checked os 6 .any ((OpenSpec.ofChange Rows.sheetgridNamesSpec).preRow enc Tryd.prog Tryd.f6 Rows.sheetgridNamesRow.domain false Rows.sheetgridNamesRow.laid) (((OpenSpec.ofChange Rows.sheetgridNamesSpec).at F).post enc Tryd.prog Tryd.f6 false true false false) := by
  obtain ⟨places, hx⟩ := reads os enc
  refine returnsInHanded_of_row (C := Tryd.checked) (s := OpenSpec.ofChange Rows.sheetgridNamesSpec) own started (by kernel_rfl) Tryd.func6
    (witness_row_at (enc := enc) (C := Tryd.checked) false (laidWorld os) #[.agg #[.int .i64 0, .int .i64 0, .int .i64 0, .int .i64 0, .int .i64 0, .int .i64 0], .int .i64 0, .string ⟨#[]⟩] rfl (by kernel_rfl) (by kernel_rfl) (by kernel_rfl)
      (OpenSpec.preRow_of_cond 8 hx (by kernel_rfl) (fun k hk => by cases hk) (by kernel_rfl) (laid_met os))) ?_
  intro W base args ds gs before hval hW _ _ _ hL _ _
  exact contract H enc W base args ds gs before hval hW hL

theorem said : Rows.SheetgridNamesSaid :=
  OpenClaim.holds_of_cond 6 Tryd.f6 rfl rfl rfl rfl rfl rfl rfl ⟨rfl, rfl, rfl, rfl, rfl⟩ rfl rfl rfl rfl rfl (by kernel_rfl) Tryd.func6 (by kernel_rfl)
    (of_decide_eq_true (by kernel_rfl)) (by unfold Func.isWrapper; first | (rw [if_pos (by decide +kernel)]; kernel_rfl) | (rw [if_neg (by decide +kernel)]; exact ⟨rfl, rfl⟩))
    (fun os started H enc _ F => by rw [OpenClaim.pre_eq_preRow]; exact lifted os started H enc F)

theorem plain (f : FuncId) (fn : Func) (hf : Tryd.pinned.checked.prog.funcNamed "mapsheets/mapsheetslaw40.SheetgridNames" = some f) (hfn : Tryd.pinned.checked.prog.funcs[f]? = some fn) :
    false = Tryd.pinned.checked.prog.looks [] ∧ ∀ (j : Nat) t, fn.params[j]? = some t → Tryd.pinned.checked.prog.wantsStandIn t = false := by
  obtain rfl : f = 6 := Option.some.inj ((show Tryd.prog.funcNamed "mapsheets/mapsheetslaw40.SheetgridNames" = some 6 by kernel_rfl).symm.trans hf) |>.symm
  obtain rfl : fn = Tryd.f6 := (Option.some.inj (Tryd.func6.symm.trans hfn)).symm
  refine ⟨by kernel_rfl, fun j t ht => ?_⟩
  rw [Tryd.params6] at ht
  have all : ∀ t ∈ Tryd.f6.params, Tryd.prog.wantsStandIn t = false := by rw [Tryd.params6]; decide +kernel
  exact all t (by rw [Tryd.params6]; exact Array.mem_of_getElem? ht)

theorem card : Rows.SheetgridNamesCardSaid :=
  Claim7.holds_tied_plain_at .later [] _ _ _ _ said (fun _ h => by cases h) (by kernel_rfl) (fun _ h => by cases h) sheetgridNames_row_tie rfl ⟨rfl, rfl⟩ (by kernel_rfl) rfl plain (by kernel_rfl)
end Go.Proofs.YtpnifjeelmfegaaDoor.sheetgridNames
namespace Go.Proofs.YtpnifjeelmfegaaDoor
theorem sheetgridNames_holds : Rows.SheetgridNamesCardSaid := sheetgridNames.card
#print axioms sheetgridNames_holds
end Go.Proofs.YtpnifjeelmfegaaDoor
