
/- For every position and text, SphereBack returns true: Parse reads what Print writes, and Print writes what Parse has read.
   Its listed tables are as the program's text lays them (the card ties them); no other condition. -/
import Derived.Test.YtmcobpgdledkdaaDoorSphN
import Derived.Test.YtmcobpgdledkdaaDoorFlat
import Derived.Test.YtmcobpgdledkdaaDoorCards
import Derived.Test.YtmcobpgdledkdaaDoorTie
import Derived.Test.YtmcobpgdledkdaaDoorSphLaid
import Derived.Test.YtmcobpgdledkdaaDoorSphBb
import Derived.Deep.DeepHandedRow
import Derived.Lib.LaidTab
import Derived.Deep.RegionHeld3
import Derived.ProofKit
import Derived.OpenShut
import Derived.JoinedOf
import Derived.JoinedAt
import Derived.SevenTiedAt
namespace Go.Proofs.YtmcobpgdledkdaaDoor.sphereBack
open Go.ChangeShapes Go.WideShapes Go.ChangeAt Go.RowKit
set_option linter.unusedVariables false

set_option maxHeartbeats 4000000 in
theorem vy (x y a b er : Int) (s t : ByteArray) (w : World) (hv : Sph.vld x y)
    (HPr : Hid (∀ w', Q w w' → Calls Tryd.prog 17 #[.agg #[.int .i64 x, .int .i64 y]] w' fun e w'' => e = .returned (.string t) ∧ Q w' w''))
    (HPa : Hid (∀ w, Calls Tryd.prog 15 #[.string t] w fun e w' => e = .returned (.tuple #[.agg #[.int .i64 x, .int .i64 y], .int .i64 0]) ∧ Q w w'))
    (HS : Hid (∀ w, Calls Tryd.prog 15 #[.string s] w fun e w' => e = .returned (.tuple #[.agg #[.int .i64 a, .int .i64 b], .int .i64 er]) ∧ Q w w')) (he : er = 0)
    (HPb : Hid (∀ w', Q w w' → Calls Tryd.prog 17 #[.agg #[.int .i64 a, .int .i64 b]] w' fun e w'' => e = .returned (.string s) ∧ Q w' w'')) :
    Calls Tryd.prog 7 #[.agg #[.int .i64 x, .int .i64 y], .string s] w fun e w' => e = .returned (.bool true) ∧ Q w w' := by
  have H1 := Lib.hid (fun W => rvalid_yes x y W hv)
  have H5 := Lib.hid awake_true
  have hs := str_eq (show s = s from rfl)
  subst he
  clear hv
  go_enter Tryd.func7, Tryd.ntmps7
  go_wp2_with fail
  refine (H1.out _).mono ?_
  rintro e w1 ⟨rfl, q1⟩
  have HK := Lib.hid (b_next q1 (heap_alloc_new _ _))
  have q01 := Lib.hid (q1.behind _)
  clear q1
  obtain ⟨k0, k1, k2, k3⟩ := row2 HK.out
  have z0 := block_lt_of_cell k0
  go_wp2_with fail
  refine (HPr.out _ q01.out).mono ?_
  rintro e w2 ⟨rfl, q2⟩
  clear k0 k1 k2 k3 z0
  go_wp2_with fail
  refine (HPa.out _).mono ?_
  rintro e w3 ⟨rfl, q3⟩
  have HK3 := Lib.hid (b_next q3 (b_next q2 HK.out))
  obtain ⟨k0, k1, k2, k3⟩ := row2 HK3.out
  have z0 := block_lt_of_cell k0
  have q03 := Lib.hid ((q01.out.trans (q2.trans q3)).alloc (.cells #[.int .i64 x, .int .i64 y] 23))
  go_wp2_with fail
  refine (HS.out _).mono ?_
  rintro e w4 ⟨rfl, q4⟩
  clear k0 k1 k2 k3 z0
  have q04 := Lib.hid (q03.out.trans q4)
  go_wp2_with fail
  refine (HPb.out _ (q04.out.alloc _)).mono ?_
  rintro e w5 ⟨rfl, q5⟩
  go_wp2_with fail
  refine (H5.out _).mono ?_
  rintro e w6 ⟨rfl, q6⟩
  go_wp2_with fail
  go_ret
  exact ⟨rfl, ((q04.out.alloc _).trans q5).trans q6⟩
set_option maxHeartbeats 4000000 in
theorem vn (x y a b er : Int) (s t : ByteArray) (w : World) (hv : Sph.vld x y)
    (HPr : Hid (∀ w', Q w w' → Calls Tryd.prog 17 #[.agg #[.int .i64 x, .int .i64 y]] w' fun e w'' => e = .returned (.string t) ∧ Q w' w''))
    (HPa : Hid (∀ w, Calls Tryd.prog 15 #[.string t] w fun e w' => e = .returned (.tuple #[.agg #[.int .i64 x, .int .i64 y], .int .i64 0]) ∧ Q w w'))
    (HS : Hid (∀ w, Calls Tryd.prog 15 #[.string s] w fun e w' => e = .returned (.tuple #[.agg #[.int .i64 a, .int .i64 b], .int .i64 er]) ∧ Q w w')) (he : (er != 0) = true) :
    Calls Tryd.prog 7 #[.agg #[.int .i64 x, .int .i64 y], .string s] w fun e w' => e = .returned (.bool true) ∧ Q w w' := by
  have H1 := Lib.hid (fun W => rvalid_yes x y W hv)
  have H5 := Lib.hid awake_true
  have hs := str_eq (show s = s from rfl)
  clear hv
  go_enter Tryd.func7, Tryd.ntmps7
  go_wp2_with fail
  refine (H1.out _).mono ?_
  rintro e w1 ⟨rfl, q1⟩
  have HK := Lib.hid (b_next q1 (heap_alloc_new _ _))
  have q01 := Lib.hid (q1.behind _)
  clear q1
  obtain ⟨k0, k1, k2, k3⟩ := row2 HK.out
  have z0 := block_lt_of_cell k0
  go_wp2_with fail
  refine (HPr.out _ q01.out).mono ?_
  rintro e w2 ⟨rfl, q2⟩
  clear k0 k1 k2 k3 z0
  go_wp2_with fail
  refine (HPa.out _).mono ?_
  rintro e w3 ⟨rfl, q3⟩
  have HK3 := Lib.hid (b_next q3 (b_next q2 HK.out))
  obtain ⟨k0, k1, k2, k3⟩ := row2 HK3.out
  have z0 := block_lt_of_cell k0
  have q03 := Lib.hid ((q01.out.trans (q2.trans q3)).alloc (.cells #[.int .i64 x, .int .i64 y] 23))
  go_wp2_with fail
  refine (HS.out _).mono ?_
  rintro e w4 ⟨rfl, q4⟩
  clear k0 k1 k2 k3 z0
  have q04 := Lib.hid (q03.out.trans q4)
  go_wp2_with fail
  refine (H5.out _).mono ?_
  rintro e w6 ⟨rfl, q6⟩
  go_wp2_with fail
  go_ret
  exact ⟨rfl, (q04.out.alloc _).trans q6⟩
set_option maxHeartbeats 4000000 in
theorem ny (x y a b er : Int) (s t : ByteArray) (w : World) (hv : ¬ Sph.vld x y)
    (HS : Hid (∀ w, Calls Tryd.prog 15 #[.string s] w fun e w' => e = .returned (.tuple #[.agg #[.int .i64 a, .int .i64 b], .int .i64 er]) ∧ Q w w')) (he : er = 0)
    (HPb : Hid (∀ w', Q w w' → Calls Tryd.prog 17 #[.agg #[.int .i64 a, .int .i64 b]] w' fun e w'' => e = .returned (.string s) ∧ Q w' w'')) :
    Calls Tryd.prog 7 #[.agg #[.int .i64 x, .int .i64 y], .string s] w fun e w' => e = .returned (.bool true) ∧ Q w w' := by
  have H1 := Lib.hid (fun W => rvalid_no x y W hv)
  have H5 := Lib.hid awake_true
  have hs := str_eq (show s = s from rfl)
  subst he
  clear hv
  go_enter Tryd.func7, Tryd.ntmps7
  go_wp2_with fail
  refine (H1.out _).mono ?_
  rintro e w1 ⟨rfl, q1⟩
  have q01 := Lib.hid (q1.behind _)
  go_wp2_with fail
  refine (HS.out _).mono ?_
  rintro e w4 ⟨rfl, q4⟩
  have q04 := Lib.hid (q01.out.trans q4)
  go_wp2_with fail
  refine (HPb.out _ (q04.out.alloc _)).mono ?_
  rintro e w5 ⟨rfl, q5⟩
  go_wp2_with fail
  refine (H5.out _).mono ?_
  rintro e w6 ⟨rfl, q6⟩
  go_wp2_with fail
  go_ret
  exact ⟨rfl, ((q04.out.alloc _).trans q5).trans q6⟩
set_option maxHeartbeats 4000000 in
theorem nn (x y a b er : Int) (s t : ByteArray) (w : World) (hv : ¬ Sph.vld x y)
    (HS : Hid (∀ w, Calls Tryd.prog 15 #[.string s] w fun e w' => e = .returned (.tuple #[.agg #[.int .i64 a, .int .i64 b], .int .i64 er]) ∧ Q w w')) (he : (er != 0) = true) :
    Calls Tryd.prog 7 #[.agg #[.int .i64 x, .int .i64 y], .string s] w fun e w' => e = .returned (.bool true) ∧ Q w w' := by
  have H1 := Lib.hid (fun W => rvalid_no x y W hv)
  have H5 := Lib.hid awake_true
  have hs := str_eq (show s = s from rfl)
  clear hv
  go_enter Tryd.func7, Tryd.ntmps7
  go_wp2_with fail
  refine (H1.out _).mono ?_
  rintro e w1 ⟨rfl, q1⟩
  have q01 := Lib.hid (q1.behind _)
  go_wp2_with fail
  refine (HS.out _).mono ?_
  rintro e w4 ⟨rfl, q4⟩
  have q04 := Lib.hid (q01.out.trans q4)
  go_wp2_with fail
  refine (H5.out _).mono ?_
  rintro e w6 ⟨rfl, q6⟩
  go_wp2_with fail
  go_ret
  exact ⟨rfl, (q04.out.alloc _).trans q6⟩
theorem readsBack (s : ByteArray) (hm : s.size ≤ 9223372036854775807) : ∃ a b er, (∀ w, Calls Tryd.prog 15 #[.string s] w fun e w' => e = .returned (.tuple #[.agg #[.int .i64 a, .int .i64 b], .int .i64 er]) ∧ Q w w') ∧ (er = 0 → (⟨(Sph.prt a b).toArray⟩ : ByteArray) = s) := by
  rcases spc_or s with h | ⟨j, h⟩
  · exact ⟨0, 0, 20, fun w => sparse_none s hm h w, fun k => by cases k⟩
  · exact ⟨_, _, _, fun w => sparse_at s hm j h w, fun k => Sph.here s j h k⟩
theorem walk (x y : Int) (s : ByteArray) (_ : I64 x) (_ : I64 y) (hm : s.size ≤ maxLen) (w : World) (hT : Tens w) : Calls Tryd.prog 7 #[.agg #[.int .i64 x, .int .i64 y], .string s] w fun e w' => e = .returned (.bool true) ∧ Q w w' := by
  obtain ⟨a, b, er, hs, hp⟩ := readsBack s hm
  have hb : er = 0 → ∀ w', Q w w' → Calls Tryd.prog 17 #[.agg #[.int .i64 a, .int .i64 b]] w' fun e w'' => e = .returned (.string s) ∧ Q w' w'' := fun k w' q => by
    have := sprint_any a b w' ((hT _).next q)
    rw [hp k] at this
    exact this
  by_cases hv : Sph.vld x y
  · obtain ⟨j, h1, h2⟩ := Sph.there x y hv
    have HPr : ∀ w', Q w w' → Calls Tryd.prog 17 #[.agg #[.int .i64 x, .int .i64 y]] w' fun e w'' => e = .returned (.string ⟨(Sph.prt x y).toArray⟩) ∧ Q w' w'' := fun w' q => sprint_any x y w' ((hT _).next q)
    have hz : (⟨(Sph.prt x y).toArray⟩ : ByteArray).size ≤ 9223372036854775807 := by
      rw [size_mk]
      unfold Sph.prt
      have := Sph.wr_len y 78 83
      have := Sph.wr_len x 69 87
      split <;> simp <;> omega
    have HPa : ∀ w, Calls Tryd.prog 15 #[.string ⟨(Sph.prt x y).toArray⟩] w fun e w' => e = .returned (.tuple #[.agg #[.int .i64 x, .int .i64 y], .int .i64 0]) ∧ Q w w' := fun w => by
      have := sparse_at _ hz j h1 w
      rw [h2] at this
      exact this
    by_cases he : er = 0
    · exact vy x y a b er s _ w hv (Lib.hid HPr) (Lib.hid HPa) (Lib.hid hs) he (Lib.hid (hb he))
    · exact vn x y a b er s _ w hv (Lib.hid HPr) (Lib.hid HPa) (Lib.hid hs) (by simpa using he)
  · by_cases he : er = 0
    · exact ny x y a b er s s w hv (Lib.hid hs) he (Lib.hid (hb he))
    · exact nn x y a b er s s w hv (Lib.hid hs) (by simpa using he)

theorem own : ownKnob Tryd.prog.godebug = none := by kernel_rfl

theorem contract (H : Type) (enc : TypeId × Value → H) (W : World) (base : Nat) (args : Array Value) (ds gs : List (DataW H)) (before : List MemPlace)
    (hval : ∀ (j : Nat) t v, Tryd.f7.params[j]? = some t → args[j]? = some v → Value.okWide Tryd.prog W .any base t v)
    (hW : DataW.Whole enc Tryd.prog Tryd.f7.params.toList Rows.sphereBackSpec.vars false W args.toList ds gs before) (hL : laidMetH Tryd.prog Rows.sphereBackRow.laid W) :
    Calls Tryd.prog 7 args W fun e W' => ∃ v, e = .returned v ∧ Rows.sphereBackSpec.post enc Tryd.prog Tryd.f7 false true false false W args v W' := by
  have hW' := hW
  obtain ⟨p, q, hA0, hV, rfl, hfz, hnd⟩ := hW
  have hA : DataW.TrodAll enc Tryd.prog W 0 (fun _ => true) true Tryd.f7.params.toList args.toList ds p := hA0
  rw [Tryd.params7] at hA hval
  obtain ⟨v0, vs0, d0, ds0, p0, q0, hargs, rfl, rfl, h0, r0⟩ := trodAll_cons hA
  obtain ⟨v1, vs1, d1, ds1, p1, q1, rfl, rfl, rfl, h1, r1⟩ := trodAll_cons r0
  obtain ⟨rfl, rfl, rfl⟩ := trodAll_nil r1
  obtain rfl : args = #[v0, v1] := by cases args; simp_all
  obtain ⟨rfl, rfl⟩ := trodVars_none hV
  obtain ⟨rfl, cs0, rfl, hs0, hz0⟩ := flat_open 4 (by kernel_rfl) Tryd.underlying23 (hval 0 23 v0 rfl rfl) h0
  obtain ⟨x00, x01, rfl, b00, b01⟩ := agg2_of (hs0.trans (show Tryd.prog.cellsOf 23 = 2 by kernel_rfl)) hz0
  obtain ⟨s1, rfl, rfl, rfl, ws1⟩ := ChangeMaps.open_string Tryd.underlying9 (hval 1 9 v1 rfl rfl) h1
  clear hA0
  simp only [List.append_nil] at hW'
  refine (walk x00 x01 s1 b00 b01 ws1 W (mv_of_laid hL)).mono fun e W' ⟨he, bel⟩ => ?_
  subst he
  exact ⟨_, rfl, _, _, _, [], [], [], hW', trodAll_mk1 (shut_bool Tryd.underlying4 _), (trodAll_cons_mk (Below.trod laidOut (by kernel_rfl) (by decide +kernel) h0 bel (fun x hx => by cases hx)) (trodAll_cons_mk (ChangeMaps.shut_string Tryd.underlying9 ws1) trodAll_mk0)), rfl, Below.frame bel _, fun h => by cases h⟩

def setRow (h : Array Obj) (g : Nat) (cs : Array Value) : Array Obj := h.modify g fun
  | .cells _ t frozen => .cells cs t frozen
  | o => o
/-- A world for the witness: the settled one, the listed tables as their initialisers lay them. -/
noncomputable def laidWorld (os : Os) : World :=
  { World.holding Tryd.prog os ⟨#[], #[], []⟩ with heap := (setRow (setRow (setRow (World.holding Tryd.prog os ⟨#[], #[], []⟩).heap 4 #[.int .u8 0, .int .u8 1, .int .u8 28, .int .u8 2, .int .u8 29, .int .u8 14, .int .u8 24, .int .u8 3, .int .u8 30, .int .u8 22, .int .u8 20, .int .u8 15, .int .u8 25, .int .u8 17, .int .u8 4, .int .u8 8, .int .u8 31, .int .u8 27, .int .u8 13, .int .u8 23, .int .u8 21, .int .u8 19, .int .u8 16, .int .u8 7, .int .u8 26, .int .u8 12, .int .u8 18, .int .u8 6, .int .u8 11, .int .u8 5, .int .u8 10, .int .u8 9]) 5 #[.int .u8 0, .int .u8 1, .int .u8 56, .int .u8 2, .int .u8 57, .int .u8 49, .int .u8 28, .int .u8 3, .int .u8 61, .int .u8 58, .int .u8 42, .int .u8 50, .int .u8 38, .int .u8 29, .int .u8 17, .int .u8 4, .int .u8 62, .int .u8 47, .int .u8 59, .int .u8 36, .int .u8 45, .int .u8 43, .int .u8 51, .int .u8 22, .int .u8 53, .int .u8 39, .int .u8 33, .int .u8 30, .int .u8 24, .int .u8 18, .int .u8 12, .int .u8 5, .int .u8 63, .int .u8 55, .int .u8 48, .int .u8 27, .int .u8 60, .int .u8 41, .int .u8 37, .int .u8 16, .int .u8 46, .int .u8 35, .int .u8 44, .int .u8 21, .int .u8 52, .int .u8 32, .int .u8 23, .int .u8 11, .int .u8 54, .int .u8 26, .int .u8 40, .int .u8 15, .int .u8 34, .int .u8 20, .int .u8 31, .int .u8 10, .int .u8 25, .int .u8 14, .int .u8 19, .int .u8 9, .int .u8 13, .int .u8 8, .int .u8 7, .int .u8 6]) 1 #[.int .u64 1, .int .u64 10, .int .u64 100, .int .u64 1000, .int .u64 10000, .int .u64 100000, .int .u64 1000000, .int .u64 10000000, .int .u64 100000000, .int .u64 1000000000, .int .u64 10000000000, .int .u64 100000000000, .int .u64 1000000000000, .int .u64 10000000000000, .int .u64 100000000000000, .int .u64 1000000000000000, .int .u64 10000000000000000, .int .u64 100000000000000000, .int .u64 1000000000000000000, .int .u64 10000000000000000000]) }
set_option maxRecDepth 100000 in
theorem laid_met (os : Os) : laidMet Tryd.prog Rows.sphereBackRow.laid ((laidWorld os).forCall (fun _ _ => 0) ⟨#[], #[.agg #[.int .i64 0, .int .i64 0], .string ⟨#[]⟩], []⟩).memory :=
  laidMet_of_run' 8 (by kernel_rfl) (by kernel_rfl)
theorem reads (os : Os) {H : Type} (enc : TypeId × Value → H) : ∃ places, DataW.whole enc Tryd.prog ((laidWorld os).forCall (fun _ _ => 0) ⟨#[], #[.agg #[.int .i64 0, .int .i64 0], .string ⟨#[]⟩], []⟩).memory Tryd.f7.params.toList Rows.sphereBackSpec.vars false #[Value.agg #[.int .i64 0, .int .i64 0], .string ⟨#[]⟩].toList 8 = some ([.agg [.lit (.int .i64 0), .lit (.int .i64 0)], .lit (.string [])], [], places) :=
  ⟨[], by kernel_rfl⟩

set_option maxRecDepth 100000 in
theorem lifted (os : Os) (started : os.Started) (H : Type) (enc : TypeId × Value → H) (F : Stop.Interp) :
    ReturnsInHanded {} Tryd.checked os 7 .any ((OpenSpec.ofChange Rows.sphereBackSpec).preRow enc Tryd.prog Tryd.f7 Rows.sphereBackRow.domain false Rows.sphereBackRow.laid) (((OpenSpec.ofChange Rows.sphereBackSpec).at F).post enc Tryd.prog Tryd.f7 false true false false) := by
  obtain ⟨places, hx⟩ := reads os enc
  refine returnsInHanded_of_row (C := Tryd.checked) (s := OpenSpec.ofChange Rows.sphereBackSpec) own started (by kernel_rfl) Tryd.func7
    (witness_row_at (enc := enc) (C := Tryd.checked) false (laidWorld os) #[.agg #[.int .i64 0, .int .i64 0], .string ⟨#[]⟩] rfl (by kernel_rfl) (by kernel_rfl) (by kernel_rfl)
      (OpenSpec.preRow_of_cond 8 hx (by kernel_rfl) (fun k hk => by cases hk) (by kernel_rfl) (laid_met os))) ?_
  intro W base args ds gs before hval hW _ _ _ hL _ _
  exact contract H enc W base args ds gs before hval hW hL

theorem said : Rows.SphereBackSaid :=
  OpenClaim.holds_of_cond 7 Tryd.f7 rfl rfl rfl rfl rfl rfl rfl ⟨rfl, rfl, rfl, rfl, rfl⟩ rfl rfl rfl rfl rfl (by kernel_rfl) Tryd.func7 (by kernel_rfl)
    (of_decide_eq_true (by kernel_rfl)) (by unfold Func.isWrapper; first | (rw [if_pos (by decide +kernel)]; kernel_rfl) | (rw [if_neg (by decide +kernel)]; exact ⟨rfl, rfl⟩))
    (fun os started H enc _ F => by rw [OpenClaim.pre_eq_preRow]; exact lifted os started H enc F)

theorem plain (f : FuncId) (fn : Func) (hf : Tryd.pinned.checked.prog.funcNamed "mapsheets/mapsheetslaw12.SphereBack" = some f) (hfn : Tryd.pinned.checked.prog.funcs[f]? = some fn) :
    false = Tryd.pinned.checked.prog.looks [] ∧ ∀ (j : Nat) t, fn.params[j]? = some t → Tryd.pinned.checked.prog.wantsStandIn t = false := by
  obtain rfl : f = 7 := Option.some.inj ((show Tryd.prog.funcNamed "mapsheets/mapsheetslaw12.SphereBack" = some 7 by kernel_rfl).symm.trans hf) |>.symm
  obtain rfl : fn = Tryd.f7 := (Option.some.inj (Tryd.func7.symm.trans hfn)).symm
  refine ⟨by kernel_rfl, fun j t ht => ?_⟩
  rw [Tryd.params7] at ht
  have all : ∀ t ∈ Tryd.f7.params, Tryd.prog.wantsStandIn t = false := by rw [Tryd.params7]; decide +kernel
  exact all t (by rw [Tryd.params7]; exact Array.mem_of_getElem? ht)

theorem card : Rows.SphereBackCardSaid :=
  Claim7.holds_tied_plain_at .later [] _ _ _ _ said (fun _ h => by cases h) (by kernel_rfl) (fun _ h => by cases h) sphereBack_row_tie rfl ⟨rfl, rfl⟩ (by kernel_rfl) rfl plain (by kernel_rfl)
end Go.Proofs.YtmcobpgdledkdaaDoor.sphereBack
namespace Go.Proofs.YtmcobpgdledkdaaDoor
theorem sphereBack_holds : Rows.SphereBackCardSaid := sphereBack.card
#print axioms sphereBack_holds
end Go.Proofs.YtmcobpgdledkdaaDoor
