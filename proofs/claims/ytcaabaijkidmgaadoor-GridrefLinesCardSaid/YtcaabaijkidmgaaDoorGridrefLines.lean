
/- For every projection and line, GridrefLines returns true: Meridian and Parallel return the specified points of the graticule's lines, or the specified errors.
   Its listed tables are as the program's text lays them (the card ties them); no other condition. -/
import Derived.Test.YtcaabaijkidmgaaDoorGrfQ
import Derived.Test.YtcaabaijkidmgaaDoorPP
import Derived.Test.YtcaabaijkidmgaaDoorFlat
import Derived.Test.YtcaabaijkidmgaaDoorCards
import Derived.Test.YtcaabaijkidmgaaDoorTie
import Derived.Deep.DeepHandedRow
import Derived.Lib.LaidTab
import Derived.Deep.RegionHeld3
import Derived.ProofKit
import Derived.OpenShut
import Derived.JoinedOf
import Derived.JoinedAt
import Derived.SevenTiedAt
namespace Go.Proofs.YtcaabaijkidmgaaDoor.gridrefLines
open Go.ChangeShapes Go.WideShapes Go.ChangeAt Go.RowKit
set_option linter.unusedVariables false

set_option maxHeartbeats 4000000 in
theorem core (K L A S c a b st em ep : Int) (lm lp : List (Int × Int)) (w : World) (hm : lm.length ≤ 4096) (hp : lp.length ≤ 4096)
    (H1 : Hid (∀ w, Calls Tryd.prog 20 #[.agg #[.int .i64 K, .int .i64 L, .int .i64 A, .int .i64 S], .int .i64 c, .int .i64 a, .int .i64 b, .int .i64 st] w (PathPost lm em w)))
    (H2 : Hid (∀ w, Calls Tryd.prog 21 #[.agg #[.int .i64 K, .int .i64 L, .int .i64 A, .int .i64 S], .int .i64 c, .int .i64 a, .int .i64 b, .int .i64 st] w (PathPost lm em w)))
    (H3 : Hid (∀ w, Calls Tryd.prog 23 #[.agg #[.int .i64 K, .int .i64 L, .int .i64 A, .int .i64 S], .int .i64 c, .int .i64 a, .int .i64 b, .int .i64 st] w (PathPost lp ep w)))
    (H4 : Hid (∀ w, Calls Tryd.prog 24 #[.agg #[.int .i64 K, .int .i64 L, .int .i64 A, .int .i64 S], .int .i64 c, .int .i64 a, .int .i64 b, .int .i64 st] w (PathPost lp ep w))) :
    Calls Tryd.prog 7 #[.agg #[.int .i64 K, .int .i64 L, .int .i64 A, .int .i64 S], .agg #[.int .i64 c, .int .i64 a, .int .i64 b, .int .i64 st]] w fun e w' => e = .returned (.bool true) ∧ Q w w' := by
  have H5 := Lib.hid gawake_true
  have HP := Lib.hid (b_next ((Q.refl _).alloc (.cells #[.int .i64 c, .int .i64 a, .int .i64 b, .int .i64 st] 47)) (heap_alloc_new w (.cells #[.int .i64 K, .int .i64 L, .int .i64 A, .int .i64 S] 45)))
  have HL := Lib.hid (new1 w (.cells #[.int .i64 K, .int .i64 L, .int .i64 A, .int .i64 S] 45) (.cells #[.int .i64 c, .int .i64 a, .int .i64 b, .int .i64 st] 47))
  have em1 : (em != em) = false := by simp
  have ep1 : (ep == ep) = true := by simp
  go_enter Tryd.func7, Tryd.ntmps7
  go_wp2_with fail
  refine (H1.out _).mono ?_
  rintro e w1 ⟨v1, rfl, i1, q1⟩
  have I1 := Lib.hid i1
  obtain ⟨p0, p1, p2, p3⟩ := pr4 (b_next (q1) HP.out); obtain ⟨l0, l1, l2, l3⟩ := pr4 (b_next (q1) HL.out); have z0 := block_lt_of_cell p0; have z1 := block_lt_of_cell l0
  clear i1
  go_wp2_with fail
  refine (H2.out _).mono ?_
  rintro e w2 ⟨v2, rfl, i2, q2⟩
  have I2 := Lib.hid i2
  clear p0 p1 p2 p3 l0 l1 l2 l3 z0 z1
  clear i2
  go_wp2_with fail
  refine (gsame_true _ _ lm _ (I1.out.next q2) I2.out (by omega)).mono ?_
  rintro e w3 ⟨rfl, q3⟩
  have q13 := (q1.trans q2).trans q3
  clear q1 q2 q3 I1 I2
  obtain ⟨p0, p1, p2, p3⟩ := pr4 (b_next (q13) HP.out); obtain ⟨l0, l1, l2, l3⟩ := pr4 (b_next (q13) HL.out); have z0 := block_lt_of_cell p0; have z1 := block_lt_of_cell l0
  go_wp2_with fail
  refine (H3.out _).mono ?_
  rintro e w4 ⟨v4, rfl, i4, q4⟩
  have I4 := Lib.hid i4
  clear p0 p1 p2 p3 l0 l1 l2 l3 z0 z1
  clear i4
  obtain ⟨p0, p1, p2, p3⟩ := pr4 (b_next (q13.trans q4) HP.out); obtain ⟨l0, l1, l2, l3⟩ := pr4 (b_next (q13.trans q4) HL.out); have z0 := block_lt_of_cell p0; have z1 := block_lt_of_cell l0
  go_wp2_with fail
  refine (H4.out _).mono ?_
  rintro e w5 ⟨v5, rfl, i5, q5⟩
  have I5 := Lib.hid i5
  clear p0 p1 p2 p3 l0 l1 l2 l3 z0 z1
  clear i5
  go_wp2_with fail
  refine (gsame_true _ _ lp _ (I4.out.next q5) I5.out (by omega)).mono ?_
  rintro e w6 ⟨rfl, q6⟩
  go_wp2_with fail
  refine (H5.out _).mono ?_
  rintro e w7 ⟨rfl, q7⟩
  go_wp2_with fail
  go_ret
  exact ⟨rfl, ((((q13.trans q4).trans q5).trans q6).trans q7).behind _ |>.behind _⟩
theorem pl_len (K L A S : Int) (l : List (Int × Int)) (h : l.length ≤ 4096) : (Prj.pl K L A S l).length ≤ 4096 := by
  unfold Prj.pl
  split
  · have := Prj.pth_len K L A S l l.length
    omega
  · simp
theorem walk (K L A S c a b st : Int) (_ : I64 K) (_ : I64 L) (_ : I64 A) (_ : I64 S) (_ : I64 c) (_ : I64 a) (_ : I64 b) (hst : I64 st) (w : World) : Calls Tryd.prog 7 #[.agg #[.int .i64 K, .int .i64 L, .int .i64 A, .int .i64 S], .agg #[.int .i64 c, .int .i64 a, .int .i64 b, .int .i64 st]] w fun e w' => e = .returned (.bool true) ∧ Q w w' := by
  by_cases h : Prj.Ok K L A S
  rotate_left
  · have key : ∀ er : Int, (er != 0) = true → (∀ w, Calls Tryd.prog 56 #[.agg #[.int .i64 K, .int .i64 L, .int .i64 A, .int .i64 S]] w fun e w' => e = .returned (.int .i64 er) ∧ Q w w') → (∀ w, Calls Tryd.prog 44 #[.agg #[.int .i64 K, .int .i64 L, .int .i64 A, .int .i64 S]] w fun e w' => e = .returned (.int .i64 er) ∧ Q w w') → Calls Tryd.prog 7 #[.agg #[.int .i64 K, .int .i64 L, .int .i64 A, .int .i64 S], .agg #[.int .i64 c, .int .i64 a, .int .i64 b, .int .i64 st]] w fun e w' => e = .returned (.bool true) ∧ Q w w' := fun er her h1 h2 =>
      core K L A S c a b st er er [] [] w (by simp) (by simp) (fun w => mer_err K L A S c a b st er her w (fun w => steps_err K L A S a b st er her w h1)) (fun w => rmer_of K L A S c a b st er [] w (fun w => rline_err K L A S c a b st er true her w h2))
        (fun w => par_err K L A S c a b st er her w (fun w => steps_err K L A S a b st er her w h1)) (fun w => rpar_of K L A S c a b st er [] w (fun w => rline_err K L A S c a b st er false her w h2))
    by_cases hk : K < 1 ∨ 4 < K
    · exact key 9 rfl (fun W => pcheck_kind K L A S W hk) (fun W => rpcheck_kind K L A S W hk)
    · exact key 2 rfl (fun W => pcheck_range K L A S W (by omega) (by omega) h) (fun W => rpcheck_range K L A S W (by omega) (by omega) h)
  have s1 : st ≤ 9223372036854775807 := hst.2
  by_cases hr : Grf.inr a b st
  rotate_left
  · exact core K L A S c a b st 1 1 [] [] w (by simp) (by simp) (fun w => mer_err K L A S c a b st 1 rfl w (fun w => steps_arg K L A S a b st w h hr)) (fun w => rmer_of K L A S c a b st 1 [] w (fun w => rline_arg K L A S c a b st true w h hr))
      (fun w => par_err K L A S c a b st 1 rfl w (fun w => steps_arg K L A S a b st w h hr)) (fun w => rpar_of K L A S c a b st 1 [] w (fun w => rline_arg K L A S c a b st false w h hr))
  have c0 := Grf.cl_nn (b - a) st (by have := hr.2.1; omega) hr.1
  by_cases hn : 4096 ≤ Grf.cl (b - a) st
  · obtain ⟨l, l0, l1, hl⟩ : ∃ l : List Int, 4096 < l.length ∧ l.length ≤ 5000 ∧ ∀ w, Calls Tryd.prog 60 #[.int .i64 a, .int .i64 b, .int .i64 st] w (NumPost l w) := by
      by_cases h7 : Grf.cl (b - a) st = 4096
      · exact ⟨_, by rw [List.length_append, Grf.num_len]; simp, by rw [List.length_append, Grf.num_len]; simp, fun w => rnumbers_in a b st 4096 w hr s1 (by omega) (by omega) (by omega) (by omega)⟩
      · exact ⟨_, by rw [List.length_append, Grf.num_len]; simp, by rw [List.length_append, Grf.num_len]; simp, fun w => rnumbers_in a b st 4097 w hr s1 (by omega) (by omega) (by omega) (by omega)⟩
    exact core K L A S c a b st 3 3 [] [] w (by simp) (by simp) (fun w => mer_err K L A S c a b st 3 rfl w (fun w => steps_limit K L A S a b st w h hr s1 hn)) (fun w => rmer_of K L A S c a b st 3 [] w (fun w => rline_limit K L A S c a b st true l w h hr l0 l1 hl))
      (fun w => par_err K L A S c a b st 3 rfl w (fun w => steps_limit K L A S a b st w h hr s1 hn)) (fun w => rpar_of K L A S c a b st 3 [] w (fun w => rline_limit K L A S c a b st false l w h hr l0 l1 hl))
  obtain ⟨n, hcn⟩ : ∃ n : Nat, Grf.cl (b - a) st = (n : Int) := ⟨(Grf.cl (b - a) st).toNat, by omega⟩
  have hll : (Grf.num a st n ++ [b]).length ≤ 4096 := by rw [List.length_append, Grf.num_len]; simp; omega
  have hst' := fun w => steps_in K L A S a b st n w h hr s1 hcn (by omega)
  have hnu : ∀ w, Calls Tryd.prog 60 #[.int .i64 a, .int .i64 b, .int .i64 st] w (NumPost (Grf.num a st n ++ [b]) w) := by
    intro w
    by_cases hz : n = 0
    · subst hz
      have : b = a := by
        have := (Grf.cl_iff (b - a) st 0 (by have := hr.2.1; omega) hr.1).2
        have := hr.2.1
        omega
      subst this
      exact rnumbers_zero b st w
    · exact rnumbers_in a b st n w hr s1 (by omega) (by omega) (by omega) (by omega)
  exact core K L A S c a b st _ _ _ _ w (pl_len K L A S _ (by unfold Grf.mer; rw [List.length_map]; exact hll)) (pl_len K L A S _ (by unfold Grf.par; rw [List.length_map]; exact hll))
    (fun w => mer_in K L A S c a b st _ w h hll hst') (fun w => rmer_of K L A S c a b st _ _ w (fun w => rline_mer K L A S c a b st _ w h hr hll hnu))
    (fun w => par_in K L A S c a b st _ w h hll hst') (fun w => rpar_of K L A S c a b st _ _ w (fun w => rline_par K L A S c a b st _ w h hr hll hnu))

theorem own : ownKnob Tryd.prog.godebug = none := by kernel_rfl

set_option maxRecDepth 100000 in
theorem contract (H : Type) (enc : TypeId × Value → H) (W : World) (base : Nat) (args : Array Value) (ds gs : List (DataW H)) (before : List MemPlace)
    (hval : ∀ (j : Nat) t v, Tryd.f7.params[j]? = some t → args[j]? = some v → Value.okWide Tryd.prog W .any base t v)
    (hW : DataW.Whole enc Tryd.prog Tryd.f7.params.toList Rows.gridrefLinesSpec.vars false W args.toList ds gs before) (hL : laidMetH Tryd.prog Rows.gridrefLinesRow.laid W) :
    Calls Tryd.prog 7 args W fun e W' => ∃ v, e = .returned v ∧ Rows.gridrefLinesSpec.post enc Tryd.prog Tryd.f7 false true false false W args v W' := by
  have hW' := hW
  obtain ⟨p, q, hA0, hV, rfl, hfz, hnd⟩ := hW
  have hA : DataW.TrodAll enc Tryd.prog W 0 (fun _ => true) true Tryd.f7.params.toList args.toList ds p := hA0
  rw [Tryd.params7] at hA hval
  obtain ⟨v0, vs0, d0, ds0, p0, q0, hargs, rfl, rfl, h0, r0⟩ := trodAll_cons hA
  obtain ⟨v1, vs1, d1, ds1, p1, q1, rfl, rfl, rfl, h1, r1⟩ := trodAll_cons r0
  obtain ⟨rfl, rfl, rfl⟩ := trodAll_nil r1
  obtain rfl : args = #[v0, v1] := by cases args; simp_all
  obtain ⟨rfl, rfl⟩ := trodVars_none hV
  obtain ⟨rfl, cs0, rfl, hs0, hz0⟩ := flat_open 4 (by kernel_rfl) Tryd.underlying45 (hval 0 45 v0 rfl rfl) h0
  obtain ⟨x00, x01, x02, x03, rfl, b00, b01, b02, b03⟩ := agg4_of (hs0.trans (show Tryd.prog.cellsOf 45 = 4 by kernel_rfl)) hz0
  obtain ⟨rfl, cs1, rfl, hs1, hz1⟩ := flat_open 4 (by kernel_rfl) Tryd.underlying47 (hval 1 47 v1 rfl rfl) h1
  obtain ⟨x10, x11, x12, x13, rfl, b10, b11, b12, b13⟩ := agg4_of (hs1.trans (show Tryd.prog.cellsOf 47 = 4 by kernel_rfl)) hz1
  clear hA0
  simp only [List.append_nil] at hW'
  refine (walk x00 x01 x02 x03 x10 x11 x12 x13 b00 b01 b02 b03 b10 b11 b12 b13 W).mono fun e W' ⟨he, bel⟩ => ?_
  subst he
  exact ⟨_, rfl, _, _, _, [], [], [], hW', trodAll_mk1 (shut_bool Tryd.underlying4 _), (trodAll_cons_mk (Below.trod laidOut (by kernel_rfl) (by decide +kernel) h0 bel (fun x hx => by cases hx)) (trodAll_cons_mk (Below.trod laidOut (by kernel_rfl) (by decide +kernel) h1 bel (fun x hx => by cases hx)) trodAll_mk0)), rfl, Below.frame bel _, fun h => by cases h⟩

def setRow (h : Array Obj) (g : Nat) (cs : Array Value) : Array Obj := h.modify g fun
  | .cells _ t frozen => .cells cs t frozen
  | o => o
/-- A world for the witness: the settled one, the listed tables as their initialisers lay them. -/
noncomputable def laidWorld (os : Os) : World :=
  { World.holding Tryd.prog os ⟨#[], #[], []⟩ with heap := (setRow (setRow (setRow (World.holding Tryd.prog os ⟨#[], #[], []⟩).heap 3 #[.int .u8 0, .int .u8 1, .int .u8 28, .int .u8 2, .int .u8 29, .int .u8 14, .int .u8 24, .int .u8 3, .int .u8 30, .int .u8 22, .int .u8 20, .int .u8 15, .int .u8 25, .int .u8 17, .int .u8 4, .int .u8 8, .int .u8 31, .int .u8 27, .int .u8 13, .int .u8 23, .int .u8 21, .int .u8 19, .int .u8 16, .int .u8 7, .int .u8 26, .int .u8 12, .int .u8 18, .int .u8 6, .int .u8 11, .int .u8 5, .int .u8 10, .int .u8 9]) 4 #[.int .u8 0, .int .u8 1, .int .u8 56, .int .u8 2, .int .u8 57, .int .u8 49, .int .u8 28, .int .u8 3, .int .u8 61, .int .u8 58, .int .u8 42, .int .u8 50, .int .u8 38, .int .u8 29, .int .u8 17, .int .u8 4, .int .u8 62, .int .u8 47, .int .u8 59, .int .u8 36, .int .u8 45, .int .u8 43, .int .u8 51, .int .u8 22, .int .u8 53, .int .u8 39, .int .u8 33, .int .u8 30, .int .u8 24, .int .u8 18, .int .u8 12, .int .u8 5, .int .u8 63, .int .u8 55, .int .u8 48, .int .u8 27, .int .u8 60, .int .u8 41, .int .u8 37, .int .u8 16, .int .u8 46, .int .u8 35, .int .u8 44, .int .u8 21, .int .u8 52, .int .u8 32, .int .u8 23, .int .u8 11, .int .u8 54, .int .u8 26, .int .u8 40, .int .u8 15, .int .u8 34, .int .u8 20, .int .u8 31, .int .u8 10, .int .u8 25, .int .u8 14, .int .u8 19, .int .u8 9, .int .u8 13, .int .u8 8, .int .u8 7, .int .u8 6]) 0 #[.int .u64 1, .int .u64 10, .int .u64 100, .int .u64 1000, .int .u64 10000, .int .u64 100000, .int .u64 1000000, .int .u64 10000000, .int .u64 100000000, .int .u64 1000000000, .int .u64 10000000000, .int .u64 100000000000, .int .u64 1000000000000, .int .u64 10000000000000, .int .u64 100000000000000, .int .u64 1000000000000000, .int .u64 10000000000000000, .int .u64 100000000000000000, .int .u64 1000000000000000000, .int .u64 10000000000000000000]) }
set_option maxRecDepth 100000 in
theorem laid_met (os : Os) : laidMet Tryd.prog Rows.gridrefLinesRow.laid ((laidWorld os).forCall (fun _ _ => 0) ⟨#[], #[.agg #[.int .i64 0, .int .i64 0, .int .i64 0, .int .i64 0], .agg #[.int .i64 0, .int .i64 0, .int .i64 0, .int .i64 0]], []⟩).memory :=
  laidMet_of_run' 8 (by kernel_rfl) (by kernel_rfl)
theorem reads (os : Os) {H : Type} (enc : TypeId × Value → H) : ∃ places, DataW.whole enc Tryd.prog ((laidWorld os).forCall (fun _ _ => 0) ⟨#[], #[.agg #[.int .i64 0, .int .i64 0, .int .i64 0, .int .i64 0], .agg #[.int .i64 0, .int .i64 0, .int .i64 0, .int .i64 0]], []⟩).memory Tryd.f7.params.toList Rows.gridrefLinesSpec.vars false #[Value.agg #[.int .i64 0, .int .i64 0, .int .i64 0, .int .i64 0], .agg #[.int .i64 0, .int .i64 0, .int .i64 0, .int .i64 0]].toList 8 = some ([.agg [.lit (.int .i64 0), .lit (.int .i64 0), .lit (.int .i64 0), .lit (.int .i64 0)], .agg [.lit (.int .i64 0), .lit (.int .i64 0), .lit (.int .i64 0), .lit (.int .i64 0)]], [], places) :=
  ⟨[], by kernel_rfl⟩

set_option maxRecDepth 100000 in
theorem lifted (os : Os) (started : os.Started) (H : Type) (enc : TypeId × Value → H) (F : Stop.Interp) :
    ReturnsInHanded {} Tryd.checked os 7 .any ((OpenSpec.ofChange Rows.gridrefLinesSpec).preRow enc Tryd.prog Tryd.f7 Rows.gridrefLinesRow.domain false Rows.gridrefLinesRow.laid) (((OpenSpec.ofChange Rows.gridrefLinesSpec).at F).post enc Tryd.prog Tryd.f7 false true false false) := by
  obtain ⟨places, hx⟩ := reads os enc
  refine returnsInHanded_of_row (C := Tryd.checked) (s := OpenSpec.ofChange Rows.gridrefLinesSpec) own started (by kernel_rfl) Tryd.func7
    (witness_row_at (enc := enc) (C := Tryd.checked) false (laidWorld os) #[.agg #[.int .i64 0, .int .i64 0, .int .i64 0, .int .i64 0], .agg #[.int .i64 0, .int .i64 0, .int .i64 0, .int .i64 0]] rfl (by kernel_rfl) (by kernel_rfl) (by kernel_rfl)
      (OpenSpec.preRow_of_cond 8 hx (by kernel_rfl) (fun k hk => by cases hk) (by kernel_rfl) (laid_met os))) ?_
  intro W base args ds gs before hval hW _ _ _ hL _ _
  exact contract H enc W base args ds gs before hval hW hL

theorem said : Rows.GridrefLinesSaid :=
  OpenClaim.holds_of_cond 7 Tryd.f7 rfl rfl rfl rfl rfl rfl rfl ⟨rfl, rfl, rfl, rfl, rfl⟩ rfl rfl rfl rfl rfl (by kernel_rfl) Tryd.func7 (by kernel_rfl)
    (of_decide_eq_true (by kernel_rfl)) (by unfold Func.isWrapper; first | (rw [if_pos (by decide +kernel)]; kernel_rfl) | (rw [if_neg (by decide +kernel)]; exact ⟨rfl, rfl⟩))
    (fun os started H enc _ F => by rw [OpenClaim.pre_eq_preRow]; exact lifted os started H enc F)

theorem plain (f : FuncId) (fn : Func) (hf : Tryd.pinned.checked.prog.funcNamed "mapsheets/mapsheetslaw51.GridrefLines" = some f) (hfn : Tryd.pinned.checked.prog.funcs[f]? = some fn) :
    false = Tryd.pinned.checked.prog.looks [] ∧ ∀ (j : Nat) t, fn.params[j]? = some t → Tryd.pinned.checked.prog.wantsStandIn t = false := by
  obtain rfl : f = 7 := Option.some.inj ((show Tryd.prog.funcNamed "mapsheets/mapsheetslaw51.GridrefLines" = some 7 by kernel_rfl).symm.trans hf) |>.symm
  obtain rfl : fn = Tryd.f7 := (Option.some.inj (Tryd.func7.symm.trans hfn)).symm
  refine ⟨by kernel_rfl, fun j t ht => ?_⟩
  rw [Tryd.params7] at ht
  have all : ∀ t ∈ Tryd.f7.params, Tryd.prog.wantsStandIn t = false := by rw [Tryd.params7]; decide +kernel
  exact all t (by rw [Tryd.params7]; exact Array.mem_of_getElem? ht)

theorem card : Rows.GridrefLinesCardSaid :=
  Claim7.holds_tied_plain_at .later [] _ _ _ _ said (fun _ h => by cases h) (by kernel_rfl) (fun _ h => by cases h) gridrefLines_row_tie rfl ⟨rfl, rfl⟩ (by kernel_rfl) rfl plain (by kernel_rfl)
end Go.Proofs.YtcaabaijkidmgaaDoor.gridrefLines
namespace Go.Proofs.YtcaabaijkidmgaaDoor
theorem gridrefLines_holds : Rows.GridrefLinesCardSaid := gridrefLines.card
#print axioms gridrefLines_holds
end Go.Proofs.YtcaabaijkidmgaaDoor
