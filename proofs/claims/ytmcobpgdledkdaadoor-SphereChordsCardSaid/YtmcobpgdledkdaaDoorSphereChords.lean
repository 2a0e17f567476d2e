
/- For every two positions, SphereChords returns true: Chord returns what the reference's Chord returns.
   Its listed tables are as the program's text lays them (the card ties them); no other condition. -/
import Derived.Test.YtmcobpgdledkdaaDoorSphN
import Derived.Test.YtmcobpgdledkdaaDoorFlat
import Derived.Test.YtmcobpgdledkdaaDoorCards
import Derived.Test.YtmcobpgdledkdaaDoorTie
import Derived.Test.YtmcobpgdledkdaaDoorSphT2
import Derived.Test.YtmcobpgdledkdaaDoorSphZR
import Derived.Deep.DeepHandedRow
import Derived.Lib.LaidTab
import Derived.Deep.RegionHeld3
import Derived.ProofKit
import Derived.OpenShut
import Derived.JoinedOf
import Derived.JoinedAt
import Derived.SevenTiedAt
namespace Go.Proofs.YtmcobpgdledkdaaDoor.sphereChords
open Go.ChangeShapes Go.WideShapes Go.ChangeAt Go.RowKit
set_option linter.unusedVariables false

def E2 (x y u v : Int) (B : Nat) (z : World) : Prop := z.heap[B]? = some (.cells #[.int .i64 x, .int .i64 y] 23 (0, 0)) ∧ z.heap[B + 1]? = some (.cells #[.int .i64 u, .int .i64 v] 23 (0, 0))
theorem e2_of {x y u v : Int} {B : Nat} {w z : World} (h : E2 x y u v B w) (q : Q w z) : z.cell? ⟨B, 0, none⟩ = some (.int .i64 x) ∧ z.cell? ⟨B, 1, none⟩ = some (.int .i64 y) ∧ z.cell? ⟨B + 1, 0, none⟩ = some (.int .i64 u) ∧ z.cell? ⟨B + 1, 1, none⟩ = some (.int .i64 v) ∧ Q w z :=
  ⟨(row2 (b_next q h.1)).1, (row2 (b_next q h.1)).2.1, (row2 (b_next q h.2)).1, (row2 (b_next q h.2)).2.1, q⟩
set_option maxHeartbeats 8000000 in
theorem core (x y u v n : Int) (w : World)
    (H1 : Hid (∀ w, Calls Tryd.prog 19 #[.agg #[.int .i64 x, .int .i64 y], .agg #[.int .i64 u, .int .i64 v]] w fun e w' => e = .returned (.int .i64 n) ∧ Q w w')) (H2 : Hid (∀ w, Calls Tryd.prog 20 #[.agg #[.int .i64 x, .int .i64 y], .agg #[.int .i64 u, .int .i64 v]] w fun e w' => e = .returned (.int .i64 n) ∧ Q w w')) :
    Calls Tryd.prog 8 #[.agg #[.int .i64 x, .int .i64 y], .agg #[.int .i64 u, .int .i64 v]] w fun e w' => e = .returned (.bool true) ∧ Q w w' := by
  have H5 := Lib.hid awake_true
  have HK : Hid (E2 x y u v w.heap.size ((w.alloc (.cells #[.int .i64 x, .int .i64 y] 23)).alloc (.cells #[.int .i64 u, .int .i64 v] 23))) := Lib.hid ⟨b_next ((Q.refl _).alloc _) (heap_alloc_new _ _), new1 _ _ _⟩
  go_enter Tryd.func8, Tryd.ntmps8
  go_wp2_with fail
  go_region_held3 (fun z' => (z'.cell? ⟨w.heap.size, 0, none⟩ = some (.int .i64 x) ∧ z'.cell? ⟨w.heap.size, 1, none⟩ = some (.int .i64 y) ∧ z'.cell? ⟨w.heap.size + 1, 0, none⟩ = some (.int .i64 u) ∧ z'.cell? ⟨w.heap.size + 1, 1, none⟩ = some (.int .i64 v) ∧ Q ((w.alloc (.cells #[.int .i64 x, .int .i64 y] 23)).alloc (.cells #[.int .i64 u, .int .i64 v] 23)) z')) ((first | (exact e2_of HK.out ((Q.refl _).drew)) | (with_reducible exact e2_of HK.out K3.out) | (with_reducible exact e2_of HK.out K2.out) | (with_reducible exact e2_of HK.out K1.out)))
    (first
      | (go_at_call 19; refine (H1.out _).mono ?_; (rintro e w1 ⟨rfl, q1⟩; have K1 : Hid (Q ((w.alloc (.cells #[.int .i64 x, .int .i64 y] 23)).alloc (.cells #[.int .i64 u, .int .i64 v] 23)) w1) := Lib.hid (((Q.refl _).drew).trans q1)))
      | (go_at_call 20; refine (H2.out _).mono ?_; (rintro e w2 ⟨rfl, q2⟩; have K2 : Hid (Q ((w.alloc (.cells #[.int .i64 x, .int .i64 y] 23)).alloc (.cells #[.int .i64 u, .int .i64 v] 23)) w2) := Lib.hid (K1.out.trans q2)))
      | (go_at_call 14; refine (H5.out _).mono ?_; (rintro e w3 ⟨rfl, q3⟩; have K3 : Hid (Q ((w.alloc (.cells #[.int .i64 x, .int .i64 y] 23)).alloc (.cells #[.int .i64 u, .int .i64 v] 23)) w3) := Lib.hid (K2.out.trans q3))))
  all_goals
    go_wp2_with fail
    go_ret
    exact ⟨rfl, (K3.out.behind _).behind _⟩
theorem walk (x y u v : Int) (_ : I64 x) (_ : I64 y) (_ : I64 u) (_ : I64 v) (w : World) : Calls Tryd.prog 8 #[.agg #[.int .i64 x, .int .i64 y], .agg #[.int .i64 u, .int .i64 v]] w fun e w' => e = .returned (.bool true) ∧ Q w w' := by
  by_cases h : Sph.vld x y ∧ Sph.vld u v
  · have d1 := Sph.D_bd x y u v h.1.2.2.1 h.1.2.2.2 h.2.2.2.1 h.2.2.2.2
    obtain ⟨n, hn⟩ := root_ex _ d1.1
    exact core x y u v n w (fun w => (schord_ok x y u v w h.1 h.2).mono fun e w' ⟨⟨r', h1, h2⟩, q⟩ => ⟨by rw [h1, h2.uniq hn], q⟩) (fun w => (rchord_ok x y u v w h.1 h.2).mono fun e w' ⟨⟨r', h1, h2⟩, q⟩ => ⟨by rw [h1, h2.uniq hn], q⟩)
  · exact core x y u v 0 w (fun w => schord_bad x y u v w h) (fun w => rchord_bad x y u v w h)

theorem own : ownKnob Tryd.prog.godebug = none := by kernel_rfl

theorem contract (H : Type) (enc : TypeId × Value → H) (W : World) (base : Nat) (args : Array Value) (ds gs : List (DataW H)) (before : List MemPlace)
    (hval : ∀ (j : Nat) t v, Tryd.f8.params[j]? = some t → args[j]? = some v → Value.okWide Tryd.prog W .any base t v)
    (hW : DataW.Whole enc Tryd.prog Tryd.f8.params.toList Rows.sphereChordsSpec.vars false W args.toList ds gs before) (hL : laidMetH Tryd.prog Rows.sphereChordsRow.laid W) :
    Calls Tryd.prog 8 args W fun e W' => ∃ v, e = .returned v ∧ Rows.sphereChordsSpec.post enc Tryd.prog Tryd.f8 false true false false W args v W' := by
  have hW' := hW
  obtain ⟨p, q, hA0, hV, rfl, hfz, hnd⟩ := hW
  have hA : DataW.TrodAll enc Tryd.prog W 0 (fun _ => true) true Tryd.f8.params.toList args.toList ds p := hA0
  rw [Tryd.params8] at hA hval
  obtain ⟨v0, vs0, d0, ds0, p0, q0, hargs, rfl, rfl, h0, r0⟩ := trodAll_cons hA
  obtain ⟨v1, vs1, d1, ds1, p1, q1, rfl, rfl, rfl, h1, r1⟩ := trodAll_cons r0
  obtain ⟨rfl, rfl, rfl⟩ := trodAll_nil r1
  obtain rfl : args = #[v0, v1] := by cases args; simp_all
  obtain ⟨rfl, rfl⟩ := trodVars_none hV
  obtain ⟨rfl, cs0, rfl, hs0, hz0⟩ := flat_open 4 (by kernel_rfl) Tryd.underlying23 (hval 0 23 v0 rfl rfl) h0
  obtain ⟨x00, x01, rfl, b00, b01⟩ := agg2_of (hs0.trans (show Tryd.prog.cellsOf 23 = 2 by kernel_rfl)) hz0
  obtain ⟨rfl, cs1, rfl, hs1, hz1⟩ := flat_open 4 (by kernel_rfl) Tryd.underlying23 (hval 1 23 v1 rfl rfl) h1
  obtain ⟨x10, x11, rfl, b10, b11⟩ := agg2_of (hs1.trans (show Tryd.prog.cellsOf 23 = 2 by kernel_rfl)) hz1
  clear hA0
  simp only [List.append_nil] at hW'
  refine (walk x00 x01 x10 x11 b00 b01 b10 b11 W).mono fun e W' ⟨he, bel⟩ => ?_
  subst he
  exact ⟨_, rfl, _, _, _, [], [], [], hW', trodAll_mk1 (shut_bool Tryd.underlying4 _), (trodAll_cons_mk (Below.trod laidOut (by kernel_rfl) (by decide +kernel) h0 bel (fun x hx => by cases hx)) (trodAll_cons_mk (Below.trod laidOut (by kernel_rfl) (by decide +kernel) h1 bel (fun x hx => by cases hx)) trodAll_mk0)), rfl, Below.frame bel _, fun h => by cases h⟩

def setRow (h : Array Obj) (g : Nat) (cs : Array Value) : Array Obj := h.modify g fun
  | .cells _ t frozen => .cells cs t frozen
  | o => o
/-- A world for the witness: the settled one, the listed tables as their initialisers lay them. -/
noncomputable def laidWorld (os : Os) : World :=
  { World.holding Tryd.prog os ⟨#[], #[], []⟩ with heap := (setRow (setRow (setRow (World.holding Tryd.prog os ⟨#[], #[], []⟩).heap 4 #[.int .u8 0, .int .u8 1, .int .u8 28, .int .u8 2, .int .u8 29, .int .u8 14, .int .u8 24, .int .u8 3, .int .u8 30, .int .u8 22, .int .u8 20, .int .u8 15, .int .u8 25, .int .u8 17, .int .u8 4, .int .u8 8, .int .u8 31, .int .u8 27, .int .u8 13, .int .u8 23, .int .u8 21, .int .u8 19, .int .u8 16, .int .u8 7, .int .u8 26, .int .u8 12, .int .u8 18, .int .u8 6, .int .u8 11, .int .u8 5, .int .u8 10, .int .u8 9]) 5 #[.int .u8 0, .int .u8 1, .int .u8 56, .int .u8 2, .int .u8 57, .int .u8 49, .int .u8 28, .int .u8 3, .int .u8 61, .int .u8 58, .int .u8 42, .int .u8 50, .int .u8 38, .int .u8 29, .int .u8 17, .int .u8 4, .int .u8 62, .int .u8 47, .int .u8 59, .int .u8 36, .int .u8 45, .int .u8 43, .int .u8 51, .int .u8 22, .int .u8 53, .int .u8 39, .int .u8 33, .int .u8 30, .int .u8 24, .int .u8 18, .int .u8 12, .int .u8 5, .int .u8 63, .int .u8 55, .int .u8 48, .int .u8 27, .int .u8 60, .int .u8 41, .int .u8 37, .int .u8 16, .int .u8 46, .int .u8 35, .int .u8 44, .int .u8 21, .int .u8 52, .int .u8 32, .int .u8 23, .int .u8 11, .int .u8 54, .int .u8 26, .int .u8 40, .int .u8 15, .int .u8 34, .int .u8 20, .int .u8 31, .int .u8 10, .int .u8 25, .int .u8 14, .int .u8 19, .int .u8 9, .int .u8 13, .int .u8 8, .int .u8 7, .int .u8 6]) 1 #[.int .u64 1, .int .u64 10, .int .u64 100, .int .u64 1000, .int .u64 10000, .int .u64 100000, .int .u64 1000000, .int .u64 10000000, .int .u64 100000000, .int .u64 1000000000, .int .u64 10000000000, .int .u64 100000000000, .int .u64 1000000000000, .int .u64 10000000000000, .int .u64 100000000000000, .int .u64 1000000000000000, .int .u64 10000000000000000, .int .u64 100000000000000000, .int .u64 1000000000000000000, .int .u64 10000000000000000000]) }
set_option maxRecDepth 100000 in
theorem laid_met (os : Os) : laidMet Tryd.prog Rows.sphereChordsRow.laid ((laidWorld os).forCall (fun _ _ => 0) ⟨#[], #[.agg #[.int .i64 0, .int .i64 0], .agg #[.int .i64 0, .int .i64 0]], []⟩).memory :=
  laidMet_of_run' 8 (by kernel_rfl) (by kernel_rfl)
theorem reads (os : Os) {H : Type} (enc : TypeId × Value → H) : ∃ places, DataW.whole enc Tryd.prog ((laidWorld os).forCall (fun _ _ => 0) ⟨#[], #[.agg #[.int .i64 0, .int .i64 0], .agg #[.int .i64 0, .int .i64 0]], []⟩).memory Tryd.f8.params.toList Rows.sphereChordsSpec.vars false #[Value.agg #[.int .i64 0, .int .i64 0], .agg #[.int .i64 0, .int .i64 0]].toList 8 = some ([.agg [.lit (.int .i64 0), .lit (.int .i64 0)], .agg [.lit (.int .i64 0), .lit (.int .i64 0)]], [], places) :=
  ⟨[], by kernel_rfl⟩

set_option maxRecDepth 100000 in
theorem lifted (os : Os) (started : os.Started) (H : Type) (enc : TypeId × Value → H) (F : Stop.Interp) :
    ReturnsInHanded {} Tryd.checked os 8 .any ((OpenSpec.ofChange Rows.sphereChordsSpec).preRow enc Tryd.prog Tryd.f8 Rows.sphereChordsRow.domain false Rows.sphereChordsRow.laid) (((OpenSpec.ofChange Rows.sphereChordsSpec).at F).post enc Tryd.prog Tryd.f8 false true false false) := by
  obtain ⟨places, hx⟩ := reads os enc
  refine returnsInHanded_of_row (C := Tryd.checked) (s := OpenSpec.ofChange Rows.sphereChordsSpec) own started (by kernel_rfl) Tryd.func8
    (witness_row_at (enc := enc) (C := Tryd.checked) false (laidWorld os) #[.agg #[.int .i64 0, .int .i64 0], .agg #[.int .i64 0, .int .i64 0]] rfl (by kernel_rfl) (by kernel_rfl) (by kernel_rfl)
      (OpenSpec.preRow_of_cond 8 hx (by kernel_rfl) (fun k hk => by cases hk) (by kernel_rfl) (laid_met os))) ?_
  intro W base args ds gs before hval hW _ _ _ hL _ _
  exact contract H enc W base args ds gs before hval hW hL

theorem said : Rows.SphereChordsSaid :=
  OpenClaim.holds_of_cond 8 Tryd.f8 rfl rfl rfl rfl rfl rfl rfl ⟨rfl, rfl, rfl, rfl, rfl⟩ rfl rfl rfl rfl rfl (by kernel_rfl) Tryd.func8 (by kernel_rfl)
    (of_decide_eq_true (by kernel_rfl)) (by unfold Func.isWrapper; first | (rw [if_pos (by decide +kernel)]; kernel_rfl) | (rw [if_neg (by decide +kernel)]; exact ⟨rfl, rfl⟩))
    (fun os started H enc _ F => by rw [OpenClaim.pre_eq_preRow]; exact lifted os started H enc F)

theorem plain (f : FuncId) (fn : Func) (hf : Tryd.pinned.checked.prog.funcNamed "mapsheets/mapsheetslaw12.SphereChords" = some f) (hfn : Tryd.pinned.checked.prog.funcs[f]? = some fn) :
    false = Tryd.pinned.checked.prog.looks [] ∧ ∀ (j : Nat) t, fn.params[j]? = some t → Tryd.pinned.checked.prog.wantsStandIn t = false := by
  obtain rfl : f = 8 := Option.some.inj ((show Tryd.prog.funcNamed "mapsheets/mapsheetslaw12.SphereChords" = some 8 by kernel_rfl).symm.trans hf) |>.symm
  obtain rfl : fn = Tryd.f8 := (Option.some.inj (Tryd.func8.symm.trans hfn)).symm
  refine ⟨by kernel_rfl, fun j t ht => ?_⟩
  rw [Tryd.params8] at ht
  have all : ∀ t ∈ Tryd.f8.params, Tryd.prog.wantsStandIn t = false := by rw [Tryd.params8]; decide +kernel
  exact all t (by rw [Tryd.params8]; exact Array.mem_of_getElem? ht)

theorem card : Rows.SphereChordsCardSaid :=
  Claim7.holds_tied_plain_at .later [] _ _ _ _ said (fun _ h => by cases h) (by kernel_rfl) (fun _ h => by cases h) sphereChords_row_tie rfl ⟨rfl, rfl⟩ (by kernel_rfl) rfl plain (by kernel_rfl)
end Go.Proofs.YtmcobpgdledkdaaDoor.sphereChords
namespace Go.Proofs.YtmcobpgdledkdaaDoor
theorem sphereChords_holds : Rows.SphereChordsCardSaid := sphereChords.card
#print axioms sphereChords_holds
end Go.Proofs.YtmcobpgdledkdaaDoor
