
/- For every position, SphereWraps returns true: wrapping twice is wrapping once, and positions a full turn apart have the same result.
   Its listed tables are as the program's text lays them (the card ties them); no other condition. -/
import Derived.Test.YtmcobpgdledkdaaDoorSphN
import Derived.Test.YtmcobpgdledkdaaDoorFlat
import Derived.Test.YtmcobpgdledkdaaDoorCards
import Derived.Test.YtmcobpgdledkdaaDoorTie
import Derived.Test.YtmcobpgdledkdaaDoorCellB
import Derived.Deep.DeepHandedRow
import Derived.Lib.LaidTab
import Derived.Deep.RegionHeld3
import Derived.ProofKit
import Derived.OpenShut
import Derived.JoinedOf
import Derived.JoinedAt
import Derived.SevenTiedAt
namespace Go.Proofs.YtmcobpgdledkdaaDoor.sphereWraps
open Go.ChangeShapes Go.WideShapes Go.ChangeAt Go.RowKit
set_option linter.unusedVariables false

def D4 (x y r : Int) (B G : Nat) (v : World) : Prop := v.heap[B]? = some (.cells #[.int .i64 x, .int .i64 y] 23 (0, 0)) ∧ v.heap[G]? = some (.cells #[.int .i64 r, .int .i64 y] 23 (0, 0))
theorem d4_of {x y r : Int} {B G : Nat} {w v : World} (h : D4 x y r B G w) (q : Q w v) : v.cell? ⟨B, 0, none⟩ = some (.int .i64 x) ∧ v.cell? ⟨B, 1, none⟩ = some (.int .i64 y) ∧ v.cell? ⟨G, 0, none⟩ = some (.int .i64 r) ∧ v.cell? ⟨G, 1, none⟩ = some (.int .i64 y) ∧ Q w v :=
  ⟨(row2 (b_next q h.1)).1, (row2 (b_next q h.1)).2.1, (row2 (b_next q h.2)).1, (row2 (b_next q h.2)).2.1, q⟩
theorem D4.next {x y r : Int} {B G : Nat} {w v : World} (h : D4 x y r B G w) (q : Q w v) : D4 x y r B G v := ⟨b_next q h.1, b_next q h.2⟩
theorem wrp_eq (x : Int) : Sph.wrp x = (if 648000 < x % 1296000 then x % 1296000 - 1296000 else x % 1296000) := by
  unfold Sph.wrp
  by_cases h : 0 ≤ x
  · rw [Int.tmod_eq_emod_of_nonneg h]
    repeat' split
    all_goals omega
  · have e : x.tmod 1296000 = -((-x) % 1296000) := by
      rw [← Int.tmod_eq_emod_of_nonneg (show 0 ≤ -x by omega), Int.neg_tmod, Int.neg_neg]
    rw [e]
    repeat' split
    all_goals omega
set_option maxHeartbeats 4000000 in
theorem core (x y r : Int) (w : World) (hx : I64 x) (r0 : -647999 ≤ r) (r1 : r ≤ 648000)
    (H1 : Hid (∀ w, Calls Tryd.prog 12 #[.agg #[.int .i64 x, .int .i64 y]] w fun e w' => e = .returned (.agg #[.int .i64 r, .int .i64 y]) ∧ Q w w')) (H2 : Hid (∀ w, Calls Tryd.prog 12 #[.agg #[.int .i64 r, .int .i64 y]] w fun e w' => e = .returned (.agg #[.int .i64 r, .int .i64 y]) ∧ Q w w'))
    (H3 : Hid (∀ x', (0 < x ∧ x' = x - 1296000) ∨ (x ≤ 0 ∧ x' = x + 1296000) → ∀ w, Calls Tryd.prog 12 #[.agg #[.int .i64 x', .int .i64 y]] w fun e w' => e = .returned (.agg #[.int .i64 r, .int .i64 y]) ∧ Q w w')) :
    Calls Tryd.prog 4 #[.agg #[.int .i64 x, .int .i64 y]] w fun e w' => e = .returned (.bool true) ∧ Q w w' := by
  have H5 := Lib.hid awake_true
  have h0 := hx.1
  have h1 := hx.2
  have e1 : decide (r < -647999) = false := by simp; omega
  have e2 : decide (648000 < r) = false := by simp; omega
  clear hx
  go_enter Tryd.func4, Tryd.ntmps4
  go_wp2_with fail
  refine (H1.out _).mono ?_
  rintro e w1 ⟨rfl, q1⟩
  have HK : Hid (D4 x y r w.heap.size w1.heap.size (w1.alloc (.cells #[.int .i64 r, .int .i64 y] 23))) := Lib.hid ⟨b_next ((Q.refl _).alloc _) (b_next q1 (heap_alloc_new _ _)), heap_alloc_new _ _⟩
  have q01 := Lib.hid (q1.behind _)
  have zz : w.heap.size < w1.heap.size := by have := q1.sz; rw [size_alloc] at this; omega
  clear q1
  go_wp2_with fail
  go_region_held3 (fun v' => (v'.cell? ⟨w.heap.size, 0, none⟩ = some (.int .i64 x) ∧ v'.cell? ⟨w.heap.size, 1, none⟩ = some (.int .i64 y) ∧ v'.cell? ⟨w1.heap.size, 0, none⟩ = some (.int .i64 r) ∧ v'.cell? ⟨w1.heap.size, 1, none⟩ = some (.int .i64 y) ∧ Q ((w1.alloc (.cells #[.int .i64 r, .int .i64 y] 23))) v')) ((first | (exact d4_of HK.out ((Q.refl _).drew)) | (with_reducible exact d4_of HK.out K2.out)))
    (first | (go_at_call 12; refine (H2.out _).mono ?_; (rintro e w2 ⟨rfl, q2⟩; have K2 : Hid (Q (w1.alloc (.cells #[.int .i64 r, .int .i64 y] 23)) w2) := Lib.hid (((Q.refl _).drew).trans q2))))
  all_goals
    have HK2 := Lib.hid (HK.out.next K2.out)
    have q02 := Lib.hid ((q01.out.alloc _).trans K2.out)
    obtain ⟨k0, k1, k2, k3⟩ := row2 HK2.out.1
    obtain ⟨m0, m1, m2, m3⟩ := row2 HK2.out.2
    have z0 := block_lt_of_cell k0
    have z1 := block_lt_of_cell m0
    by_cases c : 0 < x
    · have d1 : decide (0 < x) = true := by simp; omega
      have H3' := Lib.hid (H3.out (x - 1296000) (.inl ⟨by omega, rfl⟩))
      go_wp2_with fail
      have HK3 : Hid (D4 (x - 1296000) y r w.heap.size w1.heap.size (w2.setCell ⟨w.heap.size, 0, none⟩ (.int .i64 (x - 1296000)))) := Lib.hid ⟨set2a HK2.out.1, set_else (by omega) HK2.out.2⟩
      go_region_held3 (fun v' => (v'.cell? ⟨w.heap.size, 0, none⟩ = some (.int .i64 (x - 1296000)) ∧ v'.cell? ⟨w.heap.size, 1, none⟩ = some (.int .i64 y) ∧ v'.cell? ⟨w1.heap.size, 0, none⟩ = some (.int .i64 r) ∧ v'.cell? ⟨w1.heap.size, 1, none⟩ = some (.int .i64 y) ∧ Q (w2.setCell ⟨w.heap.size, 0, none⟩ (.int .i64 (x - 1296000))) v')) ((first | (exact d4_of HK3.out ((Q.refl _).drew)) | (with_reducible exact d4_of HK3.out K4.out) | (with_reducible exact d4_of HK3.out K3.out)))
        (first
          | (go_at_call 12; refine (H3'.out _).mono ?_; (rintro e w3 ⟨rfl, q3⟩; have K3 : Hid (Q (w2.setCell ⟨w.heap.size, 0, none⟩ (.int .i64 (x - 1296000))) w3) := Lib.hid (((Q.refl _).drew).trans q3)))
          | (go_at_call 14; refine (H5.out _).mono ?_; (rintro e w4 ⟨rfl, q4⟩; have K4 : Hid (Q (w2.setCell ⟨w.heap.size, 0, none⟩ (.int .i64 (x - 1296000))) w4) := Lib.hid (K3.out.trans q4))))
      all_goals
        go_wp2_with fail
        go_ret
        exact ⟨rfl, (q02.out.setCell (by simp) _).trans K4.out⟩
    · have d1 : decide (0 < x) = false := by simp; omega
      have H3' := Lib.hid (H3.out (x + 1296000) (.inr ⟨by omega, rfl⟩))
      go_wp2_with fail
      have HK3 : Hid (D4 (x + 1296000) y r w.heap.size w1.heap.size (w2.setCell ⟨w.heap.size, 0, none⟩ (.int .i64 (x + 1296000)))) := Lib.hid ⟨set2a HK2.out.1, set_else (by omega) HK2.out.2⟩
      go_region_held3 (fun v' => (v'.cell? ⟨w.heap.size, 0, none⟩ = some (.int .i64 (x + 1296000)) ∧ v'.cell? ⟨w.heap.size, 1, none⟩ = some (.int .i64 y) ∧ v'.cell? ⟨w1.heap.size, 0, none⟩ = some (.int .i64 r) ∧ v'.cell? ⟨w1.heap.size, 1, none⟩ = some (.int .i64 y) ∧ Q (w2.setCell ⟨w.heap.size, 0, none⟩ (.int .i64 (x + 1296000))) v')) ((first | (exact d4_of HK3.out ((Q.refl _).drew)) | (with_reducible exact d4_of HK3.out K4.out) | (with_reducible exact d4_of HK3.out K3.out)))
        (first
          | (go_at_call 12; refine (H3'.out _).mono ?_; (rintro e w3 ⟨rfl, q3⟩; have K3 : Hid (Q (w2.setCell ⟨w.heap.size, 0, none⟩ (.int .i64 (x + 1296000))) w3) := Lib.hid (((Q.refl _).drew).trans q3)))
          | (go_at_call 14; refine (H5.out _).mono ?_; (rintro e w4 ⟨rfl, q4⟩; have K4 : Hid (Q (w2.setCell ⟨w.heap.size, 0, none⟩ (.int .i64 (x + 1296000))) w4) := Lib.hid (K3.out.trans q4))))
      all_goals
        go_wp2_with fail
        go_ret
        exact ⟨rfl, (q02.out.setCell (by simp) _).trans K4.out⟩
theorem walk (x y : Int) (hx : I64 x) (_ : I64 y) (w : World) : Calls Tryd.prog 4 #[.agg #[.int .i64 x, .int .i64 y]] w fun e w' => e = .returned (.bool true) ∧ Q w w' := by
  have e := wrp_eq x
  have e2 : Sph.wrp (Sph.wrp x) = Sph.wrp x := by rw [wrp_eq (Sph.wrp x), e]; split <;> split <;> omega
  have b : -647999 ≤ Sph.wrp x ∧ Sph.wrp x ≤ 648000 := by rw [e]; split <;> omega
  refine core x y (Sph.wrp x) w hx b.1 b.2 (swrap_any x y) (fun w => by have := swrap_any (Sph.wrp x) y w; rw [e2] at this; exact this) ?_
  rintro x' (⟨h, rfl⟩ | ⟨h, rfl⟩) w
  · have e3 : Sph.wrp (x - 1296000) = Sph.wrp x := by rw [wrp_eq, e]; split <;> split <;> omega
    have := swrap_any (x - 1296000) y w
    rw [e3] at this
    exact this
  · have e3 : Sph.wrp (x + 1296000) = Sph.wrp x := by rw [wrp_eq, e]; split <;> split <;> omega
    have := swrap_any (x + 1296000) y w
    rw [e3] at this
    exact this

theorem own : ownKnob Tryd.prog.godebug = none := by kernel_rfl

theorem contract (H : Type) (enc : TypeId × Value → H) (W : World) (base : Nat) (args : Array Value) (ds gs : List (DataW H)) (before : List MemPlace)
    (hval : ∀ (j : Nat) t v, Tryd.f4.params[j]? = some t → args[j]? = some v → Value.okWide Tryd.prog W .any base t v)
    (hW : DataW.Whole enc Tryd.prog Tryd.f4.params.toList Rows.sphereWrapsSpec.vars false W args.toList ds gs before) (hL : laidMetH Tryd.prog Rows.sphereWrapsRow.laid W) :
    Calls Tryd.prog 4 args W fun e W' => ∃ v, e = .returned v ∧ Rows.sphereWrapsSpec.post enc Tryd.prog Tryd.f4 false true false false W args v W' := by
  have hW' := hW
  obtain ⟨p, q, hA0, hV, rfl, hfz, hnd⟩ := hW
  have hA : DataW.TrodAll enc Tryd.prog W 0 (fun _ => true) true Tryd.f4.params.toList args.toList ds p := hA0
  rw [Tryd.params4] at hA hval
  obtain ⟨v0, vs0, d0, ds0, p0, q0, hargs, rfl, rfl, h0, r0⟩ := trodAll_cons hA
  obtain ⟨rfl, rfl, rfl⟩ := trodAll_nil r0
  obtain rfl : args = #[v0] := by cases args; simp_all
  obtain ⟨rfl, rfl⟩ := trodVars_none hV
  obtain ⟨rfl, cs0, rfl, hs0, hz0⟩ := flat_open 4 (by kernel_rfl) Tryd.underlying23 (hval 0 23 v0 rfl rfl) h0
  obtain ⟨x00, x01, rfl, b00, b01⟩ := agg2_of (hs0.trans (show Tryd.prog.cellsOf 23 = 2 by kernel_rfl)) hz0
  clear hA0
  simp only [List.append_nil] at hW'
  refine (walk x00 x01 b00 b01 W).mono fun e W' ⟨he, bel⟩ => ?_
  subst he
  exact ⟨_, rfl, _, _, _, [], [], [], hW', trodAll_mk1 (shut_bool Tryd.underlying4 _), (trodAll_cons_mk (Below.trod laidOut (by kernel_rfl) (by decide +kernel) h0 bel (fun x hx => by cases hx)) trodAll_mk0), rfl, Below.frame bel _, fun h => by cases h⟩

def setRow (h : Array Obj) (g : Nat) (cs : Array Value) : Array Obj := h.modify g fun
  | .cells _ t frozen => .cells cs t frozen
  | o => o
/-- A world for the witness: the settled one, the listed tables as their initialisers lay them. -/
noncomputable def laidWorld (os : Os) : World :=
  { World.holding Tryd.prog os ⟨#[], #[], []⟩ with heap := (setRow (setRow (setRow (World.holding Tryd.prog os ⟨#[], #[], []⟩).heap 4 #[.int .u8 0, .int .u8 1, .int .u8 28, .int .u8 2, .int .u8 29, .int .u8 14, .int .u8 24, .int .u8 3, .int .u8 30, .int .u8 22, .int .u8 20, .int .u8 15, .int .u8 25, .int .u8 17, .int .u8 4, .int .u8 8, .int .u8 31, .int .u8 27, .int .u8 13, .int .u8 23, .int .u8 21, .int .u8 19, .int .u8 16, .int .u8 7, .int .u8 26, .int .u8 12, .int .u8 18, .int .u8 6, .int .u8 11, .int .u8 5, .int .u8 10, .int .u8 9]) 5 #[.int .u8 0, .int .u8 1, .int .u8 56, .int .u8 2, .int .u8 57, .int .u8 49, .int .u8 28, .int .u8 3, .int .u8 61, .int .u8 58, .int .u8 42, .int .u8 50, .int .u8 38, .int .u8 29, .int .u8 17, .int .u8 4, .int .u8 62, .int .u8 47, .int .u8 59, .int .u8 36, .int .u8 45, .int .u8 43, .int .u8 51, .int .u8 22, .int .u8 53, .int .u8 39, .int .u8 33, .int .u8 30, .int .u8 24, .int .u8 18, .int .u8 12, .int .u8 5, .int .u8 63, .int .u8 55, .int .u8 48, .int .u8 27, .int .u8 60, .int .u8 41, .int .u8 37, .int .u8 16, .int .u8 46, .int .u8 35, .int .u8 44, .int .u8 21, .int .u8 52, .int .u8 32, .int .u8 23, .int .u8 11, .int .u8 54, .int .u8 26, .int .u8 40, .int .u8 15, .int .u8 34, .int .u8 20, .int .u8 31, .int .u8 10, .int .u8 25, .int .u8 14, .int .u8 19, .int .u8 9, .int .u8 13, .int .u8 8, .int .u8 7, .int .u8 6]) 1 #[.int .u64 1, .int .u64 10, .int .u64 100, .int .u64 1000, .int .u64 10000, .int .u64 100000, .int .u64 1000000, .int .u64 10000000, .int .u64 100000000, .int .u64 1000000000, .int .u64 10000000000, .int .u64 100000000000, .int .u64 1000000000000, .int .u64 10000000000000, .int .u64 100000000000000, .int .u64 1000000000000000, .int .u64 10000000000000000, .int .u64 100000000000000000, .int .u64 1000000000000000000, .int .u64 10000000000000000000]) }
set_option maxRecDepth 100000 in
theorem laid_met (os : Os) : laidMet Tryd.prog Rows.sphereWrapsRow.laid ((laidWorld os).forCall (fun _ _ => 0) ⟨#[], #[.agg #[.int .i64 0, .int .i64 0]], []⟩).memory :=
  laidMet_of_run' 8 (by kernel_rfl) (by kernel_rfl)
theorem reads (os : Os) {H : Type} (enc : TypeId × Value → H) : ∃ places, DataW.whole enc Tryd.prog ((laidWorld os).forCall (fun _ _ => 0) ⟨#[], #[.agg #[.int .i64 0, .int .i64 0]], []⟩).memory Tryd.f4.params.toList Rows.sphereWrapsSpec.vars false #[Value.agg #[.int .i64 0, .int .i64 0]].toList 8 = some ([.agg [.lit (.int .i64 0), .lit (.int .i64 0)]], [], places) :=
  ⟨[], by kernel_rfl⟩

set_option maxRecDepth 100000 in
theorem lifted (os : Os) (started : os.Started) (H : Type) (enc : TypeId × Value → H) (F : Stop.Interp) :
    ReturnsInHanded {} Tryd.checked os 4 .any ((OpenSpec.ofChange Rows.sphereWrapsSpec).preRow enc Tryd.prog Tryd.f4 Rows.sphereWrapsRow.domain false Rows.sphereWrapsRow.laid) (((OpenSpec.ofChange Rows.sphereWrapsSpec).at F).post enc Tryd.prog Tryd.f4 false true false false) := by
  obtain ⟨places, hx⟩ := reads os enc
  refine returnsInHanded_of_row (C := Tryd.checked) (s := OpenSpec.ofChange Rows.sphereWrapsSpec) own started (by kernel_rfl) Tryd.func4
    (witness_row_at (enc := enc) (C := Tryd.checked) false (laidWorld os) #[.agg #[.int .i64 0, .int .i64 0]] rfl (by kernel_rfl) (by kernel_rfl) (by kernel_rfl)
      (OpenSpec.preRow_of_cond 8 hx (by kernel_rfl) (fun k hk => by cases hk) (by kernel_rfl) (laid_met os))) ?_
  intro W base args ds gs before hval hW _ _ _ hL _ _
  exact contract H enc W base args ds gs before hval hW hL

theorem said : Rows.SphereWrapsSaid :=
  OpenClaim.holds_of_cond 4 Tryd.f4 rfl rfl rfl rfl rfl rfl rfl ⟨rfl, rfl, rfl, rfl, rfl⟩ rfl rfl rfl rfl rfl (by kernel_rfl) Tryd.func4 (by kernel_rfl)
    (of_decide_eq_true (by kernel_rfl)) (by unfold Func.isWrapper; first | (rw [if_pos (by decide +kernel)]; kernel_rfl) | (rw [if_neg (by decide +kernel)]; exact ⟨rfl, rfl⟩))
    (fun os started H enc _ F => by rw [OpenClaim.pre_eq_preRow]; exact lifted os started H enc F)

theorem plain (f : FuncId) (fn : Func) (hf : Tryd.pinned.checked.prog.funcNamed "mapsheets/mapsheetslaw12.SphereWraps" = some f) (hfn : Tryd.pinned.checked.prog.funcs[f]? = some fn) :
    false = Tryd.pinned.checked.prog.looks [] ∧ ∀ (j : Nat) t, fn.params[j]? = some t → Tryd.pinned.checked.prog.wantsStandIn t = false := by
  obtain rfl : f = 4 := Option.some.inj ((show Tryd.prog.funcNamed "mapsheets/mapsheetslaw12.SphereWraps" = some 4 by kernel_rfl).symm.trans hf) |>.symm
  obtain rfl : fn = Tryd.f4 := (Option.some.inj (Tryd.func4.symm.trans hfn)).symm
  refine ⟨by kernel_rfl, fun j t ht => ?_⟩
  rw [Tryd.params4] at ht
  have all : ∀ t ∈ Tryd.f4.params, Tryd.prog.wantsStandIn t = false := by rw [Tryd.params4]; decide +kernel
  exact all t (by rw [Tryd.params4]; exact Array.mem_of_getElem? ht)

theorem card : Rows.SphereWrapsCardSaid :=
  Claim7.holds_tied_plain_at .later [] _ _ _ _ said (fun _ h => by cases h) (by kernel_rfl) (fun _ h => by cases h) sphereWraps_row_tie rfl ⟨rfl, rfl⟩ (by kernel_rfl) rfl plain (by kernel_rfl)
end Go.Proofs.YtmcobpgdledkdaaDoor.sphereWraps
namespace Go.Proofs.YtmcobpgdledkdaaDoor
theorem sphereWraps_holds : Rows.SphereWrapsCardSaid := sphereWraps.card
#print axioms sphereWraps_holds
end Go.Proofs.YtmcobpgdledkdaaDoor
