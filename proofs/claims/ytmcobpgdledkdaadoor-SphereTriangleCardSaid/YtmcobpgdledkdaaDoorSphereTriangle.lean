
/- For every three positions, SphereTriangle returns true: chords are symmetric, a position's chord with itself is 0, and a way over a third position is not shorter, apart from rounding.
   Its listed tables are as the program's text lays them (the card ties them); no other condition. -/
import Derived.Test.YtmcobpgdledkdaaDoorSphN
import Derived.Test.YtmcobpgdledkdaaDoorFlat
import Derived.Test.YtmcobpgdledkdaaDoorCards
import Derived.Test.YtmcobpgdledkdaaDoorTie
import Derived.Test.YtmcobpgdledkdaaDoorSphT2
import Derived.Deep.DeepHandedRow
import Derived.Lib.LaidTab
import Derived.Deep.RegionHeld3
import Derived.ProofKit
import Derived.OpenShut
import Derived.JoinedOf
import Derived.JoinedAt
import Derived.SevenTiedAt
namespace Go.Proofs.YtmcobpgdledkdaaDoor.sphereTriangle
open Go.ChangeShapes Go.WideShapes Go.ChangeAt Go.RowKit
set_option linter.unusedVariables false

def B3 (x y u v s t : Int) (B : Nat) (z : World) : Prop := z.heap[B]? = some (.cells #[.int .i64 x, .int .i64 y] 23 (0, 0)) ∧ z.heap[B + 1]? = some (.cells #[.int .i64 u, .int .i64 v] 23 (0, 0)) ∧ z.heap[B + 2]? = some (.cells #[.int .i64 s, .int .i64 t] 23 (0, 0))
theorem B3.next {x y u v s t : Int} {B : Nat} {w z : World} (h : B3 x y u v s t B w) (q : Q w z) : B3 x y u v s t B z := ⟨b_next q h.1, b_next q h.2.1, b_next q h.2.2⟩
theorem B3.start (x y u v s t : Int) (w : World) : B3 x y u v s t w.heap.size (((w.alloc (.cells #[.int .i64 x, .int .i64 y] 23)).alloc (.cells #[.int .i64 u, .int .i64 v] 23)).alloc (.cells #[.int .i64 s, .int .i64 t] 23)) := ⟨b_next ((Q.refl _).alloc _) (b_next ((Q.refl _).alloc _) (heap_alloc_new _ _)), b_next ((Q.refl _).alloc _) (new1 _ _ _), new2 _ _ _ _⟩
theorem b3_of {x y u v s t : Int} {B : Nat} {w z : World} (h : B3 x y u v s t B w) (q : Q w z) : z.cell? ⟨B, 0, none⟩ = some (.int .i64 x) ∧ z.cell? ⟨B, 1, none⟩ = some (.int .i64 y) ∧ z.cell? ⟨B + 1, 0, none⟩ = some (.int .i64 u) ∧ z.cell? ⟨B + 1, 1, none⟩ = some (.int .i64 v) ∧ z.cell? ⟨B + 2, 0, none⟩ = some (.int .i64 s) ∧ z.cell? ⟨B + 2, 1, none⟩ = some (.int .i64 t) ∧ Q w z :=
  ⟨(row2 (b_next q h.1)).1, (row2 (b_next q h.1)).2.1, (row2 (b_next q h.2.1)).1, (row2 (b_next q h.2.1)).2.1, (row2 (b_next q h.2.2)).1, (row2 (b_next q h.2.2)).2.1, q⟩
theorem bad1 (x y u v s t : Int) (w : World) (h : ¬ Sph.vld x y) : Calls Tryd.prog 9 #[.agg #[.int .i64 x, .int .i64 y], .agg #[.int .i64 u, .int .i64 v], .agg #[.int .i64 s, .int .i64 t]] w fun e w' => e = .returned (.bool true) ∧ Q w w' := by
  have H1 := Lib.hid (fun W => rvalid_no x y W h)
  clear h
  go_enter Tryd.func9, Tryd.ntmps9
  go_wp2_with fail
  refine (H1.out _).mono ?_
  rintro e w1 ⟨rfl, q1⟩
  go_wp2_with fail
  refine (awake_true _).mono ?_
  rintro e w2 ⟨rfl, q2⟩
  go_wp2_with fail
  go_ret
  exact ⟨rfl, (((q1.trans q2).behind _).behind _).behind _⟩
theorem bad2 (x y u v s t : Int) (w : World) (hv : Sph.vld x y) (h : ¬ Sph.vld u v) : Calls Tryd.prog 9 #[.agg #[.int .i64 x, .int .i64 y], .agg #[.int .i64 u, .int .i64 v], .agg #[.int .i64 s, .int .i64 t]] w fun e w' => e = .returned (.bool true) ∧ Q w w' := by
  have H1 := Lib.hid (fun W => rvalid_yes x y W hv)
  have H2 := Lib.hid (fun W => rvalid_no u v W h)
  clear h hv
  go_enter Tryd.func9, Tryd.ntmps9
  go_wp2_with fail
  refine (H1.out _).mono ?_
  rintro e w1 ⟨rfl, q1⟩
  have HK := Lib.hid ((B3.start x y u v s t w).next q1)
  obtain ⟨k0, k1, k2, k3⟩ := row2 HK.out.2.1
  go_wp2_with fail
  refine (H2.out _).mono ?_
  rintro e w2 ⟨rfl, q2⟩
  go_wp2_with fail
  refine (awake_true _).mono ?_
  rintro e w3 ⟨rfl, q3⟩
  go_wp2_with fail
  go_ret
  exact ⟨rfl, ((((q1.trans q2).trans q3).behind _).behind _).behind _⟩
theorem bad3 (x y u v s t : Int) (w : World) (hv : Sph.vld x y) (hu : Sph.vld u v) (h : ¬ Sph.vld s t) : Calls Tryd.prog 9 #[.agg #[.int .i64 x, .int .i64 y], .agg #[.int .i64 u, .int .i64 v], .agg #[.int .i64 s, .int .i64 t]] w fun e w' => e = .returned (.bool true) ∧ Q w w' := by
  have H1 := Lib.hid (fun W => rvalid_yes x y W hv)
  have H2 := Lib.hid (fun W => rvalid_yes u v W hu)
  have H3 := Lib.hid (fun W => rvalid_no s t W h)
  clear h hv hu
  go_enter Tryd.func9, Tryd.ntmps9
  go_wp2_with fail
  refine (H1.out _).mono ?_
  rintro e w1 ⟨rfl, q1⟩
  have HK := Lib.hid ((B3.start x y u v s t w).next q1)
  obtain ⟨k0, k1, k2, k3⟩ := row2 HK.out.2.1
  go_wp2_with fail
  refine (H2.out _).mono ?_
  rintro e w2 ⟨rfl, q2⟩
  clear k0 k1 k2 k3
  obtain ⟨k0, k1, k2, k3⟩ := row2 (HK.out.next q2).2.2
  go_wp2_with fail
  refine (H3.out _).mono ?_
  rintro e w3 ⟨rfl, q3⟩
  go_wp2_with fail
  refine (awake_true _).mono ?_
  rintro e w4 ⟨rfl, q4⟩
  go_wp2_with fail
  go_ret
  exact ⟨rfl, (((((q1.trans q2).trans q3).trans q4).behind _).behind _).behind _⟩
set_option maxRecDepth 100000 in
set_option maxHeartbeats 8000000 in
theorem good (x y u v s t n p q : Int) (w : World) (hv : Sph.vld x y) (hu : Sph.vld u v) (ht : Sph.vld s t) (p0 : 0 ≤ p) (p1 : p ≤ 4294967296) (q0 : 0 ≤ q) (q1 : q ≤ 4294967296) (hn : n ≤ p + q + 1)
    (HAB : Hid (∀ w, Calls Tryd.prog 19 #[.agg #[.int .i64 x, .int .i64 y], .agg #[.int .i64 u, .int .i64 v]] w fun e w' => e = .returned (.int .i64 n) ∧ Q w w')) (HBA : Hid (∀ w, Calls Tryd.prog 19 #[.agg #[.int .i64 u, .int .i64 v], .agg #[.int .i64 x, .int .i64 y]] w fun e w' => e = .returned (.int .i64 n) ∧ Q w w'))
    (HAA : Hid (∀ w, Calls Tryd.prog 19 #[.agg #[.int .i64 x, .int .i64 y], .agg #[.int .i64 x, .int .i64 y]] w fun e w' => e = .returned (.int .i64 0) ∧ Q w w')) (HAC : Hid (∀ w, Calls Tryd.prog 19 #[.agg #[.int .i64 x, .int .i64 y], .agg #[.int .i64 s, .int .i64 t]] w fun e w' => e = .returned (.int .i64 p) ∧ Q w w'))
    (HCB : Hid (∀ w, Calls Tryd.prog 19 #[.agg #[.int .i64 s, .int .i64 t], .agg #[.int .i64 u, .int .i64 v]] w fun e w' => e = .returned (.int .i64 q) ∧ Q w w')) :
    Calls Tryd.prog 9 #[.agg #[.int .i64 x, .int .i64 y], .agg #[.int .i64 u, .int .i64 v], .agg #[.int .i64 s, .int .i64 t]] w fun e w' => e = .returned (.bool true) ∧ Q w w' := by
  have H1 := Lib.hid (fun W => rvalid_yes x y W hv)
  have H2 := Lib.hid (fun W => rvalid_yes u v W hu)
  have H3 := Lib.hid (fun W => rvalid_yes s t W ht)
  have H5 := Lib.hid awake_true
  obtain ⟨m, hm⟩ : ∃ m, p + q = m := ⟨_, rfl⟩
  obtain ⟨m', hm'⟩ : ∃ m', m + 1 = m' := ⟨_, rfl⟩
  have g1 : IntKind.i64.wrap (p + q) = m := by rw [hm]; exact IntWalk.i64_in _ (by omega)
  have g2 : IntKind.i64.wrap (m + 1) = m' := by rw [hm']; exact IntWalk.i64_in _ (by omega)
  have g3 : decide (n ≤ m') = true := by simp; omega
  clear hv hu ht hm hm' p0 p1 q0 q1 hn
  go_enter Tryd.func9, Tryd.ntmps9
  go_wp2_with fail
  refine (H1.out _).mono ?_
  rintro e w1 ⟨rfl, e1⟩
  have HK := Lib.hid ((B3.start x y u v s t w).next e1)
  obtain ⟨k0, k1, k2, k3⟩ := row2 HK.out.2.1
  go_wp2_with fail
  refine (H2.out _).mono ?_
  rintro e w2 ⟨rfl, e2⟩
  clear k0 k1 k2 k3
  have HK2 := Lib.hid (HK.out.next e2)
  obtain ⟨k0, k1, k2, k3⟩ := row2 HK2.out.2.2
  go_wp2_with fail
  refine (H3.out _).mono ?_
  rintro e w3 ⟨rfl, e3⟩
  clear k0 k1 k2 k3
  have HK3 := Lib.hid (HK2.out.next e3)
  obtain ⟨k0, k1, k2, k3⟩ := row2 HK3.out.1
  obtain ⟨m0, m1, m2, m3⟩ := row2 HK3.out.2.1
  go_wp2_with fail
  refine (HAB.out _).mono ?_
  rintro e w4 ⟨rfl, e4⟩
  clear k0 k1 k2 k3 m0 m1 m2 m3
  have HK4 := Lib.hid (HK3.out.next e4)
  have q04 := Lib.hid (((((e1.trans e2).trans e3).trans e4).behind _).behind _ |>.behind _)
  clear e1 e2 e3 e4 HK HK2 HK3
  go_wp2_with fail
  go_region_held3 (fun z' => (z'.cell? ⟨w.heap.size, 0, none⟩ = some (.int .i64 x) ∧ z'.cell? ⟨w.heap.size, 1, none⟩ = some (.int .i64 y) ∧ z'.cell? ⟨w.heap.size + 1, 0, none⟩ = some (.int .i64 u) ∧ z'.cell? ⟨w.heap.size + 1, 1, none⟩ = some (.int .i64 v) ∧ z'.cell? ⟨w.heap.size + 2, 0, none⟩ = some (.int .i64 s) ∧ z'.cell? ⟨w.heap.size + 2, 1, none⟩ = some (.int .i64 t) ∧ Q w4 z')) ((first | (exact b3_of HK4.out ((Q.refl _).drew)) | (with_reducible exact b3_of HK4.out K9.out) | (with_reducible exact b3_of HK4.out K8.out) | (with_reducible exact b3_of HK4.out K7.out) | (with_reducible exact b3_of HK4.out K6.out) | (with_reducible exact b3_of HK4.out K5.out)))
    (first
      | (go_at_call 19; have hh := K7.out; clear hh; refine (HCB.out _).mono ?_; (rintro e w8 ⟨rfl, e8⟩; have K8 : Hid (Q w4 w8) := Lib.hid (K7.out.trans e8)))
      | (go_at_call 19; have hh := K6.out; clear hh; refine (HAC.out _).mono ?_; (rintro e w7 ⟨rfl, e7⟩; have K7 : Hid (Q w4 w7) := Lib.hid (K6.out.trans e7)))
      | (go_at_call 19; have hh := K5.out; clear hh; refine (HAA.out _).mono ?_; (rintro e w6 ⟨rfl, e6⟩; have K6 : Hid (Q w4 w6) := Lib.hid (K5.out.trans e6)))
      | (go_at_call 19; refine (HBA.out _).mono ?_; (rintro e w5 ⟨rfl, e5⟩; have K5 : Hid (Q w4 w5) := Lib.hid (((Q.refl _).drew).trans e5)))
      | (go_at_call 14; refine (H5.out _).mono ?_; (rintro e w9 ⟨rfl, e9⟩; have K9 : Hid (Q w4 w9) := Lib.hid (K8.out.trans e9))))
  all_goals
    go_wp2_with fail
    go_ret
    exact ⟨rfl, q04.out.trans K9.out⟩
theorem chord_val (x y u v r : Int) (hv : Sph.vld x y) (hu : Sph.vld u v) (h : IsSqrt (Sph.D x y u v) r) (w : World) : Calls Tryd.prog 19 #[.agg #[.int .i64 x, .int .i64 y], .agg #[.int .i64 u, .int .i64 v]] w fun e w' => e = .returned (.int .i64 r) ∧ Q w w' :=
  (schord_ok x y u v w hv hu).mono fun e w' ⟨⟨r', h1, h2⟩, q⟩ => ⟨by rw [h1, h2.uniq h], q⟩
theorem root_bd {n r : Int} (h : IsSqrt n r) (hn : n ≤ 9223372036854775807) : r ≤ 4294967296 := by
  obtain ⟨h0, h1, h2⟩ := h
  apply Decidable.byContradiction
  intro c
  have := Int.mul_le_mul (show 4294967296 ≤ r by omega) (show 4294967296 ≤ r by omega) (by omega) (by omega)
  omega
theorem walk (x y u v s t : Int) (_ : I64 x) (_ : I64 y) (_ : I64 u) (_ : I64 v) (_ : I64 s) (_ : I64 t) (w : World) : Calls Tryd.prog 9 #[.agg #[.int .i64 x, .int .i64 y], .agg #[.int .i64 u, .int .i64 v], .agg #[.int .i64 s, .int .i64 t]] w fun e w' => e = .returned (.bool true) ∧ Q w w' := by
  by_cases ha : Sph.vld x y
  rotate_left
  · exact bad1 x y u v s t w ha
  by_cases hb : Sph.vld u v
  rotate_left
  · exact bad2 x y u v s t w ha hb
  by_cases hc : Sph.vld s t
  rotate_left
  · exact bad3 x y u v s t w ha hb hc
  have d1 := Sph.D_bd x y u v ha.2.2.1 ha.2.2.2 hb.2.2.1 hb.2.2.2
  have d2 := Sph.D_bd x y s t ha.2.2.1 ha.2.2.2 hc.2.2.1 hc.2.2.2
  have d3 := Sph.D_bd s t u v hc.2.2.1 hc.2.2.2 hb.2.2.1 hb.2.2.2
  obtain ⟨n, hn⟩ := root_ex _ d1.1
  obtain ⟨p, hp⟩ := root_ex _ d2.1
  obtain ⟨q, hq⟩ := root_ex _ d3.1
  refine good x y u v s t n p q w ha hb hc hp.1 (root_bd hp (by omega)) hq.1 (root_bd hq (by omega)) (Sph.triangle _ _ _ _ _ _ _ _ _ n p q hn hp hq) (chord_val x y u v n ha hb hn) (chord_val u v x y n hb ha (by rw [Sph.D_swap]; exact hn)) (chord_val x y x y 0 ha ha (by rw [Sph.D_self]; exact Sph.root_zero)) (chord_val x y s t p ha hc hp) (chord_val s t u v q hc hb hq)

theorem own : ownKnob Tryd.prog.godebug = none := by kernel_rfl

theorem contract (H : Type) (enc : TypeId × Value → H) (W : World) (base : Nat) (args : Array Value) (ds gs : List (DataW H)) (before : List MemPlace)
    (hval : ∀ (j : Nat) t v, Tryd.f9.params[j]? = some t → args[j]? = some v → Value.okWide Tryd.prog W .any base t v)
    (hW : DataW.Whole enc Tryd.prog Tryd.f9.params.toList Rows.sphereTriangleSpec.vars false W args.toList ds gs before) (hL : laidMetH Tryd.prog Rows.sphereTriangleRow.laid W) :
    Calls Tryd.prog 9 args W fun e W' => ∃ v, e = .returned v ∧ Rows.sphereTriangleSpec.post enc Tryd.prog Tryd.f9 false true false false W args v W' := by
  have hW' := hW
  obtain ⟨p, q, hA0, hV, rfl, hfz, hnd⟩ := hW
  have hA : DataW.TrodAll enc Tryd.prog W 0 (fun _ => true) true Tryd.f9.params.toList args.toList ds p := hA0
  rw [Tryd.params9] at hA hval
  obtain ⟨v0, vs0, d0, ds0, p0, q0, hargs, rfl, rfl, h0, r0⟩ := trodAll_cons hA
  obtain ⟨v1, vs1, d1, ds1, p1, q1, rfl, rfl, rfl, h1, r1⟩ := trodAll_cons r0
  obtain ⟨v2, vs2, d2, ds2, p2, q2, rfl, rfl, rfl, h2, r2⟩ := trodAll_cons r1
  obtain ⟨rfl, rfl, rfl⟩ := trodAll_nil r2
  obtain rfl : args = #[v0, v1, v2] := by cases args; simp_all
  obtain ⟨rfl, rfl⟩ := trodVars_none hV
  obtain ⟨rfl, cs0, rfl, hs0, hz0⟩ := flat_open 4 (by kernel_rfl) Tryd.underlying23 (hval 0 23 v0 rfl rfl) h0
  obtain ⟨x00, x01, rfl, b00, b01⟩ := agg2_of (hs0.trans (show Tryd.prog.cellsOf 23 = 2 by kernel_rfl)) hz0
  obtain ⟨rfl, cs1, rfl, hs1, hz1⟩ := flat_open 4 (by kernel_rfl) Tryd.underlying23 (hval 1 23 v1 rfl rfl) h1
  obtain ⟨x10, x11, rfl, b10, b11⟩ := agg2_of (hs1.trans (show Tryd.prog.cellsOf 23 = 2 by kernel_rfl)) hz1
  obtain ⟨rfl, cs2, rfl, hs2, hz2⟩ := flat_open 4 (by kernel_rfl) Tryd.underlying23 (hval 2 23 v2 rfl rfl) h2
  obtain ⟨x20, x21, rfl, b20, b21⟩ := agg2_of (hs2.trans (show Tryd.prog.cellsOf 23 = 2 by kernel_rfl)) hz2
  clear hA0
  simp only [List.append_nil] at hW'
  refine (walk x00 x01 x10 x11 x20 x21 b00 b01 b10 b11 b20 b21 W).mono fun e W' ⟨he, bel⟩ => ?_
  subst he
  exact ⟨_, rfl, _, _, _, [], [], [], hW', trodAll_mk1 (shut_bool Tryd.underlying4 _), (trodAll_cons_mk (Below.trod laidOut (by kernel_rfl) (by decide +kernel) h0 bel (fun x hx => by cases hx)) (trodAll_cons_mk (Below.trod laidOut (by kernel_rfl) (by decide +kernel) h1 bel (fun x hx => by cases hx)) (trodAll_cons_mk (Below.trod laidOut (by kernel_rfl) (by decide +kernel) h2 bel (fun x hx => by cases hx)) trodAll_mk0))), rfl, Below.frame bel _, fun h => by cases h⟩

def setRow (h : Array Obj) (g : Nat) (cs : Array Value) : Array Obj := h.modify g fun
  | .cells _ t frozen => .cells cs t frozen
  | o => o
/-- A world for the witness: the settled one, the listed tables as their initialisers lay them. -/
noncomputable def laidWorld (os : Os) : World :=
  { World.holding Tryd.prog os ⟨#[], #[], []⟩ with heap := (setRow (setRow (setRow (World.holding Tryd.prog os ⟨#[], #[], []⟩).heap 4 #[.int .u8 0, .int .u8 1, .int .u8 28, .int .u8 2, .int .u8 29, .int .u8 14, .int .u8 24, .int .u8 3, .int .u8 30, .int .u8 22, .int .u8 20, .int .u8 15, .int .u8 25, .int .u8 17, .int .u8 4, .int .u8 8, .int .u8 31, .int .u8 27, .int .u8 13, .int .u8 23, .int .u8 21, .int .u8 19, .int .u8 16, .int .u8 7, .int .u8 26, .int .u8 12, .int .u8 18, .int .u8 6, .int .u8 11, .int .u8 5, .int .u8 10, .int .u8 9]) 5 #[.int .u8 0, .int .u8 1, .int .u8 56, .int .u8 2, .int .u8 57, .int .u8 49, .int .u8 28, .int .u8 3, .int .u8 61, .int .u8 58, .int .u8 42, .int .u8 50, .int .u8 38, .int .u8 29, .int .u8 17, .int .u8 4, .int .u8 62, .int .u8 47, .int .u8 59, .int .u8 36, .int .u8 45, .int .u8 43, .int .u8 51, .int .u8 22, .int .u8 53, .int .u8 39, .int .u8 33, .int .u8 30, .int .u8 24, .int .u8 18, .int .u8 12, .int .u8 5, .int .u8 63, .int .u8 55, .int .u8 48, .int .u8 27, .int .u8 60, .int .u8 41, .int .u8 37, .int .u8 16, .int .u8 46, .int .u8 35, .int .u8 44, .int .u8 21, .int .u8 52, .int .u8 32, .int .u8 23, .int .u8 11, .int .u8 54, .int .u8 26, .int .u8 40, .int .u8 15, .int .u8 34, .int .u8 20, .int .u8 31, .int .u8 10, .int .u8 25, .int .u8 14, .int .u8 19, .int .u8 9, .int .u8 13, .int .u8 8, .int .u8 7, .int .u8 6]) 1 #[.int .u64 1, .int .u64 10, .int .u64 100, .int .u64 1000, .int .u64 10000, .int .u64 100000, .int .u64 1000000, .int .u64 10000000, .int .u64 100000000, .int .u64 1000000000, .int .u64 10000000000, .int .u64 100000000000, .int .u64 1000000000000, .int .u64 10000000000000, .int .u64 100000000000000, .int .u64 1000000000000000, .int .u64 10000000000000000, .int .u64 100000000000000000, .int .u64 1000000000000000000, .int .u64 10000000000000000000]) }
set_option maxRecDepth 100000 in
theorem laid_met (os : Os) : laidMet Tryd.prog Rows.sphereTriangleRow.laid ((laidWorld os).forCall (fun _ _ => 0) ⟨#[], #[.agg #[.int .i64 0, .int .i64 0], .agg #[.int .i64 0, .int .i64 0], .agg #[.int .i64 0, .int .i64 0]], []⟩).memory :=
  laidMet_of_run' 8 (by kernel_rfl) (by kernel_rfl)
theorem reads (os : Os) {H : Type} (enc : TypeId × Value → H) : ∃ places, DataW.whole enc Tryd.prog ((laidWorld os).forCall (fun _ _ => 0) ⟨#[], #[.agg #[.int .i64 0, .int .i64 0], .agg #[.int .i64 0, .int .i64 0], .agg #[.int .i64 0, .int .i64 0]], []⟩).memory Tryd.f9.params.toList Rows.sphereTriangleSpec.vars false #[Value.agg #[.int .i64 0, .int .i64 0], .agg #[.int .i64 0, .int .i64 0], .agg #[.int .i64 0, .int .i64 0]].toList 8 = some ([.agg [.lit (.int .i64 0), .lit (.int .i64 0)], .agg [.lit (.int .i64 0), .lit (.int .i64 0)], .agg [.lit (.int .i64 0), .lit (.int .i64 0)]], [], places) :=
  ⟨[], by kernel_rfl⟩

set_option maxRecDepth 100000 in
theorem lifted (os : Os) (started : os.Started) (H : Type) (enc : TypeId × Value → H) (F : Stop.Interp) :
    ReturnsInHanded {} Tryd.checked os 9 .any ((OpenSpec.ofChange Rows.sphereTriangleSpec).preRow enc Tryd.prog Tryd.f9 Rows.sphereTriangleRow.domain false Rows.sphereTriangleRow.laid) (((OpenSpec.ofChange Rows.sphereTriangleSpec).at F).post enc Tryd.prog Tryd.f9 false true false false) := by
  obtain ⟨places, hx⟩ := reads os enc
  refine returnsInHanded_of_row (C := Tryd.checked) (s := OpenSpec.ofChange Rows.sphereTriangleSpec) own started (by kernel_rfl) Tryd.func9
    (witness_row_at (enc := enc) (C := Tryd.checked) false (laidWorld os) #[.agg #[.int .i64 0, .int .i64 0], .agg #[.int .i64 0, .int .i64 0], .agg #[.int .i64 0, .int .i64 0]] rfl (by kernel_rfl) (by kernel_rfl) (by kernel_rfl)
      (OpenSpec.preRow_of_cond 8 hx (by kernel_rfl) (fun k hk => by cases hk) (by kernel_rfl) (laid_met os))) ?_
  intro W base args ds gs before hval hW _ _ _ hL _ _
  exact contract H enc W base args ds gs before hval hW hL

theorem said : Rows.SphereTriangleSaid :=
  OpenClaim.holds_of_cond 9 Tryd.f9 rfl rfl rfl rfl rfl rfl rfl ⟨rfl, rfl, rfl, rfl, rfl⟩ rfl rfl rfl rfl rfl (by kernel_rfl) Tryd.func9 (by kernel_rfl)
    (of_decide_eq_true (by kernel_rfl)) (by unfold Func.isWrapper; first | (rw [if_pos (by decide +kernel)]; kernel_rfl) | (rw [if_neg (by decide +kernel)]; exact ⟨rfl, rfl⟩))
    (fun os started H enc _ F => by rw [OpenClaim.pre_eq_preRow]; exact lifted os started H enc F)

theorem plain (f : FuncId) (fn : Func) (hf : Tryd.pinned.checked.prog.funcNamed "mapsheets/mapsheetslaw12.SphereTriangle" = some f) (hfn : Tryd.pinned.checked.prog.funcs[f]? = some fn) :
    false = Tryd.pinned.checked.prog.looks [] ∧ ∀ (j : Nat) t, fn.params[j]? = some t → Tryd.pinned.checked.prog.wantsStandIn t = false := by
  obtain rfl : f = 9 := Option.some.inj ((show Tryd.prog.funcNamed "mapsheets/mapsheetslaw12.SphereTriangle" = some 9 by kernel_rfl).symm.trans hf) |>.symm
  obtain rfl : fn = Tryd.f9 := (Option.some.inj (Tryd.func9.symm.trans hfn)).symm
  refine ⟨by kernel_rfl, fun j t ht => ?_⟩
  rw [Tryd.params9] at ht
  have all : ∀ t ∈ Tryd.f9.params, Tryd.prog.wantsStandIn t = false := by rw [Tryd.params9]; decide +kernel
  exact all t (by rw [Tryd.params9]; exact Array.mem_of_getElem? ht)

theorem card : Rows.SphereTriangleCardSaid :=
  Claim7.holds_tied_plain_at .later [] _ _ _ _ said (fun _ h => by cases h) (by kernel_rfl) (fun _ h => by cases h) sphereTriangle_row_tie rfl ⟨rfl, rfl⟩ (by kernel_rfl) rfl plain (by kernel_rfl)
end Go.Proofs.YtmcobpgdledkdaaDoor.sphereTriangle
namespace Go.Proofs.YtmcobpgdledkdaaDoor
theorem sphereTriangle_holds : Rows.SphereTriangleCardSaid := sphereTriangle.card
#print axioms sphereTriangle_holds
end Go.Proofs.YtmcobpgdledkdaaDoor
