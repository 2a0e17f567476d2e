
/- For every projection and two positions, ProjectOrders returns true: east does not decrease with the longitude, nor north with the latitude, and the center has the point 0. No condition. -/
import Derived.Test.YtmagppjmjjkbjaaRows
import Derived.Test.YtmagppjmjjkbjaaPrjAwake
import Derived.Test.YtmagppjmjjkbjaaPrjM
import Derived.Test.YtmagppjmjjkbjaaFlat
import Derived.Deep.RegionHeld3
namespace Go.Proofs.Ytmagppjmjjkbjaa.projectOrders
open Go.ChangeShapes Go.WideShapes Go.ChangeAt Go.RowKit
set_option linter.unusedVariables false


/-- What the law tests of two numbers of two coordinates. -/
def Tst (e f p q a b : Int) : Prop := (e == 0) = false ∨ ((e == 0) = true ∧ (f == 0) = false) ∨
  ((e == 0) = true ∧ (f == 0) = true ∧ decide (p ≤ q) = true ∧ decide (b < a) = false ∧ decide (q ≤ p) = false) ∨
  ((e == 0) = true ∧ (f == 0) = true ∧ decide (p ≤ q) = true ∧ decide (b < a) = false ∧ decide (q ≤ p) = true ∧ decide (a < b) = false) ∨
  ((e == 0) = true ∧ (f == 0) = true ∧ decide (p ≤ q) = false ∧ decide (q ≤ p) = true ∧ decide (a < b) = false)
theorem tst_of (e f p q a b : Int) (h : e = 0 → f = 0 → (p ≤ q → a ≤ b) ∧ (q ≤ p → b ≤ a)) : Tst e f p q a b := by
  unfold Tst
  by_cases c1 : e = 0
  rotate_left
  · exact .inl (by simpa using c1)
  by_cases c2 : f = 0
  rotate_left
  · exact .inr (.inl ⟨by simpa using c1, by simpa using c2⟩)
  obtain ⟨h1, h2⟩ := h c1 c2
  have d1 : (e == 0) = true := by simpa using c1
  have d2 : (f == 0) = true := by simpa using c2
  by_cases c3 : p ≤ q
  · by_cases c4 : q ≤ p
    · exact .inr (.inr (.inr (.inl ⟨d1, d2, by simpa using c3, by have := h1 c3; simp; omega, by simpa using c4, by have := h2 c4; simp; omega⟩)))
    · exact .inr (.inr (.inl ⟨d1, d2, by simpa using c3, by have := h1 c3; simp; omega, by simpa using c4⟩))
  · exact .inr (.inr (.inr (.inr ⟨d1, d2, by simpa using c3, by simp; omega, by have := h2 (by omega); simp; omega⟩)))

set_option maxRecDepth 100000 in
set_option maxHeartbeats 16000000 in
theorem core (K L A S x y u v ax ay bx by' cx cy ea eb ec er : Int) (w : World) (H1 : Hid (∀ w, Calls Try.prog 13 #[.agg #[.int .i64 K, .int .i64 L, .int .i64 A, .int .i64 S], .agg #[.int .i64 x, .int .i64 y]] w fun e w' => e = .returned (.tuple #[.agg #[.int .i64 ax, .int .i64 ay], .int .i64 ea]) ∧ Q w w')) (H2 : Hid (∀ w, Calls Try.prog 13 #[.agg #[.int .i64 K, .int .i64 L, .int .i64 A, .int .i64 S], .agg #[.int .i64 u, .int .i64 y]] w fun e w' => e = .returned (.tuple #[.agg #[.int .i64 bx, .int .i64 by'], .int .i64 eb]) ∧ Q w w')) (H3 : Hid (∀ w, Calls Try.prog 13 #[.agg #[.int .i64 K, .int .i64 L, .int .i64 A, .int .i64 S], .agg #[.int .i64 x, .int .i64 v]] w fun e w' => e = .returned (.tuple #[.agg #[.int .i64 cx, .int .i64 cy], .int .i64 ec]) ∧ Q w w')) (H4 : Hid (∀ w, Calls Try.prog 13 #[.agg #[.int .i64 K, .int .i64 L, .int .i64 A, .int .i64 S], .agg #[.int .i64 L, .int .i64 A]] w fun e w' => e = .returned (.tuple #[.agg #[.int .i64 0, .int .i64 0], .int .i64 er]) ∧ Q w w'))
    (HC : Hid (∀ w, Calls Try.prog 11 #[.agg #[.int .i64 K, .int .i64 L, .int .i64 A, .int .i64 S]] w fun e w' => e = .returned (.int .i64 er) ∧ Q w w')) (t1 : Tst ea eb x u ax bx) (t2 : Tst ea ec y v ay cy) (hb : ea = 0 → eb = 0 → by' = ay) :
    Calls Try.prog 8 #[.agg #[.int .i64 K, .int .i64 L, .int .i64 A, .int .i64 S], .agg #[.int .i64 x, .int .i64 y], .agg #[.int .i64 u, .int .i64 v]] w fun e w' => e = .returned (.bool true) ∧ Q w w' := by
  have HT1 := Lib.hid t1
  have HT2 := Lib.hid t2
  have HTB := Lib.hid hb
  clear t1 t2 hb
  have HP := Lib.hid (pr_next (prs_fresh K L A S w) (((Q.refl _).alloc (.cells #[.int .i64 x, .int .i64 y] 29)).alloc (.cells #[.int .i64 u, .int .i64 v] 29)))
  have B1 := Lib.hid (b_next ((Q.refl _).alloc (.cells #[.int .i64 u, .int .i64 v] 29)) (heap_alloc2_new w (.cells #[.int .i64 K, .int .i64 L, .int .i64 A, .int .i64 S] 23) (.cells #[.int .i64 x, .int .i64 y] 29)))
  have B2 := Lib.hid (show (((w.alloc (.cells #[.int .i64 K, .int .i64 L, .int .i64 A, .int .i64 S] 23)).alloc (.cells #[.int .i64 x, .int .i64 y] 29)).alloc (.cells #[.int .i64 u, .int .i64 v] 29)).heap[w.heap.size + 2]? = some (.cells #[.int .i64 u, .int .i64 v] 29 (0, 0)) by have := heap_alloc_new ((w.alloc (.cells #[.int .i64 K, .int .i64 L, .int .i64 A, .int .i64 S] 23)).alloc (.cells #[.int .i64 x, .int .i64 y] 29)) (.cells #[.int .i64 u, .int .i64 v] 29); simpa using this)
  go_enter Try.func8, Try.ntmps8
  go_wp2_with fail
  refine (H1.out _).mono ?_
  rintro e w1 ⟨rfl, q1⟩
  have c1 := q1
  have a1 := c1.alloc (.cells #[.int .i64 ax, .int .i64 ay] 29)
  have R1 := Lib.hid (heap_alloc_new w1 (.cells #[.int .i64 ax, .int .i64 ay] 29))
  obtain ⟨k0, k1, k2, k3, k4⟩ := pr_next HP.out c1
  have s1 := b_next c1 B1.out
  have s10 := row_cell (i := 0) s1 rfl
  have s11 := row_cell (i := 1) s1 rfl
  have s2 := b_next c1 B2.out
  have s20 := row_cell (i := 0) s2 rfl
  have s21 := row_cell (i := 1) s2 rfl
  have z0 : w.heap.size < w1.heap.size := block_lt_of_cell k0
  have z1 : w.heap.size + 1 < w1.heap.size := block_lt_of_cell s10
  have z2 : w.heap.size + 2 < w1.heap.size := block_lt_of_cell s20
  clear k4 s1 s2
  go_wp2_with fail
  refine (H2.out _).mono ?_
  rintro e w2 ⟨rfl, q2⟩
  clear k0 k1 k2 k3 s10 s11 s20 s21 z0 z1 z2
  have c2 := a1.trans q2
  have a2 := c2.alloc (.cells #[.int .i64 bx, .int .i64 by'] 29)
  have R2 := Lib.hid (heap_alloc_new w2 (.cells #[.int .i64 bx, .int .i64 by'] 29))
  obtain ⟨k0, k1, k2, k3, k4⟩ := pr_next HP.out c2
  have s1 := b_next c2 B1.out
  have s10 := row_cell (i := 0) s1 rfl
  have s11 := row_cell (i := 1) s1 rfl
  have s2 := b_next c2 B2.out
  have s20 := row_cell (i := 0) s2 rfl
  have s21 := row_cell (i := 1) s2 rfl
  have z0 : w.heap.size < w2.heap.size := block_lt_of_cell k0
  have z1 : w.heap.size + 1 < w2.heap.size := block_lt_of_cell s10
  have z2 : w.heap.size + 2 < w2.heap.size := block_lt_of_cell s20
  clear k4 s1 s2
  go_wp2_with fail
  refine (H3.out _).mono ?_
  rintro e w3 ⟨rfl, q3⟩
  clear k0 k1 k2 k3 s10 s11 s20 s21 z0 z1 z2
  have c3 := a2.trans q3
  have a3 := c3.alloc (.cells #[.int .i64 cx, .int .i64 cy] 29)
  have R3 := Lib.hid (heap_alloc_new w3 (.cells #[.int .i64 cx, .int .i64 cy] 29))
  obtain ⟨k0, k1, k2, k3, k4⟩ := pr_next HP.out c3
  have s1 := b_next c3 B1.out
  have s10 := row_cell (i := 0) s1 rfl
  have s11 := row_cell (i := 1) s1 rfl
  have s2 := b_next c3 B2.out
  have s20 := row_cell (i := 0) s2 rfl
  have s21 := row_cell (i := 1) s2 rfl
  have z0 : w.heap.size < w3.heap.size := block_lt_of_cell k0
  have z1 : w.heap.size + 1 < w3.heap.size := block_lt_of_cell s10
  have z2 : w.heap.size + 2 < w3.heap.size := block_lt_of_cell s20
  clear k4 s1 s2
  go_wp2_with fail
  refine (H4.out _).mono ?_
  rintro e w4 ⟨rfl, q4⟩
  clear k0 k1 k2 k3 s10 s11 s20 s21 z0 z1 z2
  have c4 := a3.trans q4
  have a4 := c4.alloc (.cells #[.int .i64 0, .int .i64 0] 29)
  have R4 := Lib.hid (heap_alloc_new w4 (.cells #[.int .i64 0, .int .i64 0] 29))
  have r1 := b_next (((q2.alloc (.cells #[.int .i64 bx, .int .i64 by'] 29)).trans ((q3.alloc (.cells #[.int .i64 cx, .int .i64 cy] 29)).trans q4))) R1.out
  have r2 := b_next ((q3.alloc (.cells #[.int .i64 cx, .int .i64 cy] 29)).trans q4) R2.out
  have r3 := b_next q4 R3.out
  have s1 := b_next c4 B1.out
  have s2 := b_next c4 B2.out
  have s10 := row_cell (i := 0) s1 rfl
  have s11 := row_cell (i := 1) s1 rfl
  have s20 := row_cell (i := 0) s2 rfl
  have s21 := row_cell (i := 1) s2 rfl
  have r10 := row_cell (i := 0) r1 rfl
  have r11 := row_cell (i := 1) r1 rfl
  have r20 := row_cell (i := 0) r2 rfl
  have r21 := row_cell (i := 1) r2 rfl
  have r30 := row_cell (i := 0) r3 rfl
  have r31 := row_cell (i := 1) r3 rfl
  have z1 : w.heap.size + 1 < w4.heap.size := block_lt_of_cell s10
  have z2 : w.heap.size + 2 < w4.heap.size := block_lt_of_cell s20
  have z3 : w1.heap.size < w4.heap.size := block_lt_of_cell r10
  have z4 : w2.heap.size < w4.heap.size := block_lt_of_cell r20
  have z5 : w3.heap.size < w4.heap.size := block_lt_of_cell r30
  have HQ4 := Lib.hid a4
  clear s1 s2 r1 r2 r3 q1 q2 q3 q4 c1 c2 c3 c4 a1 a2 a3 a4
  rcases HT1.out with d1 | ⟨d1, d2⟩ | ⟨d1, d2, d3, d4, d5⟩ | ⟨d1, d2, d3, d4, d5, d6⟩ | ⟨d1, d2, d3, d4, d5⟩
  all_goals
    (try have hbb : (by' != ay) = false := by (have hh := HTB.out (by simpa using d1) (by simpa using d2); simp [hh]))
    rcases HT2.out with f1 | ⟨f1, f2⟩ | ⟨f1, f2, f3, f4, f5⟩ | ⟨f1, f2, f3, f4, f5, f6⟩ | ⟨f1, f2, f3, f4, f5⟩
  all_goals (try (exfalso; rw [d1] at f1; exact absurd f1 (by decide)))
  all_goals
    go_wp2_with fail
    refine (pawake_true _).mono ?_
    rintro e w6 ⟨rfl, q6⟩
    have m4 := b_next q6 R4.out
    have m40 := row_cell (i := 0) m4 rfl
    have m41 := row_cell (i := 1) m4 rfl
    obtain ⟨k0, k1, k2, k3, k4⟩ := pr_next HP.out (HQ4.out.trans q6)
    clear m4 k4 s10 s11 s20 s21 r10 r11 r20 r21 r30 r31
    go_wp2_with fail
    refine (HC.out _).mono ?_
    rintro e w7 ⟨rfl, q7⟩
    go_wp2_with fail
    go_ret
    exact ⟨rfl, ((((HQ4.out.trans q6).trans q7).behind _).behind _).behind _⟩

theorem same_y (K L A S x u y : Int) (e : Prj.qe K L A S x y = 0) (f : Prj.qe K L A S u y = 0) : Prj.qy K L A S u y = Prj.qy K L A S x y := by
  have g1 : Prj.good K L A S x y := by
    by_cases g : Prj.good K L A S x y
    · exact g
    · rw [show Prj.qe K L A S x y = 2 from if_neg g] at e; exact absurd e (by decide)
  have g2 : Prj.good K L A S u y := by
    by_cases g : Prj.good K L A S u y
    · exact g
    · rw [show Prj.qe K L A S u y = 2 from if_neg g] at f; exact absurd f (by decide)
  exact (if_pos g2).trans (if_pos g1).symm
theorem good_of (K L A S x y : Int) (e : Prj.qe K L A S x y = 0) : Prj.good K L A S x y := by
  by_cases g : Prj.good K L A S x y
  · exact g
  · rw [show Prj.qe K L A S x y = 2 from if_neg g] at e; exact absurd e (by decide)
theorem walk (K L A S x y u v : Int) (_ : I64 K) (_ : I64 L) (_ : I64 A) (_ : I64 S) (_ : I64 x) (_ : I64 y) (_ : I64 u) (_ : I64 v) (w : World) : Calls Try.prog 8 #[.agg #[.int .i64 K, .int .i64 L, .int .i64 A, .int .i64 S], .agg #[.int .i64 x, .int .i64 y], .agg #[.int .i64 u, .int .i64 v]] w fun e w' => e = .returned (.bool true) ∧ Q w w' := by
  by_cases h : Prj.Ok K L A S
  · obtain ⟨c1, c2, c3⟩ := Prj.center K L A S h
    have H4 := fun W => To_ok K L A S L A W h
    rw [c1, c2, c3] at H4
    refine core K L A S x y u v _ _ _ _ _ _ _ _ _ 0 w (fun W => To_ok K L A S x y W h) (fun W => To_ok K L A S u y W h) (fun W => To_ok K L A S x v W h) H4 (fun W => pcheck_yes K L A S W h) (tst_of _ _ _ _ _ _ ?_) (tst_of _ _ _ _ _ _ ?_) (fun e f => same_y K L A S x u y e f)
    · intro e f
      have g1 := good_of K L A S x y e
      have g2 := good_of K L A S u y f
      rw [show Prj.qx K L A S x y = _ from if_pos g1, show Prj.qx K L A S u y = _ from if_pos g2]
      exact ⟨fun q => Prj.east_mono K L S x u y h.s0 h.v.1 h.v.2.1 g1.1.1 q g2.1.2.1 g1.1.2.2.1 g1.1.2.2.2, fun q => Prj.east_mono K L S u x y h.s0 h.v.1 h.v.2.1 g2.1.1 q g1.1.2.1 g1.1.2.2.1 g1.1.2.2.2⟩
    · intro e f
      have g1 := good_of K L A S x y e
      have g2 := good_of K L A S x v f
      rw [show Prj.qy K L A S x y = _ from if_pos g1, show Prj.qy K L A S x v = _ from if_pos g2]
      exact ⟨fun q => Prj.north_mono K A S y v h.s0 h.v.2.2.1 h.v.2.2.2 g1.1.2.2.1 q g2.1.2.2.2, fun q => Prj.north_mono K A S v y h.s0 h.v.2.2.1 h.v.2.2.2 g2.1.2.2.1 q g1.1.2.2.2⟩
  by_cases hk : K < 1 ∨ 4 < K
  · exact core K L A S x y u v _ _ _ _ _ _ _ _ _ 9 w (fun W => To_err K L A S x y 9 rfl W (fun W => pcheck_kind K L A S W hk)) (fun W => To_err K L A S u y 9 rfl W (fun W => pcheck_kind K L A S W hk)) (fun W => To_err K L A S x v 9 rfl W (fun W => pcheck_kind K L A S W hk)) (fun W => To_err K L A S L A 9 rfl W (fun W => pcheck_kind K L A S W hk)) (fun W => pcheck_kind K L A S W hk) (.inl rfl) (.inl rfl) (fun e => absurd e (by decide))
  · have HR := fun W => pcheck_range K L A S W (by omega) (by omega) h
    exact core K L A S x y u v _ _ _ _ _ _ _ _ _ 2 w (fun W => To_err K L A S x y 2 rfl W HR) (fun W => To_err K L A S u y 2 rfl W HR) (fun W => To_err K L A S x v 2 rfl W HR) (fun W => To_err K L A S L A 2 rfl W HR) HR (.inl rfl) (.inl rfl) (fun e => absurd e (by decide))

theorem own : ownKnob Try.prog.godebug = none := by kernel_rfl

theorem contract (H : Type) (enc : TypeId × Value → H) (W : World) (base : Nat) (args : Array Value) (ds gs : List (DataW H)) (before : List MemPlace)
    (hval : ∀ (j : Nat) t v, Try.f8.params[j]? = some t → args[j]? = some v → Value.okWide Try.prog W .any base t v)
    (hW : DataW.Whole enc Try.prog Try.f8.params.toList Rows.projectOrdersSpec.vars false W args.toList ds gs before) :
    Calls Try.prog 8 args W fun e W' => ∃ v, e = .returned v ∧ Rows.projectOrdersSpec.post enc Try.prog Try.f8 false true false false W args v W' := by
  have hW' := hW
  obtain ⟨p, q, hA0, hV, rfl, hfz, hnd⟩ := hW
  have hA : DataW.TrodAll enc Try.prog W 0 (fun _ => true) true Try.f8.params.toList args.toList ds p := hA0
  rw [Try.params8] at hA hval
  obtain ⟨v0, vs0, d0, ds0, p0, q0, hargs, rfl, rfl, h0, r0⟩ := trodAll_cons hA
  obtain ⟨v1, vs1, d1, ds1, p1, q1, rfl, rfl, rfl, h1, r1⟩ := trodAll_cons r0
  obtain ⟨v2, vs2, d2, ds2, p2, q2, rfl, rfl, rfl, h2, r2⟩ := trodAll_cons r1
  obtain ⟨rfl, rfl, rfl⟩ := trodAll_nil r2
  obtain rfl : args = #[v0, v1, v2] := by cases args; simp_all
  obtain ⟨rfl, rfl⟩ := trodVars_none hV
  obtain ⟨rfl, cs0, rfl, hs0, hz0⟩ := flat_open 4 (by kernel_rfl) Try.underlying23 (hval 0 23 v0 rfl rfl) h0
  obtain ⟨x00, x01, x02, x03, rfl, b00, b01, b02, b03⟩ := agg4_of (hs0.trans (show Try.prog.cellsOf 23 = 4 by kernel_rfl)) hz0
  obtain ⟨rfl, cs1, rfl, hs1, hz1⟩ := flat_open 4 (by kernel_rfl) Try.underlying29 (hval 1 29 v1 rfl rfl) h1
  obtain ⟨x10, x11, rfl, b10, b11⟩ := agg2_of (hs1.trans (show Try.prog.cellsOf 29 = 2 by kernel_rfl)) hz1
  obtain ⟨rfl, cs2, rfl, hs2, hz2⟩ := flat_open 4 (by kernel_rfl) Try.underlying29 (hval 2 29 v2 rfl rfl) h2
  obtain ⟨x20, x21, rfl, b20, b21⟩ := agg2_of (hs2.trans (show Try.prog.cellsOf 29 = 2 by kernel_rfl)) hz2
  clear hA0
  simp only [List.append_nil] at hW'
  refine (walk x00 x01 x02 x03 x10 x11 x20 x21 b00 b01 b02 b03 b10 b11 b20 b21 W).mono fun e W' ⟨he, bel⟩ => ?_
  subst he
  exact ⟨_, rfl, _, _, _, [], [], [], hW', trodAll_mk1 (shut_bool Try.underlying4 _), (trodAll_cons_mk (Below.trod laidOut (by kernel_rfl) (by decide +kernel) h0 bel (fun x hx => by cases hx)) (trodAll_cons_mk (Below.trod laidOut (by kernel_rfl) (by decide +kernel) h1 bel (fun x hx => by cases hx)) (trodAll_cons_mk (Below.trod laidOut (by kernel_rfl) (by decide +kernel) h2 bel (fun x hx => by cases hx)) trodAll_mk0))), rfl, Below.frame bel _, fun h => by cases h⟩

set_option maxRecDepth 100000 in
theorem lifted (os : Os) (started : os.Started) (H : Type) (enc : TypeId × Value → H) :
    ReturnsInHanded {} Try.checked os 8 .any (Rows.projectOrdersSpec.pre6 enc Try.prog Try.f8 Rows.projectOrdersRow.domain false) (Rows.projectOrdersSpec.post enc Try.prog Try.f8 false true false false) := by
  refine returnsInHanded_of_change (C := Try.checked) own started (by kernel_rfl) Try.func8
    (ChangeSpec.witness6 (enc := enc) (C := Try.checked) false ⟨#[], #[.agg #[.int .i64 0, .int .i64 0, .int .i64 0, .int .i64 0], .agg #[.int .i64 0, .int .i64 0], .agg #[.int .i64 0, .int .i64 0]], []⟩ 8 (by kernel_rfl) (by kernel_rfl) (by kernel_rfl) (by kernel_rfl)) ?_
  intro W base args ds gs before hval hW hcnd _
  exact contract H enc W base args ds gs before hval hW

theorem said : Rows.ProjectOrdersSaid :=
  OpenClaim.holds_of_wide 8 Try.f8 rfl rfl rfl rfl rfl rfl rfl ⟨rfl, rfl, rfl, rfl, rfl⟩ rfl rfl rfl rfl rfl (by kernel_rfl) Try.func8 (by kernel_rfl)
    (of_decide_eq_true (by kernel_rfl)) (by unfold Func.isWrapper; first | (rw [if_pos (by decide +kernel)]; kernel_rfl) | (rw [if_neg (by decide +kernel)]; exact ⟨rfl, rfl⟩))
    (fun os started H enc _ => lifted os started H enc)
end Go.Proofs.Ytmagppjmjjkbjaa.projectOrders
namespace Go.Proofs.Ytmagppjmjjkbjaa
theorem projectOrders_holds : Rows.ProjectOrdersSaid := projectOrders.said
#print axioms projectOrders_holds
end Go.Proofs.Ytmagppjmjjkbjaa
