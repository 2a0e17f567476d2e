
/- For every projection and position, ProjectInverts returns true: a position is found again from its point within the resolution. No condition. -/
import Derived.Test.YtmagppjmjjkbjaaRows
import Derived.Test.YtmagppjmjjkbjaaPrjAwake
import Derived.Test.YtmagppjmjjkbjaaPrjM
import Derived.Test.YtmagppjmjjkbjaaFlat
import Derived.Deep.RegionHeld3
namespace Go.Proofs.Ytmagppjmjjkbjaa.projectInverts
open Go.ChangeShapes Go.WideShapes Go.ChangeAt Go.RowKit
set_option linter.unusedVariables false


theorem off (K L A S x y a b er : Int) (her : (er != 0) = true) (w : World) (H1 : Hid (∀ w, Calls Try.prog 13 #[.agg #[.int .i64 K, .int .i64 L, .int .i64 A, .int .i64 S], .agg #[.int .i64 x, .int .i64 y]] w fun e w' => e = .returned (.tuple #[.agg #[.int .i64 a, .int .i64 b], .int .i64 er]) ∧ Q w w')) :
    Calls Try.prog 7 #[.agg #[.int .i64 K, .int .i64 L, .int .i64 A, .int .i64 S], .agg #[.int .i64 x, .int .i64 y]] w fun e w' => e = .returned (.bool true) ∧ Q w w' := by
  have HP := Lib.hid (pr_next (prs_fresh K L A S w) ((Q.refl _).alloc (.cells #[.int .i64 x, .int .i64 y] 29)))
  go_enter Try.func7, Try.ntmps7
  go_wp2_with fail
  refine (H1.out _).mono ?_
  rintro e w1 ⟨rfl, q1⟩
  have q1a := q1.alloc (.cells #[.int .i64 a, .int .i64 b] 29)
  have A1 := Lib.hid (heap_alloc_new w1 (.cells #[.int .i64 a, .int .i64 b] 29))
  obtain ⟨k0, k1, k2, k3, k4⟩ := pr_next HP.out q1
  have z0 : w.heap.size < w1.heap.size := block_lt_of_cell k0
  clear k4
  clear k0 k1 k2 k3
  go_wp2_with fail
  refine (pawake_true _).mono ?_
  rintro e w3 ⟨rfl, q3⟩
  go_wp2_with fail
  go_ret
  exact ⟨rfl, ((q1a.trans q3).behind _).behind _⟩

set_option maxHeartbeats 4000000 in
theorem lost (L A S x y a b rx ry : Int) (w : World) (H1 : Hid (∀ w, Calls Try.prog 13 #[.agg #[.int .i64 2, .int .i64 L, .int .i64 A, .int .i64 S], .agg #[.int .i64 x, .int .i64 y]] w fun e w' => e = .returned (.tuple #[.agg #[.int .i64 a, .int .i64 b], .int .i64 0]) ∧ Q w w')) (H2 : Hid (∀ w, Calls Try.prog 15 #[.agg #[.int .i64 2, .int .i64 L, .int .i64 A, .int .i64 S], .agg #[.int .i64 a, .int .i64 b]] w fun e w' => e = .returned (.tuple #[.agg #[.int .i64 rx, .int .i64 ry], .int .i64 7]) ∧ Q w w')) :
    Calls Try.prog 7 #[.agg #[.int .i64 2, .int .i64 L, .int .i64 A, .int .i64 S], .agg #[.int .i64 x, .int .i64 y]] w fun e w' => e = .returned (.bool true) ∧ Q w w' := by
  have HP := Lib.hid (pr_next (prs_fresh 2 L A S w) ((Q.refl _).alloc (.cells #[.int .i64 x, .int .i64 y] 29)))
  go_enter Try.func7, Try.ntmps7
  go_wp2_with fail
  refine (H1.out _).mono ?_
  rintro e w1 ⟨rfl, q1⟩
  have q1a := q1.alloc (.cells #[.int .i64 a, .int .i64 b] 29)
  have A1 := Lib.hid (heap_alloc_new w1 (.cells #[.int .i64 a, .int .i64 b] 29))
  obtain ⟨k0, k1, k2, k3, k4⟩ := pr_next HP.out q1
  have z0 : w.heap.size < w1.heap.size := block_lt_of_cell k0
  clear k4
  go_wp2_with fail
  refine (H2.out _).mono ?_
  rintro e w2 ⟨rfl, q2⟩
  clear k0 k1 k2 k3 z0
  have q2a := (q1a.trans q2).alloc (.cells #[.int .i64 rx, .int .i64 ry] 29)
  go_wp2_with fail
  refine (pawake_true _).mono ?_
  rintro e w3 ⟨rfl, q3⟩
  obtain ⟨k0, k1, k2, k3, k4⟩ := pr_next HP.out (q2a.trans q3)
  clear k1 k2 k3 k4
  go_wp2_with fail
  go_ret
  exact ⟨rfl, ((q2a.trans q3).behind _).behind _⟩

set_option maxRecDepth 100000 in
set_option maxHeartbeats 8000000 in
theorem found (K L A S x y a b rx ry sx : Int) (w : World) (H1 : Hid (∀ w, Calls Try.prog 13 #[.agg #[.int .i64 K, .int .i64 L, .int .i64 A, .int .i64 S], .agg #[.int .i64 x, .int .i64 y]] w fun e w' => e = .returned (.tuple #[.agg #[.int .i64 a, .int .i64 b], .int .i64 0]) ∧ Q w w')) (H2 : Hid (∀ w, Calls Try.prog 15 #[.agg #[.int .i64 K, .int .i64 L, .int .i64 A, .int .i64 S], .agg #[.int .i64 a, .int .i64 b]] w fun e w' => e = .returned (.tuple #[.agg #[.int .i64 rx, .int .i64 ry], .int .i64 0]) ∧ Q w w')) (H3 : Hid (∀ w, Calls Try.prog 13 #[.agg #[.int .i64 K, .int .i64 L, .int .i64 A, .int .i64 S], .agg #[.int .i64 rx, .int .i64 ry]] w fun e w' => e = .returned (.tuple #[.agg #[.int .i64 sx, .int .i64 b], .int .i64 0]) ∧ Q w w'))
    (HV : Hid (∀ w, Calls Try.prog 20 #[.agg #[.int .i64 rx, .int .i64 ry]] w fun e w' => e = .returned (.bool true) ∧ Q w w'))
    (ba : -1048576 ≤ a ∧ a ≤ 1048576) (bs : -1048576 ≤ sx ∧ sx ≤ 1048576) (hs : (sx == a) = true ∨ ((sx == a) = false ∧ (K == 2) = true ∧ decide (sx - a ≤ 1) = true ∧ decide (a - sx ≤ 1) = true)) :
    Calls Try.prog 7 #[.agg #[.int .i64 K, .int .i64 L, .int .i64 A, .int .i64 S], .agg #[.int .i64 x, .int .i64 y]] w fun e w' => e = .returned (.bool true) ∧ Q w w' := by
  have HS := Lib.hid hs
  clear hs
  have HP := Lib.hid (pr_next (prs_fresh K L A S w) ((Q.refl _).alloc (.cells #[.int .i64 x, .int .i64 y] 29)))
  go_enter Try.func7, Try.ntmps7
  go_wp2_with fail
  refine (H1.out _).mono ?_
  rintro e w1 ⟨rfl, q1⟩
  have q1a := q1.alloc (.cells #[.int .i64 a, .int .i64 b] 29)
  have A1 := Lib.hid (heap_alloc_new w1 (.cells #[.int .i64 a, .int .i64 b] 29))
  obtain ⟨k0, k1, k2, k3, k4⟩ := pr_next HP.out q1
  have z0 : w.heap.size < w1.heap.size := block_lt_of_cell k0
  clear k4
  go_wp2_with fail
  refine (H2.out _).mono ?_
  rintro e w2 ⟨rfl, q2⟩
  clear k0 k1 k2 k3 z0
  have A2 := Lib.hid (heap_alloc_new w2 (.cells #[.int .i64 rx, .int .i64 ry] 29))
  have q2a := (q1a.trans q2).alloc (.cells #[.int .i64 rx, .int .i64 ry] 29)
  obtain ⟨k0, k1, k2, k3, k4⟩ := pr_next HP.out (q1a.trans q2)
  have z0 : w.heap.size < w2.heap.size := block_lt_of_cell k0
  clear k4
  go_wp2_with fail
  refine (H3.out _).mono ?_
  rintro e w3 ⟨rfl, q3⟩
  clear k0 k1 k2 k3 z0
  have A3 := Lib.hid (heap_alloc_new w3 (.cells #[.int .i64 sx, .int .i64 b] 29))
  have q3a := (q2a.trans q3).alloc (.cells #[.int .i64 sx, .int .i64 b] 29)
  have r2 := b_next q3 A2.out
  have r20 := row_cell (i := 0) r2 rfl
  have r21 := row_cell (i := 1) r2 rfl
  have y2 : w2.heap.size < w3.heap.size := block_lt_of_cell r20
  clear r2
  go_wp2_with fail
  refine (HV.out _).mono ?_
  rintro e w4 ⟨rfl, q4⟩
  clear r20 r21 y2
  have m3 := b_next q4 A3.out
  have m1 := b_next q4 (b_next (((q2.alloc (.cells #[.int .i64 rx, .int .i64 ry] 29)).trans q3).alloc (.cells #[.int .i64 sx, .int .i64 b] 29)) A1.out)
  have m30 := row_cell (i := 0) m3 rfl
  have m31 := row_cell (i := 1) m3 rfl
  have m10 := row_cell (i := 0) m1 rfl
  have m11 := row_cell (i := 1) m1 rfl
  have M3 := Lib.hid m3
  have M1 := Lib.hid m1
  clear m1 m3
  go_wp2_with fail
  refine (pawake_true _).mono ?_
  rintro e w5 ⟨rfl, q5⟩
  clear m30 m31 m10 m11
  have m3 := b_next q5 M3.out
  have m1 := b_next q5 M1.out
  have m30 := row_cell (i := 0) m3 rfl
  have m10 := row_cell (i := 0) m1 rfl
  obtain ⟨k0, k1, k2, k3, k4⟩ := pr_next HP.out ((q3a.trans q4).trans q5)
  clear m1 m3 k1 k2 k3 k4
  rcases HS.out with h | ⟨h1, h2, h3, h4⟩
  all_goals
    go_wp2_with fail
    go_ret
    exact ⟨rfl, (((q3a.trans q4).trans q5).behind _).behind _⟩

/-- A position is found again. -/
theorem again (K L A S x y : Int) (h : Prj.Ok K L A S) (g : Prj.good K L A S x y) :
    Prj.north K A S (Prj.ny K A S (Prj.north K A S y)) = Prj.north K A S y ∧ (K ≠ 2 → Prj.east K L S (Prj.nx K L A S (Prj.east K L S x y) (Prj.north K A S y)) (Prj.ny K A S (Prj.north K A S y)) = Prj.east K L S x y) := by
  have hy := Prj.near_hits (Prj.north K A S) (Prj.north K A S y) (-306000) 306000 y g.1.2.2.1 g.1.2.2.2 (by omega) (fun u v a b c => Prj.north_mono K A S u v h.s0 h.v.2.2.1 h.v.2.2.2 a b c) rfl
  refine ⟨hy, fun hk => ?_⟩
  have yb := Prj.ny_bd K A S (Prj.north K A S y)
  refine Prj.near_hits (fun u => Prj.east K L S u (Prj.ny K A S (Prj.north K A S y))) (Prj.east K L S x y) (-648000) 648000 x g.1.1 g.1.2.1 (by omega) (fun u v a b c => Prj.east_mono K L S u v _ h.s0 h.v.1 h.v.2.1 a b c yb.1 yb.2) ?_
  show Prj.east K L S x _ = Prj.east K L S x y
  unfold Prj.east Prj.eu
  rw [if_neg hk, if_neg hk]
theorem far_zero (a : Int) : Prj.far a a ≤ 1 := by unfold Prj.far; omega
theorem walk (K L A S x y : Int) (_ : I64 K) (_ : I64 L) (_ : I64 A) (_ : I64 S) (_ : I64 x) (_ : I64 y) (w : World) : Calls Try.prog 7 #[.agg #[.int .i64 K, .int .i64 L, .int .i64 A, .int .i64 S], .agg #[.int .i64 x, .int .i64 y]] w fun e w' => e = .returned (.bool true) ∧ Q w w' := by
  by_cases h : Prj.Ok K L A S
  rotate_left
  · by_cases hk : K < 1 ∨ 4 < K
    · exact off K L A S x y _ _ 9 rfl w (fun W => To_err K L A S x y 9 rfl W (fun W => pcheck_kind K L A S W hk))
    · exact off K L A S x y _ _ 2 rfl w (fun W => To_err K L A S x y 2 rfl W (fun W => pcheck_range K L A S W (by omega) (by omega) h))
  have H1 := fun W => To_ok K L A S x y W h
  by_cases g : Prj.good K L A S x y
  rotate_left
  · rw [show Prj.qe K L A S x y = 2 from if_neg g] at H1
    exact off K L A S x y _ _ 2 rfl w H1
  rw [show Prj.qe K L A S x y = 0 from if_pos g, show Prj.qx K L A S x y = Prj.east K L S x y from if_pos g, show Prj.qy K L A S x y = Prj.north K A S y from if_pos g] at H1
  obtain ⟨n1, n2⟩ := again K L A S x y h g
  have H2 := fun W => From_ok K L A S (Prj.east K L S x y) (Prj.north K A S y) W h
  have xb := Prj.nx_bd K L A S (Prj.east K L S x y) (Prj.north K A S y)
  have yb := Prj.ny_bd K A S (Prj.north K A S y)
  have gp := g.2
  by_cases hh : Prj.hits K L A S (Prj.east K L S x y) (Prj.north K A S y)
  · rw [show Prj.fe K L A S (Prj.east K L S x y) (Prj.north K A S y) = 0 by unfold Prj.fe; rw [if_pos gp, if_pos hh], show Prj.fx K L A S (Prj.east K L S x y) (Prj.north K A S y) = _ from if_pos ⟨gp, hh⟩, show Prj.fy K L A S (Prj.east K L S x y) (Prj.north K A S y) = _ from if_pos ⟨gp, hh⟩] at H2
    have H3 := fun W => To_ok K L A S (Prj.nx K L A S (Prj.east K L S x y) (Prj.north K A S y)) (Prj.ny K A S (Prj.north K A S y)) W h
    have hg2 := hh.1
    have hf := hh.2.1
    have sb := Prj.qx_bd K L A S (Prj.nx K L A S (Prj.east K L S x y) (Prj.north K A S y)) (Prj.ny K A S (Prj.north K A S y))
    rw [show Prj.qe K L A S (Prj.nx K L A S (Prj.east K L S x y) (Prj.north K A S y)) (Prj.ny K A S (Prj.north K A S y)) = 0 from if_pos hg2, show Prj.qy K L A S (Prj.nx K L A S (Prj.east K L S x y) (Prj.north K A S y)) (Prj.ny K A S (Prj.north K A S y)) = Prj.north K A S y from (if_pos hg2).trans n1] at H3
    have hcase : K = 2 ∨ Prj.qx K L A S (Prj.nx K L A S (Prj.east K L S x y) (Prj.north K A S y)) (Prj.ny K A S (Prj.north K A S y)) = Prj.east K L S x y := by
      by_cases hk : K = 2
      · exact .inl hk
      · exact .inr ((if_pos hg2).trans (n2 hk))
    generalize Prj.qx K L A S (Prj.nx K L A S (Prj.east K L S x y) (Prj.north K A S y)) (Prj.ny K A S (Prj.north K A S y)) = sx at *
    refine found K L A S x y _ _ _ _ sx w H1 H2 H3 (fun W => svalid_yes _ _ W ⟨xb.1, xb.2, yb.1, yb.2⟩) ⟨gp.1, gp.2.1⟩ sb ?_
    by_cases e : sx = Prj.east K L S x y
    · exact .inl (by simp [e])
    · refine .inr ⟨by simpa using e, ?_, ?_, ?_⟩
      · rcases hcase with c | c
        · simp [c]
        · exact absurd c e
      · unfold Prj.far at hf; simp; omega
      · unfold Prj.far at hf; simp; omega
  · by_cases hk : K = 2
    · subst hk
      rw [show Prj.fe 2 L A S (Prj.east 2 L S x y) (Prj.north 2 A S y) = 7 by unfold Prj.fe; rw [if_pos gp, if_neg hh]] at H2
      exact lost L A S x y _ _ _ _ w H1 H2
    · exfalso
      have g2 : Prj.good K L A S (Prj.nx K L A S (Prj.east K L S x y) (Prj.north K A S y)) (Prj.ny K A S (Prj.north K A S y)) := ⟨⟨xb.1, xb.2, yb.1, yb.2⟩, by rw [n1, n2 hk]; exact gp⟩
      exact hh ⟨g2, by rw [show Prj.qx K L A S _ _ = _ from if_pos g2, n2 hk]; exact far_zero _, by rw [show Prj.qy K L A S _ _ = _ from if_pos g2, n1]; exact far_zero _⟩

theorem own : ownKnob Try.prog.godebug = none := by kernel_rfl

theorem contract (H : Type) (enc : TypeId × Value → H) (W : World) (base : Nat) (args : Array Value) (ds gs : List (DataW H)) (before : List MemPlace)
    (hval : ∀ (j : Nat) t v, Try.f7.params[j]? = some t → args[j]? = some v → Value.okWide Try.prog W .any base t v)
    (hW : DataW.Whole enc Try.prog Try.f7.params.toList Rows.projectInvertsSpec.vars false W args.toList ds gs before) :
    Calls Try.prog 7 args W fun e W' => ∃ v, e = .returned v ∧ Rows.projectInvertsSpec.post enc Try.prog Try.f7 false true false false W args v W' := by
  have hW' := hW
  obtain ⟨p, q, hA0, hV, rfl, hfz, hnd⟩ := hW
  have hA : DataW.TrodAll enc Try.prog W 0 (fun _ => true) true Try.f7.params.toList args.toList ds p := hA0
  rw [Try.params7] at hA hval
  obtain ⟨v0, vs0, d0, ds0, p0, q0, hargs, rfl, rfl, h0, r0⟩ := trodAll_cons hA
  obtain ⟨v1, vs1, d1, ds1, p1, q1, rfl, rfl, rfl, h1, r1⟩ := trodAll_cons r0
  obtain ⟨rfl, rfl, rfl⟩ := trodAll_nil r1
  obtain rfl : args = #[v0, v1] := by cases args; simp_all
  obtain ⟨rfl, rfl⟩ := trodVars_none hV
  obtain ⟨rfl, cs0, rfl, hs0, hz0⟩ := flat_open 4 (by kernel_rfl) Try.underlying23 (hval 0 23 v0 rfl rfl) h0
  obtain ⟨x00, x01, x02, x03, rfl, b00, b01, b02, b03⟩ := agg4_of (hs0.trans (show Try.prog.cellsOf 23 = 4 by kernel_rfl)) hz0
  obtain ⟨rfl, cs1, rfl, hs1, hz1⟩ := flat_open 4 (by kernel_rfl) Try.underlying29 (hval 1 29 v1 rfl rfl) h1
  obtain ⟨x10, x11, rfl, b10, b11⟩ := agg2_of (hs1.trans (show Try.prog.cellsOf 29 = 2 by kernel_rfl)) hz1
  clear hA0
  simp only [List.append_nil] at hW'
  refine (walk x00 x01 x02 x03 x10 x11 b00 b01 b02 b03 b10 b11 W).mono fun e W' ⟨he, bel⟩ => ?_
  subst he
  exact ⟨_, rfl, _, _, _, [], [], [], hW', trodAll_mk1 (shut_bool Try.underlying4 _), (trodAll_cons_mk (Below.trod laidOut (by kernel_rfl) (by decide +kernel) h0 bel (fun x hx => by cases hx)) (trodAll_cons_mk (Below.trod laidOut (by kernel_rfl) (by decide +kernel) h1 bel (fun x hx => by cases hx)) trodAll_mk0)), rfl, Below.frame bel _, fun h => by cases h⟩

set_option maxRecDepth 100000 in
theorem lifted (os : Os) (started : os.Started) (H : Type) (enc : TypeId × Value → H) :
    ReturnsInHanded {} Try.checked os 7 .any (Rows.projectInvertsSpec.pre6 enc Try.prog Try.f7 Rows.projectInvertsRow.domain false) (Rows.projectInvertsSpec.post enc Try.prog Try.f7 false true false false) := by
  refine returnsInHanded_of_change (C := Try.checked) own started (by kernel_rfl) Try.func7
    (ChangeSpec.witness6 (enc := enc) (C := Try.checked) false ⟨#[], #[.agg #[.int .i64 0, .int .i64 0, .int .i64 0, .int .i64 0], .agg #[.int .i64 0, .int .i64 0]], []⟩ 8 (by kernel_rfl) (by kernel_rfl) (by kernel_rfl) (by kernel_rfl)) ?_
  intro W base args ds gs before hval hW hcnd _
  exact contract H enc W base args ds gs before hval hW

theorem said : Rows.ProjectInvertsSaid :=
  OpenClaim.holds_of_wide 7 Try.f7 rfl rfl rfl rfl rfl rfl rfl ⟨rfl, rfl, rfl, rfl, rfl⟩ rfl rfl rfl rfl rfl (by kernel_rfl) Try.func7 (by kernel_rfl)
    (of_decide_eq_true (by kernel_rfl)) (by unfold Func.isWrapper; first | (rw [if_pos (by decide +kernel)]; kernel_rfl) | (rw [if_neg (by decide +kernel)]; exact ⟨rfl, rfl⟩))
    (fun os started H enc _ => lifted os started H enc)
end Go.Proofs.Ytmagppjmjjkbjaa.projectInverts
namespace Go.Proofs.Ytmagppjmjjkbjaa
theorem projectInverts_holds : Rows.ProjectInvertsSaid := projectInverts.said
#print axioms projectInverts_holds
end Go.Proofs.Ytmagppjmjjkbjaa
