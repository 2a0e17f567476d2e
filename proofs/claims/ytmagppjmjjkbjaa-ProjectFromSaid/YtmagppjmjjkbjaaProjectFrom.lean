
/- For every projection and point, ProjectFrom returns true: project.From returns the specified position or error. No condition. -/
import Derived.Test.YtmagppjmjjkbjaaRows
import Derived.Test.YtmagppjmjjkbjaaPrjAwake
import Derived.Test.YtmagppjmjjkbjaaFlat
import Derived.Deep.RegionHeld3
namespace Go.Proofs.Ytmagppjmjjkbjaa.projectFrom
open Go.ChangeShapes Go.WideShapes Go.ChangeAt Go.RowKit
set_option linter.unusedVariables false


set_option maxHeartbeats 4000000 in
theorem core (K L A S x y a b er : Int) (w : World)
    (HC : Hid (∀ w, Calls Try.prog 15 #[.agg #[.int .i64 K, .int .i64 L, .int .i64 A, .int .i64 S], .agg #[.int .i64 x, .int .i64 y]] w fun e w' => e = .returned (.tuple #[.agg #[.int .i64 a, .int .i64 b], .int .i64 er]) ∧ Q w w'))
    (HR : Hid (∀ w, Calls Try.prog 16 #[.agg #[.int .i64 K, .int .i64 L, .int .i64 A, .int .i64 S], .agg #[.int .i64 x, .int .i64 y]] w fun e w' => e = .returned (.tuple #[.agg #[.int .i64 a, .int .i64 b], .int .i64 er]) ∧ Q w w')) :
    Calls Try.prog 5 #[.agg #[.int .i64 K, .int .i64 L, .int .i64 A, .int .i64 S], .agg #[.int .i64 x, .int .i64 y]] w fun e w' => e = .returned (.bool true) ∧ Q w w' := by
  have HP := Lib.hid (pr_next (prs_fresh K L A S w) ((Q.refl _).alloc (.cells #[.int .i64 x, .int .i64 y] 29)))
  have HT := Lib.hid (heap_alloc2_new w (.cells #[.int .i64 K, .int .i64 L, .int .i64 A, .int .i64 S] 23) (.cells #[.int .i64 x, .int .i64 y] 29))
  go_enter Try.func5, Try.ntmps5
  go_wp2_with fail
  refine (HC.out _).mono ?_
  rintro e w1 ⟨rfl, q1⟩
  have q1a := q1.alloc (.cells #[.int .i64 a, .int .i64 b] 29)
  have A1 := Lib.hid (heap_alloc_new w1 (.cells #[.int .i64 a, .int .i64 b] 29))
  obtain ⟨k0, k1, k2, k3, k4⟩ := pr_next HP.out q1
  have t := b_next q1 HT.out
  have t0 := row_cell (i := 0) t rfl
  have t1 := row_cell (i := 1) t rfl
  have z0 : w.heap.size < w1.heap.size := block_lt_of_cell k0
  have z1 : w.heap.size + 1 < w1.heap.size := block_lt_of_cell t0
  clear t k4
  go_wp2_with fail
  refine (HR.out _).mono ?_
  rintro e w2 ⟨rfl, q2⟩
  clear k0 k1 k2 k3 t0 t1 z0 z1
  have A2 := Lib.hid (heap_alloc_new w2 (.cells #[.int .i64 a, .int .i64 b] 29))
  have q2a := q2.alloc (.cells #[.int .i64 a, .int .i64 b] 29)
  go_wp2_with fail
  refine (pawake_true _).mono ?_
  rintro e w3 ⟨rfl, q3⟩
  have b1 := b_next q3 (b_next q2a A1.out)
  have b2 := b_next q3 A2.out
  have c10 := row_cell (i := 0) b1 rfl
  have c11 := row_cell (i := 1) b1 rfl
  have c20 := row_cell (i := 0) b2 rfl
  have c21 := row_cell (i := 1) b2 rfl
  clear b1 b2
  go_wp2_with fail
  go_ret
  exact ⟨rfl, (((q1a.trans q2a).trans q3).behind _).behind _⟩
theorem walk (K L A S x y : Int) (_ : I64 K) (_ : I64 L) (_ : I64 A) (_ : I64 S) (_ : I64 x) (_ : I64 y) (w : World) : Calls Try.prog 5 #[.agg #[.int .i64 K, .int .i64 L, .int .i64 A, .int .i64 S], .agg #[.int .i64 x, .int .i64 y]] w fun e w' => e = .returned (.bool true) ∧ Q w w' := by
  by_cases h : Prj.Ok K L A S
  · exact core K L A S x y _ _ _ w (fun W => From_ok K L A S x y W h) (fun W => rFrom_ok K L A S x y W h)
  by_cases hk : K < 1 ∨ 4 < K
  · exact core K L A S x y _ _ 9 w (fun W => From_err K L A S x y 9 rfl W (fun W => pcheck_kind K L A S W hk)) (fun W => rFrom_err K L A S x y 9 rfl W (fun W => rpcheck_kind K L A S W hk))
  · exact core K L A S x y _ _ 2 w (fun W => From_err K L A S x y 2 rfl W (fun W => pcheck_range K L A S W (by omega) (by omega) h)) (fun W => rFrom_err K L A S x y 2 rfl W (fun W => rpcheck_range K L A S W (by omega) (by omega) h))

theorem own : ownKnob Try.prog.godebug = none := by kernel_rfl

theorem contract (H : Type) (enc : TypeId × Value → H) (W : World) (base : Nat) (args : Array Value) (ds gs : List (DataW H)) (before : List MemPlace)
    (hval : ∀ (j : Nat) t v, Try.f5.params[j]? = some t → args[j]? = some v → Value.okWide Try.prog W .any base t v)
    (hW : DataW.Whole enc Try.prog Try.f5.params.toList Rows.projectFromSpec.vars false W args.toList ds gs before) :
    Calls Try.prog 5 args W fun e W' => ∃ v, e = .returned v ∧ Rows.projectFromSpec.post enc Try.prog Try.f5 false true false false W args v W' := by
  have hW' := hW
  obtain ⟨p, q, hA0, hV, rfl, hfz, hnd⟩ := hW
  have hA : DataW.TrodAll enc Try.prog W 0 (fun _ => true) true Try.f5.params.toList args.toList ds p := hA0
  rw [Try.params5] at hA hval
  obtain ⟨v0, vs0, d0, ds0, p0, q0, hargs, rfl, rfl, h0, r0⟩ := trodAll_cons hA
  obtain ⟨v1, vs1, d1, ds1, p1, q1, rfl, rfl, rfl, h1, r1⟩ := trodAll_cons r0
  obtain ⟨rfl, rfl, rfl⟩ := trodAll_nil r1
  obtain rfl : args = #[v0, v1] := by cases args; simp_all
  obtain ⟨rfl, rfl⟩ := trodVars_none hV
  obtain ⟨rfl, cs0, rfl, hs0, hz0⟩ := flat_open 4 (by kernel_rfl) Try.underlying23 (hval 0 23 v0 rfl rfl) h0
  obtain ⟨x00, x01, x02, x03, rfl, b00, b01, b02, b03⟩ := agg4_of (hs0.trans (show Try.prog.cellsOf 23 = 4 by kernel_rfl)) hz0
  obtain ⟨rfl, cs1, rfl, hs1, hz1⟩ := flat_open 4 (by kernel_rfl) Try.underlying29 (hval 1 29 v1 rfl rfl) h1
  obtain ⟨x10, x11, rfl, b10, b11⟩ := agg2_of (hs1.trans (show Try.prog.cellsOf 29 = 2 by kernel_rfl)) hz1
  clear hA0
  simp only [List.append_nil] at hW'
  refine (walk x00 x01 x02 x03 x10 x11 b00 b01 b02 b03 b10 b11 W).mono fun e W' ⟨he, bel⟩ => ?_
  subst he
  exact ⟨_, rfl, _, _, _, [], [], [], hW', trodAll_mk1 (shut_bool Try.underlying4 _), (trodAll_cons_mk (Below.trod laidOut (by kernel_rfl) (by decide +kernel) h0 bel (fun x hx => by cases hx)) (trodAll_cons_mk (Below.trod laidOut (by kernel_rfl) (by decide +kernel) h1 bel (fun x hx => by cases hx)) trodAll_mk0)), rfl, Below.frame bel _, fun h => by cases h⟩

set_option maxRecDepth 100000 in
theorem lifted (os : Os) (started : os.Started) (H : Type) (enc : TypeId × Value → H) :
    ReturnsInHanded {} Try.checked os 5 .any (Rows.projectFromSpec.pre6 enc Try.prog Try.f5 Rows.projectFromRow.domain false) (Rows.projectFromSpec.post enc Try.prog Try.f5 false true false false) := by
  refine returnsInHanded_of_change (C := Try.checked) own started (by kernel_rfl) Try.func5
    (ChangeSpec.witness6 (enc := enc) (C := Try.checked) false ⟨#[], #[.agg #[.int .i64 0, .int .i64 0, .int .i64 0, .int .i64 0], .agg #[.int .i64 0, .int .i64 0]], []⟩ 8 (by kernel_rfl) (by kernel_rfl) (by kernel_rfl) (by kernel_rfl)) ?_
  intro W base args ds gs before hval hW hcnd _
  exact contract H enc W base args ds gs before hval hW

theorem said : Rows.ProjectFromSaid :=
  OpenClaim.holds_of_wide 5 Try.f5 rfl rfl rfl rfl rfl rfl rfl ⟨rfl, rfl, rfl, rfl, rfl⟩ rfl rfl rfl rfl rfl (by kernel_rfl) Try.func5 (by kernel_rfl)
    (of_decide_eq_true (by kernel_rfl)) (by unfold Func.isWrapper; first | (rw [if_pos (by decide +kernel)]; kernel_rfl) | (rw [if_neg (by decide +kernel)]; exact ⟨rfl, rfl⟩))
    (fun os started H enc _ => lifted os started H enc)
end Go.Proofs.Ytmagppjmjjkbjaa.projectFrom
namespace Go.Proofs.Ytmagppjmjjkbjaa
theorem projectFrom_holds : Rows.ProjectFromSaid := projectFrom.said
#print axioms projectFrom_holds
end Go.Proofs.Ytmagppjmjjkbjaa
