/- Statement SeriesRises (chapter 11): for all ints x and y with -324000 <= x <= y <= 324000 the sine does not decrease and the cosine (of the angles plus a quarter turn) does not increase; the law returns true for every x and y. -/
import Derived.Test.YtnneejodkdopnaaRows
import Derived.Test.YtnneejodkdopnaaAwake
import Derived.Test.YtnneejodkdopnaaMono
import Derived.WalkKit
import Derived.ProofKit
import Derived.OpenShut
namespace Go.Proofs.Ytnneejodkdopnaa.seriesRises
open Go.ChangeShapes Go.WideShapes Go.ChangeAt Go.RowKit
set_option linter.unusedVariables false

theorem own : ownKnob Try.prog.godebug = none := by kernel_rfl

theorem asleep (a0 a1 : Int) (w : World) (h : a0 < -324000 ∨ a1 < a0 ∨ 324000 < a1) :
    Calls Try.prog 7 #[.int .i64 a0, .int .i64 a1] w fun e w' => e = .returned (.bool true) ∧ Q w w' := by
  by_cases c1 : a0 < -324000
  · have d1 : decide (a0 < -324000) = true := by simpa using c1
    go_enter Try.func7, Try.ntmps7
    go_wp2_with fail
    refine (awake_any _).mono ?_
    rintro e w1 ⟨rfl, q1⟩
    go_wp2_with fail
    go_ret
    exact ⟨rfl, q1⟩
  · have d1 : decide (a0 < -324000) = false := by simpa using c1
    by_cases c2 : a1 < a0
    · have d2 : decide (a1 < a0) = true := by simpa using c2
      go_enter Try.func7, Try.ntmps7
      go_wp2_with fail
      refine (awake_any _).mono ?_
      rintro e w1 ⟨rfl, q1⟩
      go_wp2_with fail
      go_ret
      exact ⟨rfl, q1⟩
    · have d2 : decide (a1 < a0) = false := by simpa using c2
      have c3 : 324000 < a1 := by omega
      have d3 : decide (324000 < a1) = true := by simpa using c3
      go_enter Try.func7, Try.ntmps7
      go_wp2_with fail
      refine (awake_any _).mono ?_
      rintro e w1 ⟨rfl, q1⟩
      go_wp2_with fail
      go_ret
      exact ⟨rfl, q1⟩

set_option maxHeartbeats 1000000 in
theorem walk (a0 a1 : Int) (h0 : -9223372036854775808 ≤ a0) (h1 : a0 ≤ 9223372036854775807) (h2 : -9223372036854775808 ≤ a1) (h3 : a1 ≤ 9223372036854775807) (w : World) :
    Calls Try.prog 7 #[.int .i64 a0, .int .i64 a1] w fun e w' => e = .returned (.bool true) ∧ Q w w' := by
  by_cases c : a0 < -324000 ∨ a1 < a0 ∨ 324000 < a1
  · exact asleep a0 a1 w c
  have b1 : -324000 ≤ a0 := by omega
  have b2 : a0 ≤ a1 := by omega
  have b3 : a1 ≤ 324000 := by omega
  clear c
  have d1 : decide (a0 < -324000) = false := by simp; omega
  have d2 : decide (a1 < a0) = false := by simp; omega
  have d3 : decide (324000 < a1) = false := by simp; omega
  have H1 := Lib.hid (fun W => sin_any a0 h0 h1 W)
  have H2 := Lib.hid (fun W => sin_any a1 h2 h3 W)
  have H3 := Lib.hid (fun W => cos_any (a0 + 324000) (by omega) (by omega) W)
  have H4 := Lib.hid (fun W => cos_any (a1 + 324000) (by omega) (by omega) W)
  have m1 := Ser.sin_mono a0 a1 b1 b2 b3
  have m2 : Ser.cos (a1 + 324000) ≤ Ser.cos (a0 + 324000) := by
    rw [Ser.cos_half (a1 + 324000) (by omega) (by omega), Ser.cos_half (a0 + 324000) (by omega) (by omega)]
    exact Ser.sin_mono _ _ (by omega) (by omega) (by omega)
  generalize Ser.sin a0 = s0 at *
  generalize Ser.sin a1 = s1 at *
  generalize Ser.cos (a0 + 324000) = c0 at *
  generalize Ser.cos (a1 + 324000) = c1 at *
  have e1 : decide (s0 ≤ s1) = true := by simpa using m1
  have e2 : decide (c1 ≤ c0) = true := by simpa using m2
  go_enter Try.func7, Try.ntmps7
  go_wp2_with fail
  refine (H1.out _).mono ?_
  rintro e w1 ⟨rfl, q1⟩
  go_wp2_with fail
  refine (H2.out _).mono ?_
  rintro e w2 ⟨rfl, q2⟩
  go_wp2_with fail
  refine (H3.out _).mono ?_
  rintro e w3 ⟨rfl, q3⟩
  go_wp2_with fail
  refine (H4.out _).mono ?_
  rintro e w4 ⟨rfl, q4⟩
  go_wp2_with fail
  refine (awake_any _).mono ?_
  rintro e w5 ⟨rfl, q5⟩
  go_wp2_with fail
  go_ret
  exact ⟨rfl, q1.trans (q2.trans (q3.trans (q4.trans q5)))⟩


theorem bd {x : Int} (h : (Lit.int .i64 x).wf = true) : -9223372036854775808 ≤ x ∧ x ≤ 9223372036854775807 := bounds_i64 h

set_option maxRecDepth 100000 in
theorem lifted (os : Os) (started : os.Started) (H : Type) (enc : TypeId × Value → H) :
    ReturnsInHanded {} Try.checked os 7 .any (Rows.seriesRisesSpec.pre6 enc Try.prog Try.f7 Rows.seriesRisesRow.domain false) (Rows.seriesRisesSpec.post enc Try.prog Try.f7 false true false false) := by
  refine returnsInHanded_of_change (C := Try.checked) own started (by kernel_rfl) Try.func7
    (ChangeSpec.witness6 (enc := enc) (C := Try.checked) false ⟨#[], #[.int .i64 0, .int .i64 0], []⟩ 8 (by kernel_rfl) (by kernel_rfl) (by kernel_rfl) (by kernel_rfl)) ?_
  intro W base args ds gs before hval0 hW hcnd _
  have hval : ∀ (j : Nat) t v, Try.f7.params[j]? = some t → args[j]? = some v → Value.okWide Try.prog W .any base t v := hval0
  have hW' := hW
  obtain ⟨p, q, hA0, hV, rfl, hfz, hnd⟩ := hW
  have hA : DataW.TrodAll enc Try.prog W 0 (fun _ => true) true Try.f7.params.toList args.toList ds p := hA0
  rw [Try.params7] at hA hval
  obtain ⟨v0, vs0, d0, ds0, p0, q0, hargs, rfl, rfl, h0, r0⟩ := trodAll_cons hA
  obtain ⟨v1, vs1, d1, ds1, p1, q1, rfl, rfl, rfl, h1, r1⟩ := trodAll_cons r0
  obtain ⟨rfl, rfl, rfl⟩ := trodAll_nil r1
  obtain rfl : args = #[v0, v1] := by cases args; simp_all
  obtain ⟨rfl, rfl⟩ := trodVars_none hV
  obtain ⟨a0, rfl, rfl, rfl, w0⟩ := open_int Try.underlying3 (hval 0 3 v0 rfl rfl) h0
  obtain ⟨a1, rfl, rfl, rfl, w1⟩ := open_int Try.underlying3 (hval 1 3 v1 rfl rfl) h1
  clear hA0 hval0
  simp only [List.append_nil] at hW'
  refine (walk a0 a1 (bd w0).1 (bd w0).2 (bd w1).1 (bd w1).2 W).mono fun e W' ⟨he, bel⟩ => ?_
  subst he
  exact ⟨_, rfl, _, _, _, [], [], [], hW', trodAll_mk1 (shut_bool Try.underlying4 _), (trodAll_cons_mk (shut_int Try.underlying3 w0) (trodAll_cons_mk (shut_int Try.underlying3 w1) trodAll_mk0)), rfl, Below.frame bel _, fun h => by cases h⟩

theorem over : Rows.seriesRisesRow.holds Try.pinned (OpenSpec.ofChange Rows.seriesRisesSpec) :=
  OpenClaim.holds_of_wide 7 Try.f7 rfl rfl rfl rfl rfl rfl rfl ⟨rfl, rfl, rfl, rfl, rfl⟩ rfl rfl rfl rfl rfl (by kernel_rfl) Try.func7 (by kernel_rfl)
    (of_decide_eq_true (by kernel_rfl)) (by unfold Func.isWrapper; first | (rw [if_pos (by decide +kernel)]; kernel_rfl) | (rw [if_neg (by decide +kernel)]; exact ⟨rfl, rfl⟩))
    (fun os started H enc _ => lifted os started H enc)

end Go.Proofs.Ytnneejodkdopnaa.seriesRises
namespace Go.Proofs.Ytnneejodkdopnaa
theorem seriesRises_holds : Rows.SeriesRisesSaid := seriesRises.over
#print axioms seriesRises_holds
end Go.Proofs.Ytnneejodkdopnaa
