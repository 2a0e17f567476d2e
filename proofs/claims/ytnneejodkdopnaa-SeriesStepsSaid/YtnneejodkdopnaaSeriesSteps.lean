/- Statement SeriesSteps (chapter 11): for all ints x and y from -2^30 to 2^30 an arc second is 5205 or 5206 units, and the radians of a sum are the sum of the radians within a unit; the law returns true for every x and y. -/
import Derived.Test.YtnneejodkdopnaaRows
import Derived.Test.YtnneejodkdopnaaAwake
import Derived.WalkKit
import Derived.ProofKit
import Derived.OpenShut
namespace Go.Proofs.Ytnneejodkdopnaa.seriesSteps
open Go.ChangeShapes Go.WideShapes Go.ChangeAt Go.RowKit
set_option linter.unusedVariables false

theorem own : ownKnob Try.prog.godebug = none := by kernel_rfl

theorem asleep (a0 a1 : Int) (w : World) (h : a0 < -1073741824 ∨ 1073741824 < a0 ∨ a1 < -1073741824 ∨ 1073741824 < a1) :
    Calls Try.prog 11 #[.int .i64 a0, .int .i64 a1] w fun e w' => e = .returned (.bool true) ∧ Q w w' := by
  by_cases c1 : a0 < -1073741824
  · have d1 : decide (a0 < -1073741824) = true := by simpa using c1
    go_enter Try.func11, Try.ntmps11
    go_wp2_with fail
    refine (awake_any _).mono ?_
    rintro e w1 ⟨rfl, q1⟩
    go_wp2_with fail
    go_ret
    exact ⟨rfl, q1⟩
  have d1 : decide (a0 < -1073741824) = false := by simpa using c1
  by_cases c2 : 1073741824 < a0
  · have d2 : decide (1073741824 < a0) = true := by simpa using c2
    go_enter Try.func11, Try.ntmps11
    go_wp2_with fail
    refine (awake_any _).mono ?_
    rintro e w1 ⟨rfl, q1⟩
    go_wp2_with fail
    go_ret
    exact ⟨rfl, q1⟩
  have d2 : decide (1073741824 < a0) = false := by simpa using c2
  by_cases c3 : a1 < -1073741824
  · have d3 : decide (a1 < -1073741824) = true := by simpa using c3
    go_enter Try.func11, Try.ntmps11
    go_wp2_with fail
    refine (awake_any _).mono ?_
    rintro e w1 ⟨rfl, q1⟩
    go_wp2_with fail
    go_ret
    exact ⟨rfl, q1⟩
  have d3 : decide (a1 < -1073741824) = false := by simpa using c3
  have c4 : 1073741824 < a1 := by omega
  have d4 : decide (1073741824 < a1) = true := by simpa using c4
  go_enter Try.func11, Try.ntmps11
  go_wp2_with fail
  refine (awake_any _).mono ?_
  rintro e w1 ⟨rfl, q1⟩
  go_wp2_with fail
  go_ret
  exact ⟨rfl, q1⟩

theorem rad_eq (x : Int) (h0 : -2147483648 ≤ x) (h1 : x ≤ 2147483648) : Ser.rad x = (x * 3373259426 + 324000) / 648000 := by
  unfold Ser.rad Ser.rnd
  rw [if_neg (by omega)]
  omega

set_option maxHeartbeats 1000000 in
theorem walk (a0 a1 : Int) (h0 : -9223372036854775808 ≤ a0) (h1 : a0 ≤ 9223372036854775807) (h2 : -9223372036854775808 ≤ a1) (h3 : a1 ≤ 9223372036854775807) (w : World) :
    Calls Try.prog 11 #[.int .i64 a0, .int .i64 a1] w fun e w' => e = .returned (.bool true) ∧ Q w w' := by
  by_cases c : a0 < -1073741824 ∨ 1073741824 < a0 ∨ a1 < -1073741824 ∨ 1073741824 < a1
  · exact asleep a0 a1 w c
  have b1 : -1073741824 ≤ a0 := by omega
  have b2 : a0 ≤ 1073741824 := by omega
  have b3 : -1073741824 ≤ a1 := by omega
  have b4 : a1 ≤ 1073741824 := by omega
  clear c
  have d1 : decide (a0 < -1073741824) = false := by simp; omega
  have d2 : decide (1073741824 < a0) = false := by simp; omega
  have d3 : decide (a1 < -1073741824) = false := by simp; omega
  have d4 : decide (1073741824 < a1) = false := by simp; omega
  have H1 := Lib.hid (fun W => rad_any (a0 + 1) (by omega) (by omega) W)
  have H2 := Lib.hid (fun W => rad_any a0 (by omega) (by omega) W)
  have H3 := Lib.hid (fun W => rad_any (a0 + a1) (by omega) (by omega) W)
  have H4 := Lib.hid (fun W => rad_any a1 (by omega) (by omega) W)
  have r1 := rad_eq (a0 + 1) (by omega) (by omega)
  have r2 := rad_eq a0 (by omega) (by omega)
  have r3 := rad_eq (a0 + a1) (by omega) (by omega)
  have r4 := rad_eq a1 (by omega) (by omega)
  generalize Ser.rad (a0 + 1) = x1 at *
  generalize Ser.rad a0 = x2 at *
  generalize Ser.rad (a0 + a1) = x3 at *
  generalize Ser.rad a1 = x4 at *
  have e1 : decide (5205 ≤ x1 - x2) = true := by simp; omega
  have e2 : decide (x1 - x2 ≤ 5206) = true := by simp; omega
  have e3 : decide (-1 ≤ x3 - x2 - x4) = true := by simp; omega
  have e4 : decide (x3 - x2 - x4 ≤ 1) = true := by simp; omega
  have y1 : -9000000000000 ≤ x1 ∧ x1 ≤ 9000000000000 := by omega
  have y2 : -9000000000000 ≤ x2 ∧ x2 ≤ 9000000000000 := by omega
  have y3 : -18000000000000 ≤ x3 ∧ x3 ≤ 18000000000000 := by omega
  have y4 : -9000000000000 ≤ x4 ∧ x4 ≤ 9000000000000 := by omega
  clear r1 r2 r3 r4
  obtain ⟨y10, y11⟩ := y1
  obtain ⟨y20, y21⟩ := y2
  obtain ⟨y30, y31⟩ := y3
  obtain ⟨y40, y41⟩ := y4
  go_enter Try.func11, Try.ntmps11
  go_wp2_with fail
  refine (H1.out _).mono ?_
  rintro e w' ⟨rfl, rfl⟩
  go_wp2_with fail
  refine (H2.out _).mono ?_
  rintro e w' ⟨rfl, rfl⟩
  go_wp2_with fail
  refine (H3.out _).mono ?_
  rintro e w' ⟨rfl, rfl⟩
  go_wp2_with fail
  refine (H2.out _).mono ?_
  rintro e w' ⟨rfl, rfl⟩
  go_wp2_with fail
  refine (H4.out _).mono ?_
  rintro e w' ⟨rfl, rfl⟩
  go_wp2_with fail
  refine (awake_any _).mono ?_
  rintro e w5 ⟨rfl, q5⟩
  go_wp2_with fail
  go_ret
  exact ⟨rfl, q5⟩


theorem bd {x : Int} (h : (Lit.int .i64 x).wf = true) : -9223372036854775808 ≤ x ∧ x ≤ 9223372036854775807 := bounds_i64 h

set_option maxRecDepth 100000 in
theorem lifted (os : Os) (started : os.Started) (H : Type) (enc : TypeId × Value → H) :
    ReturnsInHanded {} Try.checked os 11 .any (Rows.seriesStepsSpec.pre6 enc Try.prog Try.f11 Rows.seriesStepsRow.domain false) (Rows.seriesStepsSpec.post enc Try.prog Try.f11 false true false false) := by
  refine returnsInHanded_of_change (C := Try.checked) own started (by kernel_rfl) Try.func11
    (ChangeSpec.witness6 (enc := enc) (C := Try.checked) false ⟨#[], #[.int .i64 0, .int .i64 0], []⟩ 8 (by kernel_rfl) (by kernel_rfl) (by kernel_rfl) (by kernel_rfl)) ?_
  intro W base args ds gs before hval0 hW hcnd _
  have hval : ∀ (j : Nat) t v, Try.f11.params[j]? = some t → args[j]? = some v → Value.okWide Try.prog W .any base t v := hval0
  have hW' := hW
  obtain ⟨p, q, hA0, hV, rfl, hfz, hnd⟩ := hW
  have hA : DataW.TrodAll enc Try.prog W 0 (fun _ => true) true Try.f11.params.toList args.toList ds p := hA0
  rw [Try.params11] at hA hval
  obtain ⟨v0, vs0, d0, ds0, p0, q0, hargs, rfl, rfl, h0, r0⟩ := trodAll_cons hA
  obtain ⟨v1, vs1, d1, ds1, p1, q1, rfl, rfl, rfl, h1, r1⟩ := trodAll_cons r0
  obtain ⟨rfl, rfl, rfl⟩ := trodAll_nil r1
  obtain rfl : args = #[v0, v1] := by cases args; simp_all
  obtain ⟨rfl, rfl⟩ := trodVars_none hV
  obtain ⟨a0, rfl, rfl, rfl, w0⟩ := open_int Try.underlying3 (hval 0 3 v0 rfl rfl) h0
  obtain ⟨a1, rfl, rfl, rfl, w1⟩ := open_int Try.underlying3 (hval 1 3 v1 rfl rfl) h1
  clear hA0 hval0
  simp only [List.append_nil] at hW'
  refine (walk a0 a1 (bd w0).1 (bd w0).2 (bd w1).1 (bd w1).2 W).mono fun e W' ⟨he, bel⟩ => ?_
  subst he
  exact ⟨_, rfl, _, _, _, [], [], [], hW', trodAll_mk1 (shut_bool Try.underlying4 _), (trodAll_cons_mk (shut_int Try.underlying3 w0) (trodAll_cons_mk (shut_int Try.underlying3 w1) trodAll_mk0)), rfl, Below.frame bel _, fun h => by cases h⟩

theorem over : Rows.seriesStepsRow.holds Try.pinned (OpenSpec.ofChange Rows.seriesStepsSpec) :=
  OpenClaim.holds_of_wide 11 Try.f11 rfl rfl rfl rfl rfl rfl rfl ⟨rfl, rfl, rfl, rfl, rfl⟩ rfl rfl rfl rfl rfl (by kernel_rfl) Try.func11 (by kernel_rfl)
    (of_decide_eq_true (by kernel_rfl)) (by unfold Func.isWrapper; first | (rw [if_pos (by decide +kernel)]; kernel_rfl) | (rw [if_neg (by decide +kernel)]; exact ⟨rfl, rfl⟩))
    (fun os started H enc _ => lifted os started H enc)

end Go.Proofs.Ytnneejodkdopnaa.seriesSteps
namespace Go.Proofs.Ytnneejodkdopnaa
theorem seriesSteps_holds : Rows.SeriesStepsSaid := seriesSteps.over
#print axioms seriesSteps_holds
end Go.Proofs.Ytnneejodkdopnaa
