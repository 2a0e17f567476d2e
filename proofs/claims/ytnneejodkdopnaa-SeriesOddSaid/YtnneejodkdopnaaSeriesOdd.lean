/- Statement SeriesOdd (chapter 11): for all ints s from 0 to One - 2^14 - 1 Artanh is odd, does not decrease, and twice its value is the difference of two logarithms within 2; the law returns true for every s. -/
import Derived.Test.YtnneejodkdopnaaRows
import Derived.Test.YtnneejodkdopnaaAwake
import Derived.Test.YtnneejodkdopnaaLogM
import Derived.WalkKit
import Derived.ProofKit
import Derived.OpenShut
namespace Go.Proofs.Ytnneejodkdopnaa.seriesOdd
open Go.ChangeShapes Go.WideShapes Go.ChangeAt Go.RowKit
set_option linter.unusedVariables false

theorem own : ownKnob Try.prog.godebug = none := by kernel_rfl

theorem asleep (a0 : Int) (w : World) (h : a0 < 0 ∨ 1073725440 ≤ a0) :
    Calls Try.prog 10 #[.int .i64 a0] w fun e w' => e = .returned (.bool true) ∧ Q w w' := by
  by_cases c0 : a0 < 0
  · have d0 : decide (a0 < 0) = true := by simpa using c0
    go_enter Try.func10, Try.ntmps10
    go_wp2_with fail
    refine (awake_any _).mono ?_
    rintro e w1 ⟨rfl, q1⟩
    go_wp2_with fail
    go_ret
    exact ⟨rfl, q1⟩
  have d0 : decide (a0 < 0) = false := by simpa using c0
  have c1 : 1073725440 ≤ a0 := by omega
  have d1 : decide (1073725440 ≤ a0) = true := by simpa using c1
  go_enter Try.func10, Try.ntmps10
  go_wp2_with fail
  refine (awake_any _).mono ?_
  rintro e w1 ⟨rfl, q1⟩
  go_wp2_with fail
  go_ret
  exact ⟨rfl, q1⟩

set_option maxHeartbeats 1000000 in
theorem walk (a0 : Int) (l0 : -9223372036854775808 ≤ a0) (u0 : a0 ≤ 9223372036854775807) (w : World) :
    Calls Try.prog 10 #[.int .i64 a0] w fun e w' => e = .returned (.bool true) ∧ Q w w' := by
  by_cases c : a0 < 0 ∨ 1073725440 ≤ a0
  · exact asleep a0 w c
  have b0 : 0 ≤ a0 := by omega
  have b1 : a0 < 1073725440 := by omega
  clear c
  have d0 : decide (a0 < 0) = false := by simp; omega
  have d1 : decide (1073725440 ≤ a0) = false := by simp; omega
  have H1 := Lib.hid (fun W => artanh_any a0 (by omega) (by omega) W)
  have H2 := Lib.hid (fun W => artanh_any (-a0) (by omega) (by omega) W)
  have H3 := Lib.hid (fun W => artanh_any (a0 + 1) (by omega) (by omega) W)
  have H4 := Lib.hid (fun W => log_any (1073741824 + a0) (by omega) (by omega) W)
  have H5 := Lib.hid (fun W => log_any (1073741824 - a0) (by omega) (by omega) W)
  rw [Ser.artanh_odd a0 b0 (by omega)] at H2
  have hm := Ser.artanh_mono a0 b0 b1
  have hl := Ser.artanh_logs a0 b0
  have x1 := Ser.artanh_bd a0 b0 (by omega)
  have x2 := Ser.artanh_bd (a0 + 1) (by omega) (by omega)
  have x4 := Ser.log_bd (1073741824 + a0) (by omega) (by omega)
  have x5 := Ser.log_bd (1073741824 - a0) (by omega) (by omega)
  generalize Ser.artanh a0 = a at *
  generalize Ser.artanh (a0 + 1) = c at *
  generalize Ser.log (1073741824 + a0) = x at *
  generalize Ser.log (1073741824 - a0) = y at *
  obtain ⟨hl0, hl1⟩ := hl
  obtain ⟨x10, x11⟩ := x1
  obtain ⟨x20, x21⟩ := x2
  obtain ⟨x40, x41⟩ := x4
  obtain ⟨x50, x51⟩ := x5
  have e1 : (-a != -a) = false := by simp
  have e2 : decide (c < a) = false := by simp; omega
  have e3 : decide (-2 ≤ 2 * a - (x - y)) = true := by simp; omega
  have e4 : decide (2 * a - (x - y) ≤ 2) = true := by simp; omega
  go_enter Try.func10, Try.ntmps10
  go_wp2_with fail
  refine (H1.out _).mono ?_
  rintro e w1 ⟨rfl, q1⟩
  go_wp2_with fail
  refine (H2.out _).mono ?_
  rintro e w2 ⟨rfl, q2⟩
  go_wp2_with fail
  refine (H3.out _).mono ?_
  rintro e w3 ⟨rfl, q3⟩
  go_wp2_with fail
  refine (H4.out _).mono ?_
  rintro e w4 ⟨rfl, q4⟩
  go_wp2_with fail
  refine (H5.out _).mono ?_
  rintro e w5 ⟨rfl, q5⟩
  go_wp2_with fail
  refine (awake_any _).mono ?_
  rintro e w6 ⟨rfl, q6⟩
  go_wp2_with fail
  go_ret
  exact ⟨rfl, q1.trans (q2.trans (q3.trans (q4.trans (q5.trans q6))))⟩


theorem bd {x : Int} (h : (Lit.int .i64 x).wf = true) : -9223372036854775808 ≤ x ∧ x ≤ 9223372036854775807 := bounds_i64 h

set_option maxRecDepth 100000 in
theorem lifted (os : Os) (started : os.Started) (H : Type) (enc : TypeId × Value → H) :
    ReturnsInHanded {} Try.checked os 10 .any (Rows.seriesOddSpec.pre6 enc Try.prog Try.f10 Rows.seriesOddRow.domain false) (Rows.seriesOddSpec.post enc Try.prog Try.f10 false true false false) := by
  refine returnsInHanded_of_change (C := Try.checked) own started (by kernel_rfl) Try.func10
    (ChangeSpec.witness6 (enc := enc) (C := Try.checked) false ⟨#[], #[.int .i64 0], []⟩ 8 (by kernel_rfl) (by kernel_rfl) (by kernel_rfl) (by kernel_rfl)) ?_
  intro W base args ds gs before hval0 hW hcnd _
  have hval : ∀ (j : Nat) t v, Try.f10.params[j]? = some t → args[j]? = some v → Value.okWide Try.prog W .any base t v := hval0
  have hW' := hW
  obtain ⟨p, q, hA0, hV, rfl, hfz, hnd⟩ := hW
  have hA : DataW.TrodAll enc Try.prog W 0 (fun _ => true) true Try.f10.params.toList args.toList ds p := hA0
  rw [Try.params10] at hA hval
  obtain ⟨v0, vs0, d0, ds0, p0, q0, hargs, rfl, rfl, h0, r0⟩ := trodAll_cons hA
  obtain ⟨rfl, rfl, rfl⟩ := trodAll_nil r0
  obtain rfl : args = #[v0] := by cases args; simp_all
  obtain ⟨rfl, rfl⟩ := trodVars_none hV
  obtain ⟨a0, rfl, rfl, rfl, w0⟩ := open_int Try.underlying3 (hval 0 3 v0 rfl rfl) h0
  clear hA0 hval0
  simp only [List.append_nil] at hW'
  refine (walk a0 (bd w0).1 (bd w0).2 W).mono fun e W' ⟨he, bel⟩ => ?_
  subst he
  exact ⟨_, rfl, _, _, _, [], [], [], hW', trodAll_mk1 (shut_bool Try.underlying4 _), (trodAll_cons_mk (shut_int Try.underlying3 w0) trodAll_mk0), rfl, Below.frame bel _, fun h => by cases h⟩

theorem over : Rows.seriesOddRow.holds Try.pinned (OpenSpec.ofChange Rows.seriesOddSpec) :=
  OpenClaim.holds_of_wide 10 Try.f10 rfl rfl rfl rfl rfl rfl rfl ⟨rfl, rfl, rfl, rfl, rfl⟩ rfl rfl rfl rfl rfl (by kernel_rfl) Try.func10 (by kernel_rfl)
    (of_decide_eq_true (by kernel_rfl)) (by unfold Func.isWrapper; first | (rw [if_pos (by decide +kernel)]; kernel_rfl) | (rw [if_neg (by decide +kernel)]; exact ⟨rfl, rfl⟩))
    (fun os started H enc _ => lifted os started H enc)

end Go.Proofs.Ytnneejodkdopnaa.seriesOdd
namespace Go.Proofs.Ytnneejodkdopnaa
theorem seriesOdd_holds : Rows.SeriesOddSaid := seriesOdd.over
#print axioms seriesOdd_holds
end Go.Proofs.Ytnneejodkdopnaa
