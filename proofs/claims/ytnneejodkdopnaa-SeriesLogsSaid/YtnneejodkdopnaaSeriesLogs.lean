/- Statement SeriesLogs (chapter 11): for all ints x and s the program's Log and Artanh return the reference's numbers or ErrRange, and the chapter's examples hold; the law returns true. -/
import Derived.Test.YtnneejodkdopnaaRows
import Derived.Test.YtnneejodkdopnaaAwake
import Derived.Test.YtnneejodkdopnaaRefL
import Derived.WalkKit
import Derived.ProofKit
import Derived.OpenShut
namespace Go.Proofs.Ytnneejodkdopnaa.seriesLogs
open Go.ChangeShapes Go.WideShapes Go.ChangeAt Go.RowKit
set_option linter.unusedVariables false

theorem own : ownKnob Try.prog.godebug = none := by kernel_rfl

theorem core (a0 a1 v e u f : Int) (w : World)
    (H1 : Hid (∀ W, Calls Try.prog 21 #[.int .i64 a0] W fun r w' => r = .returned (.tuple #[.int .i64 v, .int .i64 e]) ∧ Q W w'))
    (H2 : Hid (∀ W, Calls Try.prog 22 #[.int .i64 a0] W fun r w' => r = .returned (.tuple #[.int .i64 v, .int .i64 e]) ∧ Q W w'))
    (H3 : Hid (∀ W, Calls Try.prog 23 #[.int .i64 a1] W fun r w' => r = .returned (.tuple #[.int .i64 u, .int .i64 f]) ∧ Q W w'))
    (H4 : Hid (∀ W, Calls Try.prog 24 #[.int .i64 a1] W fun r w' => r = .returned (.tuple #[.int .i64 u, .int .i64 f]) ∧ Q W w')) :
    Calls Try.prog 5 #[.int .i64 a0, .int .i64 a1] w fun e w' => e = .returned (.bool true) ∧ Q w w' := by
  have e1 : (v == v) = true := by simp
  have e2 : (e == e) = true := by simp
  have e3 : (u == u) = true := by simp
  have e4 : (f == f) = true := by simp
  go_enter Try.func5, Try.ntmps5
  go_wp2_with fail
  refine (H1.out _).mono ?_
  rintro e w1 ⟨rfl, q1⟩
  go_wp2_with fail
  refine (H2.out _).mono ?_
  rintro e w2 ⟨rfl, q2⟩
  go_wp2_with fail
  refine (H3.out _).mono ?_
  rintro e w3 ⟨rfl, q3⟩
  go_wp2_with fail
  refine (H4.out _).mono ?_
  rintro e w4 ⟨rfl, q4⟩
  go_wp2_with fail
  refine (awake_any _).mono ?_
  rintro e w5 ⟨rfl, q5⟩
  go_wp2_with fail
  go_ret
  exact ⟨rfl, q1.trans (q2.trans (q3.trans (q4.trans q5)))⟩

theorem walk (a0 a1 : Int) (l0 : -9223372036854775808 ≤ a0) (u0 : a0 ≤ 9223372036854775807) (l1 : -9223372036854775808 ≤ a1) (u1 : a1 ≤ 9223372036854775807) (w : World) :
    Calls Try.prog 5 #[.int .i64 a0, .int .i64 a1] w fun e w' => e = .returned (.bool true) ∧ Q w w' := by
  by_cases c : a0 < 1 ∨ 4611686018427387904 < a0
  · by_cases d : a1 < -1073725440 ∨ 1073725440 < a1
    · exact core a0 a1 _ _ _ _ w (fun W => log_out a0 c W) (fun W => rlog_out a0 c W) (fun W => artanh_out a1 d W) (fun W => rartanh_out a1 d W)
    · exact core a0 a1 _ _ _ _ w (fun W => log_out a0 c W) (fun W => rlog_out a0 c W) (fun W => artanh_any a1 (by omega) (by omega) W) (fun W => rartanh_any a1 (by omega) (by omega) W)
  · by_cases d : a1 < -1073725440 ∨ 1073725440 < a1
    · exact core a0 a1 _ _ _ _ w (fun W => log_any a0 (by omega) (by omega) W) (fun W => rlog_any a0 (by omega) (by omega) W) (fun W => artanh_out a1 d W) (fun W => rartanh_out a1 d W)
    · exact core a0 a1 _ _ _ _ w (fun W => log_any a0 (by omega) (by omega) W) (fun W => rlog_any a0 (by omega) (by omega) W) (fun W => artanh_any a1 (by omega) (by omega) W) (fun W => rartanh_any a1 (by omega) (by omega) W)


theorem bd {x : Int} (h : (Lit.int .i64 x).wf = true) : -9223372036854775808 ≤ x ∧ x ≤ 9223372036854775807 := bounds_i64 h

set_option maxRecDepth 100000 in
theorem lifted (os : Os) (started : os.Started) (H : Type) (enc : TypeId × Value → H) :
    ReturnsInHanded {} Try.checked os 5 .any (Rows.seriesLogsSpec.pre6 enc Try.prog Try.f5 Rows.seriesLogsRow.domain false) (Rows.seriesLogsSpec.post enc Try.prog Try.f5 false true false false) := by
  refine returnsInHanded_of_change (C := Try.checked) own started (by kernel_rfl) Try.func5
    (ChangeSpec.witness6 (enc := enc) (C := Try.checked) false ⟨#[], #[.int .i64 0, .int .i64 0], []⟩ 8 (by kernel_rfl) (by kernel_rfl) (by kernel_rfl) (by kernel_rfl)) ?_
  intro W base args ds gs before hval0 hW hcnd _
  have hval : ∀ (j : Nat) t v, Try.f5.params[j]? = some t → args[j]? = some v → Value.okWide Try.prog W .any base t v := hval0
  have hW' := hW
  obtain ⟨p, q, hA0, hV, rfl, hfz, hnd⟩ := hW
  have hA : DataW.TrodAll enc Try.prog W 0 (fun _ => true) true Try.f5.params.toList args.toList ds p := hA0
  rw [Try.params5] at hA hval
  obtain ⟨v0, vs0, d0, ds0, p0, q0, hargs, rfl, rfl, h0, r0⟩ := trodAll_cons hA
  obtain ⟨v1, vs1, d1, ds1, p1, q1, rfl, rfl, rfl, h1, r1⟩ := trodAll_cons r0
  obtain ⟨rfl, rfl, rfl⟩ := trodAll_nil r1
  obtain rfl : args = #[v0, v1] := by cases args; simp_all
  obtain ⟨rfl, rfl⟩ := trodVars_none hV
  obtain ⟨a0, rfl, rfl, rfl, w0⟩ := open_int Try.underlying3 (hval 0 3 v0 rfl rfl) h0
  obtain ⟨a1, rfl, rfl, rfl, w1⟩ := open_int Try.underlying3 (hval 1 3 v1 rfl rfl) h1
  clear hA0 hval0
  simp only [List.append_nil] at hW'
  refine (walk a0 a1 (bd w0).1 (bd w0).2 (bd w1).1 (bd w1).2 W).mono fun e W' ⟨he, bel⟩ => ?_
  subst he
  exact ⟨_, rfl, _, _, _, [], [], [], hW', trodAll_mk1 (shut_bool Try.underlying4 _), (trodAll_cons_mk (shut_int Try.underlying3 w0) (trodAll_cons_mk (shut_int Try.underlying3 w1) trodAll_mk0)), rfl, Below.frame bel _, fun h => by cases h⟩

theorem over : Rows.seriesLogsRow.holds Try.pinned (OpenSpec.ofChange Rows.seriesLogsSpec) :=
  OpenClaim.holds_of_wide 5 Try.f5 rfl rfl rfl rfl rfl rfl rfl ⟨rfl, rfl, rfl, rfl, rfl⟩ rfl rfl rfl rfl rfl (by kernel_rfl) Try.func5 (by kernel_rfl)
    (of_decide_eq_true (by kernel_rfl)) (by unfold Func.isWrapper; first | (rw [if_pos (by decide +kernel)]; kernel_rfl) | (rw [if_neg (by decide +kernel)]; exact ⟨rfl, rfl⟩))
    (fun os started H enc _ => lifted os started H enc)

end Go.Proofs.Ytnneejodkdopnaa.seriesLogs
namespace Go.Proofs.Ytnneejodkdopnaa
theorem seriesLogs_holds : Rows.SeriesLogsSaid := seriesLogs.over
#print axioms seriesLogs_holds
end Go.Proofs.Ytnneejodkdopnaa
