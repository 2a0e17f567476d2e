/- Statement SeriesArcs (chapter 11): for every int y the program's Asin returns the reference's number or ErrRange, and the chapter's examples hold; the law returns true. -/
import Derived.Test.YtnneejodkdopnaaRows
import Derived.Test.YtnneejodkdopnaaAwake
import Derived.Test.YtnneejodkdopnaaNear
import Derived.Test.YtnneejodkdopnaaRefB
import Derived.WalkKit
import Derived.ProofKit
import Derived.OpenShut
namespace Go.Proofs.Ytnneejodkdopnaa.seriesArcs
open Go.ChangeShapes Go.WideShapes Go.ChangeAt Go.RowKit
set_option linter.unusedVariables false

theorem own : ownKnob Try.prog.godebug = none := by kernel_rfl

set_option maxHeartbeats 1000000 in
theorem walk (a0 : Int) (l0 : -9223372036854775808 ≤ a0) (u0 : a0 ≤ 9223372036854775807) (w : World) :
    Calls Try.prog 4 #[.int .i64 a0] w fun e w' => e = .returned (.bool true) ∧ Q w w' := by
  by_cases c : a0 < -1073741824 ∨ 1073741824 < a0
  · have H1 := Lib.hid (fun W => asin_out a0 c W)
    have H2 := Lib.hid (fun W => rasin_out a0 c W)
    clear c
    go_enter Try.func4, Try.ntmps4
    go_wp2_with fail
    refine (H1.out _).mono ?_
    rintro e w1 ⟨rfl, q1⟩
    go_wp2_with fail
    refine (H2.out _).mono ?_
    rintro e w2 ⟨rfl, q2⟩
    go_wp2_with fail
    refine (awake_any _).mono ?_
    rintro e w3 ⟨rfl, q3⟩
    go_wp2_with fail
    go_ret
    exact ⟨rfl, q1.trans (q2.trans q3)⟩
  have b0 : -1073741824 ≤ a0 := by omega
  have b1 : a0 ≤ 1073741824 := by omega
  clear c
  have H1 := Lib.hid (fun W => asin_any a0 b0 b1 W)
  have H2 := Lib.hid (fun W => rasin_any a0 b0 b1 W)
  rw [Ser.rasin_eq a0 b0 b1] at H2
  generalize Ser.asin a0 = s at *
  have e : (s == s) = true := by simp
  go_enter Try.func4, Try.ntmps4
  go_wp2_with fail
  refine (H1.out _).mono ?_
  rintro e w1 ⟨rfl, q1⟩
  go_wp2_with fail
  refine (H2.out _).mono ?_
  rintro e w2 ⟨rfl, q2⟩
  go_wp2_with fail
  refine (awake_any _).mono ?_
  rintro e w3 ⟨rfl, q3⟩
  go_wp2_with fail
  go_ret
  exact ⟨rfl, q1.trans (q2.trans q3)⟩


theorem bd {x : Int} (h : (Lit.int .i64 x).wf = true) : -9223372036854775808 ≤ x ∧ x ≤ 9223372036854775807 := bounds_i64 h

set_option maxRecDepth 100000 in
theorem lifted (os : Os) (started : os.Started) (H : Type) (enc : TypeId × Value → H) :
    ReturnsInHanded {} Try.checked os 4 .any (Rows.seriesArcsSpec.pre6 enc Try.prog Try.f4 Rows.seriesArcsRow.domain false) (Rows.seriesArcsSpec.post enc Try.prog Try.f4 false true false false) := by
  refine returnsInHanded_of_change (C := Try.checked) own started (by kernel_rfl) Try.func4
    (ChangeSpec.witness6 (enc := enc) (C := Try.checked) false ⟨#[], #[.int .i64 0], []⟩ 8 (by kernel_rfl) (by kernel_rfl) (by kernel_rfl) (by kernel_rfl)) ?_
  intro W base args ds gs before hval0 hW hcnd _
  have hval : ∀ (j : Nat) t v, Try.f4.params[j]? = some t → args[j]? = some v → Value.okWide Try.prog W .any base t v := hval0
  have hW' := hW
  obtain ⟨p, q, hA0, hV, rfl, hfz, hnd⟩ := hW
  have hA : DataW.TrodAll enc Try.prog W 0 (fun _ => true) true Try.f4.params.toList args.toList ds p := hA0
  rw [Try.params4] at hA hval
  obtain ⟨v0, vs0, d0, ds0, p0, q0, hargs, rfl, rfl, h0, r0⟩ := trodAll_cons hA
  obtain ⟨rfl, rfl, rfl⟩ := trodAll_nil r0
  obtain rfl : args = #[v0] := by cases args; simp_all
  obtain ⟨rfl, rfl⟩ := trodVars_none hV
  obtain ⟨a0, rfl, rfl, rfl, w0⟩ := open_int Try.underlying3 (hval 0 3 v0 rfl rfl) h0
  clear hA0 hval0
  simp only [List.append_nil] at hW'
  refine (walk a0 (bd w0).1 (bd w0).2 W).mono fun e W' ⟨he, bel⟩ => ?_
  subst he
  exact ⟨_, rfl, _, _, _, [], [], [], hW', trodAll_mk1 (shut_bool Try.underlying4 _), (trodAll_cons_mk (shut_int Try.underlying3 w0) trodAll_mk0), rfl, Below.frame bel _, fun h => by cases h⟩

theorem over : Rows.seriesArcsRow.holds Try.pinned (OpenSpec.ofChange Rows.seriesArcsSpec) :=
  OpenClaim.holds_of_wide 4 Try.f4 rfl rfl rfl rfl rfl rfl rfl ⟨rfl, rfl, rfl, rfl, rfl⟩ rfl rfl rfl rfl rfl (by kernel_rfl) Try.func4 (by kernel_rfl)
    (of_decide_eq_true (by kernel_rfl)) (by unfold Func.isWrapper; first | (rw [if_pos (by decide +kernel)]; kernel_rfl) | (rw [if_neg (by decide +kernel)]; exact ⟨rfl, rfl⟩))
    (fun os started H enc _ => lifted os started H enc)

end Go.Proofs.Ytnneejodkdopnaa.seriesArcs
namespace Go.Proofs.Ytnneejodkdopnaa
theorem seriesArcs_holds : Rows.SeriesArcsSaid := seriesArcs.over
#print axioms seriesArcs_holds
end Go.Proofs.Ytnneejodkdopnaa
