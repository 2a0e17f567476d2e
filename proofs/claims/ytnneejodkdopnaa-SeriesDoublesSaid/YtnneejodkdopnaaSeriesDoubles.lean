/- Statement SeriesDoubles (chapter 11): for all ints x from 1 to 2^61 doubling adds 744261117 or 744261118 to the logarithm, and a y up to 2^62 that is at least x + x/2^40 + 1 has no lesser logarithm; the law returns true for every x and y. -/
import Derived.Test.YtnneejodkdopnaaRows
import Derived.Test.YtnneejodkdopnaaAwake
import Derived.Test.YtnneejodkdopnaaLogM
import Derived.WalkKit
import Derived.ProofKit
import Derived.OpenShut
namespace Go.Proofs.Ytnneejodkdopnaa.seriesDoubles
open Go.ChangeShapes Go.WideShapes Go.ChangeAt Go.RowKit
set_option linter.unusedVariables false

theorem own : ownKnob Try.prog.godebug = none := by kernel_rfl

theorem asleep (a0 a1 : Int) (w : World) (h : a0 < 1 ∨ 2305843009213693952 < a0) :
    Calls Try.prog 9 #[.int .i64 a0, .int .i64 a1] w fun e w' => e = .returned (.bool true) ∧ Q w w' := by
  by_cases c0 : a0 < 1
  · have d0 : decide (a0 < 1) = true := by simpa using c0
    go_enter Try.func9, Try.ntmps9
    go_wp2_with fail
    refine (awake_any _).mono ?_
    rintro e w1 ⟨rfl, q1⟩
    go_wp2_with fail
    go_ret
    exact ⟨rfl, q1⟩
  have d0 : decide (a0 < 1) = false := by simpa using c0
  have c1 : 2305843009213693952 < a0 := by omega
  have d1 : decide (2305843009213693952 < a0) = true := by simpa using c1
  go_enter Try.func9, Try.ntmps9
  go_wp2_with fail
  refine (awake_any _).mono ?_
  rintro e w1 ⟨rfl, q1⟩
  go_wp2_with fail
  go_ret
  exact ⟨rfl, q1⟩

set_option maxHeartbeats 1000000 in
theorem walk (a0 a1 : Int) (l0 : -9223372036854775808 ≤ a0) (u0 : a0 ≤ 9223372036854775807) (l1 : -9223372036854775808 ≤ a1) (u1 : a1 ≤ 9223372036854775807) (w : World) :
    Calls Try.prog 9 #[.int .i64 a0, .int .i64 a1] w fun e w' => e = .returned (.bool true) ∧ Q w w' := by
  by_cases c : a0 < 1 ∨ 2305843009213693952 < a0
  · exact asleep a0 a1 w c
  have b0 : 1 ≤ a0 := by omega
  have b1 : a0 ≤ 2305843009213693952 := by omega
  clear c
  have d0 : decide (a0 < 1) = false := by simp; omega
  have d1 : decide (2305843009213693952 < a0) = false := by simp; omega
  have H1 := Lib.hid (fun W => log_any a0 b0 (by omega) W)
  have H2 := Lib.hid (fun W => log_any (2 * a0) (by omega) (by omega) W)
  have ht := Ser.log_two a0 b0 b1
  have hba := Ser.log_bd a0 b0 (by omega)
  have hbb := Ser.log_bd (2 * a0) (by omega) (by omega)
  have hm := fun (h : a0 ≤ a1) (h' : a1 ≤ 4611686018427387904) => Ser.log_mono a0 a1 b0 h h'
  generalize Ser.log (2 * a0) = b at *
  generalize ha : Ser.log a0 = a at *
  obtain ⟨ht0, ht1⟩ := ht
  obtain ⟨ba0, ba1⟩ := hba
  obtain ⟨bb0, bb1⟩ := hbb
  clear ha
  have HM := Lib.hid hm
  clear hm
  have e1 : decide (b - a < 744261117) = false := by simp; omega
  have e2 : decide (744261118 < b - a) = false := by simp; omega
  obtain ⟨t, hte⟩ : ∃ t, a0 / 1099511627776 = t := ⟨_, rfl⟩
  have ht0' : 0 ≤ t := by omega
  have ht1' : t ≤ 2097152 := by omega
  by_cases c1 : 4611686018427387904 < a1
  · have g1 : decide (4611686018427387904 < a1) = true := by simpa using c1
    go_enter Try.func9, Try.ntmps9
    go_wp2_with fail
    refine (H1.out _).mono ?_
    rintro e w1 ⟨rfl, q1⟩
    go_wp2_with fail
    refine (H2.out _).mono ?_
    rintro e w2 ⟨rfl, q2⟩
    go_wp2_with fail
    refine (awake_any _).mono ?_
    rintro e w3 ⟨rfl, q3⟩
    go_wp2_with fail
    go_ret
    exact ⟨rfl, q1.trans (q2.trans q3)⟩
  have g1 : decide (4611686018427387904 < a1) = false := by simpa using c1
  by_cases c2 : a1 < a0 + t + 1
  · have g2 : decide (a1 < a0 + t + 1) = true := by simpa using c2
    go_enter Try.func9, Try.ntmps9
    go_wp2_with fail
    refine (H1.out _).mono ?_
    rintro e w1 ⟨rfl, q1⟩
    go_wp2_with fail
    refine (H2.out _).mono ?_
    rintro e w2 ⟨rfl, q2⟩
    go_wp2_with fail
    refine (awake_any _).mono ?_
    rintro e w3 ⟨rfl, q3⟩
    go_wp2_with fail
    go_ret
    exact ⟨rfl, q1.trans (q2.trans q3)⟩
  have g2 : decide (a1 < a0 + t + 1) = false := by simpa using c2
  have H3 := Lib.hid (fun W => log_any a1 (by omega) (by omega) W)
  have hle := HM.out (by omega) (by omega)
  generalize Ser.log a1 = c at *
  have g3 : decide (a ≤ c) = true := by simpa using hle
  go_enter Try.func9, Try.ntmps9
  go_wp2_with fail
  refine (H1.out _).mono ?_
  rintro e w1 ⟨rfl, q1⟩
  go_wp2_with fail
  refine (H2.out _).mono ?_
  rintro e w2 ⟨rfl, q2⟩
  go_wp2_with fail
  refine (H3.out _).mono ?_
  rintro e w3 ⟨rfl, q3⟩
  go_wp2_with fail
  refine (awake_any _).mono ?_
  rintro e w4 ⟨rfl, q4⟩
  go_wp2_with fail
  go_ret
  exact ⟨rfl, q1.trans (q2.trans (q3.trans q4))⟩


theorem bd {x : Int} (h : (Lit.int .i64 x).wf = true) : -9223372036854775808 ≤ x ∧ x ≤ 9223372036854775807 := bounds_i64 h

set_option maxRecDepth 100000 in
theorem lifted (os : Os) (started : os.Started) (H : Type) (enc : TypeId × Value → H) :
    ReturnsInHanded {} Try.checked os 9 .any (Rows.seriesDoublesSpec.pre6 enc Try.prog Try.f9 Rows.seriesDoublesRow.domain false) (Rows.seriesDoublesSpec.post enc Try.prog Try.f9 false true false false) := by
  refine returnsInHanded_of_change (C := Try.checked) own started (by kernel_rfl) Try.func9
    (ChangeSpec.witness6 (enc := enc) (C := Try.checked) false ⟨#[], #[.int .i64 0, .int .i64 0], []⟩ 8 (by kernel_rfl) (by kernel_rfl) (by kernel_rfl) (by kernel_rfl)) ?_
  intro W base args ds gs before hval0 hW hcnd _
  have hval : ∀ (j : Nat) t v, Try.f9.params[j]? = some t → args[j]? = some v → Value.okWide Try.prog W .any base t v := hval0
  have hW' := hW
  obtain ⟨p, q, hA0, hV, rfl, hfz, hnd⟩ := hW
  have hA : DataW.TrodAll enc Try.prog W 0 (fun _ => true) true Try.f9.params.toList args.toList ds p := hA0
  rw [Try.params9] at hA hval
  obtain ⟨v0, vs0, d0, ds0, p0, q0, hargs, rfl, rfl, h0, r0⟩ := trodAll_cons hA
  obtain ⟨v1, vs1, d1, ds1, p1, q1, rfl, rfl, rfl, h1, r1⟩ := trodAll_cons r0
  obtain ⟨rfl, rfl, rfl⟩ := trodAll_nil r1
  obtain rfl : args = #[v0, v1] := by cases args; simp_all
  obtain ⟨rfl, rfl⟩ := trodVars_none hV
  obtain ⟨a0, rfl, rfl, rfl, w0⟩ := open_int Try.underlying3 (hval 0 3 v0 rfl rfl) h0
  obtain ⟨a1, rfl, rfl, rfl, w1⟩ := open_int Try.underlying3 (hval 1 3 v1 rfl rfl) h1
  clear hA0 hval0
  simp only [List.append_nil] at hW'
  refine (walk a0 a1 (bd w0).1 (bd w0).2 (bd w1).1 (bd w1).2 W).mono fun e W' ⟨he, bel⟩ => ?_
  subst he
  exact ⟨_, rfl, _, _, _, [], [], [], hW', trodAll_mk1 (shut_bool Try.underlying4 _), (trodAll_cons_mk (shut_int Try.underlying3 w0) (trodAll_cons_mk (shut_int Try.underlying3 w1) trodAll_mk0)), rfl, Below.frame bel _, fun h => by cases h⟩

theorem over : Rows.seriesDoublesRow.holds Try.pinned (OpenSpec.ofChange Rows.seriesDoublesSpec) :=
  OpenClaim.holds_of_wide 9 Try.f9 rfl rfl rfl rfl rfl rfl rfl ⟨rfl, rfl, rfl, rfl, rfl⟩ rfl rfl rfl rfl rfl (by kernel_rfl) Try.func9 (by kernel_rfl)
    (of_decide_eq_true (by kernel_rfl)) (by unfold Func.isWrapper; first | (rw [if_pos (by decide +kernel)]; kernel_rfl) | (rw [if_neg (by decide +kernel)]; exact ⟨rfl, rfl⟩))
    (fun os started H enc _ => lifted os started H enc)

end Go.Proofs.Ytnneejodkdopnaa.seriesDoubles
namespace Go.Proofs.Ytnneejodkdopnaa
theorem seriesDoubles_holds : Rows.SeriesDoublesSaid := seriesDoubles.over
#print axioms seriesDoubles_holds
end Go.Proofs.Ytnneejodkdopnaa
