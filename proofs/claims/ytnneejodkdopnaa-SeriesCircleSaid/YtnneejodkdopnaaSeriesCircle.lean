/- Statement SeriesCircle (chapter 11): for all ints x from -2^40 to 2^40 sine and cosine lie within One, their squares add up to One^2 within 2 One, the sine is odd, the cosine is even, both are periodic; the law returns true for every x. -/
import Derived.Test.YtnneejodkdopnaaRows
import Derived.Test.YtnneejodkdopnaaAwake
import Derived.Test.YtnneejodkdopnaaCircle
import Derived.WalkKit
import Derived.ProofKit
import Derived.OpenShut
namespace Go.Proofs.Ytnneejodkdopnaa.seriesCircle
open Go.ChangeShapes Go.WideShapes Go.ChangeAt Go.RowKit
set_option linter.unusedVariables false

theorem own : ownKnob Try.prog.godebug = none := by kernel_rfl

theorem asleep (a0 : Int) (w : World) (h : a0 < -1099511627776 ∨ 1099511627776 < a0) :
    Calls Try.prog 6 #[.int .i64 a0] w fun e w' => e = .returned (.bool true) ∧ Q w w' := by
  by_cases c1 : a0 < -1099511627776
  · have d1 : decide (a0 < -1099511627776) = true := by simpa using c1
    go_enter Try.func6, Try.ntmps6
    go_wp2_with fail
    refine (awake_any _).mono ?_
    rintro e w1 ⟨rfl, q1⟩
    go_wp2_with fail
    go_ret
    exact ⟨rfl, q1⟩
  · have d1 : decide (a0 < -1099511627776) = false := by simpa using c1
    have c2 : 1099511627776 < a0 := by omega
    have d2 : decide (1099511627776 < a0) = true := by simpa using c2
    go_enter Try.func6, Try.ntmps6
    go_wp2_with fail
    refine (awake_any _).mono ?_
    rintro e w1 ⟨rfl, q1⟩
    go_wp2_with fail
    go_ret
    exact ⟨rfl, q1⟩

theorem sq_nn (s : Int) : 0 ≤ s * s := by
  rcases Int.le_total 0 s with h | h
  · exact Int.mul_nonneg h h
  · exact Int.mul_nonneg_of_nonpos_of_nonpos h h

set_option maxHeartbeats 1000000 in
theorem walk (a0 : Int) (h0 : -9223372036854775808 ≤ a0) (h1 : a0 ≤ 9223372036854775807) (w : World) :
    Calls Try.prog 6 #[.int .i64 a0] w fun e w' => e = .returned (.bool true) ∧ Q w w' := by
  by_cases c : a0 < -1099511627776 ∨ 1099511627776 < a0
  · exact asleep a0 w c
  have b1 : -1099511627776 ≤ a0 := by omega
  have b2 : a0 ≤ 1099511627776 := by omega
  clear c
  have d1 : decide (a0 < -1099511627776) = false := by simp; omega
  have d2 : decide (1099511627776 < a0) = false := by simp; omega
  have H1 := Lib.hid (fun W => sin_any a0 h0 h1 W)
  have H2 := Lib.hid (fun W => cos_any a0 h0 h1 W)
  have H3 := Lib.hid (fun W => sin_any (-a0) (by omega) (by omega) W)
  have H4 := Lib.hid (fun W => cos_any (-a0) (by omega) (by omega) W)
  have H5 := Lib.hid (fun W => sin_any (a0 + 1296000) (by omega) (by omega) W)
  have H6 := Lib.hid (fun W => cos_any (a0 - 1296000) (by omega) (by omega) W)
  rw [Ser.sin_neg] at H3
  rw [Ser.cos_neg] at H4
  rw [Ser.sin_of_mod (a0 + 1296000) a0 (by omega)] at H5
  rw [Ser.cos_of_mod (a0 - 1296000) a0 (by omega)] at H6
  have hc := Ser.circle a0
  have hs := Ser.sin_in a0
  have hk := Ser.cos_in a0
  generalize Ser.sin a0 = s at *
  generalize Ser.cos a0 = c at *
  obtain ⟨hs0, hs1⟩ := hs
  obtain ⟨hk0, hk1⟩ := hk
  obtain ⟨p, hp⟩ : ∃ p, s * s = p := ⟨_, rfl⟩
  obtain ⟨q, hq⟩ : ∃ q, c * c = q := ⟨_, rfl⟩
  have hp0 : 0 ≤ p := by rw [← hp]; exact sq_nn s
  have hq0 : 0 ≤ q := by rw [← hq]; exact sq_nn c
  rw [hp, hq] at hc
  obtain ⟨hc0, hc1⟩ := hc
  have e1 : decide (s < -1073741824) = false := by simp; omega
  have e2 : decide (1073741824 < s) = false := by simp; omega
  have e3 : decide (c < -1073741824) = false := by simp; omega
  have e4 : decide (1073741824 < c) = false := by simp; omega
  have f1 : decide (-2147483648 ≤ p + q - 1152921504606846976) = true := by simp; omega
  have f2 : decide (p + q - 1152921504606846976 ≤ 2147483648) = true := by simp; omega
  have g1 : (-s == -s) = true := by simp
  have g2 : (c == c) = true := by simp
  have g3 : (s == s) = true := by simp
  go_enter Try.func6, Try.ntmps6
  go_wp2_with fail
  refine (H1.out _).mono ?_
  rintro e w1 ⟨rfl, q1⟩
  go_wp2_with fail
  refine (H2.out _).mono ?_
  rintro e w2 ⟨rfl, q2⟩
  go_wp2_with fail
  refine (H3.out _).mono ?_
  rintro e w3 ⟨rfl, q3⟩
  go_wp2_with fail
  refine (H4.out _).mono ?_
  rintro e w4 ⟨rfl, q4⟩
  go_wp2_with fail
  refine (H5.out _).mono ?_
  rintro e w5 ⟨rfl, q5⟩
  go_wp2_with fail
  refine (H6.out _).mono ?_
  rintro e w6 ⟨rfl, q6⟩
  go_wp2_with fail
  refine (awake_any _).mono ?_
  rintro e w7 ⟨rfl, q7⟩
  go_wp2_with fail
  go_ret
  exact ⟨rfl, q1.trans (q2.trans (q3.trans (q4.trans (q5.trans (q6.trans q7)))))⟩


theorem bd {x : Int} (h : (Lit.int .i64 x).wf = true) : -9223372036854775808 ≤ x ∧ x ≤ 9223372036854775807 := bounds_i64 h

set_option maxRecDepth 100000 in
theorem lifted (os : Os) (started : os.Started) (H : Type) (enc : TypeId × Value → H) :
    ReturnsInHanded {} Try.checked os 6 .any (Rows.seriesCircleSpec.pre6 enc Try.prog Try.f6 Rows.seriesCircleRow.domain false) (Rows.seriesCircleSpec.post enc Try.prog Try.f6 false true false false) := by
  refine returnsInHanded_of_change (C := Try.checked) own started (by kernel_rfl) Try.func6
    (ChangeSpec.witness6 (enc := enc) (C := Try.checked) false ⟨#[], #[.int .i64 0], []⟩ 8 (by kernel_rfl) (by kernel_rfl) (by kernel_rfl) (by kernel_rfl)) ?_
  intro W base args ds gs before hval0 hW hcnd _
  have hval : ∀ (j : Nat) t v, Try.f6.params[j]? = some t → args[j]? = some v → Value.okWide Try.prog W .any base t v := hval0
  have hW' := hW
  obtain ⟨p, q, hA0, hV, rfl, hfz, hnd⟩ := hW
  have hA : DataW.TrodAll enc Try.prog W 0 (fun _ => true) true Try.f6.params.toList args.toList ds p := hA0
  rw [Try.params6] at hA hval
  obtain ⟨v0, vs0, d0, ds0, p0, q0, hargs, rfl, rfl, h0, r0⟩ := trodAll_cons hA
  obtain ⟨rfl, rfl, rfl⟩ := trodAll_nil r0
  obtain rfl : args = #[v0] := by cases args; simp_all
  obtain ⟨rfl, rfl⟩ := trodVars_none hV
  obtain ⟨a0, rfl, rfl, rfl, w0⟩ := open_int Try.underlying3 (hval 0 3 v0 rfl rfl) h0
  clear hA0 hval0
  simp only [List.append_nil] at hW'
  refine (walk a0 (bd w0).1 (bd w0).2 W).mono fun e W' ⟨he, bel⟩ => ?_
  subst he
  exact ⟨_, rfl, _, _, _, [], [], [], hW', trodAll_mk1 (shut_bool Try.underlying4 _), (trodAll_cons_mk (shut_int Try.underlying3 w0) trodAll_mk0), rfl, Below.frame bel _, fun h => by cases h⟩

theorem over : Rows.seriesCircleRow.holds Try.pinned (OpenSpec.ofChange Rows.seriesCircleSpec) :=
  OpenClaim.holds_of_wide 6 Try.f6 rfl rfl rfl rfl rfl rfl rfl ⟨rfl, rfl, rfl, rfl, rfl⟩ rfl rfl rfl rfl rfl (by kernel_rfl) Try.func6 (by kernel_rfl)
    (of_decide_eq_true (by kernel_rfl)) (by unfold Func.isWrapper; first | (rw [if_pos (by decide +kernel)]; kernel_rfl) | (rw [if_neg (by decide +kernel)]; exact ⟨rfl, rfl⟩))
    (fun os started H enc _ => lifted os started H enc)

end Go.Proofs.Ytnneejodkdopnaa.seriesCircle
namespace Go.Proofs.Ytnneejodkdopnaa
theorem seriesCircle_holds : Rows.SeriesCircleSaid := seriesCircle.over
#print axioms seriesCircle_holds
end Go.Proofs.Ytnneejodkdopnaa
