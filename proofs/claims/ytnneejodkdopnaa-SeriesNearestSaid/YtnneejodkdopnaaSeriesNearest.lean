/- Statement SeriesNearest (chapter 11): for all ints x from -324000 to 324000 and y from -One to One the arc sine of a sine has this sine and is not greater, Asin is odd, and no neighbour of an arc sine is nearer; the law returns true for every x and y. -/
import Derived.Test.YtnneejodkdopnaaRows
import Derived.Test.YtnneejodkdopnaaAwake
import Derived.Test.YtnneejodkdopnaaNear
import Derived.WalkKit
import Derived.ProofKit
import Derived.OpenShut
namespace Go.Proofs.Ytnneejodkdopnaa.seriesNearest
open Go.ChangeShapes Go.WideShapes Go.ChangeAt Go.RowKit
set_option linter.unusedVariables false

theorem own : ownKnob Try.prog.godebug = none := by kernel_rfl

theorem abs_any (x : Int) (l : -9223372036854775807 ≤ x) (u : x ≤ 9223372036854775807) (w : World) :
    Calls Try.prog 25 #[.int .i64 x] w fun e w' => e = .returned (.int .i64 (x.natAbs : Int)) ∧ w = w' := by
  by_cases c : x < 0
  · have HE := Lib.hid (show (x.natAbs : Int) = -x by omega)
    go_enter Try.func25, Try.ntmps25
    go_wp2_with fail
    go_ret
    exact ⟨by rw [HE.out]; rfl, rfl⟩
  · have HE := Lib.hid (show (x.natAbs : Int) = x by omega)
    go_enter Try.func25, Try.ntmps25
    go_wp2_with fail
    go_ret
    exact ⟨by rw [HE.out]; rfl, rfl⟩

theorem off_any (x y : Int) (l : -9223372036854775808 ≤ x) (u : x ≤ 9223372036854775807) (h0 : -1073741824 ≤ y) (h1 : y ≤ 1073741824) (w : World) :
    Calls Try.prog 26 #[.int .i64 x, .int .i64 y] w fun e w' => e = .returned (.int .i64 (Ser.off x y)) ∧ Q w w' := by
  have H := Lib.hid (fun W => sin_any x l u W)
  have hb := Ser.sin_bd x
  have HO := Lib.hid (show Ser.off x y = if Ser.sin x - y < 0 then -(Ser.sin x - y) else Ser.sin x - y from rfl)
  generalize Ser.sin x = s at *
  obtain ⟨hb0, hb1⟩ := hb
  by_cases c : s - y < 0
  · rw [if_pos c] at HO
    go_enter Try.func26, Try.ntmps26
    go_wp2_with fail
    refine (H.out _).mono ?_
    rintro e w1 ⟨rfl, q1⟩
    go_wp2_with fail
    go_ret
    exact ⟨by rw [HO.out]; rfl, q1⟩
  · rw [if_neg c] at HO
    go_enter Try.func26, Try.ntmps26
    go_wp2_with fail
    refine (H.out _).mono ?_
    rintro e w1 ⟨rfl, q1⟩
    go_wp2_with fail
    go_ret
    exact ⟨by rw [HO.out]; rfl, q1⟩

theorem asleep (a0 a1 : Int) (w : World) (h : a0 < -324000 ∨ 324000 < a0 ∨ a1 < -1073741824 ∨ 1073741824 < a1) :
    Calls Try.prog 8 #[.int .i64 a0, .int .i64 a1] w fun e w' => e = .returned (.bool true) ∧ Q w w' := by
  by_cases c0 : a0 < -324000
  · have d0 : decide (a0 < -324000) = true := by simpa using c0
    go_enter Try.func8, Try.ntmps8
    go_wp2_with fail
    refine (awake_any _).mono ?_
    rintro e w1 ⟨rfl, q1⟩
    go_wp2_with fail
    go_ret
    exact ⟨rfl, q1⟩
  have d0 : decide (a0 < -324000) = false := by simpa using c0
  by_cases c1 : 324000 < a0
  · have d1 : decide (324000 < a0) = true := by simpa using c1
    go_enter Try.func8, Try.ntmps8
    go_wp2_with fail
    refine (awake_any _).mono ?_
    rintro e w1 ⟨rfl, q1⟩
    go_wp2_with fail
    go_ret
    exact ⟨rfl, q1⟩
  have d1 : decide (324000 < a0) = false := by simpa using c1
  by_cases c2 : a1 < -1073741824
  · have d2 : decide (a1 < -1073741824) = true := by simpa using c2
    go_enter Try.func8, Try.ntmps8
    go_wp2_with fail
    refine (awake_any _).mono ?_
    rintro e w1 ⟨rfl, q1⟩
    go_wp2_with fail
    go_ret
    exact ⟨rfl, q1⟩
  have d2 : decide (a1 < -1073741824) = false := by simpa using c2
  have c3 : 1073741824 < a1 := by omega
  have d3 : decide (1073741824 < a1) = true := by simpa using c3
  go_enter Try.func8, Try.ntmps8
  go_wp2_with fail
  refine (awake_any _).mono ?_
  rintro e w1 ⟨rfl, q1⟩
  go_wp2_with fail
  go_ret
  exact ⟨rfl, q1⟩

theorem body (a0 a1 b0 b1 : Int) (w : World) (h0 : -324000 ≤ a0) (h1 : a0 ≤ 324000) (h2 : -1073741824 ≤ a1) (h3 : a1 ≤ 1073741824)
    (s a b o op om : Int) (hb0 : -324000 ≤ b) (hb1 : b ≤ 324000) (ha0 : -324000 ≤ a) (ha1 : a ≤ 324000) (hab : (a.natAbs : Int) ≤ (a0.natAbs : Int)) (hs0 : -1073741824 ≤ s) (hs1 : s ≤ 1073741824)
    (HS : Hid (∀ W, Calls Try.prog 14 #[.int .i64 a0] W fun e w' => e = .returned (.int .i64 s) ∧ Q W w'))
    (HA : Hid (∀ W, Calls Try.prog 19 #[.int .i64 s] W fun e w' => e = .returned (.tuple #[.int .i64 a, .int .i64 0]) ∧ Q W w'))
    (HB : Hid (∀ W, Calls Try.prog 19 #[.int .i64 a1] W fun e w' => e = .returned (.tuple #[.int .i64 b, .int .i64 0]) ∧ Q W w'))
    (HC : Hid (∀ W, Calls Try.prog 19 #[.int .i64 (-a1)] W fun e w' => e = .returned (.tuple #[.int .i64 (-b), .int .i64 0]) ∧ Q W w'))
    (HT : Hid (∀ W, Calls Try.prog 14 #[.int .i64 a] W fun e w' => e = .returned (.int .i64 s) ∧ Q W w'))
    (HO : Hid (∀ W, Calls Try.prog 26 #[.int .i64 b, .int .i64 a1] W fun e w' => e = .returned (.int .i64 o) ∧ Q W w'))
    (HP : Hid (∀ W, Calls Try.prog 26 #[.int .i64 (b + 1), .int .i64 a1] W fun e w' => e = .returned (.int .i64 op) ∧ Q W w'))
    (HN : Hid (∀ W, Calls Try.prog 26 #[.int .i64 (b - 1), .int .i64 a1] W fun e w' => e = .returned (.int .i64 om) ∧ Q W w'))
    (hup : b = 324000 ∨ o ≤ op) (hdn : b = -324000 ∨ o ≤ om) :
    Calls Try.prog 8 #[.int .i64 a0, .int .i64 a1] w fun e w' => e = .returned (.bool true) ∧ Q w w' := by
  have HAA := Lib.hid (fun W => abs_any a (by omega) (by omega) W)
  have HA0 := Lib.hid (fun W => abs_any a0 (by omega) (by omega) W)
  generalize (a.natAbs : Int) = na at *
  generalize (a0.natAbs : Int) = n0 at *
  have d0 : decide (a0 < -324000) = false := by simp; omega
  have d1 : decide (324000 < a0) = false := by simp; omega
  have d2 : decide (a1 < -1073741824) = false := by simp; omega
  have d3 : decide (1073741824 < a1) = false := by simp; omega
  have e1 : (-b != -b) = false := by simp
  have e2 : decide (b < -324000) = false := by simp; omega
  have e3 : decide (324000 < b) = false := by simp; omega
  have e4 : decide (a < -324000) = false := by simp; omega
  have e5 : decide (324000 < a) = false := by simp; omega
  have e6 : (s != s) = false := by simp
  have e7 : decide (n0 < na) = false := by simp; omega
  by_cases c1 : b = 324000
  · have g1 : (b == 324000) = true := by simpa using c1
    have g2 : (b == -324000) = false := by simp; omega
    have k2 : decide (o ≤ om) = true := by simp; omega
    clear c1 hup hdn
    go_enter Try.func8, Try.ntmps8
    go_wp2_with fail
    refine (HS.out _).mono ?_
    rintro e w1 ⟨rfl, q1⟩
    go_wp2_with fail
    refine (HA.out _).mono ?_
    rintro e w2 ⟨rfl, q2⟩
    go_wp2_with fail
    refine (HB.out _).mono ?_
    rintro e w3 ⟨rfl, q3⟩
    go_wp2_with fail
    refine (HC.out _).mono ?_
    rintro e w4 ⟨rfl, q4⟩
    go_wp2_with fail
    refine (HT.out _).mono ?_
    rintro e w5 ⟨rfl, q5⟩
    go_wp2_with fail
    refine (HS.out _).mono ?_
    rintro e w6 ⟨rfl, q6⟩
    go_wp2_with fail
    refine (HAA.out _).mono ?_
    rintro e w' ⟨rfl, rfl⟩
    go_wp2_with fail
    refine (HA0.out _).mono ?_
    rintro e w' ⟨rfl, rfl⟩
    go_wp2_with fail
    refine (HN.out _).mono ?_
    rintro e w9 ⟨rfl, q9⟩
    go_wp2_with fail
    refine (HO.out _).mono ?_
    rintro e w10 ⟨rfl, q10⟩
    go_wp2_with fail
    refine (awake_any _).mono ?_
    rintro e w11 ⟨rfl, q11⟩
    go_wp2_with fail
    go_ret
    exact ⟨rfl, q1.trans (q2.trans (q3.trans (q4.trans (q5.trans (q6.trans (q9.trans (q10.trans q11)))))))⟩
  have g1 : (b == 324000) = false := by simpa using c1
  have k1 : decide (o ≤ op) = true := by simp; omega
  by_cases c2 : b = -324000
  · have g2 : (b == -324000) = true := by simpa using c2
    clear c1 c2 hup hdn
    go_enter Try.func8, Try.ntmps8
    go_wp2_with fail
    refine (HS.out _).mono ?_
    rintro e w1 ⟨rfl, q1⟩
    go_wp2_with fail
    refine (HA.out _).mono ?_
    rintro e w2 ⟨rfl, q2⟩
    go_wp2_with fail
    refine (HB.out _).mono ?_
    rintro e w3 ⟨rfl, q3⟩
    go_wp2_with fail
    refine (HC.out _).mono ?_
    rintro e w4 ⟨rfl, q4⟩
    go_wp2_with fail
    refine (HT.out _).mono ?_
    rintro e w5 ⟨rfl, q5⟩
    go_wp2_with fail
    refine (HS.out _).mono ?_
    rintro e w6 ⟨rfl, q6⟩
    go_wp2_with fail
    refine (HAA.out _).mono ?_
    rintro e w' ⟨rfl, rfl⟩
    go_wp2_with fail
    refine (HA0.out _).mono ?_
    rintro e w' ⟨rfl, rfl⟩
    go_wp2_with fail
    refine (HP.out _).mono ?_
    rintro e w9 ⟨rfl, q9⟩
    go_wp2_with fail
    refine (HO.out _).mono ?_
    rintro e w10 ⟨rfl, q10⟩
    go_wp2_with fail
    refine (awake_any _).mono ?_
    rintro e w11 ⟨rfl, q11⟩
    go_wp2_with fail
    go_ret
    exact ⟨rfl, q1.trans (q2.trans (q3.trans (q4.trans (q5.trans (q6.trans (q9.trans (q10.trans q11)))))))⟩
  have g2 : (b == -324000) = false := by simpa using c2
  have k2 : decide (o ≤ om) = true := by simp; omega
  clear c1 c2 hup hdn
  go_enter Try.func8, Try.ntmps8
  go_wp2_with fail
  refine (HS.out _).mono ?_
  rintro e w1 ⟨rfl, q1⟩
  go_wp2_with fail
  refine (HA.out _).mono ?_
  rintro e w2 ⟨rfl, q2⟩
  go_wp2_with fail
  refine (HB.out _).mono ?_
  rintro e w3 ⟨rfl, q3⟩
  go_wp2_with fail
  refine (HC.out _).mono ?_
  rintro e w4 ⟨rfl, q4⟩
  go_wp2_with fail
  refine (HT.out _).mono ?_
  rintro e w5 ⟨rfl, q5⟩
  go_wp2_with fail
  refine (HS.out _).mono ?_
  rintro e w6 ⟨rfl, q6⟩
  go_wp2_with fail
  refine (HAA.out _).mono ?_
  rintro e w' ⟨rfl, rfl⟩
  go_wp2_with fail
  refine (HA0.out _).mono ?_
  rintro e w' ⟨rfl, rfl⟩
  go_wp2_with fail
  refine (HP.out _).mono ?_
  rintro e w9 ⟨rfl, q9⟩
  go_wp2_with fail
  refine (HO.out _).mono ?_
  rintro e w10 ⟨rfl, q10⟩
  go_wp2_with fail
  refine (HN.out _).mono ?_
  rintro e w11 ⟨rfl, q11⟩
  go_wp2_with fail
  refine (HO.out _).mono ?_
  rintro e w12 ⟨rfl, q12⟩
  go_wp2_with fail
  refine (awake_any _).mono ?_
  rintro e w13 ⟨rfl, q13⟩
  go_wp2_with fail
  go_ret
  exact ⟨rfl, q1.trans (q2.trans (q3.trans (q4.trans (q5.trans (q6.trans (q9.trans (q10.trans (q11.trans (q12.trans q13)))))))))⟩

theorem walk (a0 a1 : Int) (l0 : -9223372036854775808 ≤ a0) (u0 : a0 ≤ 9223372036854775807) (l1 : -9223372036854775808 ≤ a1) (u1 : a1 ≤ 9223372036854775807) (w : World) :
    Calls Try.prog 8 #[.int .i64 a0, .int .i64 a1] w fun e w' => e = .returned (.bool true) ∧ Q w w' := by
  by_cases c : a0 < -324000 ∨ 324000 < a0 ∨ a1 < -1073741824 ∨ 1073741824 < a1
  · exact asleep a0 a1 w c
  have hs := Ser.sin_in a0
  have hb := Ser.asin_bd a1
  have ha := Ser.asin_bd (Ser.sin a0)
  have hi := Ser.asin_sin a0 (by omega) (by omega)
  have hn := Ser.near a1 (by omega) (by omega)
  refine body a0 a1 0 0 w (by omega) (by omega) (by omega) (by omega) (Ser.sin a0) (Ser.asin (Ser.sin a0)) (Ser.asin a1) (Ser.off (Ser.asin a1) a1) (Ser.off (Ser.asin a1 + 1) a1) (Ser.off (Ser.asin a1 - 1) a1) hb.1 hb.2 ha.1 ha.2 (by omega) hs.1 hs.2 (fun W => sin_any a0 l0 u0 W) (fun W => asin_any _ hs.1 hs.2 W) (fun W => asin_any a1 (by omega) (by omega) W) ?_ ?_ (fun W => off_any _ a1 (by omega) (by omega) (by omega) (by omega) W) (fun W => off_any _ a1 (by omega) (by omega) (by omega) (by omega) W) (fun W => off_any _ a1 (by omega) (by omega) (by omega) (by omega) W) hn.1 hn.2
  · intro W
    rw [← Ser.asin_neg]
    exact asin_any (-a1) (by omega) (by omega) W
  · intro W
    have h := sin_any (Ser.asin (Ser.sin a0)) (by omega) (by omega) W
    rw [hi.1] at h
    exact h


theorem bd {x : Int} (h : (Lit.int .i64 x).wf = true) : -9223372036854775808 ≤ x ∧ x ≤ 9223372036854775807 := bounds_i64 h

set_option maxRecDepth 100000 in
theorem lifted (os : Os) (started : os.Started) (H : Type) (enc : TypeId × Value → H) :
    ReturnsInHanded {} Try.checked os 8 .any (Rows.seriesNearestSpec.pre6 enc Try.prog Try.f8 Rows.seriesNearestRow.domain false) (Rows.seriesNearestSpec.post enc Try.prog Try.f8 false true false false) := by
  refine returnsInHanded_of_change (C := Try.checked) own started (by kernel_rfl) Try.func8
    (ChangeSpec.witness6 (enc := enc) (C := Try.checked) false ⟨#[], #[.int .i64 0, .int .i64 0], []⟩ 8 (by kernel_rfl) (by kernel_rfl) (by kernel_rfl) (by kernel_rfl)) ?_
  intro W base args ds gs before hval0 hW hcnd _
  have hval : ∀ (j : Nat) t v, Try.f8.params[j]? = some t → args[j]? = some v → Value.okWide Try.prog W .any base t v := hval0
  have hW' := hW
  obtain ⟨p, q, hA0, hV, rfl, hfz, hnd⟩ := hW
  have hA : DataW.TrodAll enc Try.prog W 0 (fun _ => true) true Try.f8.params.toList args.toList ds p := hA0
  rw [Try.params8] at hA hval
  obtain ⟨v0, vs0, d0, ds0, p0, q0, hargs, rfl, rfl, h0, r0⟩ := trodAll_cons hA
  obtain ⟨v1, vs1, d1, ds1, p1, q1, rfl, rfl, rfl, h1, r1⟩ := trodAll_cons r0
  obtain ⟨rfl, rfl, rfl⟩ := trodAll_nil r1
  obtain rfl : args = #[v0, v1] := by cases args; simp_all
  obtain ⟨rfl, rfl⟩ := trodVars_none hV
  obtain ⟨a0, rfl, rfl, rfl, w0⟩ := open_int Try.underlying3 (hval 0 3 v0 rfl rfl) h0
  obtain ⟨a1, rfl, rfl, rfl, w1⟩ := open_int Try.underlying3 (hval 1 3 v1 rfl rfl) h1
  clear hA0 hval0
  simp only [List.append_nil] at hW'
  refine (walk a0 a1 (bd w0).1 (bd w0).2 (bd w1).1 (bd w1).2 W).mono fun e W' ⟨he, bel⟩ => ?_
  subst he
  exact ⟨_, rfl, _, _, _, [], [], [], hW', trodAll_mk1 (shut_bool Try.underlying4 _), (trodAll_cons_mk (shut_int Try.underlying3 w0) (trodAll_cons_mk (shut_int Try.underlying3 w1) trodAll_mk0)), rfl, Below.frame bel _, fun h => by cases h⟩

theorem over : Rows.seriesNearestRow.holds Try.pinned (OpenSpec.ofChange Rows.seriesNearestSpec) :=
  OpenClaim.holds_of_wide 8 Try.f8 rfl rfl rfl rfl rfl rfl rfl ⟨rfl, rfl, rfl, rfl, rfl⟩ rfl rfl rfl rfl rfl (by kernel_rfl) Try.func8 (by kernel_rfl)
    (of_decide_eq_true (by kernel_rfl)) (by unfold Func.isWrapper; first | (rw [if_pos (by decide +kernel)]; kernel_rfl) | (rw [if_neg (by decide +kernel)]; exact ⟨rfl, rfl⟩))
    (fun os started H enc _ => lifted os started H enc)

end Go.Proofs.Ytnneejodkdopnaa.seriesNearest
namespace Go.Proofs.Ytnneejodkdopnaa
theorem seriesNearest_holds : Rows.SeriesNearestSaid := seriesNearest.over
#print axioms seriesNearest_holds
end Go.Proofs.Ytnneejodkdopnaa
