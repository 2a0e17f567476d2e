
/- For every projection, ProjectChecks returns true: project.Check returns the first error of any projection. No condition. -/
import Derived.Test.YtmagppjmjjkbjaaRows
import Derived.Test.YtmagppjmjjkbjaaPrjAwake
import Derived.Test.YtmagppjmjjkbjaaFlat
import Derived.Deep.RegionHeld3
namespace Go.Proofs.Ytmagppjmjjkbjaa.projectChecks
open Go.ChangeShapes Go.WideShapes Go.ChangeAt Go.RowKit
set_option linter.unusedVariables false


set_option maxHeartbeats 4000000 in
theorem core (K L A S er : Int) (w : World)
    (HC : Hid (∀ w, Calls Try.prog 11 #[.agg #[.int .i64 K, .int .i64 L, .int .i64 A, .int .i64 S]] w fun e w' => e = .returned (.int .i64 er) ∧ Q w w'))
    (HR : Hid (∀ w, Calls Try.prog 12 #[.agg #[.int .i64 K, .int .i64 L, .int .i64 A, .int .i64 S]] w fun e w' => e = .returned (.int .i64 er) ∧ Q w w')) :
    Calls Try.prog 3 #[.agg #[.int .i64 K, .int .i64 L, .int .i64 A, .int .i64 S]] w fun e w' => e = .returned (.bool true) ∧ Q w w' := by
  have HK := Lib.hid (prs_fresh K L A S w)
  go_enter Try.func3, Try.ntmps3
  go_wp2_with fail
  go_region_held3 (fun v => (v.cell? ⟨w.heap.size, 0, none⟩ = some (.int .i64 K) ∧ v.cell? ⟨w.heap.size, 1, none⟩ = some (.int .i64 L) ∧ v.cell? ⟨w.heap.size, 2, none⟩ = some (.int .i64 A) ∧ v.cell? ⟨w.heap.size, 3, none⟩ = some (.int .i64 S) ∧ Q (w.alloc (.cells #[.int .i64 K, .int .i64 L, .int .i64 A, .int .i64 S] 23)) v)) ((first | (exact pr_next HK.out ((Q.refl _).drew)) | (refine pr_next ?_ (by assumption); assumption)))
    (first
      | (go_at_call 10; refine (pawake_true _).mono ?_; (rintro e w' ⟨rfl, q⟩))
      | (go_at_call 11; refine (HC.out _).mono ?_; (rintro e w' ⟨rfl, q⟩))
      | (go_at_call 12; refine (HR.out _).mono ?_; (rintro e w' ⟨rfl, q⟩)))
  all_goals
    go_wp2_with fail
    go_ret
    exact ⟨rfl, (pr_q (by assumption)).behind _⟩
theorem walk (K L A S : Int) (_ : I64 K) (_ : I64 L) (_ : I64 A) (_ : I64 S) (w : World) : Calls Try.prog 3 #[.agg #[.int .i64 K, .int .i64 L, .int .i64 A, .int .i64 S]] w fun e w' => e = .returned (.bool true) ∧ Q w w' := by
  by_cases h : Prj.Ok K L A S
  · exact core K L A S 0 w (fun W => pcheck_yes K L A S W h) (fun W => rpcheck_yes K L A S W h)
  by_cases hk : K < 1 ∨ 4 < K
  · exact core K L A S 9 w (fun W => pcheck_kind K L A S W hk) (fun W => rpcheck_kind K L A S W hk)
  · exact core K L A S 2 w (fun W => pcheck_range K L A S W (by omega) (by omega) h) (fun W => rpcheck_range K L A S W (by omega) (by omega) h)

theorem own : ownKnob Try.prog.godebug = none := by kernel_rfl

theorem contract (H : Type) (enc : TypeId × Value → H) (W : World) (base : Nat) (args : Array Value) (ds gs : List (DataW H)) (before : List MemPlace)
    (hval : ∀ (j : Nat) t v, Try.f3.params[j]? = some t → args[j]? = some v → Value.okWide Try.prog W .any base t v)
    (hW : DataW.Whole enc Try.prog Try.f3.params.toList Rows.projectChecksSpec.vars false W args.toList ds gs before) :
    Calls Try.prog 3 args W fun e W' => ∃ v, e = .returned v ∧ Rows.projectChecksSpec.post enc Try.prog Try.f3 false true false false W args v W' := by
  have hW' := hW
  obtain ⟨p, q, hA0, hV, rfl, hfz, hnd⟩ := hW
  have hA : DataW.TrodAll enc Try.prog W 0 (fun _ => true) true Try.f3.params.toList args.toList ds p := hA0
  rw [Try.params3] at hA hval
  obtain ⟨v0, vs0, d0, ds0, p0, q0, hargs, rfl, rfl, h0, r0⟩ := trodAll_cons hA
  obtain ⟨rfl, rfl, rfl⟩ := trodAll_nil r0
  obtain rfl : args = #[v0] := by cases args; simp_all
  obtain ⟨rfl, rfl⟩ := trodVars_none hV
  obtain ⟨rfl, cs0, rfl, hs0, hz0⟩ := flat_open 4 (by kernel_rfl) Try.underlying23 (hval 0 23 v0 rfl rfl) h0
  obtain ⟨x00, x01, x02, x03, rfl, b00, b01, b02, b03⟩ := agg4_of (hs0.trans (show Try.prog.cellsOf 23 = 4 by kernel_rfl)) hz0
  clear hA0
  simp only [List.append_nil] at hW'
  refine (walk x00 x01 x02 x03 b00 b01 b02 b03 W).mono fun e W' ⟨he, bel⟩ => ?_
  subst he
  exact ⟨_, rfl, _, _, _, [], [], [], hW', trodAll_mk1 (shut_bool Try.underlying4 _), (trodAll_cons_mk (Below.trod laidOut (by kernel_rfl) (by decide +kernel) h0 bel (fun x hx => by cases hx)) trodAll_mk0), rfl, Below.frame bel _, fun h => by cases h⟩

set_option maxRecDepth 100000 in
theorem lifted (os : Os) (started : os.Started) (H : Type) (enc : TypeId × Value → H) :
    ReturnsInHanded {} Try.checked os 3 .any (Rows.projectChecksSpec.pre6 enc Try.prog Try.f3 Rows.projectChecksRow.domain false) (Rows.projectChecksSpec.post enc Try.prog Try.f3 false true false false) := by
  refine returnsInHanded_of_change (C := Try.checked) own started (by kernel_rfl) Try.func3
    (ChangeSpec.witness6 (enc := enc) (C := Try.checked) false ⟨#[], #[.agg #[.int .i64 0, .int .i64 0, .int .i64 0, .int .i64 0]], []⟩ 8 (by kernel_rfl) (by kernel_rfl) (by kernel_rfl) (by kernel_rfl)) ?_
  intro W base args ds gs before hval hW hcnd _
  exact contract H enc W base args ds gs before hval hW

theorem said : Rows.ProjectChecksSaid :=
  OpenClaim.holds_of_wide 3 Try.f3 rfl rfl rfl rfl rfl rfl rfl ⟨rfl, rfl, rfl, rfl, rfl⟩ rfl rfl rfl rfl rfl (by kernel_rfl) Try.func3 (by kernel_rfl)
    (of_decide_eq_true (by kernel_rfl)) (by unfold Func.isWrapper; first | (rw [if_pos (by decide +kernel)]; kernel_rfl) | (rw [if_neg (by decide +kernel)]; exact ⟨rfl, rfl⟩))
    (fun os started H enc _ => lifted os started H enc)
end Go.Proofs.Ytmagppjmjjkbjaa.projectChecks
namespace Go.Proofs.Ytmagppjmjjkbjaa
theorem projectChecks_holds : Rows.ProjectChecksSaid := projectChecks.said
#print axioms projectChecks_holds
end Go.Proofs.Ytmagppjmjjkbjaa
