
/- For every projection and list of positions, ProjectPaths returns true: project.Path returns the specified path or error (for lists of at most 60 points). No condition. -/
import Derived.Test.YtmagppjmjjkbjaaRows
import Derived.Test.YtmagppjmjjkbjaaPrjAwake
import Derived.Test.YtmagppjmjjkbjaaFlatS
import Derived.Test.YtmagppjmjjkbjaaFlat
import Derived.Deep.RegionHeld3
namespace Go.Proofs.Ytmagppjmjjkbjaa.projectPaths
open Go.ChangeShapes Go.WideShapes Go.ChangeAt Go.RowKit
set_option linter.unusedVariables false


theorem long (K L A S : Int) (v : Value) (l : List (Int × Int)) (w : World) (hv : Pts w v l) (hl : l.length ≤ maxLen) (h : 60 < l.length) :
    Calls Try.prog 6 #[.agg #[.int .i64 K, .int .i64 L, .int .i64 A, .int .i64 S], v] w fun e w' => e = .returned (.bool true) ∧ Q w w' := by
  obtain ⟨A', c, rfl, hc, hr⟩ := hv
  unfold maxLen at hl
  have d : decide (60 < (l.length : Int)) = true := by simp; omega
  clear hr
  go_enter Try.func6, Try.ntmps6
  go_wp2_with fail
  refine (pawake_true _).mono ?_
  rintro e w1 ⟨rfl, q1⟩
  go_wp2_with fail
  go_ret
  exact ⟨rfl, q1.behind _⟩
set_option maxHeartbeats 4000000 in
theorem core (K L A S er : Int) (v : Value) (l l' : List (Int × Int)) (w : World) (hv : Pts w v l) (h : ¬ 60 < l.length) (hl' : l'.length ≤ 4294967296)
    (HP : Hid (∀ w, Pts w v l → Calls Try.prog 17 #[.agg #[.int .i64 K, .int .i64 L, .int .i64 A, .int .i64 S], v] w (PathPost l' er w)))
    (HR : Hid (∀ w, Pts w v l → Calls Try.prog 18 #[.agg #[.int .i64 K, .int .i64 L, .int .i64 A, .int .i64 S], v] w (PathPost l' er w))) :
    Calls Try.prog 6 #[.agg #[.int .i64 K, .int .i64 L, .int .i64 A, .int .i64 S], v] w fun e w' => e = .returned (.bool true) ∧ Q w w' := by
  have HV := Lib.hid hv
  obtain ⟨A', c, rfl, hc, hr⟩ := hv
  have d : decide (60 < (l.length : Int)) = false := by simp; omega
  have hl : l.length ≤ 60 := by omega
  generalize l.length = n at *
  clear hr h
  have HK := Lib.hid (prs_fresh K L A S w)
  go_enter Try.func6, Try.ntmps6
  go_wp2_with fail
  refine (HP.out _ (HV.out.next ((Q.refl _).alloc _))).mono ?_
  rintro e w1 ⟨v1, rfl, p1, q1⟩
  have P1 := Lib.hid p1
  obtain ⟨k0, k1, k2, k3, k4⟩ := pr_next HK.out q1
  clear p1 k4
  go_wp2_with fail
  refine (HR.out _ (HV.out.next (q1.behind _))).mono ?_
  rintro e w2 ⟨v2, rfl, p2, q2⟩
  have P2 := Lib.hid p2
  clear p2 k0 k1 k2 k3
  go_wp2_with fail
  refine (pawake_true _).mono ?_
  rintro e w3 ⟨rfl, q3⟩
  go_wp2_with fail
  refine (psame_true _ _ l' _ (P1.out.next (q2.trans q3)) (P2.out.next q3) hl').mono ?_
  rintro e w4 ⟨rfl, q4⟩
  go_wp2_with fail
  go_ret
  exact ⟨rfl, (q1.behind _).trans (q2.trans (q3.trans q4))⟩
theorem pl_len (K L A S : Int) (l : List (Int × Int)) (h : ¬ 60 < l.length) : (Prj.pl K L A S l).length ≤ 4294967296 := by
  unfold Prj.pl
  split
  · have := Prj.pth_len K L A S l l.length
    omega
  · simp
theorem walk (K L A S : Int) (v : Value) (l : List (Int × Int)) (_ : I64 K) (_ : I64 L) (_ : I64 A) (_ : I64 S) {w : World} (hv : Pts w v l) (hl : l.length ≤ maxLen) (_ : ∀ q ∈ l, I64 q.1 ∧ I64 q.2) (_ : World) : Calls Try.prog 6 #[.agg #[.int .i64 K, .int .i64 L, .int .i64 A, .int .i64 S], v] w fun e w' => e = .returned (.bool true) ∧ Q w w' := by
  by_cases hlen : 60 < l.length
  · exact long K L A S v l w hv hl hlen
  by_cases h : Prj.Ok K L A S
  · exact core K L A S _ v l _ w hv hlen (pl_len K L A S l hlen) (fun W p => Path_in K L A S v l W h p (by omega)) (fun W p => rPath_in K L A S v l W h p (by omega))
  by_cases hk : K < 1 ∨ 4 < K
  · exact core K L A S 9 v l [] w hv hlen (by simp) (fun W p => Path_err K L A S 9 v rfl W (fun W => pcheck_kind K L A S W hk)) (fun W p => rPath_err K L A S 9 v rfl W (fun W => rpcheck_kind K L A S W hk))
  · exact core K L A S 2 v l [] w hv hlen (by simp) (fun W p => Path_err K L A S 2 v rfl W (fun W => pcheck_range K L A S W (by omega) (by omega) h)) (fun W p => rPath_err K L A S 2 v rfl W (fun W => rpcheck_range K L A S W (by omega) (by omega) h))

theorem own : ownKnob Try.prog.godebug = none := by kernel_rfl

theorem contract (H : Type) (enc : TypeId × Value → H) (W : World) (base : Nat) (args : Array Value) (ds gs : List (DataW H)) (before : List MemPlace)
    (hval : ∀ (j : Nat) t v, Try.f6.params[j]? = some t → args[j]? = some v → Value.okWide Try.prog W .any base t v)
    (hW : DataW.Whole enc Try.prog Try.f6.params.toList Rows.projectPathsSpec.vars false W args.toList ds gs before) :
    Calls Try.prog 6 args W fun e W' => ∃ v, e = .returned v ∧ Rows.projectPathsSpec.post enc Try.prog Try.f6 false true false false W args v W' := by
  have hW' := hW
  obtain ⟨p, q, hA0, hV, rfl, hfz, hnd⟩ := hW
  have hA : DataW.TrodAll enc Try.prog W 0 (fun _ => true) true Try.f6.params.toList args.toList ds p := hA0
  rw [Try.params6] at hA hval
  obtain ⟨v0, vs0, d0, ds0, p0, q0, hargs, rfl, rfl, h0, r0⟩ := trodAll_cons hA
  obtain ⟨v1, vs1, d1, ds1, p1, q1, rfl, rfl, rfl, h1, r1⟩ := trodAll_cons r0
  obtain ⟨rfl, rfl, rfl⟩ := trodAll_nil r1
  obtain rfl : args = #[v0, v1] := by cases args; simp_all
  obtain ⟨rfl, rfl⟩ := trodVars_none hV
  obtain ⟨rfl, cs0, rfl, hs0, hz0⟩ := flat_open 4 (by kernel_rfl) Try.underlying23 (hval 0 23 v0 rfl rfl) h0
  obtain ⟨x00, x01, x02, x03, rfl, b00, b01, b02, b03⟩ := agg4_of (hs0.trans (show Try.prog.cellsOf 23 = 4 by kernel_rfl)) hz0
  obtain ⟨l1, pt1, hl1, hb1, hp1⟩ := pts_open (hval 1 33 v1 rfl rfl) h1
  clear hA0
  simp only [List.append_nil] at hW'
  refine (walk x00 x01 x02 x03 v1 l1 b00 b01 b02 b03 pt1 hl1 hb1 W).mono fun e W' ⟨he, bel⟩ => ?_
  subst he
  exact ⟨_, rfl, _, _, _, [], ([] ++ (p1 ++ [])), [], hW', trodAll_mk1 (shut_bool Try.underlying4 _), (trodAll_cons_mk (Below.trod laidOut (by kernel_rfl) (by decide +kernel) h0 bel (fun x hx => by cases hx)) (trodAll_cons_mk (Below.trod laidOut (by kernel_rfl) (by decide +kernel) h1 bel hp1) trodAll_mk0)), rfl, Below.frame bel _, fun h => by cases h⟩

set_option maxRecDepth 100000 in
theorem lifted (os : Os) (started : os.Started) (H : Type) (enc : TypeId × Value → H) :
    ReturnsInHanded {} Try.checked os 6 .any (Rows.projectPathsSpec.pre6 enc Try.prog Try.f6 Rows.projectPathsRow.domain false) (Rows.projectPathsSpec.post enc Try.prog Try.f6 false true false false) := by
  refine returnsInHanded_of_change (C := Try.checked) own started (by kernel_rfl) Try.func6
    (ChangeSpec.witness6 (enc := enc) (C := Try.checked) false ⟨#[], #[.agg #[.int .i64 0, .int .i64 0, .int .i64 0, .int .i64 0], .slice none 0 0], []⟩ 8 (by kernel_rfl) (by kernel_rfl) (by kernel_rfl) (by kernel_rfl)) ?_
  intro W base args ds gs before hval hW hcnd _
  exact contract H enc W base args ds gs before hval hW

theorem said : Rows.ProjectPathsSaid :=
  OpenClaim.holds_of_wide 6 Try.f6 rfl rfl rfl rfl rfl rfl rfl ⟨rfl, rfl, rfl, rfl, rfl⟩ rfl rfl rfl rfl rfl (by kernel_rfl) Try.func6 (by kernel_rfl)
    (of_decide_eq_true (by kernel_rfl)) (by unfold Func.isWrapper; first | (rw [if_pos (by decide +kernel)]; kernel_rfl) | (rw [if_neg (by decide +kernel)]; exact ⟨rfl, rfl⟩))
    (fun os started H enc _ => lifted os started H enc)
end Go.Proofs.Ytmagppjmjjkbjaa.projectPaths
namespace Go.Proofs.Ytmagppjmjjkbjaa
theorem projectPaths_holds : Rows.ProjectPathsSaid := projectPaths.said
#print axioms projectPaths_holds
end Go.Proofs.Ytmagppjmjjkbjaa
