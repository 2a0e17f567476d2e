
/- For every projection and any two lists of positions, ProjectJoins returns true: the path of two lists, one behind the other, is the first's path with the second's behind it, a point at the join told once (for lists of at most 30 points). No condition. -/
import Derived.Test.YtmagppjmjjkbjaaRows
import Derived.Test.YtmagppjmjjkbjaaPrjAwake
import Derived.Test.YtmagppjmjjkbjaaFlatS
import Derived.Test.YtmagppjmjjkbjaaAppend
import Derived.Test.YtmagppjmjjkbjaaPrjJ
import Derived.Test.YtmagppjmjjkbjaaFlat
import Derived.Deep.RegionHeld3
namespace Go.Proofs.Ytmagppjmjjkbjaa.projectJoins
open Go.ChangeShapes Go.WideShapes Go.ChangeAt Go.RowKit
set_option linter.unusedVariables false


theorem ptCells_one (l : List (Int × Int)) : ∀ u ∈ ptCells l, u.oneCell' = true := by
  intro u hu
  simp only [ptCells, List.mem_flatMap] at hu
  obtain ⟨p, _, hu⟩ := hu
  simp at hu
  rcases hu with rfl | rfl <;> rfl
theorem ptCells_app (a b : List (Int × Int)) : ptCells (a ++ b) = ptCells a ++ ptCells b := by simp [ptCells]
/-- The empty literal is a row of the call's own. -/
theorem own_empty {w : World} {g base : Nat} (hb : base ≤ g) (h : w.heap[g]? = some (.cells #[] 29 (0, 0))) : w.ownsRow base 29 2 (.slice (some ⟨g, 0, none⟩) 0 0) 0 [] :=
  ⟨rfl, .inr ⟨g, 0, #[], rfl, hb, h, Nat.le_refl _, by decide, rfl, rfl⟩⟩
theorem longA (K L A S : Int) (v u : Value) (l m : List (Int × Int)) (w : World) (hv : Pts w v l) (hu : Pts w u m) (hl : l.length ≤ maxLen) (h : 30 < l.length) :
    Calls Try.prog 9 #[.agg #[.int .i64 K, .int .i64 L, .int .i64 A, .int .i64 S], v, u] w fun e w' => e = .returned (.bool true) ∧ Q w w' := by
  obtain ⟨A', c, rfl, hc, hr⟩ := hv
  obtain ⟨B', c', rfl, hc', hr'⟩ := hu
  unfold maxLen at hl
  have d : decide (30 < (l.length : Int)) = true := by simp; omega
  clear hr hr'
  go_enter Try.func9, Try.ntmps9
  go_wp2_with fail
  refine (pawake_true _).mono ?_
  rintro e w1 ⟨rfl, q1⟩
  go_wp2_with fail
  go_ret
  exact ⟨rfl, q1.behind _⟩
theorem longB (K L A S : Int) (v u : Value) (l m : List (Int × Int)) (w : World) (hv : Pts w v l) (hu : Pts w u m) (hl : m.length ≤ maxLen) (h' : ¬ 30 < l.length) (h : 30 < m.length) :
    Calls Try.prog 9 #[.agg #[.int .i64 K, .int .i64 L, .int .i64 A, .int .i64 S], v, u] w fun e w' => e = .returned (.bool true) ∧ Q w w' := by
  obtain ⟨A', c, rfl, hc, hr⟩ := hv
  obtain ⟨B', c', rfl, hc', hr'⟩ := hu
  unfold maxLen at hl
  have d : decide (30 < (l.length : Int)) = false := by simp; omega
  have d' : decide (30 < (m.length : Int)) = true := by simp; omega
  have hl' : l.length ≤ 30 := by omega
  generalize l.length = n at *
  clear hr hr' h'
  go_enter Try.func9, Try.ntmps9
  go_wp2_with fail
  refine (pawake_true _).mono ?_
  rintro e w1 ⟨rfl, q1⟩
  go_wp2_with fail
  go_ret
  exact ⟨rfl, q1.behind _⟩

set_option linter.unusedSimpArgs false in
set_option maxRecDepth 100000 in
set_option maxHeartbeats 1600000 in
theorem core_err (K L A S ea eb ec : Int) (v u : Value) (a b x y zl : List (Int × Int)) (w : World) (hv : Pts w v a) (hu : Pts w u b) (h : ¬ 30 < a.length) (h' : ¬ 30 < b.length) (hzl : zl = [])
    (he : ((ea != 0) = true) ∨ ((ea != 0) = false ∧ (eb != 0) = true)) (hec : (ec != 0) = true)
    (HA : Hid (∀ w, Pts w v a → Calls Try.prog 17 #[.agg #[.int .i64 K, .int .i64 L, .int .i64 A, .int .i64 S], v] w (PathPost x ea w)))
    (HB : Hid (∀ w, Pts w u b → Calls Try.prog 17 #[.agg #[.int .i64 K, .int .i64 L, .int .i64 A, .int .i64 S], u] w (PathPost y eb w)))
    (HC : Hid (∀ t w, Pts w t (a ++ b) → Calls Try.prog 17 #[.agg #[.int .i64 K, .int .i64 L, .int .i64 A, .int .i64 S], t] w (PathPost zl ec w))) :
    Calls Try.prog 9 #[.agg #[.int .i64 K, .int .i64 L, .int .i64 A, .int .i64 S], v, u] w fun e w' => e = .returned (.bool true) ∧ Q w w' := by
  have HV := Lib.hid hv
  have HU := Lib.hid hu
  obtain ⟨A', c, rfl, hc, hr⟩ := hv
  obtain ⟨B', c', rfl, hc', hr'⟩ := hu
  have HL := Lib.hid (show (a ++ b).length = 0 + a.length + b.length by simp)
  have d : decide (30 < (a.length : Int)) = false := by simp; omega
  have d' : decide (30 < (b.length : Int)) = false := by simp; omega
  have hl : a.length ≤ 30 := by omega
  have hl' : b.length ≤ 30 := by omega
  obtain ⟨i0, hi, hz0, hz1, hz2⟩ := info_parts infoPoint
  have HI := Lib.hid hi
  have HRA := Lib.hid hr
  have HRB := Lib.hid hr'
  obtain ⟨n, hn⟩ : ∃ n, a.length = n := ⟨_, rfl⟩
  obtain ⟨m, hm⟩ : ∃ m, b.length = m := ⟨_, rfl⟩
  rw [hn, hm] at HL
  rw [hn] at HRA hc d hl HA HV ⊢
  rw [hm] at HRB hc' d' hl' HB HU ⊢
  clear hr hr' h h' hn hm hi
  have HK := Lib.hid (prs_fresh K L A S w)
  go_enter Try.func9, Try.ntmps9
  go_wp2_with fail
  refine (HA.out _ (HV.out.next ((Q.refl _).alloc _))).mono ?_
  rintro e w1 ⟨v1, rfl, p1, q1⟩
  have P1 := Lib.hid p1
  obtain ⟨k0, k1, k2, k3, k4⟩ := pr_next HK.out q1
  clear p1 k4
  go_wp2_with fail
  refine (HB.out _ (HU.out.next (q1.behind _))).mono ?_
  rintro e w2 ⟨v2, rfl, p2, q2⟩
  have P2 := Lib.hid p2
  have P1' := Lib.hid (P1.out.next q2)
  clear p2 k0 k1 k2 k3
  have HK2 := Lib.hid (show PrS K L A S w.heap.size w2 w2 from ⟨(pr_next HK.out (q1.trans q2)).1, (pr_next HK.out (q1.trans q2)).2.1, (pr_next HK.out (q1.trans q2)).2.2.1, (pr_next HK.out (q1.trans q2)).2.2.2.1, Q.refl _⟩)
  have q12 := (q1.trans q2).behind _
  have RA := Lib.hid ((HRA.out.below q12).more q12.sz)
  have RB := Lib.hid ((HRB.out.below q12).more q12.sz)
  clear HRA HRB
  go_wp2_with fail
  refine wp_region_held_drew (S := fun v => (v.cell? ⟨w.heap.size, 0, none⟩ = some (.int .i64 K) ∧ v.cell? ⟨w.heap.size, 1, none⟩ = some (.int .i64 L) ∧ v.cell? ⟨w.heap.size, 2, none⟩ = some (.int .i64 A) ∧ v.cell? ⟨w.heap.size, 3, none⟩ = some (.int .i64 S) ∧ Q w2 v)) (by kernel_rfl) (pr_next HK2.out ((Q.refl _).drew)) (fun hHeld => ?_)
  refine wpAnyH_take (i := 0) (v := ?v0) rfl (by kernel_rfl) (by kernel_rfl) (by kernel_rfl) (fun _ _ _ h => h) (Or.inl ⟨by rfl, ?hy0⟩) (by assumption) ?_
  case hy0 => (intro w hSw; (try dsimp only at hSw); go_simp; try with_reducible rfl)
  try simp only [List.getElem_toArray, List.getElem_cons_zero, List.getElem_cons_succ, Act.put, List.setIfInBounds_toArray, List.set_cons_zero, List.set_cons_succ]
  refine wpAnyH_take (i := 2) (v := ?v2) rfl (by kernel_rfl) (by kernel_rfl) (by kernel_rfl) (fun _ _ _ h => h) (Or.inl ⟨by rfl, ?hy2⟩) (by assumption) ?_
  case hy2 => (intro w hSw; (try dsimp only at hSw); go_simp; try with_reducible rfl)
  try simp only [List.getElem_toArray, List.getElem_cons_zero, List.getElem_cons_succ, Act.put, List.setIfInBounds_toArray, List.set_cons_zero, List.set_cons_succ]
  refine wpAnyH_take (i := 4) (v := ?v4) rfl (by kernel_rfl) (by kernel_rfl) (by kernel_rfl) (fun _ _ _ h => h) (Or.inl ⟨by rfl, ?hy4⟩) (by assumption) ?_
  case hy4 => (intro w hSw; (try dsimp only at hSw); go_simp; try with_reducible rfl)
  try simp only [List.getElem_toArray, List.getElem_cons_zero, List.getElem_cons_succ, Act.put, List.setIfInBounds_toArray, List.set_cons_zero, List.set_cons_succ]
  refine wpAnyH_ready (rs := [1]) (by kernel_rfl) (by simp) ?_
  refine AllReadyH.cons rfl (fun KK hK => ?_) AllReadyH.nil
  go_simp
  refine hK.out _ _ (pr_next HK2.out (((Q.refl _).drew).alloc _)) (fun hHeld => ?_)
  clear hK KK
  try simp only [List.getElem_toArray, List.getElem_cons_zero, List.getElem_cons_succ, Act.put, List.setIfInBounds_toArray, List.set_cons_zero, List.set_cons_succ]
  refine wpAnyH_ready (rs := [3]) (by kernel_rfl) (by simp) ?_
  refine AllReadyH.cons rfl (fun KK hK => ?_) AllReadyH.nil
  refine step_append_any _ (by rfl) (.tmp 36) (.tmp 37) _ (by rfl) w2.heap.size 29 i0 _ 2 16 Try.underlying33 HI.out hz0 hz1 hz2 rfl (by decide) (.slice (some ⟨w2.heap.size, 0, none⟩) 0 0) 0 [] (by rfl) (own_empty (Nat.le_refl _) (show (w2.drew.alloc _).heap[w2.heap.size]? = _ from heap_alloc_new w2.drew _)) w2.heap.size A' n c (ptCells a) (by rfl) (RA.out.drew.alloc (Nat.le_refl _) _) (ptCells_one a) (by simp only [maxLen]; omega) (by omega) (by simp) ?_
  intro v3 w3 hown3 hg3 hat3
  have q3 : Q w2 w3 := Q.grown (((Q.refl w2).drew).alloc _) hg3 (by simp [Value.ownBlock])
  refine hK.out _ _ (pr_next HK2.out (q3)) (fun hHeld => ?_)
  clear hK KK
  try simp only [List.getElem_toArray, List.getElem_cons_zero, List.getElem_cons_succ, Act.put, List.setIfInBounds_toArray, List.set_cons_zero, List.set_cons_succ]
  refine wpAnyH_ready (rs := [5]) (by kernel_rfl) (by simp) ?_
  refine AllReadyH.cons rfl (fun KK hK => ?_) AllReadyH.nil
  refine step_append_any _ (by rfl) (.tmp 38) (.tmp 39) _ (by rfl) w2.heap.size 29 i0 _ 2 16 Try.underlying33 HI.out hz0 hz1 hz2 rfl (by decide) v3 (0 + n) ([] ++ ptCells a) (by rfl) hown3 w2.heap.size B' m c' (ptCells b) (by rfl) (RB.out.below q3) (ptCells_one b) (by simp only [maxLen]; omega) (by omega) q3.sz ?_
  intro v4 w4 hown4 hg4 hat4
  have q4 : Q w2 w4 := Q.grown q3 hg4 (by intro k hk; rcases hat3 with hx | hx <;> rw [hx] at hk <;> simp [Value.ownBlock] at hk <;> omega)
  have P4 := Lib.hid (show Pts w4 v4 (a ++ b) from Pts.own (base := w2.heap.size) (by rw [HL.out, ptCells_app]; simpa using hown4))
  clear hown3 hown4 hg3 hg4 hat3 hat4
  refine hK.out _ _ (pr_next HK2.out (q4)) (fun hHeld => ?_)
  clear hK KK
  try simp only [List.getElem_toArray, List.getElem_cons_zero, List.getElem_cons_succ, Act.put, List.setIfInBounds_toArray, List.set_cons_zero, List.set_cons_succ]
  refine wpAnyH_ready (rs := [6]) (by kernel_rfl) (by simp) ?_
  refine AllReadyH.cons rfl (fun KK hK => ?_) AllReadyH.nil
  go_simp
  refine (HC.out _ _ P4.out).mono ?_
  rintro e w5 ⟨v5, rfl, p5, q5⟩
  have P5 := Lib.hid p5
  clear p5
  go_wp2_with fail
  refine hK.out _ _ (pr_next HK2.out (q4.trans q5)) (fun hHeld => ?_)
  clear hK KK
  try simp only [List.getElem_toArray, List.getElem_cons_zero, List.getElem_cons_succ, Act.put, List.setIfInBounds_toArray, List.set_cons_zero, List.set_cons_succ]
  refine wpAnyH_take (i := 7) (v := ?v7) rfl (by kernel_rfl) (by kernel_rfl) (by kernel_rfl) (fun _ _ _ h => h) (Or.inl ⟨by rfl, ?hy7⟩) (by assumption) ?_
  case hy7 => (intro w hSw; (try dsimp only at hSw); go_simp; try with_reducible rfl)
  try simp only [List.getElem_toArray, List.getElem_cons_zero, List.getElem_cons_succ, Act.put, List.setIfInBounds_toArray, List.set_cons_zero, List.set_cons_succ]
  refine wpAnyH_take (i := 8) (v := ?v8) rfl (by kernel_rfl) (by kernel_rfl) (by kernel_rfl) (fun _ _ _ h => h) (Or.inl ⟨by rfl, ?hy8⟩) (by assumption) ?_
  case hy8 => (intro w hSw; (try dsimp only at hSw); go_simp; try with_reducible rfl)
  try simp only [List.getElem_toArray, List.getElem_cons_zero, List.getElem_cons_succ, Act.put, List.setIfInBounds_toArray, List.set_cons_zero, List.set_cons_succ]
  refine wpAnyH_take (i := 9) (v := ?v9) rfl (by kernel_rfl) (by kernel_rfl) (by kernel_rfl) (fun _ _ _ h => h) (Or.inl ⟨by rfl, ?hy9⟩) (by assumption) ?_
  case hy9 => (intro w hSw; (try dsimp only at hSw); go_simp; try with_reducible rfl)
  try simp only [List.getElem_toArray, List.getElem_cons_zero, List.getElem_cons_succ, Act.put, List.setIfInBounds_toArray, List.set_cons_zero, List.set_cons_succ]
  refine wpAnyH_take (i := 10) (v := ?v10) rfl (by kernel_rfl) (by kernel_rfl) (by kernel_rfl) (fun _ _ _ h => h) (Or.inl ⟨by rfl, ?hy10⟩) (by assumption) ?_
  case hy10 => (intro w hSw; (try dsimp only at hSw); go_simp; try with_reducible rfl)
  try simp only [List.getElem_toArray, List.getElem_cons_zero, List.getElem_cons_succ, Act.put, List.setIfInBounds_toArray, List.set_cons_zero, List.set_cons_succ]
  refine wpAnyH_take (i := 11) (v := ?v11) rfl (by kernel_rfl) (by kernel_rfl) (by kernel_rfl) (fun _ _ _ h => h) (Or.inl ⟨by rfl, ?hy11⟩) (by assumption) ?_
  case hy11 => (intro w hSw; (try dsimp only at hSw); go_simp; try with_reducible rfl)
  try simp only [List.getElem_toArray, List.getElem_cons_zero, List.getElem_cons_succ, Act.put, List.setIfInBounds_toArray, List.set_cons_zero, List.set_cons_succ]
  refine wpAnyH_done (by kernel_rfl) ?_ _
  have q15 := (q12.trans q4).trans q5
  have q25 := q4.trans q5
  clear hHeld q3 q4 q5 P4 RA RB
  obtain ⟨A5, c5, rfl, hc5, _⟩ := P5.out
  subst hzl
  rcases he with he | ⟨he, he'⟩
  · go_wp2_with fail
    refine (pawake_true _).mono ?_
    rintro e w6 ⟨rfl, q6⟩
    go_wp2_with fail
    go_ret
    exact ⟨rfl, q15.trans q6⟩
  · go_wp2_with fail
    refine (pawake_true _).mono ?_
    rintro e w6 ⟨rfl, q6⟩
    go_wp2_with fail
    go_ret
    exact ⟨rfl, q15.trans q6⟩
theorem ptCells_tail (y : List (Int × Int)) (h : y ≠ []) : ptCells y.tail = (ptCells y).drop (1 * 2) := by
  cases y with
  | nil => exact absurd rfl h
  | cons p y => simp [ptCells]
theorem rest_nil (y : List (Int × Int)) : Prj.rest [] y = y := by unfold Prj.rest; rw [if_neg]; rintro ⟨h, _⟩; exact h rfl
theorem rest_nil' (x : List (Int × Int)) : Prj.rest x [] = [] := by unfold Prj.rest; split <;> rfl
set_option linter.unusedSimpArgs false in
set_option maxRecDepth 100000 in
set_option maxHeartbeats 1600000 in
theorem core_ok (K L A S ea eb ec : Int) (v u : Value) (a b x y zl : List (Int × Int)) (w : World) (hv : Pts w v a) (hu : Pts w u b) (h : ¬ 30 < a.length) (h' : ¬ 30 < b.length) (hzl : zl = x ++ Prj.rest x y)
    (hea : ea = 0) (heb : eb = 0) (hec : ec = 0) (hxl : x.length ≤ 30) (hyl : y.length ≤ 30)
    (HA : Hid (∀ w, Pts w v a → Calls Try.prog 17 #[.agg #[.int .i64 K, .int .i64 L, .int .i64 A, .int .i64 S], v] w (PathPost x ea w)))
    (HB : Hid (∀ w, Pts w u b → Calls Try.prog 17 #[.agg #[.int .i64 K, .int .i64 L, .int .i64 A, .int .i64 S], u] w (PathPost y eb w)))
    (HC : Hid (∀ t w, Pts w t (a ++ b) → Calls Try.prog 17 #[.agg #[.int .i64 K, .int .i64 L, .int .i64 A, .int .i64 S], t] w (PathPost zl ec w))) :
    Calls Try.prog 9 #[.agg #[.int .i64 K, .int .i64 L, .int .i64 A, .int .i64 S], v, u] w fun e w' => e = .returned (.bool true) ∧ Q w w' := by
  have HV := Lib.hid hv
  have HU := Lib.hid hu
  obtain ⟨A', c, rfl, hc, hr⟩ := hv
  obtain ⟨B', c', rfl, hc', hr'⟩ := hu
  have HL := Lib.hid (show (a ++ b).length = 0 + a.length + b.length by simp)
  have d : decide (30 < (a.length : Int)) = false := by simp; omega
  have d' : decide (30 < (b.length : Int)) = false := by simp; omega
  have hl : a.length ≤ 30 := by omega
  have hl' : b.length ≤ 30 := by omega
  obtain ⟨i0, hi, hz0, hz1, hz2⟩ := info_parts infoPoint
  have HI := Lib.hid hi
  have HRA := Lib.hid hr
  have HRB := Lib.hid hr'
  obtain ⟨n, hn⟩ : ∃ n, a.length = n := ⟨_, rfl⟩
  obtain ⟨m, hm⟩ : ∃ m, b.length = m := ⟨_, rfl⟩
  rw [hn, hm] at HL
  rw [hn] at HRA hc d hl HA HV ⊢
  rw [hm] at HRB hc' d' hl' HB HU ⊢
  clear hr hr' h h' hn hm hi
  subst hea heb hec
  have HK := Lib.hid (prs_fresh K L A S w)
  go_enter Try.func9, Try.ntmps9
  go_wp2_with fail
  refine (HA.out _ (HV.out.next ((Q.refl _).alloc _))).mono ?_
  rintro e w1 ⟨v1, rfl, p1, q1⟩
  have P1 := Lib.hid p1
  obtain ⟨k0, k1, k2, k3, k4⟩ := pr_next HK.out q1
  clear p1 k4
  go_wp2_with fail
  refine (HB.out _ (HU.out.next (q1.behind _))).mono ?_
  rintro e w2 ⟨v2, rfl, p2, q2⟩
  have P2 := Lib.hid p2
  have P1' := Lib.hid (P1.out.next q2)
  clear p2 k0 k1 k2 k3
  have HK2 := Lib.hid (show PrS K L A S w.heap.size w2 w2 from ⟨(pr_next HK.out (q1.trans q2)).1, (pr_next HK.out (q1.trans q2)).2.1, (pr_next HK.out (q1.trans q2)).2.2.1, (pr_next HK.out (q1.trans q2)).2.2.2.1, Q.refl _⟩)
  have q12 := (q1.trans q2).behind _
  have RA := Lib.hid ((HRA.out.below q12).more q12.sz)
  have RB := Lib.hid ((HRB.out.below q12).more q12.sz)
  clear HRA HRB
  go_wp2_with fail
  refine wp_region_held_drew (S := fun v => (v.cell? ⟨w.heap.size, 0, none⟩ = some (.int .i64 K) ∧ v.cell? ⟨w.heap.size, 1, none⟩ = some (.int .i64 L) ∧ v.cell? ⟨w.heap.size, 2, none⟩ = some (.int .i64 A) ∧ v.cell? ⟨w.heap.size, 3, none⟩ = some (.int .i64 S) ∧ Q w2 v)) (by kernel_rfl) (pr_next HK2.out ((Q.refl _).drew)) (fun hHeld => ?_)
  refine wpAnyH_take (i := 0) (v := ?v0) rfl (by kernel_rfl) (by kernel_rfl) (by kernel_rfl) (fun _ _ _ h => h) (Or.inl ⟨by rfl, ?hy0⟩) (by assumption) ?_
  case hy0 => (intro w hSw; (try dsimp only at hSw); go_simp; try with_reducible rfl)
  try simp only [List.getElem_toArray, List.getElem_cons_zero, List.getElem_cons_succ, Act.put, List.setIfInBounds_toArray, List.set_cons_zero, List.set_cons_succ]
  refine wpAnyH_take (i := 2) (v := ?v2) rfl (by kernel_rfl) (by kernel_rfl) (by kernel_rfl) (fun _ _ _ h => h) (Or.inl ⟨by rfl, ?hy2⟩) (by assumption) ?_
  case hy2 => (intro w hSw; (try dsimp only at hSw); go_simp; try with_reducible rfl)
  try simp only [List.getElem_toArray, List.getElem_cons_zero, List.getElem_cons_succ, Act.put, List.setIfInBounds_toArray, List.set_cons_zero, List.set_cons_succ]
  refine wpAnyH_take (i := 4) (v := ?v4) rfl (by kernel_rfl) (by kernel_rfl) (by kernel_rfl) (fun _ _ _ h => h) (Or.inl ⟨by rfl, ?hy4⟩) (by assumption) ?_
  case hy4 => (intro w hSw; (try dsimp only at hSw); go_simp; try with_reducible rfl)
  try simp only [List.getElem_toArray, List.getElem_cons_zero, List.getElem_cons_succ, Act.put, List.setIfInBounds_toArray, List.set_cons_zero, List.set_cons_succ]
  refine wpAnyH_ready (rs := [1]) (by kernel_rfl) (by simp) ?_
  refine AllReadyH.cons rfl (fun KK hK => ?_) AllReadyH.nil
  go_simp
  refine hK.out _ _ (pr_next HK2.out (((Q.refl _).drew).alloc _)) (fun hHeld => ?_)
  clear hK KK
  try simp only [List.getElem_toArray, List.getElem_cons_zero, List.getElem_cons_succ, Act.put, List.setIfInBounds_toArray, List.set_cons_zero, List.set_cons_succ]
  refine wpAnyH_ready (rs := [3]) (by kernel_rfl) (by simp) ?_
  refine AllReadyH.cons rfl (fun KK hK => ?_) AllReadyH.nil
  refine step_append_any _ (by rfl) (.tmp 36) (.tmp 37) _ (by rfl) w2.heap.size 29 i0 _ 2 16 Try.underlying33 HI.out hz0 hz1 hz2 rfl (by decide) (.slice (some ⟨w2.heap.size, 0, none⟩) 0 0) 0 [] (by rfl) (own_empty (Nat.le_refl _) (show (w2.drew.alloc _).heap[w2.heap.size]? = _ from heap_alloc_new w2.drew _)) w2.heap.size A' n c (ptCells a) (by rfl) (RA.out.drew.alloc (Nat.le_refl _) _) (ptCells_one a) (by simp only [maxLen]; omega) (by omega) (by simp) ?_
  intro v3 w3 hown3 hg3 hat3
  have q3 : Q w2 w3 := Q.grown (((Q.refl w2).drew).alloc _) hg3 (by simp [Value.ownBlock])
  refine hK.out _ _ (pr_next HK2.out (q3)) (fun hHeld => ?_)
  clear hK KK
  try simp only [List.getElem_toArray, List.getElem_cons_zero, List.getElem_cons_succ, Act.put, List.setIfInBounds_toArray, List.set_cons_zero, List.set_cons_succ]
  refine wpAnyH_ready (rs := [5]) (by kernel_rfl) (by simp) ?_
  refine AllReadyH.cons rfl (fun KK hK => ?_) AllReadyH.nil
  refine step_append_any _ (by rfl) (.tmp 38) (.tmp 39) _ (by rfl) w2.heap.size 29 i0 _ 2 16 Try.underlying33 HI.out hz0 hz1 hz2 rfl (by decide) v3 (0 + n) ([] ++ ptCells a) (by rfl) hown3 w2.heap.size B' m c' (ptCells b) (by rfl) (RB.out.below q3) (ptCells_one b) (by simp only [maxLen]; omega) (by omega) q3.sz ?_
  intro v4 w4 hown4 hg4 hat4
  have q4 : Q w2 w4 := Q.grown q3 hg4 (by intro k hk; rcases hat3 with hx | hx <;> rw [hx] at hk <;> simp [Value.ownBlock] at hk <;> omega)
  have P4 := Lib.hid (show Pts w4 v4 (a ++ b) from Pts.own (base := w2.heap.size) (by rw [HL.out, ptCells_app]; simpa using hown4))
  clear hown3 hown4 hg3 hg4 hat3 hat4
  refine hK.out _ _ (pr_next HK2.out (q4)) (fun hHeld => ?_)
  clear hK KK
  try simp only [List.getElem_toArray, List.getElem_cons_zero, List.getElem_cons_succ, Act.put, List.setIfInBounds_toArray, List.set_cons_zero, List.set_cons_succ]
  refine wpAnyH_ready (rs := [6]) (by kernel_rfl) (by simp) ?_
  refine AllReadyH.cons rfl (fun KK hK => ?_) AllReadyH.nil
  go_simp
  refine (HC.out _ _ P4.out).mono ?_
  rintro e w5 ⟨v5, rfl, p5, q5⟩
  have P5 := Lib.hid p5
  clear p5
  go_wp2_with fail
  refine hK.out _ _ (pr_next HK2.out (q4.trans q5)) (fun hHeld => ?_)
  clear hK KK
  try simp only [List.getElem_toArray, List.getElem_cons_zero, List.getElem_cons_succ, Act.put, List.setIfInBounds_toArray, List.set_cons_zero, List.set_cons_succ]
  refine wpAnyH_take (i := 7) (v := ?v7) rfl (by kernel_rfl) (by kernel_rfl) (by kernel_rfl) (fun _ _ _ h => h) (Or.inl ⟨by rfl, ?hy7⟩) (by assumption) ?_
  case hy7 => (intro w hSw; (try dsimp only at hSw); go_simp; try with_reducible rfl)
  try simp only [List.getElem_toArray, List.getElem_cons_zero, List.getElem_cons_succ, Act.put, List.setIfInBounds_toArray, List.set_cons_zero, List.set_cons_succ]
  refine wpAnyH_take (i := 8) (v := ?v8) rfl (by kernel_rfl) (by kernel_rfl) (by kernel_rfl) (fun _ _ _ h => h) (Or.inl ⟨by rfl, ?hy8⟩) (by assumption) ?_
  case hy8 => (intro w hSw; (try dsimp only at hSw); go_simp; try with_reducible rfl)
  try simp only [List.getElem_toArray, List.getElem_cons_zero, List.getElem_cons_succ, Act.put, List.setIfInBounds_toArray, List.set_cons_zero, List.set_cons_succ]
  refine wpAnyH_take (i := 9) (v := ?v9) rfl (by kernel_rfl) (by kernel_rfl) (by kernel_rfl) (fun _ _ _ h => h) (Or.inl ⟨by rfl, ?hy9⟩) (by assumption) ?_
  case hy9 => (intro w hSw; (try dsimp only at hSw); go_simp; try with_reducible rfl)
  try simp only [List.getElem_toArray, List.getElem_cons_zero, List.getElem_cons_succ, Act.put, List.setIfInBounds_toArray, List.set_cons_zero, List.set_cons_succ]
  refine wpAnyH_take (i := 10) (v := ?v10) rfl (by kernel_rfl) (by kernel_rfl) (by kernel_rfl) (fun _ _ _ h => h) (Or.inl ⟨by rfl, ?hy10⟩) (by assumption) ?_
  case hy10 => (intro w hSw; (try dsimp only at hSw); go_simp; try with_reducible rfl)
  try simp only [List.getElem_toArray, List.getElem_cons_zero, List.getElem_cons_succ, Act.put, List.setIfInBounds_toArray, List.set_cons_zero, List.set_cons_succ]
  refine wpAnyH_take (i := 11) (v := ?v11) rfl (by kernel_rfl) (by kernel_rfl) (by kernel_rfl) (fun _ _ _ h => h) (Or.inl ⟨by rfl, ?hy11⟩) (by assumption) ?_
  case hy11 => (intro w hSw; (try dsimp only at hSw); go_simp; try with_reducible rfl)
  try simp only [List.getElem_toArray, List.getElem_cons_zero, List.getElem_cons_succ, Act.put, List.setIfInBounds_toArray, List.set_cons_zero, List.set_cons_succ]
  refine wpAnyH_done (by kernel_rfl) ?_ _
  have q15 := (q12.trans q4).trans q5
  have q25 := q4.trans q5
  clear hHeld q3 q4 q5 P4 RA RB
  have N1 := Lib.hid (P1'.out.next q25)
  have N2 := Lib.hid (P2.out.next q25)
  obtain ⟨A1, k1, rfl, hk1, r1⟩ := N1.out
  obtain ⟨A2, k2, rfl, hk2, r2⟩ := N2.out
  have R1 := Lib.hid r1
  have R2 := Lib.hid r2
  have HZ0 := Lib.hid hzl
  clear r1 r2 hzl P1 P1' P2 N1 N2 HK HK2
  by_cases hx : x = []
  · have hx0 : x.length = 0 := by rw [hx]; rfl
    have HZ := Lib.hid (show zl = x ++ y by rw [HZ0.out, hx, rest_nil])
    have HZL := Lib.hid (show 0 + 0 + y.length = (x ++ y).length by rw [hx]; simp)
    rw [hx0] at hk1 R1 ⊢
    clear hx hx0
    go_wp2_with fail
    go_quiet (fail)
    go_wp2_with fail
    refine (pawake_true _).mono ?_
    rintro e w6 ⟨rfl, q6⟩
    have q56 := ((Q.refl w5).drewN nq).trans q6
    have q16 := q15.trans q56
    clear q6
    rename_i KA hKA KB hKB
    dsimp only
    refine hKB _ _ ?_
    refine wpList_step (fun KK hKK => ?_)
    go_simp
    refine hKK _ _ ?_
    clear hKK KK
    try simp only [List.getElem_toArray, List.getElem_cons_zero, List.getElem_cons_succ, Act.put, List.setIfInBounds_toArray, List.set_cons_zero, List.set_cons_succ]
    refine wpList_step (fun KK hKK => ?_)
    go_simp
    refine hKK _ _ ?_
    clear hKK KK
    try simp only [List.getElem_toArray, List.getElem_cons_zero, List.getElem_cons_succ, Act.put, List.setIfInBounds_toArray, List.set_cons_zero, List.set_cons_succ]
    refine wpList_step (fun KK hKK => ?_)
    go_simp
    refine hKK _ _ ?_
    clear hKK KK
    try simp only [List.getElem_toArray, List.getElem_cons_zero, List.getElem_cons_succ, Act.put, List.setIfInBounds_toArray, List.set_cons_zero, List.set_cons_succ]
    refine wpList_step (fun KK hKK => ?_)
    go_simp
    refine hKK _ _ ?_
    clear hKK KK
    try simp only [List.getElem_toArray, List.getElem_cons_zero, List.getElem_cons_succ, Act.put, List.setIfInBounds_toArray, List.set_cons_zero, List.set_cons_succ]
    refine wpList_step (fun KK hKK => ?_)
    go_simp
    refine hKK _ _ ?_
    clear hKK KK
    try simp only [List.getElem_toArray, List.getElem_cons_zero, List.getElem_cons_succ, Act.put, List.setIfInBounds_toArray, List.set_cons_zero, List.set_cons_succ]
    refine wpList_step (fun KK hKK => ?_)
    go_simp
    refine hKK _ _ ?_
    clear hKK KK
    try simp only [List.getElem_toArray, List.getElem_cons_zero, List.getElem_cons_succ, Act.put, List.setIfInBounds_toArray, List.set_cons_zero, List.set_cons_succ]
    refine wpList_step (fun KK hKK => ?_)
    go_simp
    refine hKK _ _ ?_
    clear hKK KK
    try simp only [List.getElem_toArray, List.getElem_cons_zero, List.getElem_cons_succ, Act.put, List.setIfInBounds_toArray, List.set_cons_zero, List.set_cons_succ]
    refine wpList_step (fun KK hKK => ?_)
    go_simp
    refine hKK _ _ ?_
    clear hKK KK
    try simp only [List.getElem_toArray, List.getElem_cons_zero, List.getElem_cons_succ, Act.put, List.setIfInBounds_toArray, List.set_cons_zero, List.set_cons_succ]
    refine wpList_append_want _ (by rfl) (.tmp 89) (.tmp 90) _ rfl w6.heap.size 29 i0 _ 2 16 Try.underlying33 HI.out hz0 hz1 hz2 rfl (by decide) (.slice (some ⟨w6.heap.size, 0, none⟩) 0 0) 0 [] rfl (own_empty (Nat.le_refl _) (heap_alloc_new w6 _)) w5.heap.size A1 (0) k1 (ptCells x) rfl ((R1.out.below q56).alloc q56.sz _) (ptCells_one _) (by simp only [maxLen]; omega) (by omega) (by simp) ?_
    intro v7 w7 hown7 hg7 hat7
    have q7 : Q w6 w7 := Q.grown ((Q.refl w6).alloc _) hg7 (by simp [Value.ownBlock])
    try simp only [List.getElem_toArray, List.getElem_cons_zero, List.getElem_cons_succ, Act.put, List.setIfInBounds_toArray, List.set_cons_zero, List.set_cons_succ]
    refine wpList_step (fun KK hKK => ?_)
    go_simp
    refine hKK _ _ ?_
    clear hKK KK
    try simp only [List.getElem_toArray, List.getElem_cons_zero, List.getElem_cons_succ, Act.put, List.setIfInBounds_toArray, List.set_cons_zero, List.set_cons_succ]
    refine wpList_append_want _ (by rfl) (.tmp 91) (.tmp 92) _ rfl w6.heap.size 29 i0 _ 2 16 Try.underlying33 HI.out hz0 hz1 hz2 rfl (by decide) v7 (0 + (0)) ([] ++ ptCells x) rfl hown7 w5.heap.size (A2) (y.length) (k2) (ptCells (y)) rfl ((R2.out.below q56).below (q7.mono q56.sz)) (ptCells_one _) (by simp only [maxLen]; omega) (by omega) q7.sz ?_
    intro v8 w8 hown8 hg8 hat8
    have q8 : Q w6 w8 := Q.grown q7 hg8 (by intro k hk; rcases hat7 with hx | hx <;> rw [hx] at hk <;> simp [Value.ownBlock] at hk <;> omega)
    have P8 := Lib.hid (show Pts w8 v8 (x ++ y) from Pts.own (base := w6.heap.size) (by rw [ptCells_app]; have e := HZL.out; rw [← e]; simpa using hown8))
    have P5' := Lib.hid (show Pts w8 v5 (x ++ y) by have := P5.out.next (q56.trans q8); rw [HZ.out] at this; exact this)
    clear hown7 hown8 hg7 hg8 hat7 hat8
    try simp only [List.getElem_toArray, List.getElem_cons_zero, List.getElem_cons_succ, Act.put, List.setIfInBounds_toArray, List.set_cons_zero, List.set_cons_succ]
    go_wp2_with fail
    refine (psame_true _ _ (x ++ y) _ P5'.out P8.out (by have := HZL.out; omega)).mono ?_
    rintro e w9 ⟨rfl, q9⟩
    go_wp2_with fail
    go_ret
    exact ⟨rfl, (q16.trans q8).trans q9⟩
  obtain ⟨m1, hx1⟩ : ∃ m1, x.length = m1 + 1 := ⟨x.length - 1, by have : x.length ≠ 0 := fun e => hx (List.eq_nil_of_length_eq_zero e); omega⟩
  obtain ⟨ad1, ha1, _, g1, g2⟩ := Pts.at_ R1.out m1 (by omega)
  subst ha1
  obtain ⟨a1, b1, hl1⟩ : ∃ a1 b1, x[m1]'(by omega) = (a1, b1) := ⟨_, _, rfl⟩
  rw [hl1] at g1 g2
  have HX1 := Lib.hid (show x.getLast? = some (a1, b1) by rw [Prj.last_at x m1 hx1, hl1])
  have dm1 : decide (0 < (m1 : Int) + 1) = true := decide_eq_true (by omega)
  have bm1 : m1 ≤ 30 := by omega
  have el : IntKind.i64.wrap ((m1 : Int) + 1 - 1) = m1 := by rw [show (m1 : Int) + 1 - 1 = m1 by omega]; exact IntWalk.i64_in _ (by omega)
  have el2 : IntKind.i64.wrap (m1 : Int) = m1 := IntWalk.i64_in _ (by omega)
  have el3 : (m1 : Int) < (m1 : Int) + 1 := by omega
  have HX0 := Lib.hid hx
  have HXL := Lib.hid hx1
  rw [hx1] at hk1 R1 ⊢
  clear hl1 hx hx1 hxl
  by_cases hy : y = []
  · have hy0 : y.length = 0 := by rw [hy]; rfl
    have HZ := Lib.hid (show zl = x ++ y by rw [HZ0.out, hy, rest_nil'])
    have HZL := Lib.hid (show 0 + (m1 + 1) + 0 = (x ++ y).length by rw [List.length_append, HXL.out, hy0]; omega)
    rw [hy0] at hk2 R2 ⊢
    clear hy hy0 hyl
    go_wp2_with fail
    go_quiet (fail)
    go_wp2_with fail
    refine (pawake_true _).mono ?_
    rintro e w6 ⟨rfl, q6⟩
    have q56 := ((Q.refl w5).drewN nq).trans q6
    have q16 := q15.trans q56
    clear q6
    rename_i KA hKA KB hKB
    dsimp only
    refine hKB _ _ ?_
    refine wpList_step (fun KK hKK => ?_)
    go_simp
    refine hKK _ _ ?_
    clear hKK KK
    try simp only [List.getElem_toArray, List.getElem_cons_zero, List.getElem_cons_succ, Act.put, List.setIfInBounds_toArray, List.set_cons_zero, List.set_cons_succ]
    refine wpList_step (fun KK hKK => ?_)
    go_simp
    refine hKK _ _ ?_
    clear hKK KK
    try simp only [List.getElem_toArray, List.getElem_cons_zero, List.getElem_cons_succ, Act.put, List.setIfInBounds_toArray, List.set_cons_zero, List.set_cons_succ]
    refine wpList_step (fun KK hKK => ?_)
    go_simp
    refine hKK _ _ ?_
    clear hKK KK
    try simp only [List.getElem_toArray, List.getElem_cons_zero, List.getElem_cons_succ, Act.put, List.setIfInBounds_toArray, List.set_cons_zero, List.set_cons_succ]
    refine wpList_step (fun KK hKK => ?_)
    go_simp
    refine hKK _ _ ?_
    clear hKK KK
    try simp only [List.getElem_toArray, List.getElem_cons_zero, List.getElem_cons_succ, Act.put, List.setIfInBounds_toArray, List.set_cons_zero, List.set_cons_succ]
    refine wpList_step (fun KK hKK => ?_)
    go_simp
    refine hKK _ _ ?_
    clear hKK KK
    try simp only [List.getElem_toArray, List.getElem_cons_zero, List.getElem_cons_succ, Act.put, List.setIfInBounds_toArray, List.set_cons_zero, List.set_cons_succ]
    refine wpList_step (fun KK hKK => ?_)
    go_simp
    refine hKK _ _ ?_
    clear hKK KK
    try simp only [List.getElem_toArray, List.getElem_cons_zero, List.getElem_cons_succ, Act.put, List.setIfInBounds_toArray, List.set_cons_zero, List.set_cons_succ]
    refine wpList_step (fun KK hKK => ?_)
    go_simp
    refine hKK _ _ ?_
    clear hKK KK
    try simp only [List.getElem_toArray, List.getElem_cons_zero, List.getElem_cons_succ, Act.put, List.setIfInBounds_toArray, List.set_cons_zero, List.set_cons_succ]
    refine wpList_step (fun KK hKK => ?_)
    go_simp
    refine hKK _ _ ?_
    clear hKK KK
    try simp only [List.getElem_toArray, List.getElem_cons_zero, List.getElem_cons_succ, Act.put, List.setIfInBounds_toArray, List.set_cons_zero, List.set_cons_succ]
    refine wpList_append_want _ (by rfl) (.tmp 89) (.tmp 90) _ rfl w6.heap.size 29 i0 _ 2 16 Try.underlying33 HI.out hz0 hz1 hz2 rfl (by decide) (.slice (some ⟨w6.heap.size, 0, none⟩) 0 0) 0 [] rfl (own_empty (Nat.le_refl _) (heap_alloc_new w6 _)) w5.heap.size (some ad1) (m1 + 1) k1 (ptCells x) rfl ((R1.out.below q56).alloc q56.sz _) (ptCells_one _) (by simp only [maxLen]; omega) (by omega) (by simp) ?_
    intro v7 w7 hown7 hg7 hat7
    have q7 : Q w6 w7 := Q.grown ((Q.refl w6).alloc _) hg7 (by simp [Value.ownBlock])
    try simp only [List.getElem_toArray, List.getElem_cons_zero, List.getElem_cons_succ, Act.put, List.setIfInBounds_toArray, List.set_cons_zero, List.set_cons_succ]
    refine wpList_step (fun KK hKK => ?_)
    go_simp
    refine hKK _ _ ?_
    clear hKK KK
    try simp only [List.getElem_toArray, List.getElem_cons_zero, List.getElem_cons_succ, Act.put, List.setIfInBounds_toArray, List.set_cons_zero, List.set_cons_succ]
    refine wpList_append_want _ (by rfl) (.tmp 91) (.tmp 92) _ rfl w6.heap.size 29 i0 _ 2 16 Try.underlying33 HI.out hz0 hz1 hz2 rfl (by decide) v7 (0 + (m1 + 1)) ([] ++ ptCells x) rfl hown7 w5.heap.size (A2) (0) (k2) (ptCells (y)) rfl ((R2.out.below q56).below (q7.mono q56.sz)) (ptCells_one _) (by simp only [maxLen]; omega) (by omega) q7.sz ?_
    intro v8 w8 hown8 hg8 hat8
    have q8 : Q w6 w8 := Q.grown q7 hg8 (by intro k hk; rcases hat7 with hx | hx <;> rw [hx] at hk <;> simp [Value.ownBlock] at hk <;> omega)
    have P8 := Lib.hid (show Pts w8 v8 (x ++ y) from Pts.own (base := w6.heap.size) (by rw [ptCells_app]; have e := HZL.out; rw [← e]; simpa using hown8))
    have P5' := Lib.hid (show Pts w8 v5 (x ++ y) by have := P5.out.next (q56.trans q8); rw [HZ.out] at this; exact this)
    clear hown7 hown8 hg7 hg8 hat7 hat8
    try simp only [List.getElem_toArray, List.getElem_cons_zero, List.getElem_cons_succ, Act.put, List.setIfInBounds_toArray, List.set_cons_zero, List.set_cons_succ]
    go_wp2_with fail
    refine (psame_true _ _ (x ++ y) _ P5'.out P8.out (by have := HZL.out; omega)).mono ?_
    rintro e w9 ⟨rfl, q9⟩
    go_wp2_with fail
    go_ret
    exact ⟨rfl, (q16.trans q8).trans q9⟩
  obtain ⟨m2, hy1⟩ : ∃ m2, y.length = m2 + 1 := ⟨y.length - 1, by have : y.length ≠ 0 := fun e => hy (List.eq_nil_of_length_eq_zero e); omega⟩
  obtain ⟨ad2, ha2, _, h1, h2⟩ := Pts.at_ R2.out 0 (by omega)
  subst ha2
  obtain ⟨a2, b2, hl2⟩ : ∃ a2 b2, y[0]'(by omega) = (a2, b2) := ⟨_, _, rfl⟩
  rw [hl2] at h1 h2
  simp only [Nat.zero_mul] at h1 h2
  have h3 := h1
  have h4 := h2
  rw [show ad2.add 0 = ad2 by simp [Addr.add]] at h3 h4
  have HY1 := Lib.hid (show y.head? = some (a2, b2) by rw [List.head?_eq_getElem?, List.getElem?_eq_getElem (by omega), hl2])
  have dm2 : decide (0 < (m2 : Int) + 1) = true := decide_eq_true (by omega)
  have bm2 : m2 ≤ 30 := by omega
  have HY0 := Lib.hid hy
  have HYL := Lib.hid hy1
  rw [hy1] at hk2 R2 ⊢
  clear hl2 hy hy1 hyl
  have HZL := Lib.hid (show 0 + (m1 + 1) + (m2 + 1) = (x ++ y).length by rw [List.length_append, HXL.out, HYL.out]; omega)
  by_cases e1 : a1 = a2
  rotate_left
  · have de1 : (a1 == a2) = false := by simpa using e1
    have HZ := Lib.hid (show zl = x ++ y by
      rw [HZ0.out]
      unfold Prj.rest
      rw [if_neg]
      rintro ⟨_, _, e⟩
      rw [HX1.out, HY1.out] at e
      injection e with e
      injection e with e e'
      exact e1 e)
    clear e1
    go_wp2_with fail
    go_quiet (fail)
    go_wp2_with fail
    refine (pawake_true _).mono ?_
    rintro e w6 ⟨rfl, q6⟩
    clear g1 g2 h1 h2 h3 h4 el el2 el3 dm1 dm2
    have q56 := ((Q.refl w5).drewN nq).trans q6
    have q16 := q15.trans q56
    clear q6
    rename_i KA hKA KB hKB
    dsimp only
    refine hKB _ _ ?_
    refine wpList_step (fun KK hKK => ?_)
    go_simp
    refine hKK _ _ ?_
    clear hKK KK
    try simp only [List.getElem_toArray, List.getElem_cons_zero, List.getElem_cons_succ, Act.put, List.setIfInBounds_toArray, List.set_cons_zero, List.set_cons_succ]
    refine wpList_step (fun KK hKK => ?_)
    go_simp
    refine hKK _ _ ?_
    clear hKK KK
    try simp only [List.getElem_toArray, List.getElem_cons_zero, List.getElem_cons_succ, Act.put, List.setIfInBounds_toArray, List.set_cons_zero, List.set_cons_succ]
    refine wpList_step (fun KK hKK => ?_)
    go_simp
    refine hKK _ _ ?_
    clear hKK KK
    try simp only [List.getElem_toArray, List.getElem_cons_zero, List.getElem_cons_succ, Act.put, List.setIfInBounds_toArray, List.set_cons_zero, List.set_cons_succ]
    refine wpList_step (fun KK hKK => ?_)
    go_simp
    refine hKK _ _ ?_
    clear hKK KK
    try simp only [List.getElem_toArray, List.getElem_cons_zero, List.getElem_cons_succ, Act.put, List.setIfInBounds_toArray, List.set_cons_zero, List.set_cons_succ]
    refine wpList_step (fun KK hKK => ?_)
    go_simp
    refine hKK _ _ ?_
    clear hKK KK
    try simp only [List.getElem_toArray, List.getElem_cons_zero, List.getElem_cons_succ, Act.put, List.setIfInBounds_toArray, List.set_cons_zero, List.set_cons_succ]
    refine wpList_step (fun KK hKK => ?_)
    go_simp
    refine hKK _ _ ?_
    clear hKK KK
    try simp only [List.getElem_toArray, List.getElem_cons_zero, List.getElem_cons_succ, Act.put, List.setIfInBounds_toArray, List.set_cons_zero, List.set_cons_succ]
    refine wpList_step (fun KK hKK => ?_)
    go_simp
    refine hKK _ _ ?_
    clear hKK KK
    try simp only [List.getElem_toArray, List.getElem_cons_zero, List.getElem_cons_succ, Act.put, List.setIfInBounds_toArray, List.set_cons_zero, List.set_cons_succ]
    refine wpList_step (fun KK hKK => ?_)
    go_simp
    refine hKK _ _ ?_
    clear hKK KK
    try simp only [List.getElem_toArray, List.getElem_cons_zero, List.getElem_cons_succ, Act.put, List.setIfInBounds_toArray, List.set_cons_zero, List.set_cons_succ]
    refine wpList_append_want _ (by rfl) (.tmp 89) (.tmp 90) _ rfl w6.heap.size 29 i0 _ 2 16 Try.underlying33 HI.out hz0 hz1 hz2 rfl (by decide) (.slice (some ⟨w6.heap.size, 0, none⟩) 0 0) 0 [] rfl (own_empty (Nat.le_refl _) (heap_alloc_new w6 _)) w5.heap.size (some ad1) (m1 + 1) k1 (ptCells x) rfl ((R1.out.below q56).alloc q56.sz _) (ptCells_one _) (by simp only [maxLen]; omega) (by omega) (by simp) ?_
    intro v7 w7 hown7 hg7 hat7
    have q7 : Q w6 w7 := Q.grown ((Q.refl w6).alloc _) hg7 (by simp [Value.ownBlock])
    try simp only [List.getElem_toArray, List.getElem_cons_zero, List.getElem_cons_succ, Act.put, List.setIfInBounds_toArray, List.set_cons_zero, List.set_cons_succ]
    refine wpList_step (fun KK hKK => ?_)
    go_simp
    refine hKK _ _ ?_
    clear hKK KK
    try simp only [List.getElem_toArray, List.getElem_cons_zero, List.getElem_cons_succ, Act.put, List.setIfInBounds_toArray, List.set_cons_zero, List.set_cons_succ]
    refine wpList_append_want _ (by rfl) (.tmp 91) (.tmp 92) _ rfl w6.heap.size 29 i0 _ 2 16 Try.underlying33 HI.out hz0 hz1 hz2 rfl (by decide) v7 (0 + (m1 + 1)) ([] ++ ptCells x) rfl hown7 w5.heap.size (some ad2) (m2 + 1) (k2) (ptCells (y)) rfl ((R2.out.below q56).below (q7.mono q56.sz)) (ptCells_one _) (by simp only [maxLen]; omega) (by omega) q7.sz ?_
    intro v8 w8 hown8 hg8 hat8
    have q8 : Q w6 w8 := Q.grown q7 hg8 (by intro k hk; rcases hat7 with hx | hx <;> rw [hx] at hk <;> simp [Value.ownBlock] at hk <;> omega)
    have P8 := Lib.hid (show Pts w8 v8 (x ++ y) from Pts.own (base := w6.heap.size) (by rw [ptCells_app]; have e := HZL.out; rw [← e]; simpa using hown8))
    have P5' := Lib.hid (show Pts w8 v5 (x ++ y) by have := P5.out.next (q56.trans q8); rw [HZ.out] at this; exact this)
    clear hown7 hown8 hg7 hg8 hat7 hat8
    try simp only [List.getElem_toArray, List.getElem_cons_zero, List.getElem_cons_succ, Act.put, List.setIfInBounds_toArray, List.set_cons_zero, List.set_cons_succ]
    go_wp2_with fail
    refine (psame_true _ _ (x ++ y) _ P5'.out P8.out (by have := HZL.out; omega)).mono ?_
    rintro e w9 ⟨rfl, q9⟩
    go_wp2_with fail
    go_ret
    exact ⟨rfl, (q16.trans q8).trans q9⟩
  subst e1
  by_cases e2 : b1 = b2
  rotate_left
  · have de2 : (b1 == b2) = false := by simpa using e2
    have HZ := Lib.hid (show zl = x ++ y by
      rw [HZ0.out]
      unfold Prj.rest
      rw [if_neg]
      rintro ⟨_, _, e⟩
      rw [HX1.out, HY1.out] at e
      injection e with e
      injection e with e e'
      exact e2 e')
    clear e2
    go_wp2_with fail
    go_quiet (fail)
    go_wp2_with fail
    refine (pawake_true _).mono ?_
    rintro e w6 ⟨rfl, q6⟩
    clear g1 g2 h1 h2 h3 h4 el el2 el3 dm1 dm2
    have q56 := ((Q.refl w5).drewN nq).trans q6
    have q16 := q15.trans q56
    clear q6
    rename_i KA hKA KB hKB
    dsimp only
    refine hKB _ _ ?_
    refine wpList_step (fun KK hKK => ?_)
    go_simp
    refine hKK _ _ ?_
    clear hKK KK
    try simp only [List.getElem_toArray, List.getElem_cons_zero, List.getElem_cons_succ, Act.put, List.setIfInBounds_toArray, List.set_cons_zero, List.set_cons_succ]
    refine wpList_step (fun KK hKK => ?_)
    go_simp
    refine hKK _ _ ?_
    clear hKK KK
    try simp only [List.getElem_toArray, List.getElem_cons_zero, List.getElem_cons_succ, Act.put, List.setIfInBounds_toArray, List.set_cons_zero, List.set_cons_succ]
    refine wpList_step (fun KK hKK => ?_)
    go_simp
    refine hKK _ _ ?_
    clear hKK KK
    try simp only [List.getElem_toArray, List.getElem_cons_zero, List.getElem_cons_succ, Act.put, List.setIfInBounds_toArray, List.set_cons_zero, List.set_cons_succ]
    refine wpList_step (fun KK hKK => ?_)
    go_simp
    refine hKK _ _ ?_
    clear hKK KK
    try simp only [List.getElem_toArray, List.getElem_cons_zero, List.getElem_cons_succ, Act.put, List.setIfInBounds_toArray, List.set_cons_zero, List.set_cons_succ]
    refine wpList_step (fun KK hKK => ?_)
    go_simp
    refine hKK _ _ ?_
    clear hKK KK
    try simp only [List.getElem_toArray, List.getElem_cons_zero, List.getElem_cons_succ, Act.put, List.setIfInBounds_toArray, List.set_cons_zero, List.set_cons_succ]
    refine wpList_step (fun KK hKK => ?_)
    go_simp
    refine hKK _ _ ?_
    clear hKK KK
    try simp only [List.getElem_toArray, List.getElem_cons_zero, List.getElem_cons_succ, Act.put, List.setIfInBounds_toArray, List.set_cons_zero, List.set_cons_succ]
    refine wpList_step (fun KK hKK => ?_)
    go_simp
    refine hKK _ _ ?_
    clear hKK KK
    try simp only [List.getElem_toArray, List.getElem_cons_zero, List.getElem_cons_succ, Act.put, List.setIfInBounds_toArray, List.set_cons_zero, List.set_cons_succ]
    refine wpList_step (fun KK hKK => ?_)
    go_simp
    refine hKK _ _ ?_
    clear hKK KK
    try simp only [List.getElem_toArray, List.getElem_cons_zero, List.getElem_cons_succ, Act.put, List.setIfInBounds_toArray, List.set_cons_zero, List.set_cons_succ]
    refine wpList_append_want _ (by rfl) (.tmp 89) (.tmp 90) _ rfl w6.heap.size 29 i0 _ 2 16 Try.underlying33 HI.out hz0 hz1 hz2 rfl (by decide) (.slice (some ⟨w6.heap.size, 0, none⟩) 0 0) 0 [] rfl (own_empty (Nat.le_refl _) (heap_alloc_new w6 _)) w5.heap.size (some ad1) (m1 + 1) k1 (ptCells x) rfl ((R1.out.below q56).alloc q56.sz _) (ptCells_one _) (by simp only [maxLen]; omega) (by omega) (by simp) ?_
    intro v7 w7 hown7 hg7 hat7
    have q7 : Q w6 w7 := Q.grown ((Q.refl w6).alloc _) hg7 (by simp [Value.ownBlock])
    try simp only [List.getElem_toArray, List.getElem_cons_zero, List.getElem_cons_succ, Act.put, List.setIfInBounds_toArray, List.set_cons_zero, List.set_cons_succ]
    refine wpList_step (fun KK hKK => ?_)
    go_simp
    refine hKK _ _ ?_
    clear hKK KK
    try simp only [List.getElem_toArray, List.getElem_cons_zero, List.getElem_cons_succ, Act.put, List.setIfInBounds_toArray, List.set_cons_zero, List.set_cons_succ]
    refine wpList_append_want _ (by rfl) (.tmp 91) (.tmp 92) _ rfl w6.heap.size 29 i0 _ 2 16 Try.underlying33 HI.out hz0 hz1 hz2 rfl (by decide) v7 (0 + (m1 + 1)) ([] ++ ptCells x) rfl hown7 w5.heap.size (some ad2) (m2 + 1) (k2) (ptCells (y)) rfl ((R2.out.below q56).below (q7.mono q56.sz)) (ptCells_one _) (by simp only [maxLen]; omega) (by omega) q7.sz ?_
    intro v8 w8 hown8 hg8 hat8
    have q8 : Q w6 w8 := Q.grown q7 hg8 (by intro k hk; rcases hat7 with hx | hx <;> rw [hx] at hk <;> simp [Value.ownBlock] at hk <;> omega)
    have P8 := Lib.hid (show Pts w8 v8 (x ++ y) from Pts.own (base := w6.heap.size) (by rw [ptCells_app]; have e := HZL.out; rw [← e]; simpa using hown8))
    have P5' := Lib.hid (show Pts w8 v5 (x ++ y) by have := P5.out.next (q56.trans q8); rw [HZ.out] at this; exact this)
    clear hown7 hown8 hg7 hg8 hat7 hat8
    try simp only [List.getElem_toArray, List.getElem_cons_zero, List.getElem_cons_succ, Act.put, List.setIfInBounds_toArray, List.set_cons_zero, List.set_cons_succ]
    go_wp2_with fail
    refine (psame_true _ _ (x ++ y) _ P5'.out P8.out (by have := HZL.out; omega)).mono ?_
    rintro e w9 ⟨rfl, q9⟩
    go_wp2_with fail
    go_ret
    exact ⟨rfl, (q16.trans q8).trans q9⟩
  subst e2
  have HZ := Lib.hid (show zl = x ++ y.tail by
    rw [HZ0.out]
    unfold Prj.rest
    rw [if_pos ⟨HX0.out, HY0.out, by rw [HX1.out, HY1.out]⟩])
  have HZL := Lib.hid (show 0 + (m1 + 1) + m2 = (x ++ y.tail).length by rw [List.length_append, HXL.out, List.length_tail, HYL.out]; omega)
  have R0 := R2.out.cut (k := 1) (cap := k2) (by omega) hk2
  rw [show m2 + 1 - 1 = m2 by omega, ← ptCells_tail y HY0.out] at R0
  by_cases hk : k2 = 1
  · subst hk
    obtain rfl : m2 = 0 := by omega
    have R3 := Lib.hid (show Reads w5 w5.heap.size 2 (some ad2) 0 (ptCells y.tail) by rw [if_pos rfl] at R0; exact R0)
    clear R0
    go_wp2_with fail
    go_quiet (fail)
    go_wp2_with fail
    refine (pawake_true _).mono ?_
    rintro e w6 ⟨rfl, q6⟩
    clear g1 g2 h1 h2 h3 h4 el el2 el3 dm1 dm2
    have q56 := ((Q.refl w5).drewN nq).trans q6
    have q16 := q15.trans q56
    clear q6
    rename_i KA hKA KB hKB
    dsimp only
    refine hKB _ _ ?_
    refine wpList_step (fun KK hKK => ?_)
    go_simp
    refine hKK _ _ ?_
    clear hKK KK
    try simp only [List.getElem_toArray, List.getElem_cons_zero, List.getElem_cons_succ, Act.put, List.setIfInBounds_toArray, List.set_cons_zero, List.set_cons_succ]
    refine wpList_step (fun KK hKK => ?_)
    go_simp
    refine hKK _ _ ?_
    clear hKK KK
    try simp only [List.getElem_toArray, List.getElem_cons_zero, List.getElem_cons_succ, Act.put, List.setIfInBounds_toArray, List.set_cons_zero, List.set_cons_succ]
    refine wpList_step (fun KK hKK => ?_)
    go_simp
    refine hKK _ _ ?_
    clear hKK KK
    try simp only [List.getElem_toArray, List.getElem_cons_zero, List.getElem_cons_succ, Act.put, List.setIfInBounds_toArray, List.set_cons_zero, List.set_cons_succ]
    refine wpList_step (fun KK hKK => ?_)
    go_simp
    refine hKK _ _ ?_
    clear hKK KK
    try simp only [List.getElem_toArray, List.getElem_cons_zero, List.getElem_cons_succ, Act.put, List.setIfInBounds_toArray, List.set_cons_zero, List.set_cons_succ]
    refine wpList_step (fun KK hKK => ?_)
    go_simp
    refine hKK _ _ ?_
    clear hKK KK
    try simp only [List.getElem_toArray, List.getElem_cons_zero, List.getElem_cons_succ, Act.put, List.setIfInBounds_toArray, List.set_cons_zero, List.set_cons_succ]
    refine wpList_step (fun KK hKK => ?_)
    go_simp
    refine hKK _ _ ?_
    clear hKK KK
    try simp only [List.getElem_toArray, List.getElem_cons_zero, List.getElem_cons_succ, Act.put, List.setIfInBounds_toArray, List.set_cons_zero, List.set_cons_succ]
    refine wpList_step (fun KK hKK => ?_)
    go_simp
    refine hKK _ _ ?_
    clear hKK KK
    try simp only [List.getElem_toArray, List.getElem_cons_zero, List.getElem_cons_succ, Act.put, List.setIfInBounds_toArray, List.set_cons_zero, List.set_cons_succ]
    refine wpList_step (fun KK hKK => ?_)
    go_simp
    refine hKK _ _ ?_
    clear hKK KK
    try simp only [List.getElem_toArray, List.getElem_cons_zero, List.getElem_cons_succ, Act.put, List.setIfInBounds_toArray, List.set_cons_zero, List.set_cons_succ]
    refine wpList_append_want _ (by rfl) (.tmp 89) (.tmp 90) _ rfl w6.heap.size 29 i0 _ 2 16 Try.underlying33 HI.out hz0 hz1 hz2 rfl (by decide) (.slice (some ⟨w6.heap.size, 0, none⟩) 0 0) 0 [] rfl (own_empty (Nat.le_refl _) (heap_alloc_new w6 _)) w5.heap.size (some ad1) (m1 + 1) k1 (ptCells x) rfl ((R1.out.below q56).alloc q56.sz _) (ptCells_one _) (by simp only [maxLen]; omega) (by omega) (by simp) ?_
    intro v7 w7 hown7 hg7 hat7
    have q7 : Q w6 w7 := Q.grown ((Q.refl w6).alloc _) hg7 (by simp [Value.ownBlock])
    try simp only [List.getElem_toArray, List.getElem_cons_zero, List.getElem_cons_succ, Act.put, List.setIfInBounds_toArray, List.set_cons_zero, List.set_cons_succ]
    refine wpList_step (fun KK hKK => ?_)
    go_simp
    refine hKK _ _ ?_
    clear hKK KK
    try simp only [List.getElem_toArray, List.getElem_cons_zero, List.getElem_cons_succ, Act.put, List.setIfInBounds_toArray, List.set_cons_zero, List.set_cons_succ]
    refine wpList_append_want _ (by rfl) (.tmp 91) (.tmp 92) _ rfl w6.heap.size 29 i0 _ 2 16 Try.underlying33 HI.out hz0 hz1 hz2 rfl (by decide) v7 (0 + (m1 + 1)) ([] ++ ptCells x) rfl hown7 w5.heap.size (some ad2) (0) (0) (ptCells (y.tail)) rfl ((R3.out.below q56).below (q7.mono q56.sz)) (ptCells_one _) (by simp only [maxLen]; omega) (by omega) q7.sz ?_
    intro v8 w8 hown8 hg8 hat8
    have q8 : Q w6 w8 := Q.grown q7 hg8 (by intro k hk; rcases hat7 with hx | hx <;> rw [hx] at hk <;> simp [Value.ownBlock] at hk <;> omega)
    have P8 := Lib.hid (show Pts w8 v8 (x ++ y.tail) from Pts.own (base := w6.heap.size) (by rw [ptCells_app]; have e := HZL.out; rw [← e]; simpa using hown8))
    have P5' := Lib.hid (show Pts w8 v5 (x ++ y.tail) by have := P5.out.next (q56.trans q8); rw [HZ.out] at this; exact this)
    clear hown7 hown8 hg7 hg8 hat7 hat8
    try simp only [List.getElem_toArray, List.getElem_cons_zero, List.getElem_cons_succ, Act.put, List.setIfInBounds_toArray, List.set_cons_zero, List.set_cons_succ]
    go_wp2_with fail
    refine (psame_true _ _ (x ++ y.tail) _ P5'.out P8.out (by have := HZL.out; omega)).mono ?_
    rintro e w9 ⟨rfl, q9⟩
    go_wp2_with fail
    go_ret
    exact ⟨rfl, (q16.trans q8).trans q9⟩
  · have R3 := Lib.hid (show Reads w5 w5.heap.size 2 (some (ad2.add 2)) m2 (ptCells y.tail) by rw [if_neg hk] at R0; exact R0)
    clear R0
    go_wp2_with fail
    go_quiet (fail)
    go_wp2_with fail
    refine (pawake_true _).mono ?_
    rintro e w6 ⟨rfl, q6⟩
    clear g1 g2 h1 h2 h3 h4 el el2 el3 dm1 dm2
    have q56 := ((Q.refl w5).drewN nq).trans q6
    have q16 := q15.trans q56
    clear q6
    rename_i KA hKA KB hKB
    dsimp only
    refine hKB _ _ ?_
    refine wpList_step (fun KK hKK => ?_)
    go_simp
    refine hKK _ _ ?_
    clear hKK KK
    try simp only [List.getElem_toArray, List.getElem_cons_zero, List.getElem_cons_succ, Act.put, List.setIfInBounds_toArray, List.set_cons_zero, List.set_cons_succ]
    refine wpList_step (fun KK hKK => ?_)
    go_simp
    refine hKK _ _ ?_
    clear hKK KK
    try simp only [List.getElem_toArray, List.getElem_cons_zero, List.getElem_cons_succ, Act.put, List.setIfInBounds_toArray, List.set_cons_zero, List.set_cons_succ]
    refine wpList_step (fun KK hKK => ?_)
    go_simp
    refine hKK _ _ ?_
    clear hKK KK
    try simp only [List.getElem_toArray, List.getElem_cons_zero, List.getElem_cons_succ, Act.put, List.setIfInBounds_toArray, List.set_cons_zero, List.set_cons_succ]
    refine wpList_step (fun KK hKK => ?_)
    go_simp
    refine hKK _ _ ?_
    clear hKK KK
    try simp only [List.getElem_toArray, List.getElem_cons_zero, List.getElem_cons_succ, Act.put, List.setIfInBounds_toArray, List.set_cons_zero, List.set_cons_succ]
    refine wpList_step (fun KK hKK => ?_)
    go_simp
    refine hKK _ _ ?_
    clear hKK KK
    try simp only [List.getElem_toArray, List.getElem_cons_zero, List.getElem_cons_succ, Act.put, List.setIfInBounds_toArray, List.set_cons_zero, List.set_cons_succ]
    refine wpList_step (fun KK hKK => ?_)
    go_simp
    refine hKK _ _ ?_
    clear hKK KK
    try simp only [List.getElem_toArray, List.getElem_cons_zero, List.getElem_cons_succ, Act.put, List.setIfInBounds_toArray, List.set_cons_zero, List.set_cons_succ]
    refine wpList_step (fun KK hKK => ?_)
    go_simp
    refine hKK _ _ ?_
    clear hKK KK
    try simp only [List.getElem_toArray, List.getElem_cons_zero, List.getElem_cons_succ, Act.put, List.setIfInBounds_toArray, List.set_cons_zero, List.set_cons_succ]
    refine wpList_step (fun KK hKK => ?_)
    go_simp
    refine hKK _ _ ?_
    clear hKK KK
    try simp only [List.getElem_toArray, List.getElem_cons_zero, List.getElem_cons_succ, Act.put, List.setIfInBounds_toArray, List.set_cons_zero, List.set_cons_succ]
    refine wpList_append_want _ (by rfl) (.tmp 89) (.tmp 90) _ rfl w6.heap.size 29 i0 _ 2 16 Try.underlying33 HI.out hz0 hz1 hz2 rfl (by decide) (.slice (some ⟨w6.heap.size, 0, none⟩) 0 0) 0 [] rfl (own_empty (Nat.le_refl _) (heap_alloc_new w6 _)) w5.heap.size (some ad1) (m1 + 1) k1 (ptCells x) rfl ((R1.out.below q56).alloc q56.sz _) (ptCells_one _) (by simp only [maxLen]; omega) (by omega) (by simp) ?_
    intro v7 w7 hown7 hg7 hat7
    have q7 : Q w6 w7 := Q.grown ((Q.refl w6).alloc _) hg7 (by simp [Value.ownBlock])
    try simp only [List.getElem_toArray, List.getElem_cons_zero, List.getElem_cons_succ, Act.put, List.setIfInBounds_toArray, List.set_cons_zero, List.set_cons_succ]
    refine wpList_step (fun KK hKK => ?_)
    go_simp
    refine hKK _ _ ?_
    clear hKK KK
    try simp only [List.getElem_toArray, List.getElem_cons_zero, List.getElem_cons_succ, Act.put, List.setIfInBounds_toArray, List.set_cons_zero, List.set_cons_succ]
    refine wpList_append_want _ (by rfl) (.tmp 91) (.tmp 92) _ rfl w6.heap.size 29 i0 _ 2 16 Try.underlying33 HI.out hz0 hz1 hz2 rfl (by decide) v7 (0 + (m1 + 1)) ([] ++ ptCells x) rfl hown7 w5.heap.size (some (ad2.add 2)) (m2) (k2 - 1) (ptCells (y.tail)) rfl ((R3.out.below q56).below (q7.mono q56.sz)) (ptCells_one _) (by simp only [maxLen]; omega) (by omega) q7.sz ?_
    intro v8 w8 hown8 hg8 hat8
    have q8 : Q w6 w8 := Q.grown q7 hg8 (by intro k hk; rcases hat7 with hx | hx <;> rw [hx] at hk <;> simp [Value.ownBlock] at hk <;> omega)
    have P8 := Lib.hid (show Pts w8 v8 (x ++ y.tail) from Pts.own (base := w6.heap.size) (by rw [ptCells_app]; have e := HZL.out; rw [← e]; simpa using hown8))
    have P5' := Lib.hid (show Pts w8 v5 (x ++ y.tail) by have := P5.out.next (q56.trans q8); rw [HZ.out] at this; exact this)
    clear hown7 hown8 hg7 hg8 hat7 hat8
    try simp only [List.getElem_toArray, List.getElem_cons_zero, List.getElem_cons_succ, Act.put, List.setIfInBounds_toArray, List.set_cons_zero, List.set_cons_succ]
    go_wp2_with fail
    refine (psame_true _ _ (x ++ y.tail) _ P5'.out P8.out (by have := HZL.out; omega)).mono ?_
    rintro e w9 ⟨rfl, q9⟩
    go_wp2_with fail
    go_ret
    exact ⟨rfl, (q16.trans q8).trans q9⟩
theorem walk (K L A S : Int) (v : Value) (l : List (Int × Int)) (u : Value) (m : List (Int × Int)) (_ : I64 K) (_ : I64 L) (_ : I64 A) (_ : I64 S) {w : World} (hv : Pts w v l) (hl : l.length ≤ maxLen) (_ : ∀ q ∈ l, I64 q.1 ∧ I64 q.2) (hu : Pts w u m) (hm : m.length ≤ maxLen) (_ : ∀ q ∈ m, I64 q.1 ∧ I64 q.2) (_ : World) : Calls Try.prog 9 #[.agg #[.int .i64 K, .int .i64 L, .int .i64 A, .int .i64 S], v, u] w fun e w' => e = .returned (.bool true) ∧ Q w w' := by
  by_cases h1 : 30 < l.length
  · exact longA K L A S v u l m w hv hu hl h1
  by_cases h2 : 30 < m.length
  · exact longB K L A S v u l m w hv hu hm h1 h2
  have hlm : (l ++ m).length ≤ 4096 := by rw [List.length_append]; omega
  by_cases h : Prj.Ok K L A S
  rotate_left
  · have key : ∀ er : Int, (er != 0) = true → (∀ W, Calls Try.prog 11 #[.agg #[.int .i64 K, .int .i64 L, .int .i64 A, .int .i64 S]] W (fun e w' => e = .returned (.int .i64 er) ∧ Q W w')) → Calls Try.prog 9 #[.agg #[.int .i64 K, .int .i64 L, .int .i64 A, .int .i64 S], v, u] w fun e w' => e = .returned (.bool true) ∧ Q w w' := fun er her hc =>
      core_err K L A S er er er v u l m [] [] [] w hv hu h1 h2 rfl (.inl her) her (fun W _ => Path_err K L A S er v her W hc) (fun W _ => Path_err K L A S er u her W hc) (fun t W _ => Path_err K L A S er t her W hc)
    by_cases hk : K < 1 ∨ 4 < K
    · exact key 9 rfl (fun W => pcheck_kind K L A S W hk)
    · exact key 2 rfl (fun W => pcheck_range K L A S W (by omega) (by omega) h)
  have HA := fun W (p : Pts W v l) => Path_in K L A S v l W h p (by omega)
  have HB := fun W (p : Pts W u m) => Path_in K L A S u m W h p (by omega)
  have HC := fun t W (p : Pts W t (l ++ m)) => Path_in K L A S t (l ++ m) W h p hlm
  by_cases hg : Prj.allGood K L A S l ∧ Prj.allGood K L A S m
  · have e1 : Prj.pe K L A S l = 0 := if_pos hg.1
    have e2 : Prj.pe K L A S m = 0 := if_pos hg.2
    have e3 : Prj.pe K L A S (l ++ m) = 0 := if_pos (fun p hp => by
      rcases List.mem_append.1 hp with h | h
      · exact hg.1 p h
      · exact hg.2 p h)
    have b1 : (Prj.pl K L A S l).length ≤ 30 := by
      unfold Prj.pl
      rw [if_pos hg.1]
      have := Prj.pth_len K L A S l l.length
      omega
    have b2 : (Prj.pl K L A S m).length ≤ 30 := by
      unfold Prj.pl
      rw [if_pos hg.2]
      have := Prj.pth_len K L A S m m.length
      omega
    exact core_ok K L A S _ _ _ v u l m _ _ _ w hv hu h1 h2 (Prj.pl_join K L A S l m hg.1 hg.2) e1 e2 e3 b1 b2 HA HB HC
  · obtain ⟨f1, f2⟩ := Prj.pe_join K L A S l m hg
    have pe2 : ∀ q : List (Int × Int), (Prj.pe K L A S q != 0) = true ∨ (Prj.pe K L A S q != 0) = false := fun q => by cases (Prj.pe K L A S q != 0) <;> simp
    have he : ((Prj.pe K L A S l != 0) = true) ∨ ((Prj.pe K L A S l != 0) = false ∧ (Prj.pe K L A S m != 0) = true) := by
      by_cases g1 : Prj.allGood K L A S l
      · have e2 : Prj.pe K L A S m = 2 := if_neg (fun g2 => hg ⟨g1, g2⟩)
        exact .inr ⟨by rw [show Prj.pe K L A S l = 0 from if_pos g1]; rfl, by rw [e2]; rfl⟩
      · exact .inl (by rw [show Prj.pe K L A S l = 2 from if_neg g1]; rfl)
    exact core_err K L A S _ _ _ v u l m _ _ _ w hv hu h1 h2 f1 he (by rw [f2]; rfl) HA HB HC

theorem own : ownKnob Try.prog.godebug = none := by kernel_rfl

set_option maxRecDepth 100000 in
theorem contract (H : Type) (enc : TypeId × Value → H) (W : World) (base : Nat) (args : Array Value) (ds gs : List (DataW H)) (before : List MemPlace)
    (hval : ∀ (j : Nat) t v, Try.f9.params[j]? = some t → args[j]? = some v → Value.okWide Try.prog W .any base t v)
    (hW : DataW.Whole enc Try.prog Try.f9.params.toList Rows.projectJoinsSpec.vars false W args.toList ds gs before) :
    Calls Try.prog 9 args W fun e W' => ∃ v, e = .returned v ∧ Rows.projectJoinsSpec.post enc Try.prog Try.f9 false true false false W args v W' := by
  have hW' := hW
  obtain ⟨p, q, hA0, hV, rfl, hfz, hnd⟩ := hW
  have hA : DataW.TrodAll enc Try.prog W 0 (fun _ => true) true Try.f9.params.toList args.toList ds p := hA0
  rw [Try.params9] at hA hval
  obtain ⟨v0, vs0, d0, ds0, p0, q0, hargs, rfl, rfl, h0, r0⟩ := trodAll_cons hA
  obtain ⟨v1, vs1, d1, ds1, p1, q1, rfl, rfl, rfl, h1, r1⟩ := trodAll_cons r0
  obtain ⟨v2, vs2, d2, ds2, p2, q2, rfl, rfl, rfl, h2, r2⟩ := trodAll_cons r1
  obtain ⟨rfl, rfl, rfl⟩ := trodAll_nil r2
  obtain rfl : args = #[v0, v1, v2] := by cases args; simp_all
  obtain ⟨rfl, rfl⟩ := trodVars_none hV
  obtain ⟨rfl, cs0, rfl, hs0, hz0⟩ := flat_open 4 (by kernel_rfl) Try.underlying23 (hval 0 23 v0 rfl rfl) h0
  obtain ⟨x00, x01, x02, x03, rfl, b00, b01, b02, b03⟩ := agg4_of (hs0.trans (show Try.prog.cellsOf 23 = 4 by kernel_rfl)) hz0
  obtain ⟨l1, pt1, hl1, hb1, hp1⟩ := pts_open (hval 1 33 v1 rfl rfl) h1
  obtain ⟨l2, pt2, hl2, hb2, hp2⟩ := pts_open (hval 2 33 v2 rfl rfl) h2
  clear hA0
  simp only [List.append_nil] at hW'
  refine (walk x00 x01 x02 x03 v1 l1 v2 l2 b00 b01 b02 b03 pt1 hl1 hb1 pt2 hl2 hb2 W).mono fun e W' ⟨he, bel⟩ => ?_
  subst he
  exact ⟨_, rfl, _, _, _, [], ([] ++ (p1 ++ (p2 ++ []))), [], hW', trodAll_mk1 (shut_bool Try.underlying4 _), (trodAll_cons_mk (Below.trod laidOut (by kernel_rfl) (by decide +kernel) h0 bel (fun x hx => by cases hx)) (trodAll_cons_mk (Below.trod laidOut (by kernel_rfl) (by decide +kernel) h1 bel hp1) (trodAll_cons_mk (Below.trod laidOut (by kernel_rfl) (by decide +kernel) h2 bel hp2) trodAll_mk0))), rfl, Below.frame bel _, fun h => by cases h⟩

set_option maxRecDepth 100000 in
theorem lifted (os : Os) (started : os.Started) (H : Type) (enc : TypeId × Value → H) :
    ReturnsInHanded {} Try.checked os 9 .any (Rows.projectJoinsSpec.pre6 enc Try.prog Try.f9 Rows.projectJoinsRow.domain false) (Rows.projectJoinsSpec.post enc Try.prog Try.f9 false true false false) := by
  refine returnsInHanded_of_change (C := Try.checked) own started (by kernel_rfl) Try.func9
    (ChangeSpec.witness6 (enc := enc) (C := Try.checked) false ⟨#[], #[.agg #[.int .i64 0, .int .i64 0, .int .i64 0, .int .i64 0], .slice none 0 0, .slice none 0 0], []⟩ 8 (by kernel_rfl) (by kernel_rfl) (by kernel_rfl) (by kernel_rfl)) ?_
  intro W base args ds gs before hval hW hcnd _
  exact contract H enc W base args ds gs before hval hW

theorem said : Rows.ProjectJoinsSaid :=
  OpenClaim.holds_of_wide 9 Try.f9 rfl rfl rfl rfl rfl rfl rfl ⟨rfl, rfl, rfl, rfl, rfl⟩ rfl rfl rfl rfl rfl (by kernel_rfl) Try.func9 (by kernel_rfl)
    (of_decide_eq_true (by kernel_rfl)) (by unfold Func.isWrapper; first | (rw [if_pos (by decide +kernel)]; kernel_rfl) | (rw [if_neg (by decide +kernel)]; exact ⟨rfl, rfl⟩))
    (fun os started H enc _ => lifted os started H enc)
end Go.Proofs.Ytmagppjmjjkbjaa.projectJoins
namespace Go.Proofs.Ytmagppjmjjkbjaa
theorem projectJoins_holds : Rows.ProjectJoinsSaid := projectJoins.said
#print axioms projectJoins_holds
end Go.Proofs.Ytmagppjmjjkbjaa
