
/- Contracts of the reference's line, Meridian and Parallel, and of its Same. -/
import Derived.Test.YtcaabaijkidmgaaDoorGrfL
import Derived.Test.YtcaabaijkidmgaaDoorGrfM
import Derived.Test.YtcaabaijkidmgaaDoorPP
namespace Go.Proofs.YtcaabaijkidmgaaDoor
open Go.RowKit
set_option linter.unusedVariables false

theorem rline_err (K L A S c a b st er : Int) (o : Bool) (her : (er != 0) = true) (w : World) (HC : Hid (∀ w, Calls Tryd.prog 44 #[.agg #[.int .i64 K, .int .i64 L, .int .i64 A, .int .i64 S]] w fun e w' => e = .returned (.int .i64 er) ∧ Q w w')) :
    Calls Tryd.prog 43 #[.agg #[.int .i64 K, .int .i64 L, .int .i64 A, .int .i64 S], .int .i64 c, .int .i64 a, .int .i64 b, .int .i64 st, .bool o] w (PathPost [] er w) := by
  go_enter Tryd.func43, Tryd.ntmps43
  go_wp2_with fail
  refine (HC.out _).mono ?_
  rintro e w1 ⟨rfl, q1⟩
  go_wp2_with fail
  go_ret2
  exact ⟨_, rfl, Pts.nil _, q1.behind _⟩
theorem rline_arg (K L A S c a b st : Int) (o : Bool) (w : World) (h : Prj.Ok K L A S) (hr : ¬ Grf.inr a b st) :
    Calls Tryd.prog 43 #[.agg #[.int .i64 K, .int .i64 L, .int .i64 A, .int .i64 S], .int .i64 c, .int .i64 a, .int .i64 b, .int .i64 st, .bool o] w (PathPost [] 1 w) := by
  have HC := Lib.hid (fun W => rpcheck_yes K L A S W h)
  have HS := Lib.hid (fun W => rsteps_any a b st W false (by simp [hr]))
  clear h hr
  go_enter Tryd.func43, Tryd.ntmps43
  go_wp2_with fail
  refine (HC.out _).mono ?_
  rintro e w1 ⟨rfl, q1⟩
  go_wp2_with fail
  refine (HS.out _).mono ?_
  rintro e w2 ⟨rfl, rfl⟩
  go_wp2_with fail
  go_ret2
  exact ⟨_, rfl, Pts.nil _, q1.behind _⟩
theorem rline_limit (K L A S c a b st : Int) (o : Bool) (l : List Int) (w : World) (h : Prj.Ok K L A S) (hr : Grf.inr a b st) (hl : 4096 < l.length) (hl1 : l.length ≤ 5000) (HN : Hid (∀ w, Calls Tryd.prog 60 #[.int .i64 a, .int .i64 b, .int .i64 st] w (NumPost l w))) :
    Calls Tryd.prog 43 #[.agg #[.int .i64 K, .int .i64 L, .int .i64 A, .int .i64 S], .int .i64 c, .int .i64 a, .int .i64 b, .int .i64 st, .bool o] w (PathPost [] 3 w) := by
  have HC := Lib.hid (fun W => rpcheck_yes K L A S W h)
  have HS := Lib.hid (fun W => rsteps_any a b st W true (by simp [hr]))
  have d : decide (4096 < (l.length : Int)) = true := by simp; omega
  clear h hr
  go_enter Tryd.func43, Tryd.ntmps43
  go_wp2_with fail
  refine (HC.out _).mono ?_
  rintro e w1 ⟨rfl, q1⟩
  go_wp2_with fail
  refine (HS.out _).mono ?_
  rintro e w2 ⟨rfl, rfl⟩
  go_wp2_with fail
  refine (HN.out _).mono ?_
  rintro e w3 ⟨v, rfl, hi, q3⟩
  obtain ⟨A', c', rfl, hc, hrd⟩ := hi
  clear hrd
  go_wp2_with fail
  go_ret2
  exact ⟨_, rfl, Pts.nil _, (q1.trans q3).behind _⟩
set_option maxRecDepth 100000 in
set_option maxHeartbeats 8000000 in
theorem rline_mer (K L A S c a b st : Int) (l : List Int) (w : World) (h : Prj.Ok K L A S) (hr : Grf.inr a b st) (hl0 : l.length ≤ 4096) (HNU : Hid (∀ w, Calls Tryd.prog 60 #[.int .i64 a, .int .i64 b, .int .i64 st] w (NumPost l w))) :
    Calls Tryd.prog 43 #[.agg #[.int .i64 K, .int .i64 L, .int .i64 A, .int .i64 S], .int .i64 c, .int .i64 a, .int .i64 b, .int .i64 st, .bool true] w (PathPost (Prj.pl K L A S (Grf.mer c l)) (Prj.pe K L A S (Grf.mer c l)) w) := by
  have HC := Lib.hid (fun W => rpcheck_yes K L A S W h)
  have HS := Lib.hid (fun W => rsteps_any a b st W true (by simp [hr]))
  have HP := Lib.hid (fun v W (hv : Pts W v (Grf.mer c l)) => rPath_in K L A S v (Grf.mer c l) W h hv (by unfold Grf.mer; simpa using hl0))
  have HAT := Lib.hid (fun k t h => Grf.mer_at c l k t h)
  have HLN := Lib.hid (show (Grf.mer c l).length = l.length by unfold Grf.mer; simp)
  obtain ⟨N, hN⟩ : ∃ N, l.length = N := ⟨_, rfl⟩
  have HN := Lib.hid hN
  rw [hN] at hl0 HLN
  have d : decide (4096 < (N : Int)) = false := by simp; omega
  obtain ⟨i0, hi, hz0, hz1, hz2⟩ := info_parts infoPoint
  have HI := Lib.hid hi
  generalize hG : Grf.mer c l = G at *
  clear h hr hN hi hG
  go_enter Tryd.func43, Tryd.ntmps43
  go_wp2_with fail
  refine (HC.out _).mono ?_
  rintro e w1 ⟨rfl, q1⟩
  go_wp2_with fail
  refine (HS.out _).mono ?_
  rintro e w2 ⟨rfl, rfl⟩
  go_wp2_with fail
  refine (HNU.out _).mono ?_
  rintro e w3 ⟨v, rfl, hi, q3⟩
  obtain ⟨A', c', rfl, hc, hrd⟩ := hi
  have HR := Lib.hid hrd
  rw [HN.out] at hc HR ⊢
  clear hrd
  have HB := Lib.hid (b_next (q1.trans q3) (heap_alloc_new w (.cells #[.int .i64 K, .int .i64 L, .int .i64 A, .int .i64 S] 45)))
  have HQ := Lib.hid ((q1.trans q3).behind _)
  clear q1 q3
  go_wp2_with fail
  go_loopw [16, 17] (fun v i wr => ∃ k : Nat, k ≤ N ∧ i = .int .i64 k ∧ Hid (wr.ownsRow w3.heap.size 23 2 v k (ptCells (G.take k))) ∧ Q w3 wr) (fun _ i _ => N - (intOf i).toNat)
  case atStart => exact ⟨0, by omega, rfl, World.ownsRow_nil _ _ _ _, Q.refl _⟩
  case round =>
    obtain ⟨k, hk, rfl, HO, hq⟩ := hrel
    obtain ⟨A2, c2, rfl, hc2⟩ := own_slice HO.out
    by_cases hlt : k < N
    · obtain ⟨ad, u, rfl, had, hx, hcell⟩ := (HR.out.below hq).at_ hlt
      obtain ⟨t, rfl⟩ := int_at hx
      have HG := Lib.hid (show G.take (k + 1) = G.take k ++ [(c, t)] by rw [List.take_add_one, HAT.out k t hx]; rfl)
      clear hx
      go_wp2_with (at_builtin; refine wpList_append_own _ rfl _ _ 48 rfl w3.heap.size 23 i0 (.agg #[.int .i64 0, .int .i64 0]) 2 16 Tryd.underlying48 HI.out hz0 hz1 hz2 rfl (by decide) _ _ _ rfl ((HO.out).alloc _) ⟨wr.heap.size, 0, none⟩ 1 1 [.int .i64 c, .int .i64 t] rfl rfl ?c1 ?c2 ?c3 ?c4 ?c5 ?_)
      case c1 => intro j u hu; cases j with
        | zero => simp at hu; subst hu; exact row_cell (i := 0) (heap_alloc_new wr _) rfl
        | succ j => cases j with
          | zero => simp at hu; subst hu; exact row_cell (i := 1) (heap_alloc_new wr _) rfl
          | succ j => simp at hu
      case c2 => intro u hu; simp at hu; rcases hu with rfl | rfl <;> rfl
      case c3 => unfold maxLen; omega
      case c4 => omega
      case c5 => have := hq.sz; simp; omega
      intro v' w8 hown8 hgrow _
      have q8 : Q w3 w8 := Q.grown (hq.alloc _) hgrow (fun g hg => ((HO.out).lt g hg).1)
      have HO8 := Lib.hid hown8
      clear hown8 hgrow
      go_wp2_with fail
      go_roundw
      case rel => exact ⟨k + 1, by omega, by go_num, by rw [HG.out]; exact Lib.hid (by rw [ptCells_snoc]; simpa using HO8.out), q8⟩
      case measure => simp [intOf]; omega
    · have HK := Lib.hid (show k = N by omega)
      obtain ⟨p0, p1, p2, p3⟩ := pr4 (b_next hq HB.out)
      have HPT := Lib.hid (show Pts wr (.slice A2 k c2) G from Pts.own (base := w3.heap.size) (by have := HO.out; rw [HLN.out]; rw [List.take_of_length_le (by rw [HLN.out]; have := HK.out; omega)] at this; have e := HK.out; subst e; exact this))
      go_wp2_with fail
      refine (HP.out _ _ HPT.out).mono ?_
      rintro e w5 ⟨v5, rfl, hp5, q5⟩
      go_wp2_with fail
      go_ret2
      exact ⟨v5, rfl, hp5, (HQ.out.trans hq).trans q5⟩
set_option maxRecDepth 100000 in
set_option maxHeartbeats 8000000 in
theorem rline_par (K L A S c a b st : Int) (l : List Int) (w : World) (h : Prj.Ok K L A S) (hr : Grf.inr a b st) (hl0 : l.length ≤ 4096) (HNU : Hid (∀ w, Calls Tryd.prog 60 #[.int .i64 a, .int .i64 b, .int .i64 st] w (NumPost l w))) :
    Calls Tryd.prog 43 #[.agg #[.int .i64 K, .int .i64 L, .int .i64 A, .int .i64 S], .int .i64 c, .int .i64 a, .int .i64 b, .int .i64 st, .bool false] w (PathPost (Prj.pl K L A S (Grf.par c l)) (Prj.pe K L A S (Grf.par c l)) w) := by
  have HC := Lib.hid (fun W => rpcheck_yes K L A S W h)
  have HS := Lib.hid (fun W => rsteps_any a b st W true (by simp [hr]))
  have HP := Lib.hid (fun v W (hv : Pts W v (Grf.par c l)) => rPath_in K L A S v (Grf.par c l) W h hv (by unfold Grf.par; simpa using hl0))
  have HAT := Lib.hid (fun k t h => Grf.par_at c l k t h)
  have HLN := Lib.hid (show (Grf.par c l).length = l.length by unfold Grf.par; simp)
  obtain ⟨N, hN⟩ : ∃ N, l.length = N := ⟨_, rfl⟩
  have HN := Lib.hid hN
  rw [hN] at hl0 HLN
  have d : decide (4096 < (N : Int)) = false := by simp; omega
  obtain ⟨i0, hi, hz0, hz1, hz2⟩ := info_parts infoPoint
  have HI := Lib.hid hi
  generalize hG : Grf.par c l = G at *
  clear h hr hN hi hG
  go_enter Tryd.func43, Tryd.ntmps43
  go_wp2_with fail
  refine (HC.out _).mono ?_
  rintro e w1 ⟨rfl, q1⟩
  go_wp2_with fail
  refine (HS.out _).mono ?_
  rintro e w2 ⟨rfl, rfl⟩
  go_wp2_with fail
  refine (HNU.out _).mono ?_
  rintro e w3 ⟨v, rfl, hi, q3⟩
  obtain ⟨A', c', rfl, hc, hrd⟩ := hi
  have HR := Lib.hid hrd
  rw [HN.out] at hc HR ⊢
  clear hrd
  have HB := Lib.hid (b_next (q1.trans q3) (heap_alloc_new w (.cells #[.int .i64 K, .int .i64 L, .int .i64 A, .int .i64 S] 45)))
  have HQ := Lib.hid ((q1.trans q3).behind _)
  clear q1 q3
  go_wp2_with fail
  go_loopw [16, 17] (fun v i wr => ∃ k : Nat, k ≤ N ∧ i = .int .i64 k ∧ Hid (wr.ownsRow w3.heap.size 23 2 v k (ptCells (G.take k))) ∧ Q w3 wr) (fun _ i _ => N - (intOf i).toNat)
  case atStart => exact ⟨0, by omega, rfl, World.ownsRow_nil _ _ _ _, Q.refl _⟩
  case round =>
    obtain ⟨k, hk, rfl, HO, hq⟩ := hrel
    obtain ⟨A2, c2, rfl, hc2⟩ := own_slice HO.out
    by_cases hlt : k < N
    · obtain ⟨ad, u, rfl, had, hx, hcell⟩ := (HR.out.below hq).at_ hlt
      obtain ⟨t, rfl⟩ := int_at hx
      have HG := Lib.hid (show G.take (k + 1) = G.take k ++ [(t, c)] by rw [List.take_add_one, HAT.out k t hx]; rfl)
      clear hx
      go_wp2_with (at_builtin; refine wpList_append_own _ rfl _ _ 48 rfl w3.heap.size 23 i0 (.agg #[.int .i64 0, .int .i64 0]) 2 16 Tryd.underlying48 HI.out hz0 hz1 hz2 rfl (by decide) _ _ _ rfl ((HO.out).alloc _) ⟨wr.heap.size, 0, none⟩ 1 1 [.int .i64 t, .int .i64 c] rfl rfl ?c1 ?c2 ?c3 ?c4 ?c5 ?_)
      case c1 => intro j u hu; cases j with
        | zero => simp at hu; subst hu; exact row_cell (i := 0) (heap_alloc_new wr _) rfl
        | succ j => cases j with
          | zero => simp at hu; subst hu; exact row_cell (i := 1) (heap_alloc_new wr _) rfl
          | succ j => simp at hu
      case c2 => intro u hu; simp at hu; rcases hu with rfl | rfl <;> rfl
      case c3 => unfold maxLen; omega
      case c4 => omega
      case c5 => have := hq.sz; simp; omega
      intro v' w8 hown8 hgrow _
      have q8 : Q w3 w8 := Q.grown (hq.alloc _) hgrow (fun g hg => ((HO.out).lt g hg).1)
      have HO8 := Lib.hid hown8
      clear hown8 hgrow
      go_wp2_with fail
      go_roundw
      case rel => exact ⟨k + 1, by omega, by go_num, by rw [HG.out]; exact Lib.hid (by rw [ptCells_snoc]; simpa using HO8.out), q8⟩
      case measure => simp [intOf]; omega
    · have HK := Lib.hid (show k = N by omega)
      obtain ⟨p0, p1, p2, p3⟩ := pr4 (b_next hq HB.out)
      have HPT := Lib.hid (show Pts wr (.slice A2 k c2) G from Pts.own (base := w3.heap.size) (by have := HO.out; rw [HLN.out]; rw [List.take_of_length_le (by rw [HLN.out]; have := HK.out; omega)] at this; have e := HK.out; subst e; exact this))
      go_wp2_with fail
      refine (HP.out _ _ HPT.out).mono ?_
      rintro e w5 ⟨v5, rfl, hp5, q5⟩
      go_wp2_with fail
      go_ret2
      exact ⟨v5, rfl, hp5, (HQ.out.trans hq).trans q5⟩
theorem rmer_of (K L A S c a b st er : Int) (l : List (Int × Int)) (w : World) (HL : Hid (∀ w, Calls Tryd.prog 43 #[.agg #[.int .i64 K, .int .i64 L, .int .i64 A, .int .i64 S], .int .i64 c, .int .i64 a, .int .i64 b, .int .i64 st, .bool true] w (PathPost l er w))) :
    Calls Tryd.prog 21 #[.agg #[.int .i64 K, .int .i64 L, .int .i64 A, .int .i64 S], .int .i64 c, .int .i64 a, .int .i64 b, .int .i64 st] w (PathPost l er w) := by
  go_enter Tryd.func21, Tryd.ntmps21
  go_wp2_with fail
  refine (HL.out _).mono ?_
  rintro e w1 ⟨v, rfl, hi, q1⟩
  go_wp2_with fail
  go_ret2
  exact ⟨_, rfl, hi, q1.behind _⟩
theorem rpar_of (K L A S c a b st er : Int) (l : List (Int × Int)) (w : World) (HL : Hid (∀ w, Calls Tryd.prog 43 #[.agg #[.int .i64 K, .int .i64 L, .int .i64 A, .int .i64 S], .int .i64 c, .int .i64 a, .int .i64 b, .int .i64 st, .bool false] w (PathPost l er w))) :
    Calls Tryd.prog 24 #[.agg #[.int .i64 K, .int .i64 L, .int .i64 A, .int .i64 S], .int .i64 c, .int .i64 a, .int .i64 b, .int .i64 st] w (PathPost l er w) := by
  go_enter Tryd.func24, Tryd.ntmps24
  go_wp2_with fail
  refine (HL.out _).mono ?_
  rintro e w1 ⟨v, rfl, hi, q1⟩
  go_wp2_with fail
  go_ret2
  exact ⟨_, rfl, hi, q1.behind _⟩
set_option maxHeartbeats 2000000 in
theorem gsame_true (v u : Value) (l : List (Int × Int)) (w : World) (hv : Pts w v l) (hu : Pts w u l) (hl : l.length ≤ 4294967296) :
    Calls Tryd.prog 22 #[v, u] w fun e w' => e = .returned (.bool true) ∧ Q w w' := by
  obtain ⟨A, c, rfl, hc, hr⟩ := hv
  obtain ⟨A', c', rfl, hc', hr'⟩ := hu
  have HR := Lib.hid hr
  have HR' := Lib.hid hr'
  clear hr hr'
  obtain ⟨n, hn⟩ : ∃ n, l.length = n := ⟨_, rfl⟩
  have HN := Lib.hid hn
  rw [hn] at hc hc' hl ⊢
  clear hn
  go_enter Tryd.func22, Tryd.ntmps22
  go_wp2_with fail
  go_loopw [5] (fun i wr => ∃ k : Nat, k ≤ n ∧ i = .int .i64 k ∧ ∃ m, wr = w.drewN m) (fun i _ => n - (intOf i).toNat)
  case atStart => exact ⟨0, by omega, rfl, 0, rfl⟩
  case round =>
    obtain ⟨k, hk, rfl, m, rfl⟩ := hrel
    by_cases hlt : k < n
    · obtain ⟨ad, rfl, _, h1, h3⟩ := Pts.at_ HR.out k (by rw [HN.out]; exact hlt)
      obtain ⟨ad', rfl, _, h2, h4⟩ := Pts.at_ HR'.out k (by rw [HN.out]; exact hlt)
      generalize (l[k]'(by rw [HN.out]; exact hlt)).1 = x at *
      generalize (l[k]'(by rw [HN.out]; exact hlt)).2 = y at *
      go_wp2_with fail
      go_quiet (fail)
      go_wp2_with fail
      go_roundw
      case rel => exact ⟨k + 1, by omega, by go_num, _, rfl⟩
      case measure => simp [intOf]; omega
    · go_wp2_with fail
      go_ret
      exact ⟨rfl, (Q.refl w).drewN _⟩
end Go.Proofs.YtcaabaijkidmgaaDoor
