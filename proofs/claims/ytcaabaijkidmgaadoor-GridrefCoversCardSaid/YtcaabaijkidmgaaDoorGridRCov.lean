
/- Contract of the reference's Covering and At (package mapsheetsref40): the same lists as sheetgrid's. -/
import Derived.Test.YtcaabaijkidmgaaDoorGridCov
import Derived.Test.YtcaabaijkidmgaaDoorGridRB
namespace Go.Proofs.YtcaabaijkidmgaaDoor
open Go.RowKit
set_option linter.unusedVariables false

theorem rcovering_bad (X Y W H C R x0 y0 x1 y1 : Int) (w : World) (h : ¬ Grid.Ok X Y W H C R) :
    Calls Tryd.prog 38 #[.agg #[.int .i64 X, .int .i64 Y, .int .i64 W, .int .i64 H, .int .i64 C, .int .i64 R], .agg #[.int .i64 x0, .int .i64 y0, .int .i64 x1, .int .i64 y1]] w fun e w' => e = .returned (.tuple #[.slice none 0 0, .int .i64 2]) ∧ Q w w' := by
  go_enter Tryd.func38, Tryd.ntmps38
  go_wp2_with fail
  refine (rcheck_no X Y W H C R _ h).mono ?_
  rintro e w1 ⟨rfl, q1⟩
  go_wp2_with fail
  go_ret2
  exact ⟨rfl, (q1.behind _).behind _⟩

set_option maxRecDepth 100000 in
set_option maxHeartbeats 4000000 in
theorem rcovering_ok (X Y W H C R x0 y0 x1 y1 : Int) (w : World) (h : Grid.Ok X Y W H C R) (N : Nat) (hN : C * R = (N : Int)) :
    Calls Tryd.prog 38 #[.agg #[.int .i64 X, .int .i64 Y, .int .i64 W, .int .i64 H, .int .i64 C, .int .i64 R], .agg #[.int .i64 x0, .int .i64 y0, .int .i64 x1, .int .i64 y1]] w (CovPost (Grid.cov X Y W H C x0 y0 x1 y1 N) w) := by
  have hp := Grid.prod_bd C R 16 16 h.c0 h.c1 h.r0 h.r1
  rw [hN] at hp
  obtain ⟨hp0, hp1⟩ := hp
  have HBX := Lib.hid (fun (s : Int) (W' : World) (a : 1 ≤ s) (b : s ≤ (N : Int)) => rbox_there X Y W H C R s W' h a (by rw [hN]; exact b))
  have HTY := Lib.hid (fun (s : Int) (W' : World) (a : 1 ≤ s) (b : s ≤ (N : Int)) => there_yes X Y W H C R s W' h a (by rw [hN]; exact b))
  have HTN := Lib.hid (fun (s : Int) (W' : World) (b : (N : Int) < s) => there_no X Y W H C R s W' h (.inr (by rw [hN]; exact b)))
  have HK := Lib.hid h
  clear h hN
  obtain ⟨i0, hi, hz0, hz1, hz2⟩ := info_parts infoInt
  go_enter Tryd.func38, Tryd.ntmps38
  go_wp2_with fail
  refine (rcheck_yes X Y W H C R _ HK.out).mono ?_
  rintro e w1 ⟨rfl, q1⟩
  have hse := ((SeAt.fresh w X Y W H C R).next ((Q.refl _).alloc _)).next q1
  have hbo := (BoxAt.fresh (w.alloc (.cells #[.int .i64 X, .int .i64 Y, .int .i64 W, .int .i64 H, .int .i64 C, .int .i64 R] 25)) x0 y0 x1 y1).next q1
  rw [size_alloc] at hbo
  have hsz : w.heap.size + 2 ≤ w1.heap.size := by have := q1.sz; simp at this; omega
  have HSE := Lib.hid hse
  have HBO := Lib.hid hbo
  have HI := Lib.hid hi
  clear hse hbo hi
  go_wp2_with fail
  go_loopw [7, 8] (fun v i wr => ∃ k : Nat, k ≤ N ∧ i = .int .i64 ((k : Int) + 1) ∧ Hid (wr.ownsRow w1.heap.size 3 1 v (Grid.cov X Y W H C x0 y0 x1 y1 k).length ((Grid.cov X Y W H C x0 y0 x1 y1 k).map (Value.int .i64))) ∧ Q w1 wr) (fun _ i _ => N + 1 - (intOf i).toNat)
  case atStart => exact ⟨0, by omega, rfl, World.ownsRow_nil _ _ _ _, Q.refl _⟩
  case round =>
    obtain ⟨k, hk, rfl, hown, hq⟩ := hrel
    obtain ⟨k0, k1, k2, k3, k4, k5, k6⟩ := HSE.out.next hq
    clear k6
    by_cases hlt : k < N
    · have HB := Lib.hid (fun W' => HBX.out ((k : Int) + 1) W' (by omega) (by omega))
      have HT := Lib.hid (fun W' => HTY.out ((k : Int) + 1) W' (by omega) (by omega))
      have hlen := Grid.cov_len X Y W H C x0 y0 x1 y1 k
      have HC := Lib.hid (show Grid.cov X Y W H C x0 y0 x1 y1 (k + 1) = if (max (Grid.bx X W C ((k : Int) + 1)) x0 ≤ min (Grid.bx X W C ((k : Int) + 1) + W) x1 ∧ max (Grid.by' Y H C ((k : Int) + 1)) y0 ≤ min (Grid.by' Y H C ((k : Int) + 1) + H) y1) then Grid.cov X Y W H C x0 y0 x1 y1 k ++ [(k : Int) + 1] else Grid.cov X Y W H C x0 y0 x1 y1 k from rfl)
      generalize Grid.cov X Y W H C x0 y0 x1 y1 k = l at *
      generalize Grid.bx X W C ((k : Int) + 1) = a at *
      generalize Grid.by' Y H C ((k : Int) + 1) = b at *
      obtain ⟨aw, haw⟩ : ∃ aw, a + W = aw := ⟨_, rfl⟩
      obtain ⟨bh, hbh⟩ : ∃ bh, b + H = bh := ⟨_, rfl⟩
      rw [haw, hbh] at HC HB
      clear haw hbh
      obtain ⟨m1, hm1⟩ : ∃ m, (if a < x0 then x0 else a) = m := ⟨_, rfl⟩
      obtain ⟨m2, hm2⟩ : ∃ m, (if x1 < aw then x1 else aw) = m := ⟨_, rfl⟩
      obtain ⟨m3, hm3⟩ : ∃ m, (if b < y0 then y0 else b) = m := ⟨_, rfl⟩
      obtain ⟨m4, hm4⟩ : ∃ m, (if y1 < bh then y1 else bh) = m := ⟨_, rfl⟩
      rw [show max a x0 = m1 by rw [← hm1]; split <;> omega, show min aw x1 = m2 by rw [← hm2]; split <;> omega, show max b y0 = m3 by rw [← hm3]; split <;> omega, show min bh y1 = m4 by rw [← hm4]; split <;> omega] at HC
      go_wp2_with fail
      refine (HT.out _).mono ?_
      rintro e w4 ⟨rfl, q4⟩
      clear k0 k1 k2 k3 k4 k5
      obtain ⟨k0, k1, k2, k3, k4, k5, k6⟩ := HSE.out.next (hq.trans q4)
      clear k6
      go_wp2_with fail
      refine (HB.out _).mono ?_
      rintro e w2 ⟨rfl, q2'⟩
      have q2 := q4.trans q2'
      clear k0 k1 k2 k3 k4 k5
      obtain ⟨n0, n1, n2, n3, n4⟩ := (HBO.out.next hq).next q2
      clear n4
      have hown2 := Lib.hid (own_next hown.out q2)
      have hq2 := hq.trans q2
      have hlt2 : w.heap.size + 1 < w2.heap.size := by have := hq2.sz; omega
      by_cases c1 : m1 ≤ m2
      · have d1 : decide (m1 ≤ m2) = true := by simp only [decide_eq_true_eq]; exact c1
        have HC1 := Lib.hid c1
        clear c1
        by_cases c2 : m3 ≤ m4
        · have d2 : decide (m3 ≤ m4) = true := by simp only [decide_eq_true_eq]; exact c2
          have HC2 := Lib.hid c2
          clear c2
          have HL := Lib.hid (show Grid.cov X Y W H C x0 y0 x1 y1 (k + 1) = l ++ [(k : Int) + 1] by rw [HC.out, if_pos ⟨HC1.out, HC2.out⟩])
          clear hown HC
          go_wp2_with (at_builtin; refine wpList_append_own _ rfl _ _ 38 rfl w1.heap.size 3 i0 (.int .i64 0) 1 8 Tryd.underlying38 HI.out hz0 hz1 hz2 rfl (by decide) _ _ _ rfl ((hown2.out.alloc _).alloc _) ⟨w2.heap.size + 1, 0, none⟩ 1 1 [.int .i64 ((k : Int) + 1)] rfl rfl ?c1 ?c2 ?c3 ?c4 ?c5 ?_)
          case c1 => intro j u hu; cases j with
            | zero => simp at hu; subst hu; simp [Addr.add]
            | succ j => simp at hu
          case c2 => intro u hu; simp at hu; subst hu; rfl
          case c3 => unfold maxLen; omega
          case c4 => omega
          case c5 => have := hq2.sz; simp; omega
          intro v' w3 hown3 hgrow _
          have q3 : Q w1 w3 := Q.grown ((hq2.alloc _).alloc _) hgrow (fun g hg => (hown2.out.lt g hg).1)
          have HO3 := Lib.hid hown3
          clear hown3 hgrow
          go_wp2_with fail
          go_roundw
          case rel => exact ⟨k + 1, by omega, by go_num, by rw [HL.out]; exact Lib.hid (by simpa using HO3.out), q3⟩
          case measure => simp [intOf]; omega
        · have d2 : decide (m3 ≤ m4) = false := by simp only [decide_eq_false_iff_not]; exact c2
          have HL := Lib.hid (show Grid.cov X Y W H C x0 y0 x1 y1 (k + 1) = l by rw [HC.out, if_neg (fun h => c2 h.2)])
          clear c2 HC hown
          go_wp2_with fail
          go_roundw
          case rel => exact ⟨k + 1, by omega, by go_num, by rw [HL.out]; exact hown2.out.alloc _, hq2.alloc _⟩
          case measure => simp [intOf]; omega
      · have d1 : decide (m1 ≤ m2) = false := by simp only [decide_eq_false_iff_not]; exact c1
        have HL := Lib.hid (show Grid.cov X Y W H C x0 y0 x1 y1 (k + 1) = l by rw [HC.out, if_neg (fun h => c1 h.1)])
        clear c1 HC hown
        go_wp2_with fail
        go_roundw
        case rel => exact ⟨k + 1, by omega, by go_num, by rw [HL.out]; exact hown2.out.alloc _, hq2.alloc _⟩
        case measure => simp [intOf]; omega
    · have HNk := Lib.hid (show k = N by omega)
      have HT := Lib.hid (fun W' => HTN.out ((k : Int) + 1) W' (by omega))
      go_wp2_with fail
      refine (HT.out _).mono ?_
      rintro e w4 ⟨rfl, q4⟩
      go_wp2_with fail
      go_ret2
      exact ⟨_, rfl, (Ints.own (by have := hown.out; rw [HNk.out] at this; exact this)).next q4, (((q1.behind _).behind _).trans hq).trans q4⟩

theorem rcovering_any (X Y W H C R x0 y0 x1 y1 : Int) (w : World) (h : Grid.Ok X Y W H C R) :
    Calls Tryd.prog 38 #[.agg #[.int .i64 X, .int .i64 Y, .int .i64 W, .int .i64 H, .int .i64 C, .int .i64 R], .agg #[.int .i64 x0, .int .i64 y0, .int .i64 x1, .int .i64 y1]] w (CovPost (Grid.cov X Y W H C x0 y0 x1 y1 (GridN C R)) w) := by
  have hp := Grid.prod_bd C R 16 16 h.c0 h.c1 h.r0 h.r1
  exact rcovering_ok X Y W H C R x0 y0 x1 y1 w h (GridN C R) (by unfold GridN; omega)

theorem rat_any (X Y W H C R x y : Int) (w : World) (h : Grid.Ok X Y W H C R) :
    Calls Tryd.prog 17 #[.agg #[.int .i64 X, .int .i64 Y, .int .i64 W, .int .i64 H, .int .i64 C, .int .i64 R], .agg #[.int .i64 x, .int .i64 y]] w (CovPost (Grid.cov X Y W H C x y x y (GridN C R)) w) := by
  go_enter Tryd.func17, Tryd.ntmps17
  go_wp2_with fail
  refine (rcovering_any X Y W H C R x y x y _ h).mono ?_
  rintro e w1 ⟨v, rfl, hi, q1⟩
  have HI := Lib.hid hi
  clear hi
  go_wp2_with fail
  go_ret2
  exact ⟨v, rfl, HI.out, (q1.behind _).behind _⟩
theorem rat_bad (X Y W H C R x y : Int) (w : World) (h : ¬ Grid.Ok X Y W H C R) :
    Calls Tryd.prog 17 #[.agg #[.int .i64 X, .int .i64 Y, .int .i64 W, .int .i64 H, .int .i64 C, .int .i64 R], .agg #[.int .i64 x, .int .i64 y]] w fun e w' => e = .returned (.tuple #[.slice none 0 0, .int .i64 2]) ∧ Q w w' := by
  go_enter Tryd.func17, Tryd.ntmps17
  go_wp2_with fail
  refine (rcovering_bad X Y W H C R x y x y _ h).mono ?_
  rintro e w1 ⟨rfl, q1⟩
  go_wp2_with fail
  go_ret2
  exact ⟨rfl, (q1.behind _).behind _⟩
end Go.Proofs.YtcaabaijkidmgaaDoor
