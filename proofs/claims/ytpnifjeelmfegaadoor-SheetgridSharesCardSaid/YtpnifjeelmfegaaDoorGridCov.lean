/- Contract of sheetgrid.Covering and At: the sheets that have a point in common with a box, or the error. -/
import Derived.Test.YtpnifjeelmfegaaDoorGridBox
import Derived.Test.YtpnifjeelmfegaaDoorWords
import Derived.Deep.LoopGhost
namespace Go.Proofs.YtpnifjeelmfegaaDoor
open Go.RowKit
set_option linter.unusedVariables false

namespace Grid
/-- Has sheet s a point in common with the box? -/
def hit (X Y W H C x0 y0 x1 y1 s : Int) : Prop := max (bx X W C s) x0 ≤ min (bx X W C s + W) x1 ∧ max (by' Y H C s) y0 ≤ min (by' Y H C s + H) y1
instance (X Y W H C x0 y0 x1 y1 s : Int) : Decidable (hit X Y W H C x0 y0 x1 y1 s) := by unfold hit; infer_instance
/-- The sheets among the first k. -/
def cov (X Y W H C x0 y0 x1 y1 : Int) : Nat → List Int
  | 0 => []
  | k + 1 => if hit X Y W H C x0 y0 x1 y1 ((k : Int) + 1) then cov X Y W H C x0 y0 x1 y1 k ++ [(k : Int) + 1] else cov X Y W H C x0 y0 x1 y1 k
theorem cov_len (X Y W H C x0 y0 x1 y1 : Int) (k : Nat) : (cov X Y W H C x0 y0 x1 y1 k).length ≤ k := by
  induction k with
  | zero => exact Nat.le_refl _
  | succ k ih =>
    rw [cov]
    split
    · simp
      omega
    · omega
end Grid

/-- The cells of a box in block B. -/
structure BoxAt (w : World) (B : Nat) (a b c d : Int) : Prop where
  c0 : w.cell? ⟨B, 0, none⟩ = some (.int .i64 a)
  c1 : w.cell? ⟨B, 1, none⟩ = some (.int .i64 b)
  c2 : w.cell? ⟨B, 2, none⟩ = some (.int .i64 c)
  c3 : w.cell? ⟨B, 3, none⟩ = some (.int .i64 d)
  blk : w.heap[B]? = some (.cells #[.int .i64 a, .int .i64 b, .int .i64 c, .int .i64 d] 27 (0, 0))
theorem BoxAt.of_block {w : World} {B : Nat} {a b c d : Int} (hb : w.heap[B]? = some (.cells #[.int .i64 a, .int .i64 b, .int .i64 c, .int .i64 d] 27 (0, 0))) : BoxAt w B a b c d :=
  ⟨by rw [cell_of_row w B 0 _ _ _ hb]; rfl, by rw [cell_of_row w B 1 _ _ _ hb]; rfl, by rw [cell_of_row w B 2 _ _ _ hb]; rfl, by rw [cell_of_row w B 3 _ _ _ hb]; rfl, hb⟩
theorem BoxAt.fresh (w : World) (a b c d : Int) : BoxAt (w.alloc (.cells #[.int .i64 a, .int .i64 b, .int .i64 c, .int .i64 d] 27)) w.heap.size a b c d := .of_block (heap_alloc_new w _)
theorem BoxAt.lt {w : World} {B : Nat} {a b c d : Int} (h : BoxAt w B a b c d) : B < w.heap.size := (Array.getElem?_eq_some_iff.1 h.blk).1
theorem BoxAt.next {w w' : World} {B : Nat} {a b c d : Int} (h : BoxAt w B a b c d) (q : Q w w') : BoxAt w' B a b c d := .of_block ((q.block h.lt).trans h.blk)

theorem covering_bad (X Y W H C R x0 y0 x1 y1 : Int) (w : World) (h : ¬ Grid.Ok X Y W H C R) :
    Calls Tryd.prog 16 #[.agg #[.int .i64 X, .int .i64 Y, .int .i64 W, .int .i64 H, .int .i64 C, .int .i64 R], .agg #[.int .i64 x0, .int .i64 y0, .int .i64 x1, .int .i64 y1]] w fun e w' => e = .returned (.tuple #[.slice none 0 0, .int .i64 2]) ∧ Q w w' := by
  go_enter Tryd.func16, Tryd.ntmps16
  go_wp2_with fail
  refine (check_no X Y W H C R _ h).mono ?_
  rintro e w1 ⟨rfl, q1⟩
  go_wp2_with fail
  go_ret2
  exact ⟨rfl, (q1.behind _).behind _⟩

def CovPost (l : List Int) (w : World) (e : Ending) (w' : World) : Prop := ∃ v, e = .returned (.tuple #[v, .int .i64 0]) ∧ Ints w' v l ∧ Q w w'

set_option maxRecDepth 100000 in
set_option maxHeartbeats 4000000 in
theorem covering_ok (X Y W H C R x0 y0 x1 y1 : Int) (w : World) (h : Grid.Ok X Y W H C R) (N : Nat) (hN : C * R = (N : Int)) :
    Calls Tryd.prog 16 #[.agg #[.int .i64 X, .int .i64 Y, .int .i64 W, .int .i64 H, .int .i64 C, .int .i64 R], .agg #[.int .i64 x0, .int .i64 y0, .int .i64 x1, .int .i64 y1]] w (CovPost (Grid.cov X Y W H C x0 y0 x1 y1 N) w) := by
  have hp := Grid.prod_bd C R 16 16 h.c0 h.c1 h.r0 h.r1
  rw [hN] at hp
  obtain ⟨hp0, hp1⟩ := hp
  have HBX := Lib.hid (fun (s : Int) (W' : World) (a : 1 ≤ s) (b : s ≤ (N : Int)) => box_there X Y W H C R s W' h a (by rw [hN]; exact b))
  have HK := Lib.hid h
  clear h
  obtain ⟨i0, hi, hz0, hz1, hz2⟩ := info_parts infoInt
  go_enter Tryd.func16, Tryd.ntmps16
  go_wp2_with fail
  refine (check_yes X Y W H C R _ HK.out).mono ?_
  rintro e w1 ⟨rfl, q1⟩
  have hse := ((SeAt.fresh w X Y W H C R).next ((Q.refl _).alloc _)).next q1
  have hbo := (BoxAt.fresh (w.alloc (.cells #[.int .i64 X, .int .i64 Y, .int .i64 W, .int .i64 H, .int .i64 C, .int .i64 R] 25)) x0 y0 x1 y1).next q1
  rw [size_alloc] at hbo
  have hsz : w.heap.size + 2 ≤ w1.heap.size := by have := q1.sz; simp at this; omega
  have k4 := hse.cc
  have k5 := hse.cr
  have HSE := Lib.hid hse
  have HBO := Lib.hid hbo
  have HI := Lib.hid hi
  clear hse hbo hi
  go_wp2_with fail
  clear k4 k5 hN
  go_loopw [4, 19] (fun v i wr => ∃ k : Nat, k ≤ N ∧ i = .int .i64 k ∧ Hid (wr.ownsRow w1.heap.size 3 1 v (Grid.cov X Y W H C x0 y0 x1 y1 k).length ((Grid.cov X Y W H C x0 y0 x1 y1 k).map (Value.int .i64))) ∧ Q w1 wr) (fun _ i _ => N - (intOf i).toNat)
  case atStart => exact ⟨0, by omega, rfl, World.ownsRow_nil _ _ _ _, Q.refl _⟩
  case round =>
    obtain ⟨k, hk, rfl, hown, hq⟩ := hrel
    by_cases hlt : k < N
    · obtain ⟨k0, k1, k2, k3, k4, k5, k6⟩ := HSE.out.next hq
      clear k6
      have HB := Lib.hid (fun W' => HBX.out ((k : Int) + 1) W' (by omega) (by omega))
      have hlen := Grid.cov_len X Y W H C x0 y0 x1 y1 k
      have HC := Lib.hid (show Grid.cov X Y W H C x0 y0 x1 y1 (k + 1) = if (max (Grid.bx X W C ((k : Int) + 1)) x0 ≤ min (Grid.bx X W C ((k : Int) + 1) + W) x1 ∧ max (Grid.by' Y H C ((k : Int) + 1)) y0 ≤ min (Grid.by' Y H C ((k : Int) + 1) + H) y1) then Grid.cov X Y W H C x0 y0 x1 y1 k ++ [(k : Int) + 1] else Grid.cov X Y W H C x0 y0 x1 y1 k from rfl)
      generalize Grid.cov X Y W H C x0 y0 x1 y1 k = l at *
      generalize Grid.bx X W C ((k : Int) + 1) = a at *
      generalize Grid.by' Y H C ((k : Int) + 1) = b at *
      obtain ⟨aw, haw⟩ : ∃ aw, a + W = aw := ⟨_, rfl⟩
      obtain ⟨bh, hbh⟩ : ∃ bh, b + H = bh := ⟨_, rfl⟩
      rw [haw, hbh] at HC HB
      clear haw hbh
      obtain ⟨m1, hm1⟩ : ∃ m, (if a < x0 then x0 else a) = m := ⟨_, rfl⟩
      obtain ⟨m2, hm2⟩ : ∃ m, (if x1 < aw then x1 else aw) = m := ⟨_, rfl⟩
      obtain ⟨m3, hm3⟩ : ∃ m, (if b < y0 then y0 else b) = m := ⟨_, rfl⟩
      obtain ⟨m4, hm4⟩ : ∃ m, (if y1 < bh then y1 else bh) = m := ⟨_, rfl⟩
      rw [show max a x0 = m1 by rw [← hm1]; split <;> omega, show min aw x1 = m2 by rw [← hm2]; split <;> omega, show max b y0 = m3 by rw [← hm3]; split <;> omega, show min bh y1 = m4 by rw [← hm4]; split <;> omega] at HC
      go_wp2_with fail
      refine (HB.out _).mono ?_
      rintro e w2 ⟨rfl, q2⟩
      clear k0 k1 k2 k3 k4 k5
      obtain ⟨n0, n1, n2, n3, n4⟩ := (HBO.out.next hq).next q2
      clear n4
      have hown2 := Lib.hid (own_next hown.out q2)
      have hq2 := hq.trans q2
      have hlt2 : w.heap.size + 1 < w2.heap.size := by have := hq2.sz; omega
      by_cases c1 : m1 ≤ m2
      · have d1 : decide (m1 ≤ m2) = true := by simp only [decide_eq_true_eq]; exact c1
        have HC1 := Lib.hid c1
        clear c1
        by_cases c2 : m3 ≤ m4
        · have d2 : decide (m3 ≤ m4) = true := by simp only [decide_eq_true_eq]; exact c2
          have HC2 := Lib.hid c2
          clear c2
          have HL := Lib.hid (show Grid.cov X Y W H C x0 y0 x1 y1 (k + 1) = l ++ [(k : Int) + 1] by rw [HC.out, if_pos ⟨HC1.out, HC2.out⟩])
          clear hown HC
          go_wp2_with (at_builtin; refine wpList_append_own _ rfl _ _ 34 rfl w1.heap.size 3 i0 (.int .i64 0) 1 8 Tryd.underlying34 HI.out hz0 hz1 hz2 rfl (by decide) _ _ _ rfl ((hown2.out.alloc _).alloc _) ⟨w2.heap.size + 1, 0, none⟩ 1 1 [.int .i64 ((k : Int) + 1)] rfl rfl ?c1 ?c2 ?c3 ?c4 ?c5 ?_)
          case c1 => intro j u hu; cases j with
            | zero => simp at hu; subst hu; simp [Addr.add]
            | succ j => simp at hu
          case c2 => intro u hu; simp at hu; subst hu; rfl
          case c3 => unfold maxLen; omega
          case c4 => omega
          case c5 => have := hq2.sz; simp; omega
          intro v' w3 hown3 hgrow _
          have q3 : Q w1 w3 := Q.grown ((hq2.alloc _).alloc _) hgrow (fun g hg => (hown2.out.lt g hg).1)
          have HO3 := Lib.hid hown3
          clear hown3 hgrow
          go_wp2_with fail
          go_roundw
          case rel => exact ⟨k + 1, by omega, by go_num, by rw [HL.out]; exact Lib.hid (by simpa using HO3.out), q3⟩
          case measure => simp [intOf]; omega
        · have d2 : decide (m3 ≤ m4) = false := by simp only [decide_eq_false_iff_not]; exact c2
          have HL := Lib.hid (show Grid.cov X Y W H C x0 y0 x1 y1 (k + 1) = l by rw [HC.out, if_neg (fun h => c2 h.2)])
          clear c2 HC hown
          go_wp2_with fail
          go_roundw
          case rel => exact ⟨k + 1, by omega, by go_num, by rw [HL.out]; exact hown2.out.alloc _, hq2.alloc _⟩
          case measure => simp [intOf]; omega
      · have d1 : decide (m1 ≤ m2) = false := by simp only [decide_eq_false_iff_not]; exact c1
        have HL := Lib.hid (show Grid.cov X Y W H C x0 y0 x1 y1 (k + 1) = l by rw [HC.out, if_neg (fun h => c1 h.1)])
        clear c1 HC hown
        go_wp2_with fail
        go_roundw
        case rel => exact ⟨k + 1, by omega, by go_num, by rw [HL.out]; exact hown2.out.alloc _, hq2.alloc _⟩
        case measure => simp [intOf]; omega
    · have HNk := Lib.hid (show k = N by omega)
      go_wp2_with fail
      go_ret2
      exact ⟨_, rfl, Ints.own (by have := hown.out; rw [HNk.out] at this; exact this), ((q1.behind _).behind _).trans hq⟩

def GridN (C R : Int) : Nat := (C * R).toNat

theorem covering_any (X Y W H C R x0 y0 x1 y1 : Int) (w : World) (h : Grid.Ok X Y W H C R) :
    Calls Tryd.prog 16 #[.agg #[.int .i64 X, .int .i64 Y, .int .i64 W, .int .i64 H, .int .i64 C, .int .i64 R], .agg #[.int .i64 x0, .int .i64 y0, .int .i64 x1, .int .i64 y1]] w (CovPost (Grid.cov X Y W H C x0 y0 x1 y1 (GridN C R)) w) := by
  have hp := Grid.prod_bd C R 16 16 h.c0 h.c1 h.r0 h.r1
  exact covering_ok X Y W H C R x0 y0 x1 y1 w h (GridN C R) (by unfold GridN; omega)

theorem at_any (X Y W H C R x y : Int) (w : World) (h : Grid.Ok X Y W H C R) :
    Calls Tryd.prog 15 #[.agg #[.int .i64 X, .int .i64 Y, .int .i64 W, .int .i64 H, .int .i64 C, .int .i64 R], .agg #[.int .i64 x, .int .i64 y]] w (CovPost (Grid.cov X Y W H C x y x y (GridN C R)) w) := by
  go_enter Tryd.func15, Tryd.ntmps15
  go_wp2_with fail
  refine (covering_any X Y W H C R x y x y _ h).mono ?_
  rintro e w1 ⟨v, rfl, hi, q1⟩
  have HI := Lib.hid hi
  clear hi
  go_wp2_with fail
  go_ret2
  exact ⟨v, rfl, HI.out, (q1.behind _).behind _⟩
theorem at_bad (X Y W H C R x y : Int) (w : World) (h : ¬ Grid.Ok X Y W H C R) :
    Calls Tryd.prog 15 #[.agg #[.int .i64 X, .int .i64 Y, .int .i64 W, .int .i64 H, .int .i64 C, .int .i64 R], .agg #[.int .i64 x, .int .i64 y]] w fun e w' => e = .returned (.tuple #[.slice none 0 0, .int .i64 2]) ∧ Q w w' := by
  go_enter Tryd.func15, Tryd.ntmps15
  go_wp2_with fail
  refine (covering_bad X Y W H C R x y x y _ h).mono ?_
  rintro e w1 ⟨rfl, q1⟩
  go_wp2_with fail
  go_ret2
  exact ⟨rfl, (q1.behind _).behind _⟩
end Go.Proofs.YtpnifjeelmfegaaDoor
