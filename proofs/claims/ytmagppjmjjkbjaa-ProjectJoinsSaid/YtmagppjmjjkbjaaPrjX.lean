
/- Contract of the reference's To for valid projections. -/
import Derived.Test.YtmagppjmjjkbjaaPrjW
namespace Go.Proofs.Ytmagppjmjjkbjaa
open Go.RowKit
set_option linter.unusedVariables false

set_option maxHeartbeats 4000000 in
theorem rTo_bad (K L A S x y : Int) (w : World) (h : Prj.Ok K L A S) (hv : ¬ Prj.vld x y) :
    Calls Try.prog 14 #[.agg #[.int .i64 K, .int .i64 L, .int .i64 A, .int .i64 S], .agg #[.int .i64 x, .int .i64 y]] w fun e w' => e = .returned (.tuple #[.agg #[.int .i64 0, .int .i64 0], .int .i64 2]) ∧ Q w w' := by
  have HC := Lib.hid (fun W => rpcheck_yes K L A S W h)
  have HV := Lib.hid (fun W => rvalid_no x y W hv)
  clear h hv
  go_enter Try.func14, Try.ntmps14
  go_wp2_with fail
  refine (HC.out _).mono ?_
  rintro e w1 ⟨rfl, q1⟩
  have HK := Lib.hid (s6_start K L A S x y w w1 q1)
  obtain ⟨k0, k1, k2, k3, k4, k5, k6⟩ := HK.out
  clear k6
  go_wp2_with fail
  refine (HV.out _).mono ?_
  rintro e w2 ⟨rfl, q2⟩
  clear k0 k1 k2 k3 k4 k5
  have hb := b_next q2 (t2_start K L A S x y w w1 q1)
  have m0 : w2.cell? ⟨w.heap.size + 2, 0, none⟩ = some (.int .i64 0) := by rw [cell_of_row w2 _ 0 _ _ _ hb]; rfl
  have m1 : w2.cell? ⟨w.heap.size + 2, 1, none⟩ = some (.int .i64 0) := by rw [cell_of_row w2 _ 1 _ _ _ hb]; rfl
  have f0 := frozen_of_row w2 _ 0 _ _ hb
  have f1 := frozen_of_row w2 _ 1 _ _ hb
  have HB := Lib.hid hb
  clear hb
  go_wp2_with fail
  refine bodyPost_ret (results_cell_tmp rfl _ _ _ _ _ _ _ rfl (heap_setCell_same _ _ _ _ _ _ (heap_setCell_same _ _ _ _ _ _ HB.out)) Try.underlying29 rfl (by kernel_rfl)) rfl ⟨rfl, ?_⟩
  repeat (refine Q.setCell ?_ (by simp; try omega) _)
  exact (((q1.trans q2).behind _).behind _).behind _

theorem s7_next {K L A S x y : Int} {w u v : World} (h : (u.cell? ⟨w.heap.size, 0, none⟩ = some (.int .i64 K) ∧ u.cell? ⟨w.heap.size, 1, none⟩ = some (.int .i64 L) ∧ u.cell? ⟨w.heap.size, 2, none⟩ = some (.int .i64 A) ∧ u.cell? ⟨w.heap.size, 3, none⟩ = some (.int .i64 S) ∧ u.cell? ⟨w.heap.size + 1, 0, none⟩ = some (.int .i64 x) ∧ u.cell? ⟨w.heap.size + 1, 1, none⟩ = some (.int .i64 y) ∧ Q w u ∧ w.heap.size + 2 < u.heap.size)) (q : Q u v) : (v.cell? ⟨w.heap.size, 0, none⟩ = some (.int .i64 K) ∧ v.cell? ⟨w.heap.size, 1, none⟩ = some (.int .i64 L) ∧ v.cell? ⟨w.heap.size, 2, none⟩ = some (.int .i64 A) ∧ v.cell? ⟨w.heap.size, 3, none⟩ = some (.int .i64 S) ∧ v.cell? ⟨w.heap.size + 1, 0, none⟩ = some (.int .i64 x) ∧ v.cell? ⟨w.heap.size + 1, 1, none⟩ = some (.int .i64 y) ∧ Q w v ∧ w.heap.size + 2 < v.heap.size) := by
  obtain ⟨h0, h1, h2, h3, h6, h7, h9, hz⟩ := h
  exact ⟨(q.cell (block_lt_of_cell h0)).trans h0, (q.cell (block_lt_of_cell h1)).trans h1, (q.cell (block_lt_of_cell h2)).trans h2, (q.cell (block_lt_of_cell h3)).trans h3, (q.cell (block_lt_of_cell h6)).trans h6, (q.cell (block_lt_of_cell h7)).trans h7, h9.trans q, Nat.lt_of_lt_of_le hz q.sz⟩
theorem s7_set {K L A S x y : Int} {w v : World} {u u' : Value} {b i i' : Nat} (h : (v.cell? ⟨w.heap.size, 0, none⟩ = some (.int .i64 K) ∧ v.cell? ⟨w.heap.size, 1, none⟩ = some (.int .i64 L) ∧ v.cell? ⟨w.heap.size, 2, none⟩ = some (.int .i64 A) ∧ v.cell? ⟨w.heap.size, 3, none⟩ = some (.int .i64 S) ∧ v.cell? ⟨w.heap.size + 1, 0, none⟩ = some (.int .i64 x) ∧ v.cell? ⟨w.heap.size + 1, 1, none⟩ = some (.int .i64 y) ∧ Q w v ∧ w.heap.size + 2 < v.heap.size)) (hb : w.heap.size + 2 < b) : (((v.setCell ⟨b, i, none⟩ u).setCell ⟨b, i', none⟩ u').cell? ⟨w.heap.size, 0, none⟩ = some (.int .i64 K) ∧ ((v.setCell ⟨b, i, none⟩ u).setCell ⟨b, i', none⟩ u').cell? ⟨w.heap.size, 1, none⟩ = some (.int .i64 L) ∧ ((v.setCell ⟨b, i, none⟩ u).setCell ⟨b, i', none⟩ u').cell? ⟨w.heap.size, 2, none⟩ = some (.int .i64 A) ∧ ((v.setCell ⟨b, i, none⟩ u).setCell ⟨b, i', none⟩ u').cell? ⟨w.heap.size, 3, none⟩ = some (.int .i64 S) ∧ ((v.setCell ⟨b, i, none⟩ u).setCell ⟨b, i', none⟩ u').cell? ⟨w.heap.size + 1, 0, none⟩ = some (.int .i64 x) ∧ ((v.setCell ⟨b, i, none⟩ u).setCell ⟨b, i', none⟩ u').cell? ⟨w.heap.size + 1, 1, none⟩ = some (.int .i64 y) ∧ Q w ((v.setCell ⟨b, i, none⟩ u).setCell ⟨b, i', none⟩ u') ∧ w.heap.size + 2 < ((v.setCell ⟨b, i, none⟩ u).setCell ⟨b, i', none⟩ u').heap.size) := by
  obtain ⟨h0, h1, h2, h3, h6, h7, h9, hz⟩ := h
  exact ⟨set_other (set_other h0 (by omega)) (by omega), set_other (set_other h1 (by omega)) (by omega), set_other (set_other h2 (by omega)) (by omega), set_other (set_other h3 (by omega)) (by omega), set_other (set_other h6 (by omega)) (by omega), set_other (set_other h7 (by omega)) (by omega), (h9.setCell (show w.heap.size ≤ b by omega) _).setCell (show w.heap.size ≤ b by omega) _, by simpa using hz⟩
theorem cell_alloc_lt {v : World} {o : Obj} {b i : Nat} (hb : b < v.heap.size) : (v.alloc o).cell? ⟨b, i, none⟩ = v.cell? ⟨b, i, none⟩ := World.cell?_alloc_lt v o ⟨b, i, none⟩ hb
theorem s7_swap {K L A S x y : Int} {w v : World} {o o' : Obj} (h : ((v.alloc o).cell? ⟨w.heap.size, 0, none⟩ = some (.int .i64 K) ∧ (v.alloc o).cell? ⟨w.heap.size, 1, none⟩ = some (.int .i64 L) ∧ (v.alloc o).cell? ⟨w.heap.size, 2, none⟩ = some (.int .i64 A) ∧ (v.alloc o).cell? ⟨w.heap.size, 3, none⟩ = some (.int .i64 S) ∧ (v.alloc o).cell? ⟨w.heap.size + 1, 0, none⟩ = some (.int .i64 x) ∧ (v.alloc o).cell? ⟨w.heap.size + 1, 1, none⟩ = some (.int .i64 y) ∧ Q w (v.alloc o) ∧ w.heap.size + 2 < (v.alloc o).heap.size)) : ((v.alloc o').cell? ⟨w.heap.size, 0, none⟩ = some (.int .i64 K) ∧ (v.alloc o').cell? ⟨w.heap.size, 1, none⟩ = some (.int .i64 L) ∧ (v.alloc o').cell? ⟨w.heap.size, 2, none⟩ = some (.int .i64 A) ∧ (v.alloc o').cell? ⟨w.heap.size, 3, none⟩ = some (.int .i64 S) ∧ (v.alloc o').cell? ⟨w.heap.size + 1, 0, none⟩ = some (.int .i64 x) ∧ (v.alloc o').cell? ⟨w.heap.size + 1, 1, none⟩ = some (.int .i64 y) ∧ Q w (v.alloc o') ∧ w.heap.size + 2 < (v.alloc o').heap.size) := by
  obtain ⟨h0, h1, h2, h3, h6, h7, h9, hz⟩ := h
  rw [size_alloc] at hz
  rw [cell_alloc_lt (by omega)] at h0 h1 h2 h3 h6 h7
  refine ⟨(cell_alloc_lt (by omega)).trans h0, (cell_alloc_lt (by omega)).trans h1, (cell_alloc_lt (by omega)).trans h2, (cell_alloc_lt (by omega)).trans h3, (cell_alloc_lt (by omega)).trans h6, (cell_alloc_lt (by omega)).trans h7, ?_, by rw [size_alloc]; omega⟩
  refine ⟨h9.os, h9.tape, h9.output, by have := h9.size; simpa using this, fun k hk => ?_⟩
  have := h9.block hk
  simp only [World.alloc, Array.getElem?_push] at this ⊢
  have hne : ¬ k = v.heap.size := by omega
  simpa [hne] using this
theorem s7_q {K L A S x y : Int} {w v : World} (h : (v.cell? ⟨w.heap.size, 0, none⟩ = some (.int .i64 K) ∧ v.cell? ⟨w.heap.size, 1, none⟩ = some (.int .i64 L) ∧ v.cell? ⟨w.heap.size, 2, none⟩ = some (.int .i64 A) ∧ v.cell? ⟨w.heap.size, 3, none⟩ = some (.int .i64 S) ∧ v.cell? ⟨w.heap.size + 1, 0, none⟩ = some (.int .i64 x) ∧ v.cell? ⟨w.heap.size + 1, 1, none⟩ = some (.int .i64 y) ∧ Q w v ∧ w.heap.size + 2 < v.heap.size)) : Q w v := h.2.2.2.2.2.2.1
theorem blk_set2 {v : World} {b g : Nat} {u u' : Value} {x : Obj} (h : v.heap[b]? = some x) (hb : b ≠ g) : ((v.setCell ⟨g, 0, none⟩ u).setCell ⟨g, 1, none⟩ u').heap[b]? = some x := by
  rw [heap_setCell_other _ _ _ _ hb, heap_setCell_other _ _ _ _ hb]
  exact h
theorem s7_sz {K L A S x y : Int} {w v : World} (h : (v.cell? ⟨w.heap.size, 0, none⟩ = some (.int .i64 K) ∧ v.cell? ⟨w.heap.size, 1, none⟩ = some (.int .i64 L) ∧ v.cell? ⟨w.heap.size, 2, none⟩ = some (.int .i64 A) ∧ v.cell? ⟨w.heap.size, 3, none⟩ = some (.int .i64 S) ∧ v.cell? ⟨w.heap.size + 1, 0, none⟩ = some (.int .i64 x) ∧ v.cell? ⟨w.heap.size + 1, 1, none⟩ = some (.int .i64 y) ∧ Q w v ∧ w.heap.size + 2 < v.heap.size)) : w.heap.size + 2 < v.heap.size := h.2.2.2.2.2.2.2
def ToS7 (K L A S x y : Int) (w v : World) : Prop := (v.cell? ⟨w.heap.size, 0, none⟩ = some (.int .i64 K) ∧ v.cell? ⟨w.heap.size, 1, none⟩ = some (.int .i64 L) ∧ v.cell? ⟨w.heap.size, 2, none⟩ = some (.int .i64 A) ∧ v.cell? ⟨w.heap.size, 3, none⟩ = some (.int .i64 S) ∧ v.cell? ⟨w.heap.size + 1, 0, none⟩ = some (.int .i64 x) ∧ v.cell? ⟨w.heap.size + 1, 1, none⟩ = some (.int .i64 y) ∧ Q w v ∧ w.heap.size + 2 < v.heap.size)

set_option maxRecDepth 100000 in
set_option maxHeartbeats 16000000 in
theorem rTo_core (K L A S x y su sv : Int) (w : World) (h : Prj.Ok K L A S) (hv : Prj.vld x y)
    (HE : Hid (∀ w, Calls Try.prog 24 #[.agg #[.int .i64 K, .int .i64 L, .int .i64 A, .int .i64 S], .int .i64 x, .int .i64 y] w fun e w' => e = .returned (.int .i64 su) ∧ Q w w'))
    (HN : Hid (∀ w, Calls Try.prog 25 #[.agg #[.int .i64 K, .int .i64 L, .int .i64 A, .int .i64 S], .int .i64 y] w fun e w' => e = .returned (.int .i64 sv) ∧ Q w w'))
    (HP : Hid (∀ w, Calls Try.prog 26 #[.agg #[.int .i64 su, .int .i64 sv]] w fun e w' => e = .returned (.bool true) ∧ Q w w')) :
    Calls Try.prog 14 #[.agg #[.int .i64 K, .int .i64 L, .int .i64 A, .int .i64 S], .agg #[.int .i64 x, .int .i64 y]] w fun e w' => e = .returned (.tuple #[.agg #[.int .i64 su, .int .i64 sv], .int .i64 0]) ∧ Q w w' := by
  have HC := Lib.hid (fun W => rpcheck_yes K L A S W h)
  have HV := Lib.hid (fun W => rvalid_yes x y W hv)
  clear h hv
  go_enter Try.func14, Try.ntmps14
  go_wp2_with fail
  refine (HC.out _).mono ?_
  rintro e w1 ⟨rfl, q1⟩
  have HK1 := Lib.hid (s6_start K L A S x y w w1 q1)
  obtain ⟨k0, k1, k2, k3, k4, k5, k6⟩ := HK1.out
  clear k6
  go_wp2_with fail
  refine (HV.out _).mono ?_
  rintro e w2 ⟨rfl, q2⟩
  clear k0 k1 k2 k3 k4 k5
  have HB := Lib.hid (b_next q2 (t2_start K L A S x y w w1 q1))
  have hw2 : w.heap.size + 2 < w2.heap.size := (Array.getElem?_eq_some_iff.1 HB.out).1
  have HK : Hid (ToS7 K L A S x y w w2) := by
    obtain ⟨a0, a1, a2, a3, a4, a5, a6⟩ := s6_next HK1.out q2
    exact ⟨a0, a1, a2, a3, a4, a5, a6, hw2⟩
  clear q1 q2
  go_wp2_with fail
  go_region_held3 (fun v => (v.cell? ⟨w.heap.size, 0, none⟩ = some (.int .i64 K) ∧ v.cell? ⟨w.heap.size, 1, none⟩ = some (.int .i64 L) ∧ v.cell? ⟨w.heap.size, 2, none⟩ = some (.int .i64 A) ∧ v.cell? ⟨w.heap.size, 3, none⟩ = some (.int .i64 S) ∧ v.cell? ⟨w.heap.size + 1, 0, none⟩ = some (.int .i64 x) ∧ v.cell? ⟨w.heap.size + 1, 1, none⟩ = some (.int .i64 y) ∧ Q w v ∧ w.heap.size + 2 < v.heap.size)) ((first | (exact s7_next HK.out ((Q.refl _).drew)) | (refine s7_next ?_ (by assumption); assumption) | (exact s7_next HK.out (((Q.refl _).alloc _).drew)) | (refine s7_next ?_ ((Q.refl _).alloc _); assumption) | (exact s7_swap (by assumption)) | (exact s7_set (by assumption) (by assumption))))
    (first
      | (go_at_call 24; refine (HE.out _).mono ?_; (rintro e we ⟨rfl, qe⟩); have hcwe := (bcell qe).1; have hfwe := (bcell qe).2; have hswe : w.heap.size + 2 < we.heap.size := Nat.lt_of_lt_of_le (s7_sz (by assumption)) qe.sz; (try have hsz : w2.heap.size < we.heap.size := by (have hs := qe.sz; simp at hs; omega)))
      | (go_at_call 25; refine (HN.out _).mono ?_; (rintro e wn ⟨rfl, qn⟩); have hcwn := (bcell qn).1; have hfwn := (bcell qn).2; have hswn : w.heap.size + 2 < wn.heap.size := Nat.lt_of_lt_of_le (s7_sz (by assumption)) qn.sz; (try have hsz : w2.heap.size < wn.heap.size := by (have hs := qn.sz; simp at hs; omega))))
  · have qw := s7_q ‹_›
    have HW7 := Lib.hid (heap_alloc_new wn (.cells #[.int .i64 su, .int .i64 sv] 29))
    have HW4 := Lib.hid (b_next (((((Q.refl _).drew).trans qe).trans qn).alloc (.cells #[.int .i64 su, .int .i64 sv] 29)) HB.out)
    go_wp2_with fail
    refine (HP.out _).mono ?_
    rintro e w9 ⟨rfl, q9⟩
    have n7 := b_next q9 HW7.out
    have n4 := b_next q9 HW4.out
    have m0 : w9.cell? ⟨w.heap.size + 2, 0, none⟩ = some (.int .i64 0) := by rw [cell_of_row w9 _ 0 _ _ _ n4]; rfl
    have m1 : w9.cell? ⟨w.heap.size + 2, 1, none⟩ = some (.int .i64 0) := by rw [cell_of_row w9 _ 1 _ _ _ n4]; rfl
    have f0 := frozen_of_row w9 _ 0 _ _ n4
    have f1 := frozen_of_row w9 _ 1 _ _ n4
    have g0 : w9.cell? ⟨wn.heap.size, 0, none⟩ = some (.int .i64 su) := by rw [cell_of_row w9 _ 0 _ _ _ n7]; rfl
    have g1 : w9.cell? ⟨wn.heap.size, 1, none⟩ = some (.int .i64 sv) := by rw [cell_of_row w9 _ 1 _ _ _ n7]; rfl
    have HN4 := Lib.hid n4
    clear n4 n7
    go_wp2_with fail
    refine bodyPost_ret (results_cell_tmp rfl _ _ _ _ _ _ _ rfl (heap_setCell_same _ _ _ _ _ _ (heap_setCell_same _ _ _ _ _ _ HN4.out)) Try.underlying29 rfl (by kernel_rfl)) rfl ⟨rfl, ?_⟩
    repeat (refine Q.setCell ?_ (by simp; try omega) _)
    exact qw.trans q9
  · have qw := s7_q ‹_›
    have HW7 := Lib.hid (heap_setCell_same _ _ 1 _ _ (.int .i64 sv) (heap_setCell_same _ _ 0 _ _ (.int .i64 su) (b_next qn (heap_alloc_new we (.cells #[.int .i64 0, .int .i64 0] 29)))))
    have HW4 := Lib.hid (blk_set2 (g := we.heap.size) (u := .int .i64 su) (u' := .int .i64 sv) (b_next (((((Q.refl _).drew).trans qe).alloc _).trans qn) HB.out) (by omega))
    go_wp2_with fail
    refine (HP.out _).mono ?_
    rintro e w9 ⟨rfl, q9⟩
    have n7 := b_next q9 HW7.out
    have n4 := b_next q9 HW4.out
    have m0 : w9.cell? ⟨w.heap.size + 2, 0, none⟩ = some (.int .i64 0) := by rw [cell_of_row w9 _ 0 _ _ _ n4]; rfl
    have m1 : w9.cell? ⟨w.heap.size + 2, 1, none⟩ = some (.int .i64 0) := by rw [cell_of_row w9 _ 1 _ _ _ n4]; rfl
    have f0 := frozen_of_row w9 _ 0 _ _ n4
    have f1 := frozen_of_row w9 _ 1 _ _ n4
    have g0 : w9.cell? ⟨we.heap.size, 0, none⟩ = some (.int .i64 su) := by rw [cell_of_row w9 _ 0 _ _ _ n7]; rfl
    have g1 : w9.cell? ⟨we.heap.size, 1, none⟩ = some (.int .i64 sv) := by rw [cell_of_row w9 _ 1 _ _ _ n7]; rfl
    have HN4 := Lib.hid n4
    clear n4 n7
    go_wp2_with fail
    refine bodyPost_ret (results_cell_tmp rfl _ _ _ _ _ _ _ rfl (heap_setCell_same _ _ _ _ _ _ (heap_setCell_same _ _ _ _ _ _ HN4.out)) Try.underlying29 rfl (by kernel_rfl)) rfl ⟨rfl, ?_⟩
    repeat (refine Q.setCell ?_ (by simp; try omega) _)
    exact qw.trans q9
  · have qw := s7_q ‹_›
    have HW7 := Lib.hid (heap_setCell_same _ _ 1 _ _ (.int .i64 sv) (heap_setCell_same _ _ 0 _ _ (.int .i64 su) (b_next (qe.trans qn) (show (w2.alloc (.cells #[.int .i64 0, .int .i64 0] 29)).drew.heap[w2.heap.size]? = _ from heap_alloc_new w2 (.cells #[.int .i64 0, .int .i64 0] 29)))))
    have HW4 := Lib.hid (blk_set2 (g := w2.heap.size) (u := .int .i64 su) (u' := .int .i64 sv) (b_next (((((Q.refl _).alloc _).drew).trans qe).trans qn) HB.out) (by omega))
    go_wp2_with fail
    refine (HP.out _).mono ?_
    rintro e w9 ⟨rfl, q9⟩
    have n7 := b_next q9 HW7.out
    have n4 := b_next q9 HW4.out
    have m0 : w9.cell? ⟨w.heap.size + 2, 0, none⟩ = some (.int .i64 0) := by rw [cell_of_row w9 _ 0 _ _ _ n4]; rfl
    have m1 : w9.cell? ⟨w.heap.size + 2, 1, none⟩ = some (.int .i64 0) := by rw [cell_of_row w9 _ 1 _ _ _ n4]; rfl
    have f0 := frozen_of_row w9 _ 0 _ _ n4
    have f1 := frozen_of_row w9 _ 1 _ _ n4
    have g0 : w9.cell? ⟨w2.heap.size, 0, none⟩ = some (.int .i64 su) := by rw [cell_of_row w9 _ 0 _ _ _ n7]; rfl
    have g1 : w9.cell? ⟨w2.heap.size, 1, none⟩ = some (.int .i64 sv) := by rw [cell_of_row w9 _ 1 _ _ _ n7]; rfl
    have HN4 := Lib.hid n4
    clear n4 n7
    go_wp2_with fail
    refine bodyPost_ret (results_cell_tmp rfl _ _ _ _ _ _ _ rfl (heap_setCell_same _ _ _ _ _ _ (heap_setCell_same _ _ _ _ _ _ HN4.out)) Try.underlying29 rfl (by kernel_rfl)) rfl ⟨rfl, ?_⟩
    repeat (refine Q.setCell ?_ (by simp; try omega) _)
    exact qw.trans q9
set_option maxRecDepth 100000 in
set_option maxHeartbeats 16000000 in
theorem rTo_out (K L A S x y su sv : Int) (w : World) (h : Prj.Ok K L A S) (hv : Prj.vld x y)
    (HE : Hid (∀ w, Calls Try.prog 24 #[.agg #[.int .i64 K, .int .i64 L, .int .i64 A, .int .i64 S], .int .i64 x, .int .i64 y] w fun e w' => e = .returned (.int .i64 su) ∧ Q w w'))
    (HN : Hid (∀ w, Calls Try.prog 25 #[.agg #[.int .i64 K, .int .i64 L, .int .i64 A, .int .i64 S], .int .i64 y] w fun e w' => e = .returned (.int .i64 sv) ∧ Q w w'))
    (HP : Hid (∀ w, Calls Try.prog 26 #[.agg #[.int .i64 su, .int .i64 sv]] w fun e w' => e = .returned (.bool false) ∧ Q w w')) :
    Calls Try.prog 14 #[.agg #[.int .i64 K, .int .i64 L, .int .i64 A, .int .i64 S], .agg #[.int .i64 x, .int .i64 y]] w fun e w' => e = .returned (.tuple #[.agg #[.int .i64 0, .int .i64 0], .int .i64 2]) ∧ Q w w' := by
  have HC := Lib.hid (fun W => rpcheck_yes K L A S W h)
  have HV := Lib.hid (fun W => rvalid_yes x y W hv)
  clear h hv
  go_enter Try.func14, Try.ntmps14
  go_wp2_with fail
  refine (HC.out _).mono ?_
  rintro e w1 ⟨rfl, q1⟩
  have HK1 := Lib.hid (s6_start K L A S x y w w1 q1)
  obtain ⟨k0, k1, k2, k3, k4, k5, k6⟩ := HK1.out
  clear k6
  go_wp2_with fail
  refine (HV.out _).mono ?_
  rintro e w2 ⟨rfl, q2⟩
  clear k0 k1 k2 k3 k4 k5
  have HB := Lib.hid (b_next q2 (t2_start K L A S x y w w1 q1))
  have hw2 : w.heap.size + 2 < w2.heap.size := (Array.getElem?_eq_some_iff.1 HB.out).1
  have HK : Hid (ToS7 K L A S x y w w2) := by
    obtain ⟨a0, a1, a2, a3, a4, a5, a6⟩ := s6_next HK1.out q2
    exact ⟨a0, a1, a2, a3, a4, a5, a6, hw2⟩
  clear q1 q2
  go_wp2_with fail
  go_region_held3 (fun v => (v.cell? ⟨w.heap.size, 0, none⟩ = some (.int .i64 K) ∧ v.cell? ⟨w.heap.size, 1, none⟩ = some (.int .i64 L) ∧ v.cell? ⟨w.heap.size, 2, none⟩ = some (.int .i64 A) ∧ v.cell? ⟨w.heap.size, 3, none⟩ = some (.int .i64 S) ∧ v.cell? ⟨w.heap.size + 1, 0, none⟩ = some (.int .i64 x) ∧ v.cell? ⟨w.heap.size + 1, 1, none⟩ = some (.int .i64 y) ∧ Q w v ∧ w.heap.size + 2 < v.heap.size)) ((first | (exact s7_next HK.out ((Q.refl _).drew)) | (refine s7_next ?_ (by assumption); assumption) | (exact s7_next HK.out (((Q.refl _).alloc _).drew)) | (refine s7_next ?_ ((Q.refl _).alloc _); assumption) | (exact s7_swap (by assumption)) | (exact s7_set (by assumption) (by assumption))))
    (first
      | (go_at_call 24; refine (HE.out _).mono ?_; (rintro e we ⟨rfl, qe⟩); have hcwe := (bcell qe).1; have hfwe := (bcell qe).2; have hswe : w.heap.size + 2 < we.heap.size := Nat.lt_of_lt_of_le (s7_sz (by assumption)) qe.sz; (try have hsz : w2.heap.size < we.heap.size := by (have hs := qe.sz; simp at hs; omega)))
      | (go_at_call 25; refine (HN.out _).mono ?_; (rintro e wn ⟨rfl, qn⟩); have hcwn := (bcell qn).1; have hfwn := (bcell qn).2; have hswn : w.heap.size + 2 < wn.heap.size := Nat.lt_of_lt_of_le (s7_sz (by assumption)) qn.sz; (try have hsz : w2.heap.size < wn.heap.size := by (have hs := qn.sz; simp at hs; omega))))
  · have qw := s7_q ‹_›
    have HW7 := Lib.hid (heap_alloc_new wn (.cells #[.int .i64 su, .int .i64 sv] 29))
    have HW4 := Lib.hid (b_next (((((Q.refl _).drew).trans qe).trans qn).alloc (.cells #[.int .i64 su, .int .i64 sv] 29)) HB.out)
    go_wp2_with fail
    refine (HP.out _).mono ?_
    rintro e w9 ⟨rfl, q9⟩
    have n7 := b_next q9 HW7.out
    have n4 := b_next q9 HW4.out
    have m0 : w9.cell? ⟨w.heap.size + 2, 0, none⟩ = some (.int .i64 0) := by rw [cell_of_row w9 _ 0 _ _ _ n4]; rfl
    have m1 : w9.cell? ⟨w.heap.size + 2, 1, none⟩ = some (.int .i64 0) := by rw [cell_of_row w9 _ 1 _ _ _ n4]; rfl
    have f0 := frozen_of_row w9 _ 0 _ _ n4
    have f1 := frozen_of_row w9 _ 1 _ _ n4
    have g0 : w9.cell? ⟨wn.heap.size, 0, none⟩ = some (.int .i64 su) := by rw [cell_of_row w9 _ 0 _ _ _ n7]; rfl
    have g1 : w9.cell? ⟨wn.heap.size, 1, none⟩ = some (.int .i64 sv) := by rw [cell_of_row w9 _ 1 _ _ _ n7]; rfl
    have HN4 := Lib.hid n4
    clear n4 n7
    go_wp2_with fail
    refine bodyPost_ret (results_cell_tmp rfl _ _ _ _ _ _ _ rfl (heap_setCell_same _ _ _ _ _ _ (heap_setCell_same _ _ _ _ _ _ HN4.out)) Try.underlying29 rfl (by kernel_rfl)) rfl ⟨rfl, ?_⟩
    repeat (refine Q.setCell ?_ (by simp; try omega) _)
    exact qw.trans q9
  · have qw := s7_q ‹_›
    have HW7 := Lib.hid (heap_setCell_same _ _ 1 _ _ (.int .i64 sv) (heap_setCell_same _ _ 0 _ _ (.int .i64 su) (b_next qn (heap_alloc_new we (.cells #[.int .i64 0, .int .i64 0] 29)))))
    have HW4 := Lib.hid (blk_set2 (g := we.heap.size) (u := .int .i64 su) (u' := .int .i64 sv) (b_next (((((Q.refl _).drew).trans qe).alloc _).trans qn) HB.out) (by omega))
    go_wp2_with fail
    refine (HP.out _).mono ?_
    rintro e w9 ⟨rfl, q9⟩
    have n7 := b_next q9 HW7.out
    have n4 := b_next q9 HW4.out
    have m0 : w9.cell? ⟨w.heap.size + 2, 0, none⟩ = some (.int .i64 0) := by rw [cell_of_row w9 _ 0 _ _ _ n4]; rfl
    have m1 : w9.cell? ⟨w.heap.size + 2, 1, none⟩ = some (.int .i64 0) := by rw [cell_of_row w9 _ 1 _ _ _ n4]; rfl
    have f0 := frozen_of_row w9 _ 0 _ _ n4
    have f1 := frozen_of_row w9 _ 1 _ _ n4
    have g0 : w9.cell? ⟨we.heap.size, 0, none⟩ = some (.int .i64 su) := by rw [cell_of_row w9 _ 0 _ _ _ n7]; rfl
    have g1 : w9.cell? ⟨we.heap.size, 1, none⟩ = some (.int .i64 sv) := by rw [cell_of_row w9 _ 1 _ _ _ n7]; rfl
    have HN4 := Lib.hid n4
    clear n4 n7
    go_wp2_with fail
    refine bodyPost_ret (results_cell_tmp rfl _ _ _ _ _ _ _ rfl (heap_setCell_same _ _ _ _ _ _ (heap_setCell_same _ _ _ _ _ _ HN4.out)) Try.underlying29 rfl (by kernel_rfl)) rfl ⟨rfl, ?_⟩
    repeat (refine Q.setCell ?_ (by simp; try omega) _)
    exact qw.trans q9
  · have qw := s7_q ‹_›
    have HW7 := Lib.hid (heap_setCell_same _ _ 1 _ _ (.int .i64 sv) (heap_setCell_same _ _ 0 _ _ (.int .i64 su) (b_next (qe.trans qn) (show (w2.alloc (.cells #[.int .i64 0, .int .i64 0] 29)).drew.heap[w2.heap.size]? = _ from heap_alloc_new w2 (.cells #[.int .i64 0, .int .i64 0] 29)))))
    have HW4 := Lib.hid (blk_set2 (g := w2.heap.size) (u := .int .i64 su) (u' := .int .i64 sv) (b_next (((((Q.refl _).alloc _).drew).trans qe).trans qn) HB.out) (by omega))
    go_wp2_with fail
    refine (HP.out _).mono ?_
    rintro e w9 ⟨rfl, q9⟩
    have n7 := b_next q9 HW7.out
    have n4 := b_next q9 HW4.out
    have m0 : w9.cell? ⟨w.heap.size + 2, 0, none⟩ = some (.int .i64 0) := by rw [cell_of_row w9 _ 0 _ _ _ n4]; rfl
    have m1 : w9.cell? ⟨w.heap.size + 2, 1, none⟩ = some (.int .i64 0) := by rw [cell_of_row w9 _ 1 _ _ _ n4]; rfl
    have f0 := frozen_of_row w9 _ 0 _ _ n4
    have f1 := frozen_of_row w9 _ 1 _ _ n4
    have g0 : w9.cell? ⟨w2.heap.size, 0, none⟩ = some (.int .i64 su) := by rw [cell_of_row w9 _ 0 _ _ _ n7]; rfl
    have g1 : w9.cell? ⟨w2.heap.size, 1, none⟩ = some (.int .i64 sv) := by rw [cell_of_row w9 _ 1 _ _ _ n7]; rfl
    have HN4 := Lib.hid n4
    clear n4 n7
    go_wp2_with fail
    refine bodyPost_ret (results_cell_tmp rfl _ _ _ _ _ _ _ rfl (heap_setCell_same _ _ _ _ _ _ (heap_setCell_same _ _ _ _ _ _ HN4.out)) Try.underlying29 rfl (by kernel_rfl)) rfl ⟨rfl, ?_⟩
    repeat (refine Q.setCell ?_ (by simp; try omega) _)
    exact qw.trans q9

theorem rTo_ok (K L A S x y : Int) (w : World) (h : Prj.Ok K L A S) :
    Calls Try.prog 14 #[.agg #[.int .i64 K, .int .i64 L, .int .i64 A, .int .i64 S], .agg #[.int .i64 x, .int .i64 y]] w fun e w' => e = .returned (.tuple #[.agg #[.int .i64 (Prj.qx K L A S x y), .int .i64 (Prj.qy K L A S x y)], .int .i64 (Prj.qe K L A S x y)]) ∧ Q w w' := by
  unfold Prj.qx Prj.qy Prj.qe
  by_cases hv : Prj.vld x y
  · have HE := fun W => reast_any K L A S x y W h.s0 h.s1 hv.1 hv.2.1 h.v.1 h.v.2.1 (by have := hv.2.2.1; omega) (by have := hv.2.2.2; omega)
    have HN := fun W => rnorth_any K L A S y W h.s0 h.s1 hv.2.2.1 hv.2.2.2 h.v.2.2.1 h.v.2.2.2
    by_cases hp : Prj.pt (Prj.east K L S x y) (Prj.north K A S y)
    · rw [if_pos ⟨hv, hp⟩, if_pos ⟨hv, hp⟩, if_pos ⟨hv, hp⟩]
      exact rTo_core K L A S x y _ _ w h hv HE HN (fun W => rpoint_yes _ _ W hp)
    · rw [if_neg (fun h => hp h.2), if_neg (fun h => hp h.2), if_neg (fun h => hp h.2)]
      exact rTo_out K L A S x y _ _ w h hv HE HN (fun W => rpoint_no _ _ W hp)
  · rw [if_neg (fun h => hv h.1), if_neg (fun h => hv h.1), if_neg (fun h => hv h.1)]
    exact rTo_bad K L A S x y w h hv
end Go.Proofs.Ytmagppjmjjkbjaa
