
/- Contracts of project.To and of the reference's To: the same points and errors. -/
import Derived.Test.YtmagppjmjjkbjaaPrjT
import Derived.Test.YtmagppjmjjkbjaaPrjV
namespace Go.Proofs.Ytmagppjmjjkbjaa
open Go.RowKit
set_option linter.unusedVariables false

namespace Prj
/-- A position that has a point. -/
def good (K L A S x y : Int) : Prop := vld x y ∧ pt (east K L S x y) (north K A S y)
instance (K L A S x y : Int) : Decidable (good K L A S x y) := by unfold good; infer_instance
def qx (K L A S x y : Int) : Int := if good K L A S x y then east K L S x y else 0
def qy (K L A S x y : Int) : Int := if good K L A S x y then north K A S y else 0
def qe (K L A S x y : Int) : Int := if good K L A S x y then 0 else 2
end Prj
/-- Two results, a struct of two ints and an error. -/
theorem ret_pt {a b c d e f : Int} (h1 : a = d) (h2 : b = e) (h3 : c = f) : Ending.returned (.tuple #[.agg #[.int .i64 a, .int .i64 b], .int .i64 c]) = .returned (.tuple #[.agg #[.int .i64 d, .int .i64 e], .int .i64 f]) := by rw [h1, h2, h3]

theorem to_any (K L A S x y : Int) (E N : Value) (base : Nat) (w : World) (h : Prj.Ok K L A S) (hE : EastOk base w E K L) (hN : NorthOk base w N K A) :
    Calls Try.prog 22 #[.agg #[.int .i64 K, .int .i64 L, .int .i64 A, .int .i64 S], .agg #[E, N], .agg #[.int .i64 x, .int .i64 y]] w fun e w' => e = .returned (.tuple #[.agg #[.int .i64 (Prj.qx K L A S x y), .int .i64 (Prj.qy K L A S x y)], .int .i64 (Prj.qe K L A S x y)]) ∧ Q w w' := by
  unfold Prj.qx Prj.qy Prj.qe
  by_cases hv : Prj.vld x y
  · have nb := Prj.nv_bd K A y h.v.2.2.1 h.v.2.2.2 hv.2.2.1 hv.2.2.2
    have eb := Prj.eu_bd K L x y (by have := hv.1; have := h.v.2.1; omega) (by have := hv.2.1; have := h.v.1; omega)
    have HSu := fun W => scaled_any K L A S _ W h.s0 h.s1 (show -128000000000 ≤ Prj.eu K L x y by omega) (by omega)
    have HSv := fun W => scaled_any K L A S _ W h.s0 h.s1 nb.1 nb.2
    by_cases hp : Prj.pt (Prj.east K L S x y) (Prj.north K A S y)
    · rw [if_pos ⟨hv, hp⟩, if_pos ⟨hv, hp⟩, if_pos ⟨hv, hp⟩]
      obtain ⟨f, c, rfl, b, H⟩ := hE
      rcases hN with ⟨g, c1, rfl, b2, H2⟩ | ⟨g, c1, c2, rfl, b2, H2⟩
      · exact to_ok1 K L A S x y _ _ _ _ f g c c1 w b b2 hv hp (fun w' q => H w' (.of q) x y hv) (fun w' q => H2 w' (.of q) y hv.2.2.1 hv.2.2.2) HSu HSv
      · exact to_ok2 K L A S x y _ _ _ _ f g c c1 c2 w b b2 hv hp (fun w' q => H w' (.of q) x y hv) (fun w' q => H2 w' (.of q) y hv.2.2.1 hv.2.2.2) HSu HSv
    · rw [if_neg (fun h => hp h.2), if_neg (fun h => hp h.2), if_neg (fun h => hp h.2)]
      obtain ⟨f, c, rfl, b, H⟩ := hE
      rcases hN with ⟨g, c1, rfl, b2, H2⟩ | ⟨g, c1, c2, rfl, b2, H2⟩
      · exact to_out1 K L A S x y _ _ _ _ f g c c1 w b b2 hv hp (fun w' q => H w' (.of q) x y hv) (fun w' q => H2 w' (.of q) y hv.2.2.1 hv.2.2.2) HSu HSv
      · exact to_out2 K L A S x y _ _ _ _ f g c c1 c2 w b b2 hv hp (fun w' q => H w' (.of q) x y hv) (fun w' q => H2 w' (.of q) y hv.2.2.1 hv.2.2.2) HSu HSv
  · rw [if_neg (fun h => hv h.1), if_neg (fun h => hv h.1), if_neg (fun h => hv h.1)]
    exact to_bad K L A S x y E N w hv

theorem s6_next {K L A S x y : Int} {w u v : World} (h : (u.cell? ⟨w.heap.size, 0, none⟩ = some (.int .i64 K) ∧ u.cell? ⟨w.heap.size, 1, none⟩ = some (.int .i64 L) ∧ u.cell? ⟨w.heap.size, 2, none⟩ = some (.int .i64 A) ∧ u.cell? ⟨w.heap.size, 3, none⟩ = some (.int .i64 S) ∧ u.cell? ⟨w.heap.size + 1, 0, none⟩ = some (.int .i64 x) ∧ u.cell? ⟨w.heap.size + 1, 1, none⟩ = some (.int .i64 y) ∧ Q w u)) (q : Q u v) : (v.cell? ⟨w.heap.size, 0, none⟩ = some (.int .i64 K) ∧ v.cell? ⟨w.heap.size, 1, none⟩ = some (.int .i64 L) ∧ v.cell? ⟨w.heap.size, 2, none⟩ = some (.int .i64 A) ∧ v.cell? ⟨w.heap.size, 3, none⟩ = some (.int .i64 S) ∧ v.cell? ⟨w.heap.size + 1, 0, none⟩ = some (.int .i64 x) ∧ v.cell? ⟨w.heap.size + 1, 1, none⟩ = some (.int .i64 y) ∧ Q w v) := by
  obtain ⟨h0, h1, h2, h3, h6, h7, h9⟩ := h
  exact ⟨(q.cell (block_lt_of_cell h0)).trans h0, (q.cell (block_lt_of_cell h1)).trans h1, (q.cell (block_lt_of_cell h2)).trans h2, (q.cell (block_lt_of_cell h3)).trans h3, (q.cell (block_lt_of_cell h6)).trans h6, (q.cell (block_lt_of_cell h7)).trans h7, h9.trans q⟩
theorem s6_set {K L A S x y : Int} {w v : World} {u : Value} {i : Nat} (h : (v.cell? ⟨w.heap.size, 0, none⟩ = some (.int .i64 K) ∧ v.cell? ⟨w.heap.size, 1, none⟩ = some (.int .i64 L) ∧ v.cell? ⟨w.heap.size, 2, none⟩ = some (.int .i64 A) ∧ v.cell? ⟨w.heap.size, 3, none⟩ = some (.int .i64 S) ∧ v.cell? ⟨w.heap.size + 1, 0, none⟩ = some (.int .i64 x) ∧ v.cell? ⟨w.heap.size + 1, 1, none⟩ = some (.int .i64 y) ∧ Q w v)) : ((v.setCell ⟨w.heap.size + 2, i, none⟩ u).cell? ⟨w.heap.size, 0, none⟩ = some (.int .i64 K) ∧ (v.setCell ⟨w.heap.size + 2, i, none⟩ u).cell? ⟨w.heap.size, 1, none⟩ = some (.int .i64 L) ∧ (v.setCell ⟨w.heap.size + 2, i, none⟩ u).cell? ⟨w.heap.size, 2, none⟩ = some (.int .i64 A) ∧ (v.setCell ⟨w.heap.size + 2, i, none⟩ u).cell? ⟨w.heap.size, 3, none⟩ = some (.int .i64 S) ∧ (v.setCell ⟨w.heap.size + 2, i, none⟩ u).cell? ⟨w.heap.size + 1, 0, none⟩ = some (.int .i64 x) ∧ (v.setCell ⟨w.heap.size + 2, i, none⟩ u).cell? ⟨w.heap.size + 1, 1, none⟩ = some (.int .i64 y) ∧ Q w (v.setCell ⟨w.heap.size + 2, i, none⟩ u)) := by
  obtain ⟨h0, h1, h2, h3, h6, h7, h9⟩ := h
  exact ⟨set_other h0 (by omega), set_other h1 (by omega), set_other h2 (by omega), set_other h3 (by omega), set_other h6 (by omega), set_other h7 (by omega), h9.setCell (by simp) _⟩
def ToS6 (K L A S x y : Int) (w v : World) : Prop := (v.cell? ⟨w.heap.size, 0, none⟩ = some (.int .i64 K) ∧ v.cell? ⟨w.heap.size, 1, none⟩ = some (.int .i64 L) ∧ v.cell? ⟨w.heap.size, 2, none⟩ = some (.int .i64 A) ∧ v.cell? ⟨w.heap.size, 3, none⟩ = some (.int .i64 S) ∧ v.cell? ⟨w.heap.size + 1, 0, none⟩ = some (.int .i64 x) ∧ v.cell? ⟨w.heap.size + 1, 1, none⟩ = some (.int .i64 y) ∧ Q w v)
theorem s6_q {K L A S x y : Int} {w v : World} (h : (v.cell? ⟨w.heap.size, 0, none⟩ = some (.int .i64 K) ∧ v.cell? ⟨w.heap.size, 1, none⟩ = some (.int .i64 L) ∧ v.cell? ⟨w.heap.size, 2, none⟩ = some (.int .i64 A) ∧ v.cell? ⟨w.heap.size, 3, none⟩ = some (.int .i64 S) ∧ v.cell? ⟨w.heap.size + 1, 0, none⟩ = some (.int .i64 x) ∧ v.cell? ⟨w.heap.size + 1, 1, none⟩ = some (.int .i64 y) ∧ Q w v)) : Q w v := h.2.2.2.2.2.2
theorem s6_start (K L A S x y : Int) (w w1 : World) (q1 : Q (((w.alloc (.cells #[.int .i64 K, .int .i64 L, .int .i64 A, .int .i64 S] 23)).alloc (.cells #[.int .i64 x, .int .i64 y] 29)).alloc (.cells #[.int .i64 0, .int .i64 0] 29)) w1) : ToS6 K L A S x y w w1 := by
  obtain ⟨hc, _⟩ := bcell q1
  refine ⟨?_, ?_, ?_, ?_, ?_, ?_, ((q1.behind _).behind _).behind _⟩
  all_goals (rw [hc _ _ (by simp; try omega)]; simp [go_sem])
theorem t2_start (K L A S x y : Int) (w w1 : World) (q1 : Q (((w.alloc (.cells #[.int .i64 K, .int .i64 L, .int .i64 A, .int .i64 S] 23)).alloc (.cells #[.int .i64 x, .int .i64 y] 29)).alloc (.cells #[.int .i64 0, .int .i64 0] 29)) w1) : w1.heap[w.heap.size + 2]? = some (.cells #[.int .i64 0, .int .i64 0] 29 (0, 0)) :=
  (q1.block (by simp)).trans (by have := heap_alloc_new ((w.alloc (.cells #[.int .i64 K, .int .i64 L, .int .i64 A, .int .i64 S] 23)).alloc (.cells #[.int .i64 x, .int .i64 y] 29)) (.cells #[.int .i64 0, .int .i64 0] 29); simpa using this)

set_option maxHeartbeats 4000000 in
theorem To_err (K L A S x y er : Int) (her : (er != 0) = true) (w : World) (HC : Hid (∀ w, Calls Try.prog 11 #[.agg #[.int .i64 K, .int .i64 L, .int .i64 A, .int .i64 S]] w fun e w' => e = .returned (.int .i64 er) ∧ Q w w')) :
    Calls Try.prog 13 #[.agg #[.int .i64 K, .int .i64 L, .int .i64 A, .int .i64 S], .agg #[.int .i64 x, .int .i64 y]] w fun e w' => e = .returned (.tuple #[.agg #[.int .i64 0, .int .i64 0], .int .i64 er]) ∧ Q w w' := by
  go_enter Try.func13, Try.ntmps13
  go_wp2_with fail
  refine (HC.out _).mono ?_
  rintro e w1 ⟨rfl, q1⟩
  have hb := t2_start K L A S x y w w1 q1
  have m0 : w1.cell? ⟨w.heap.size + 2, 0, none⟩ = some (.int .i64 0) := by rw [cell_of_row w1 _ 0 _ _ _ hb]; rfl
  have m1 : w1.cell? ⟨w.heap.size + 2, 1, none⟩ = some (.int .i64 0) := by rw [cell_of_row w1 _ 1 _ _ _ hb]; rfl
  have f0 := frozen_of_row w1 _ 0 _ _ hb
  have f1 := frozen_of_row w1 _ 1 _ _ hb
  have HB := Lib.hid hb
  clear hb
  go_wp2_with fail
  refine bodyPost_ret (results_cell_tmp rfl _ _ _ _ _ _ _ rfl (heap_setCell_same _ _ _ _ _ _ (heap_setCell_same _ _ _ _ _ _ HB.out)) Try.underlying29 rfl (by kernel_rfl)) rfl ⟨rfl, ?_⟩
  repeat (refine Q.setCell ?_ (by simp; try omega) _)
  exact ((q1.behind _).behind _).behind _

set_option maxHeartbeats 4000000 in
theorem rTo_err (K L A S x y er : Int) (her : (er != 0) = true) (w : World) (HC : Hid (∀ w, Calls Try.prog 12 #[.agg #[.int .i64 K, .int .i64 L, .int .i64 A, .int .i64 S]] w fun e w' => e = .returned (.int .i64 er) ∧ Q w w')) :
    Calls Try.prog 14 #[.agg #[.int .i64 K, .int .i64 L, .int .i64 A, .int .i64 S], .agg #[.int .i64 x, .int .i64 y]] w fun e w' => e = .returned (.tuple #[.agg #[.int .i64 0, .int .i64 0], .int .i64 er]) ∧ Q w w' := by
  go_enter Try.func14, Try.ntmps14
  go_wp2_with fail
  refine (HC.out _).mono ?_
  rintro e w1 ⟨rfl, q1⟩
  have hb := t2_start K L A S x y w w1 q1
  have m0 : w1.cell? ⟨w.heap.size + 2, 0, none⟩ = some (.int .i64 0) := by rw [cell_of_row w1 _ 0 _ _ _ hb]; rfl
  have m1 : w1.cell? ⟨w.heap.size + 2, 1, none⟩ = some (.int .i64 0) := by rw [cell_of_row w1 _ 1 _ _ _ hb]; rfl
  have f0 := frozen_of_row w1 _ 0 _ _ hb
  have f1 := frozen_of_row w1 _ 1 _ _ hb
  have HB := Lib.hid hb
  clear hb
  go_wp2_with fail
  refine bodyPost_ret (results_cell_tmp rfl _ _ _ _ _ _ _ rfl (heap_setCell_same _ _ _ _ _ _ (heap_setCell_same _ _ _ _ _ _ HB.out)) Try.underlying29 rfl (by kernel_rfl)) rfl ⟨rfl, ?_⟩
  repeat (refine Q.setCell ?_ (by simp; try omega) _)
  exact ((q1.behind _).behind _).behind _

set_option maxRecDepth 100000 in
set_option maxHeartbeats 16000000 in
theorem To_ok (K L A S x y : Int) (w : World) (h : Prj.Ok K L A S) :
    Calls Try.prog 13 #[.agg #[.int .i64 K, .int .i64 L, .int .i64 A, .int .i64 S], .agg #[.int .i64 x, .int .i64 y]] w fun e w' => e = .returned (.tuple #[.agg #[.int .i64 (Prj.qx K L A S x y), .int .i64 (Prj.qy K L A S x y)], .int .i64 (Prj.qe K L A S x y)]) ∧ Q w w' := by
  have HC := Lib.hid (fun W => pcheck_yes K L A S W h)
  have HR := Lib.hid (fun W => ruleOf_any K L A S W h)
  have HT := Lib.hid (fun E N base W hE hN => to_any K L A S x y E N base W h hE hN)
  generalize Prj.qx K L A S x y = a at *
  generalize Prj.qy K L A S x y = b at *
  generalize Prj.qe K L A S x y = c at *
  clear h
  go_enter Try.func13, Try.ntmps13
  go_wp2_with fail
  refine (HC.out _).mono ?_
  rintro e w1 ⟨rfl, q1⟩
  have hb := t2_start K L A S x y w w1 q1
  have t0 : w1.drew.cell? ⟨w.heap.size + 2, 0, none⟩ = some (.int .i64 0) := by show w1.cell? _ = _; rw [cell_of_row w1 _ 0 _ _ _ hb]; rfl
  have t1 : w1.drew.cell? ⟨w.heap.size + 2, 1, none⟩ = some (.int .i64 0) := by show w1.cell? _ = _; rw [cell_of_row w1 _ 1 _ _ _ hb]; rfl
  have t2 : w1.drew.frozen? ⟨w.heap.size + 2, 0, none⟩ = false := frozen_of_row w1 _ 0 _ _ hb
  have t3 : w1.drew.frozen? ⟨w.heap.size + 2, 1, none⟩ = false := frozen_of_row w1 _ 1 _ _ hb
  have t4 : w1.drew.heap[w.heap.size + 2]? = some (.cells #[.int .i64 0, .int .i64 0] 29 (0, 0)) := hb
  have HK := Lib.hid (s6_start K L A S x y w w1 q1)
  clear hb q1
  go_wp2_with fail
  go_region_held3 (fun v => (v.cell? ⟨w.heap.size, 0, none⟩ = some (.int .i64 K) ∧ v.cell? ⟨w.heap.size, 1, none⟩ = some (.int .i64 L) ∧ v.cell? ⟨w.heap.size, 2, none⟩ = some (.int .i64 A) ∧ v.cell? ⟨w.heap.size, 3, none⟩ = some (.int .i64 S) ∧ v.cell? ⟨w.heap.size + 1, 0, none⟩ = some (.int .i64 x) ∧ v.cell? ⟨w.heap.size + 1, 1, none⟩ = some (.int .i64 y) ∧ Q w v)) ((first | (exact s6_next HK.out ((Q.refl _).drew)) | (refine s6_next ?_ (by assumption); assumption) | (refine s6_set (s6_set ?_); assumption)))
    (first
      | (go_at_call 23; refine (HR.out _).mono ?_; (rintro e w' ⟨E, N, rfl, hE, hN, q⟩); have HE := Lib.hid hE; have HN := Lib.hid hN; clear hE hN; have t0' := t_next q (b := w.heap.size + 2) (o := 0) (x := .int .i64 0) (by assumption); have t1' := t_next q (b := w.heap.size + 2) (o := 1) (x := .int .i64 0) (by assumption); have t2' := f_next q (b := w.heap.size + 2) (o := 0) (x := .int .i64 0) (by assumption) (by assumption); have t3' := f_next q (b := w.heap.size + 2) (o := 1) (x := .int .i64 0) (by assumption) (by assumption); have t4' := b_next q (b := w.heap.size + 2) (x := (.cells #[.int .i64 0, .int .i64 0] 29 (0, 0))) (by assumption))
      | (go_at_call 22; refine (HT.out _ _ _ _ (Hid.out (by assumption)) (Hid.out (by assumption))).mono ?_; (rintro e w' ⟨rfl, q⟩); have t0' := t_next q (b := w.heap.size + 2) (o := 0) (x := .int .i64 0) (by assumption); have t1' := t_next q (b := w.heap.size + 2) (o := 1) (x := .int .i64 0) (by assumption); have t2' := f_next q (b := w.heap.size + 2) (o := 0) (x := .int .i64 0) (by assumption) (by assumption); have t3' := f_next q (b := w.heap.size + 2) (o := 1) (x := .int .i64 0) (by assumption) (by assumption); have t4' := b_next q (b := w.heap.size + 2) (x := (.cells #[.int .i64 0, .int .i64 0] 29 (0, 0))) (by assumption)))
  all_goals
    have qw := s6_q ‹_›
    go_wp2_with fail
    refine bodyPost_ret (results_cell_tmp rfl _ _ _ _ _ _ _ rfl (heap_setCell_same _ _ _ _ _ _ (heap_setCell_same _ _ _ _ _ _ t4')) Try.underlying29 rfl (by kernel_rfl)) rfl ⟨rfl, qw⟩
end Go.Proofs.Ytmagppjmjjkbjaa
