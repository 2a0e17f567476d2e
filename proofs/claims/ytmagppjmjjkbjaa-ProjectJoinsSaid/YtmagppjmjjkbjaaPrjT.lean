
/- Contracts of project.to and To. -/
import Derived.Test.YtmagppjmjjkbjaaPrjR
namespace Go.Proofs.Ytmagppjmjjkbjaa
open Go.RowKit
set_option linter.unusedVariables false

theorem to_next {K L A S x y : Int} {E N : Value} {w u v : World} (h : (u.cell? ⟨w.heap.size, 0, none⟩ = some (.int .i64 K) ∧ u.cell? ⟨w.heap.size, 1, none⟩ = some (.int .i64 L) ∧ u.cell? ⟨w.heap.size, 2, none⟩ = some (.int .i64 A) ∧ u.cell? ⟨w.heap.size, 3, none⟩ = some (.int .i64 S) ∧ u.cell? ⟨w.heap.size + 1, 0, none⟩ = some (E) ∧ u.cell? ⟨w.heap.size + 1, 1, none⟩ = some (N) ∧ u.cell? ⟨w.heap.size + 2, 0, none⟩ = some (.int .i64 x) ∧ u.cell? ⟨w.heap.size + 2, 1, none⟩ = some (.int .i64 y) ∧ Q w u)) (q : Q u v) : (v.cell? ⟨w.heap.size, 0, none⟩ = some (.int .i64 K) ∧ v.cell? ⟨w.heap.size, 1, none⟩ = some (.int .i64 L) ∧ v.cell? ⟨w.heap.size, 2, none⟩ = some (.int .i64 A) ∧ v.cell? ⟨w.heap.size, 3, none⟩ = some (.int .i64 S) ∧ v.cell? ⟨w.heap.size + 1, 0, none⟩ = some (E) ∧ v.cell? ⟨w.heap.size + 1, 1, none⟩ = some (N) ∧ v.cell? ⟨w.heap.size + 2, 0, none⟩ = some (.int .i64 x) ∧ v.cell? ⟨w.heap.size + 2, 1, none⟩ = some (.int .i64 y) ∧ Q w v) := by
  obtain ⟨h0, h1, h2, h3, h4, h5, h6, h7, h9⟩ := h
  exact ⟨(q.cell (block_lt_of_cell h0)).trans h0, (q.cell (block_lt_of_cell h1)).trans h1, (q.cell (block_lt_of_cell h2)).trans h2, (q.cell (block_lt_of_cell h3)).trans h3, (q.cell (block_lt_of_cell h4)).trans h4, (q.cell (block_lt_of_cell h5)).trans h5, (q.cell (block_lt_of_cell h6)).trans h6, (q.cell (block_lt_of_cell h7)).trans h7, h9.trans q⟩
theorem set_other {v : World} {b o b' o' : Nat} {x u : Value} (h : v.cell? ⟨b, o, none⟩ = some x) (hb : b ≠ b') : (v.setCell ⟨b', o', none⟩ u).cell? ⟨b, o, none⟩ = some x :=
  (World.cell?_setCell_other v ⟨b', o', none⟩ ⟨b, o, none⟩ u (fun e => hb (by injection e with e1; exact e1.symm))).trans h
theorem to_set {K L A S x y : Int} {E N : Value} {w v : World} {u : Value} {i : Nat} (h : (v.cell? ⟨w.heap.size, 0, none⟩ = some (.int .i64 K) ∧ v.cell? ⟨w.heap.size, 1, none⟩ = some (.int .i64 L) ∧ v.cell? ⟨w.heap.size, 2, none⟩ = some (.int .i64 A) ∧ v.cell? ⟨w.heap.size, 3, none⟩ = some (.int .i64 S) ∧ v.cell? ⟨w.heap.size + 1, 0, none⟩ = some (E) ∧ v.cell? ⟨w.heap.size + 1, 1, none⟩ = some (N) ∧ v.cell? ⟨w.heap.size + 2, 0, none⟩ = some (.int .i64 x) ∧ v.cell? ⟨w.heap.size + 2, 1, none⟩ = some (.int .i64 y) ∧ Q w v)) : ((v.setCell ⟨w.heap.size + 3, i, none⟩ u).cell? ⟨w.heap.size, 0, none⟩ = some (.int .i64 K) ∧ (v.setCell ⟨w.heap.size + 3, i, none⟩ u).cell? ⟨w.heap.size, 1, none⟩ = some (.int .i64 L) ∧ (v.setCell ⟨w.heap.size + 3, i, none⟩ u).cell? ⟨w.heap.size, 2, none⟩ = some (.int .i64 A) ∧ (v.setCell ⟨w.heap.size + 3, i, none⟩ u).cell? ⟨w.heap.size, 3, none⟩ = some (.int .i64 S) ∧ (v.setCell ⟨w.heap.size + 3, i, none⟩ u).cell? ⟨w.heap.size + 1, 0, none⟩ = some (E) ∧ (v.setCell ⟨w.heap.size + 3, i, none⟩ u).cell? ⟨w.heap.size + 1, 1, none⟩ = some (N) ∧ (v.setCell ⟨w.heap.size + 3, i, none⟩ u).cell? ⟨w.heap.size + 2, 0, none⟩ = some (.int .i64 x) ∧ (v.setCell ⟨w.heap.size + 3, i, none⟩ u).cell? ⟨w.heap.size + 2, 1, none⟩ = some (.int .i64 y) ∧ Q w (v.setCell ⟨w.heap.size + 3, i, none⟩ u)) := by
  obtain ⟨h0, h1, h2, h3, h4, h5, h6, h7, h9⟩ := h
  exact ⟨set_other h0 (by omega), set_other h1 (by omega), set_other h2 (by omega), set_other h3 (by omega), set_other h4 (by omega), set_other h5 (by omega), set_other h6 (by omega), set_other h7 (by omega), h9.setCell (by simp) _⟩
def ToS (K L A S x y : Int) (E N : Value) (w v : World) : Prop := (v.cell? ⟨w.heap.size, 0, none⟩ = some (.int .i64 K) ∧ v.cell? ⟨w.heap.size, 1, none⟩ = some (.int .i64 L) ∧ v.cell? ⟨w.heap.size, 2, none⟩ = some (.int .i64 A) ∧ v.cell? ⟨w.heap.size, 3, none⟩ = some (.int .i64 S) ∧ v.cell? ⟨w.heap.size + 1, 0, none⟩ = some (E) ∧ v.cell? ⟨w.heap.size + 1, 1, none⟩ = some (N) ∧ v.cell? ⟨w.heap.size + 2, 0, none⟩ = some (.int .i64 x) ∧ v.cell? ⟨w.heap.size + 2, 1, none⟩ = some (.int .i64 y) ∧ Q w v)
theorem to_qw {K L A S x y : Int} {E N : Value} {w v : World} (h : (v.cell? ⟨w.heap.size, 0, none⟩ = some (.int .i64 K) ∧ v.cell? ⟨w.heap.size, 1, none⟩ = some (.int .i64 L) ∧ v.cell? ⟨w.heap.size, 2, none⟩ = some (.int .i64 A) ∧ v.cell? ⟨w.heap.size, 3, none⟩ = some (.int .i64 S) ∧ v.cell? ⟨w.heap.size + 1, 0, none⟩ = some (E) ∧ v.cell? ⟨w.heap.size + 1, 1, none⟩ = some (N) ∧ v.cell? ⟨w.heap.size + 2, 0, none⟩ = some (.int .i64 x) ∧ v.cell? ⟨w.heap.size + 2, 1, none⟩ = some (.int .i64 y) ∧ Q w v)) : Q w v := h.2.2.2.2.2.2.2.2
theorem t_next {u v : World} {b o : Nat} {x : Value} (q : Q u v) (h : u.cell? ⟨b, o, none⟩ = some x) : v.cell? ⟨b, o, none⟩ = some x := (q.cell (block_lt_of_cell h)).trans h
theorem b_next {u v : World} {b : Nat} {x : Obj} (q : Q u v) (h : u.heap[b]? = some x) : v.heap[b]? = some x := (q.block (Array.getElem?_eq_some_iff.1 h).1).trans h
theorem f_next {u v : World} {b o : Nat} {x : Value} (q : Q u v) (h : u.cell? ⟨b, o, none⟩ = some x) (f : u.frozen? ⟨b, o, none⟩ = false) : v.frozen? ⟨b, o, none⟩ = false := (q.frozen (block_lt_of_cell h)).trans f

set_option maxHeartbeats 4000000 in
theorem to_bad (K L A S x y : Int) (E N : Value) (w : World) (h : ¬ Prj.vld x y) :
    Calls Try.prog 22 #[.agg #[.int .i64 K, .int .i64 L, .int .i64 A, .int .i64 S], .agg #[E, N], .agg #[.int .i64 x, .int .i64 y]] w fun e w' => e = .returned (.tuple #[.agg #[.int .i64 0, .int .i64 0], .int .i64 2]) ∧ Q w w' := by
  have HV := Lib.hid (fun W => svalid_no x y W h)
  clear h
  go_enter Try.func22, Try.ntmps22
  go_wp2_with fail
  refine (HV.out _).mono ?_
  rintro e w1 ⟨rfl, q1⟩
  have hb : w1.heap[w.heap.size + 3]? = some (.cells #[.int .i64 0, .int .i64 0] 29 (0, 0)) := (q1.block (by simp)).trans (by have := heap_alloc_new (((w.alloc (.cells #[.int .i64 K, .int .i64 L, .int .i64 A, .int .i64 S] 23)).alloc (.cells #[E, N] 45)).alloc (.cells #[.int .i64 x, .int .i64 y] 29)) (.cells #[.int .i64 0, .int .i64 0] 29); simpa using this)
  have m0 : w1.cell? ⟨w.heap.size + 3, 0, none⟩ = some (.int .i64 0) := by rw [cell_of_row w1 _ 0 _ _ _ hb]; rfl
  have m1 : w1.cell? ⟨w.heap.size + 3, 1, none⟩ = some (.int .i64 0) := by rw [cell_of_row w1 _ 1 _ _ _ hb]; rfl
  have f0 := frozen_of_row w1 _ 0 _ _ hb
  have f1 := frozen_of_row w1 _ 1 _ _ hb
  have HB := Lib.hid hb
  clear hb
  go_wp2_with fail
  refine bodyPost_ret (results_cell_tmp rfl _ _ _ _ _ _ _ rfl (heap_setCell_same _ _ _ _ _ _ (heap_setCell_same _ _ _ _ _ _ HB.out)) Try.underlying29 rfl (by kernel_rfl)) rfl ⟨rfl, ?_⟩
  repeat (refine Q.setCell ?_ (by simp; try omega) _)
  exact (((q1.behind _).behind _).behind _).behind _

set_option maxRecDepth 100000 in
set_option maxHeartbeats 16000000 in
theorem to_ok1 (K L A S x y u v su sv : Int) (ef nf : FuncId) (ec c1 : Value) (w : World) (be : ∀ (args : Array Value) (w : World), (callFunc ef args).run Try.prog w = .ok (.enter ef args) w) (bn : ∀ (args : Array Value) (w : World), (callFunc nf args).run Try.prog w = .ok (.enter nf args) w) (hv : Prj.vld x y) (hp : Prj.pt su sv)
    (HE : Hid (∀ w', Q w w' → Calls Try.prog ef #[.int .i64 x, .int .i64 y, ec] w' fun e w'' => e = .returned (.int .i64 u) ∧ Q w' w''))
    (HN : Hid (∀ w', Q w w' → Calls Try.prog nf #[.int .i64 y, c1] w' fun e w'' => e = .returned (.int .i64 v) ∧ Q w' w''))
    (HSu : Hid (∀ w, Calls Try.prog 30 #[.agg #[.int .i64 K, .int .i64 L, .int .i64 A, .int .i64 S], .int .i64 u] w fun e w' => e = .returned (.int .i64 su) ∧ Q w w'))
    (HSv : Hid (∀ w, Calls Try.prog 30 #[.agg #[.int .i64 K, .int .i64 L, .int .i64 A, .int .i64 S], .int .i64 v] w fun e w' => e = .returned (.int .i64 sv) ∧ Q w w')) :
    Calls Try.prog 22 #[.agg #[.int .i64 K, .int .i64 L, .int .i64 A, .int .i64 S], .agg #[.func (Fn.func ef) #[] #[ec], .func (Fn.func nf) #[] #[c1]], .agg #[.int .i64 x, .int .i64 y]] w fun e w' => e = .returned (.tuple #[.agg #[.int .i64 su, .int .i64 sv], .int .i64 0]) ∧ Q w w' := by
  have HV := Lib.hid (fun W => svalid_yes x y W hv)
  have HP := Lib.hid (fun W => pvalid_yes su sv W hp)
  clear hv hp
  go_enter Try.func22, Try.ntmps22
  go_wp2_with fail
  refine (HV.out _).mono ?_
  rintro e w1 ⟨rfl, q1⟩
  have hb : w1.heap[w.heap.size + 3]? = some (.cells #[.int .i64 0, .int .i64 0] 29 (0, 0)) := (q1.block (by simp)).trans (by have := heap_alloc_new (((w.alloc (.cells #[.int .i64 K, .int .i64 L, .int .i64 A, .int .i64 S] 23)).alloc (.cells #[.func (Fn.func ef) #[] #[ec], .func (Fn.func nf) #[] #[c1]] 45)).alloc (.cells #[.int .i64 x, .int .i64 y] 29)) (.cells #[.int .i64 0, .int .i64 0] 29); simpa using this)
  have t0 : w1.drew.cell? ⟨w.heap.size + 3, 0, none⟩ = some (.int .i64 0) := by show w1.cell? _ = _; rw [cell_of_row w1 _ 0 _ _ _ hb]; rfl
  have t1 : w1.drew.cell? ⟨w.heap.size + 3, 1, none⟩ = some (.int .i64 0) := by show w1.cell? _ = _; rw [cell_of_row w1 _ 1 _ _ _ hb]; rfl
  have t2 : w1.drew.frozen? ⟨w.heap.size + 3, 0, none⟩ = false := frozen_of_row w1 _ 0 _ _ hb
  have t3 : w1.drew.frozen? ⟨w.heap.size + 3, 1, none⟩ = false := frozen_of_row w1 _ 1 _ _ hb
  have HK : Hid (ToS K L A S x y (.func (Fn.func ef) #[] #[ec]) (.func (Fn.func nf) #[] #[c1]) w w1) := by
    obtain ⟨hc, _⟩ := bcell q1
    refine ⟨?_, ?_, ?_, ?_, ?_, ?_, ?_, ?_, (((q1.behind _).behind _).behind _).behind _⟩
    all_goals (rw [hc _ _ (by simp; try omega)]; simp [go_sem])
  have t4 : w1.drew.heap[w.heap.size + 3]? = some (.cells #[.int .i64 0, .int .i64 0] 29 (0, 0)) := hb
  clear hb
  go_wp2_with fail
  go_region_held3 (fun v => (v.cell? ⟨w.heap.size, 0, none⟩ = some (.int .i64 K) ∧ v.cell? ⟨w.heap.size, 1, none⟩ = some (.int .i64 L) ∧ v.cell? ⟨w.heap.size, 2, none⟩ = some (.int .i64 A) ∧ v.cell? ⟨w.heap.size, 3, none⟩ = some (.int .i64 S) ∧ v.cell? ⟨w.heap.size + 1, 0, none⟩ = some (.func (Fn.func ef) #[] #[ec]) ∧ v.cell? ⟨w.heap.size + 1, 1, none⟩ = some (.func (Fn.func nf) #[] #[c1]) ∧ v.cell? ⟨w.heap.size + 2, 0, none⟩ = some (.int .i64 x) ∧ v.cell? ⟨w.heap.size + 2, 1, none⟩ = some (.int .i64 y) ∧ Q w v)) ((first | (exact to_next HK.out ((Q.refl _).drew)) | (refine to_next ?_ (by assumption); assumption) | (refine to_set (to_set ?_); assumption)))
    (first
      | (go_at_call 30; (first | (with_reducible refine (HSu.out _).mono ?_) | (with_reducible refine (HSv.out _).mono ?_)); (rintro e w' ⟨rfl, q⟩); have t0' := t_next q (b := w.heap.size + 3) (o := 0) (x := .int .i64 0) (by assumption); have t1' := t_next q (b := w.heap.size + 3) (o := 1) (x := .int .i64 0) (by assumption); have t2' := f_next q (b := w.heap.size + 3) (o := 0) (x := .int .i64 0) (by assumption) (by assumption); have t3' := f_next q (b := w.heap.size + 3) (o := 1) (x := .int .i64 0) (by assumption) (by assumption); have t4' := b_next q (b := w.heap.size + 3) (x := .cells #[.int .i64 0, .int .i64 0] 29 (0, 0)) (by assumption))
      | ((first | (with_reducible refine (HE.out _ ?_).mono ?_) | (with_reducible refine (HN.out _ ?_).mono ?_)); (simp only [*]); (rintro e w' ⟨rfl, q⟩); have t0' := t_next q (b := w.heap.size + 3) (o := 0) (x := .int .i64 0) (by assumption); have t1' := t_next q (b := w.heap.size + 3) (o := 1) (x := .int .i64 0) (by assumption); have t2' := f_next q (b := w.heap.size + 3) (o := 0) (x := .int .i64 0) (by assumption) (by assumption); have t3' := f_next q (b := w.heap.size + 3) (o := 1) (x := .int .i64 0) (by assumption) (by assumption); have t4' := b_next q (b := w.heap.size + 3) (x := .cells #[.int .i64 0, .int .i64 0] 29 (0, 0)) (by assumption)))
  all_goals
    have qw := to_qw ‹_›
    have hW := heap_setCell_same _ _ 1 _ _ (.int .i64 sv) (heap_setCell_same _ _ 0 _ _ (.int .i64 su) t4')
    have HW := Lib.hid hW
    clear hW
    go_wp2_with fail
    refine (HP.out _).mono ?_
    rintro e w9 ⟨rfl, q9⟩
    have hb9 := b_next q9 HW.out
    have m0 : w9.cell? ⟨w.heap.size + 3, 0, none⟩ = some (.int .i64 su) := by rw [cell_of_row w9 _ 0 _ _ _ hb9]; rfl
    have m1 : w9.cell? ⟨w.heap.size + 3, 1, none⟩ = some (.int .i64 sv) := by rw [cell_of_row w9 _ 1 _ _ _ hb9]; rfl
    have f0 := frozen_of_row w9 _ 0 _ _ hb9
    have f1 := frozen_of_row w9 _ 1 _ _ hb9
    have HB := Lib.hid hb9
    clear hb9
    go_wp2_with fail
    refine bodyPost_ret (results_cell_tmp rfl _ _ _ _ _ _ _ rfl (heap_setCell_same _ _ _ _ _ _ (heap_setCell_same _ _ _ _ _ _ HB.out)) Try.underlying29 rfl (by kernel_rfl)) rfl ⟨rfl, ?_⟩
    repeat (refine Q.setCell ?_ (by simp; try omega) _)
    exact qw.trans q9

set_option maxRecDepth 100000 in
set_option maxHeartbeats 16000000 in
theorem to_out1 (K L A S x y u v su sv : Int) (ef nf : FuncId) (ec c1 : Value) (w : World) (be : ∀ (args : Array Value) (w : World), (callFunc ef args).run Try.prog w = .ok (.enter ef args) w) (bn : ∀ (args : Array Value) (w : World), (callFunc nf args).run Try.prog w = .ok (.enter nf args) w) (hv : Prj.vld x y) (hp : ¬ Prj.pt su sv)
    (HE : Hid (∀ w', Q w w' → Calls Try.prog ef #[.int .i64 x, .int .i64 y, ec] w' fun e w'' => e = .returned (.int .i64 u) ∧ Q w' w''))
    (HN : Hid (∀ w', Q w w' → Calls Try.prog nf #[.int .i64 y, c1] w' fun e w'' => e = .returned (.int .i64 v) ∧ Q w' w''))
    (HSu : Hid (∀ w, Calls Try.prog 30 #[.agg #[.int .i64 K, .int .i64 L, .int .i64 A, .int .i64 S], .int .i64 u] w fun e w' => e = .returned (.int .i64 su) ∧ Q w w'))
    (HSv : Hid (∀ w, Calls Try.prog 30 #[.agg #[.int .i64 K, .int .i64 L, .int .i64 A, .int .i64 S], .int .i64 v] w fun e w' => e = .returned (.int .i64 sv) ∧ Q w w')) :
    Calls Try.prog 22 #[.agg #[.int .i64 K, .int .i64 L, .int .i64 A, .int .i64 S], .agg #[.func (Fn.func ef) #[] #[ec], .func (Fn.func nf) #[] #[c1]], .agg #[.int .i64 x, .int .i64 y]] w fun e w' => e = .returned (.tuple #[.agg #[.int .i64 0, .int .i64 0], .int .i64 2]) ∧ Q w w' := by
  have HV := Lib.hid (fun W => svalid_yes x y W hv)
  have HP := Lib.hid (fun W => pvalid_no su sv W hp)
  clear hv hp
  go_enter Try.func22, Try.ntmps22
  go_wp2_with fail
  refine (HV.out _).mono ?_
  rintro e w1 ⟨rfl, q1⟩
  have hb : w1.heap[w.heap.size + 3]? = some (.cells #[.int .i64 0, .int .i64 0] 29 (0, 0)) := (q1.block (by simp)).trans (by have := heap_alloc_new (((w.alloc (.cells #[.int .i64 K, .int .i64 L, .int .i64 A, .int .i64 S] 23)).alloc (.cells #[.func (Fn.func ef) #[] #[ec], .func (Fn.func nf) #[] #[c1]] 45)).alloc (.cells #[.int .i64 x, .int .i64 y] 29)) (.cells #[.int .i64 0, .int .i64 0] 29); simpa using this)
  have t0 : w1.drew.cell? ⟨w.heap.size + 3, 0, none⟩ = some (.int .i64 0) := by show w1.cell? _ = _; rw [cell_of_row w1 _ 0 _ _ _ hb]; rfl
  have t1 : w1.drew.cell? ⟨w.heap.size + 3, 1, none⟩ = some (.int .i64 0) := by show w1.cell? _ = _; rw [cell_of_row w1 _ 1 _ _ _ hb]; rfl
  have t2 : w1.drew.frozen? ⟨w.heap.size + 3, 0, none⟩ = false := frozen_of_row w1 _ 0 _ _ hb
  have t3 : w1.drew.frozen? ⟨w.heap.size + 3, 1, none⟩ = false := frozen_of_row w1 _ 1 _ _ hb
  have HK : Hid (ToS K L A S x y (.func (Fn.func ef) #[] #[ec]) (.func (Fn.func nf) #[] #[c1]) w w1) := by
    obtain ⟨hc, _⟩ := bcell q1
    refine ⟨?_, ?_, ?_, ?_, ?_, ?_, ?_, ?_, (((q1.behind _).behind _).behind _).behind _⟩
    all_goals (rw [hc _ _ (by simp; try omega)]; simp [go_sem])
  have t4 : w1.drew.heap[w.heap.size + 3]? = some (.cells #[.int .i64 0, .int .i64 0] 29 (0, 0)) := hb
  clear hb
  go_wp2_with fail
  go_region_held3 (fun v => (v.cell? ⟨w.heap.size, 0, none⟩ = some (.int .i64 K) ∧ v.cell? ⟨w.heap.size, 1, none⟩ = some (.int .i64 L) ∧ v.cell? ⟨w.heap.size, 2, none⟩ = some (.int .i64 A) ∧ v.cell? ⟨w.heap.size, 3, none⟩ = some (.int .i64 S) ∧ v.cell? ⟨w.heap.size + 1, 0, none⟩ = some (.func (Fn.func ef) #[] #[ec]) ∧ v.cell? ⟨w.heap.size + 1, 1, none⟩ = some (.func (Fn.func nf) #[] #[c1]) ∧ v.cell? ⟨w.heap.size + 2, 0, none⟩ = some (.int .i64 x) ∧ v.cell? ⟨w.heap.size + 2, 1, none⟩ = some (.int .i64 y) ∧ Q w v)) ((first | (exact to_next HK.out ((Q.refl _).drew)) | (refine to_next ?_ (by assumption); assumption) | (refine to_set (to_set ?_); assumption)))
    (first
      | (go_at_call 30; (first | (with_reducible refine (HSu.out _).mono ?_) | (with_reducible refine (HSv.out _).mono ?_)); (rintro e w' ⟨rfl, q⟩); have t0' := t_next q (b := w.heap.size + 3) (o := 0) (x := .int .i64 0) (by assumption); have t1' := t_next q (b := w.heap.size + 3) (o := 1) (x := .int .i64 0) (by assumption); have t2' := f_next q (b := w.heap.size + 3) (o := 0) (x := .int .i64 0) (by assumption) (by assumption); have t3' := f_next q (b := w.heap.size + 3) (o := 1) (x := .int .i64 0) (by assumption) (by assumption); have t4' := b_next q (b := w.heap.size + 3) (x := .cells #[.int .i64 0, .int .i64 0] 29 (0, 0)) (by assumption))
      | ((first | (with_reducible refine (HE.out _ ?_).mono ?_) | (with_reducible refine (HN.out _ ?_).mono ?_)); (simp only [*]); (rintro e w' ⟨rfl, q⟩); have t0' := t_next q (b := w.heap.size + 3) (o := 0) (x := .int .i64 0) (by assumption); have t1' := t_next q (b := w.heap.size + 3) (o := 1) (x := .int .i64 0) (by assumption); have t2' := f_next q (b := w.heap.size + 3) (o := 0) (x := .int .i64 0) (by assumption) (by assumption); have t3' := f_next q (b := w.heap.size + 3) (o := 1) (x := .int .i64 0) (by assumption) (by assumption); have t4' := b_next q (b := w.heap.size + 3) (x := .cells #[.int .i64 0, .int .i64 0] 29 (0, 0)) (by assumption)))
  all_goals
    have qw := to_qw ‹_›
    have hW := heap_setCell_same _ _ 1 _ _ (.int .i64 sv) (heap_setCell_same _ _ 0 _ _ (.int .i64 su) t4')
    have HW := Lib.hid hW
    clear hW
    go_wp2_with fail
    refine (HP.out _).mono ?_
    rintro e w9 ⟨rfl, q9⟩
    have hb9 := b_next q9 HW.out
    have m0 : w9.cell? ⟨w.heap.size + 3, 0, none⟩ = some (.int .i64 su) := by rw [cell_of_row w9 _ 0 _ _ _ hb9]; rfl
    have m1 : w9.cell? ⟨w.heap.size + 3, 1, none⟩ = some (.int .i64 sv) := by rw [cell_of_row w9 _ 1 _ _ _ hb9]; rfl
    have f0 := frozen_of_row w9 _ 0 _ _ hb9
    have f1 := frozen_of_row w9 _ 1 _ _ hb9
    have HB := Lib.hid hb9
    clear hb9
    go_wp2_with fail
    refine bodyPost_ret (results_cell_tmp rfl _ _ _ _ _ _ _ rfl (heap_setCell_same _ _ _ _ _ _ (heap_setCell_same _ _ _ _ _ _ HB.out)) Try.underlying29 rfl (by kernel_rfl)) rfl ⟨rfl, ?_⟩
    repeat (refine Q.setCell ?_ (by simp; try omega) _)
    exact qw.trans q9

set_option maxRecDepth 100000 in
set_option maxHeartbeats 16000000 in
theorem to_ok2 (K L A S x y u v su sv : Int) (ef nf : FuncId) (ec c1 c2 : Value) (w : World) (be : ∀ (args : Array Value) (w : World), (callFunc ef args).run Try.prog w = .ok (.enter ef args) w) (bn : ∀ (args : Array Value) (w : World), (callFunc nf args).run Try.prog w = .ok (.enter nf args) w) (hv : Prj.vld x y) (hp : Prj.pt su sv)
    (HE : Hid (∀ w', Q w w' → Calls Try.prog ef #[.int .i64 x, .int .i64 y, ec] w' fun e w'' => e = .returned (.int .i64 u) ∧ Q w' w''))
    (HN : Hid (∀ w', Q w w' → Calls Try.prog nf #[.int .i64 y, c1, c2] w' fun e w'' => e = .returned (.int .i64 v) ∧ Q w' w''))
    (HSu : Hid (∀ w, Calls Try.prog 30 #[.agg #[.int .i64 K, .int .i64 L, .int .i64 A, .int .i64 S], .int .i64 u] w fun e w' => e = .returned (.int .i64 su) ∧ Q w w'))
    (HSv : Hid (∀ w, Calls Try.prog 30 #[.agg #[.int .i64 K, .int .i64 L, .int .i64 A, .int .i64 S], .int .i64 v] w fun e w' => e = .returned (.int .i64 sv) ∧ Q w w')) :
    Calls Try.prog 22 #[.agg #[.int .i64 K, .int .i64 L, .int .i64 A, .int .i64 S], .agg #[.func (Fn.func ef) #[] #[ec], .func (Fn.func nf) #[] #[c1, c2]], .agg #[.int .i64 x, .int .i64 y]] w fun e w' => e = .returned (.tuple #[.agg #[.int .i64 su, .int .i64 sv], .int .i64 0]) ∧ Q w w' := by
  have HV := Lib.hid (fun W => svalid_yes x y W hv)
  have HP := Lib.hid (fun W => pvalid_yes su sv W hp)
  clear hv hp
  go_enter Try.func22, Try.ntmps22
  go_wp2_with fail
  refine (HV.out _).mono ?_
  rintro e w1 ⟨rfl, q1⟩
  have hb : w1.heap[w.heap.size + 3]? = some (.cells #[.int .i64 0, .int .i64 0] 29 (0, 0)) := (q1.block (by simp)).trans (by have := heap_alloc_new (((w.alloc (.cells #[.int .i64 K, .int .i64 L, .int .i64 A, .int .i64 S] 23)).alloc (.cells #[.func (Fn.func ef) #[] #[ec], .func (Fn.func nf) #[] #[c1, c2]] 45)).alloc (.cells #[.int .i64 x, .int .i64 y] 29)) (.cells #[.int .i64 0, .int .i64 0] 29); simpa using this)
  have t0 : w1.drew.cell? ⟨w.heap.size + 3, 0, none⟩ = some (.int .i64 0) := by show w1.cell? _ = _; rw [cell_of_row w1 _ 0 _ _ _ hb]; rfl
  have t1 : w1.drew.cell? ⟨w.heap.size + 3, 1, none⟩ = some (.int .i64 0) := by show w1.cell? _ = _; rw [cell_of_row w1 _ 1 _ _ _ hb]; rfl
  have t2 : w1.drew.frozen? ⟨w.heap.size + 3, 0, none⟩ = false := frozen_of_row w1 _ 0 _ _ hb
  have t3 : w1.drew.frozen? ⟨w.heap.size + 3, 1, none⟩ = false := frozen_of_row w1 _ 1 _ _ hb
  have HK : Hid (ToS K L A S x y (.func (Fn.func ef) #[] #[ec]) (.func (Fn.func nf) #[] #[c1, c2]) w w1) := by
    obtain ⟨hc, _⟩ := bcell q1
    refine ⟨?_, ?_, ?_, ?_, ?_, ?_, ?_, ?_, (((q1.behind _).behind _).behind _).behind _⟩
    all_goals (rw [hc _ _ (by simp; try omega)]; simp [go_sem])
  have t4 : w1.drew.heap[w.heap.size + 3]? = some (.cells #[.int .i64 0, .int .i64 0] 29 (0, 0)) := hb
  clear hb
  go_wp2_with fail
  go_region_held3 (fun v => (v.cell? ⟨w.heap.size, 0, none⟩ = some (.int .i64 K) ∧ v.cell? ⟨w.heap.size, 1, none⟩ = some (.int .i64 L) ∧ v.cell? ⟨w.heap.size, 2, none⟩ = some (.int .i64 A) ∧ v.cell? ⟨w.heap.size, 3, none⟩ = some (.int .i64 S) ∧ v.cell? ⟨w.heap.size + 1, 0, none⟩ = some (.func (Fn.func ef) #[] #[ec]) ∧ v.cell? ⟨w.heap.size + 1, 1, none⟩ = some (.func (Fn.func nf) #[] #[c1, c2]) ∧ v.cell? ⟨w.heap.size + 2, 0, none⟩ = some (.int .i64 x) ∧ v.cell? ⟨w.heap.size + 2, 1, none⟩ = some (.int .i64 y) ∧ Q w v)) ((first | (exact to_next HK.out ((Q.refl _).drew)) | (refine to_next ?_ (by assumption); assumption) | (refine to_set (to_set ?_); assumption)))
    (first
      | (go_at_call 30; (first | (with_reducible refine (HSu.out _).mono ?_) | (with_reducible refine (HSv.out _).mono ?_)); (rintro e w' ⟨rfl, q⟩); have t0' := t_next q (b := w.heap.size + 3) (o := 0) (x := .int .i64 0) (by assumption); have t1' := t_next q (b := w.heap.size + 3) (o := 1) (x := .int .i64 0) (by assumption); have t2' := f_next q (b := w.heap.size + 3) (o := 0) (x := .int .i64 0) (by assumption) (by assumption); have t3' := f_next q (b := w.heap.size + 3) (o := 1) (x := .int .i64 0) (by assumption) (by assumption); have t4' := b_next q (b := w.heap.size + 3) (x := .cells #[.int .i64 0, .int .i64 0] 29 (0, 0)) (by assumption))
      | ((first | (with_reducible refine (HE.out _ ?_).mono ?_) | (with_reducible refine (HN.out _ ?_).mono ?_)); (simp only [*]); (rintro e w' ⟨rfl, q⟩); have t0' := t_next q (b := w.heap.size + 3) (o := 0) (x := .int .i64 0) (by assumption); have t1' := t_next q (b := w.heap.size + 3) (o := 1) (x := .int .i64 0) (by assumption); have t2' := f_next q (b := w.heap.size + 3) (o := 0) (x := .int .i64 0) (by assumption) (by assumption); have t3' := f_next q (b := w.heap.size + 3) (o := 1) (x := .int .i64 0) (by assumption) (by assumption); have t4' := b_next q (b := w.heap.size + 3) (x := .cells #[.int .i64 0, .int .i64 0] 29 (0, 0)) (by assumption)))
  all_goals
    have qw := to_qw ‹_›
    have hW := heap_setCell_same _ _ 1 _ _ (.int .i64 sv) (heap_setCell_same _ _ 0 _ _ (.int .i64 su) t4')
    have HW := Lib.hid hW
    clear hW
    go_wp2_with fail
    refine (HP.out _).mono ?_
    rintro e w9 ⟨rfl, q9⟩
    have hb9 := b_next q9 HW.out
    have m0 : w9.cell? ⟨w.heap.size + 3, 0, none⟩ = some (.int .i64 su) := by rw [cell_of_row w9 _ 0 _ _ _ hb9]; rfl
    have m1 : w9.cell? ⟨w.heap.size + 3, 1, none⟩ = some (.int .i64 sv) := by rw [cell_of_row w9 _ 1 _ _ _ hb9]; rfl
    have f0 := frozen_of_row w9 _ 0 _ _ hb9
    have f1 := frozen_of_row w9 _ 1 _ _ hb9
    have HB := Lib.hid hb9
    clear hb9
    go_wp2_with fail
    refine bodyPost_ret (results_cell_tmp rfl _ _ _ _ _ _ _ rfl (heap_setCell_same _ _ _ _ _ _ (heap_setCell_same _ _ _ _ _ _ HB.out)) Try.underlying29 rfl (by kernel_rfl)) rfl ⟨rfl, ?_⟩
    repeat (refine Q.setCell ?_ (by simp; try omega) _)
    exact qw.trans q9

set_option maxRecDepth 100000 in
set_option maxHeartbeats 16000000 in
theorem to_out2 (K L A S x y u v su sv : Int) (ef nf : FuncId) (ec c1 c2 : Value) (w : World) (be : ∀ (args : Array Value) (w : World), (callFunc ef args).run Try.prog w = .ok (.enter ef args) w) (bn : ∀ (args : Array Value) (w : World), (callFunc nf args).run Try.prog w = .ok (.enter nf args) w) (hv : Prj.vld x y) (hp : ¬ Prj.pt su sv)
    (HE : Hid (∀ w', Q w w' → Calls Try.prog ef #[.int .i64 x, .int .i64 y, ec] w' fun e w'' => e = .returned (.int .i64 u) ∧ Q w' w''))
    (HN : Hid (∀ w', Q w w' → Calls Try.prog nf #[.int .i64 y, c1, c2] w' fun e w'' => e = .returned (.int .i64 v) ∧ Q w' w''))
    (HSu : Hid (∀ w, Calls Try.prog 30 #[.agg #[.int .i64 K, .int .i64 L, .int .i64 A, .int .i64 S], .int .i64 u] w fun e w' => e = .returned (.int .i64 su) ∧ Q w w'))
    (HSv : Hid (∀ w, Calls Try.prog 30 #[.agg #[.int .i64 K, .int .i64 L, .int .i64 A, .int .i64 S], .int .i64 v] w fun e w' => e = .returned (.int .i64 sv) ∧ Q w w')) :
    Calls Try.prog 22 #[.agg #[.int .i64 K, .int .i64 L, .int .i64 A, .int .i64 S], .agg #[.func (Fn.func ef) #[] #[ec], .func (Fn.func nf) #[] #[c1, c2]], .agg #[.int .i64 x, .int .i64 y]] w fun e w' => e = .returned (.tuple #[.agg #[.int .i64 0, .int .i64 0], .int .i64 2]) ∧ Q w w' := by
  have HV := Lib.hid (fun W => svalid_yes x y W hv)
  have HP := Lib.hid (fun W => pvalid_no su sv W hp)
  clear hv hp
  go_enter Try.func22, Try.ntmps22
  go_wp2_with fail
  refine (HV.out _).mono ?_
  rintro e w1 ⟨rfl, q1⟩
  have hb : w1.heap[w.heap.size + 3]? = some (.cells #[.int .i64 0, .int .i64 0] 29 (0, 0)) := (q1.block (by simp)).trans (by have := heap_alloc_new (((w.alloc (.cells #[.int .i64 K, .int .i64 L, .int .i64 A, .int .i64 S] 23)).alloc (.cells #[.func (Fn.func ef) #[] #[ec], .func (Fn.func nf) #[] #[c1, c2]] 45)).alloc (.cells #[.int .i64 x, .int .i64 y] 29)) (.cells #[.int .i64 0, .int .i64 0] 29); simpa using this)
  have t0 : w1.drew.cell? ⟨w.heap.size + 3, 0, none⟩ = some (.int .i64 0) := by show w1.cell? _ = _; rw [cell_of_row w1 _ 0 _ _ _ hb]; rfl
  have t1 : w1.drew.cell? ⟨w.heap.size + 3, 1, none⟩ = some (.int .i64 0) := by show w1.cell? _ = _; rw [cell_of_row w1 _ 1 _ _ _ hb]; rfl
  have t2 : w1.drew.frozen? ⟨w.heap.size + 3, 0, none⟩ = false := frozen_of_row w1 _ 0 _ _ hb
  have t3 : w1.drew.frozen? ⟨w.heap.size + 3, 1, none⟩ = false := frozen_of_row w1 _ 1 _ _ hb
  have HK : Hid (ToS K L A S x y (.func (Fn.func ef) #[] #[ec]) (.func (Fn.func nf) #[] #[c1, c2]) w w1) := by
    obtain ⟨hc, _⟩ := bcell q1
    refine ⟨?_, ?_, ?_, ?_, ?_, ?_, ?_, ?_, (((q1.behind _).behind _).behind _).behind _⟩
    all_goals (rw [hc _ _ (by simp; try omega)]; simp [go_sem])
  have t4 : w1.drew.heap[w.heap.size + 3]? = some (.cells #[.int .i64 0, .int .i64 0] 29 (0, 0)) := hb
  clear hb
  go_wp2_with fail
  go_region_held3 (fun v => (v.cell? ⟨w.heap.size, 0, none⟩ = some (.int .i64 K) ∧ v.cell? ⟨w.heap.size, 1, none⟩ = some (.int .i64 L) ∧ v.cell? ⟨w.heap.size, 2, none⟩ = some (.int .i64 A) ∧ v.cell? ⟨w.heap.size, 3, none⟩ = some (.int .i64 S) ∧ v.cell? ⟨w.heap.size + 1, 0, none⟩ = some (.func (Fn.func ef) #[] #[ec]) ∧ v.cell? ⟨w.heap.size + 1, 1, none⟩ = some (.func (Fn.func nf) #[] #[c1, c2]) ∧ v.cell? ⟨w.heap.size + 2, 0, none⟩ = some (.int .i64 x) ∧ v.cell? ⟨w.heap.size + 2, 1, none⟩ = some (.int .i64 y) ∧ Q w v)) ((first | (exact to_next HK.out ((Q.refl _).drew)) | (refine to_next ?_ (by assumption); assumption) | (refine to_set (to_set ?_); assumption)))
    (first
      | (go_at_call 30; (first | (with_reducible refine (HSu.out _).mono ?_) | (with_reducible refine (HSv.out _).mono ?_)); (rintro e w' ⟨rfl, q⟩); have t0' := t_next q (b := w.heap.size + 3) (o := 0) (x := .int .i64 0) (by assumption); have t1' := t_next q (b := w.heap.size + 3) (o := 1) (x := .int .i64 0) (by assumption); have t2' := f_next q (b := w.heap.size + 3) (o := 0) (x := .int .i64 0) (by assumption) (by assumption); have t3' := f_next q (b := w.heap.size + 3) (o := 1) (x := .int .i64 0) (by assumption) (by assumption); have t4' := b_next q (b := w.heap.size + 3) (x := .cells #[.int .i64 0, .int .i64 0] 29 (0, 0)) (by assumption))
      | ((first | (with_reducible refine (HE.out _ ?_).mono ?_) | (with_reducible refine (HN.out _ ?_).mono ?_)); (simp only [*]); (rintro e w' ⟨rfl, q⟩); have t0' := t_next q (b := w.heap.size + 3) (o := 0) (x := .int .i64 0) (by assumption); have t1' := t_next q (b := w.heap.size + 3) (o := 1) (x := .int .i64 0) (by assumption); have t2' := f_next q (b := w.heap.size + 3) (o := 0) (x := .int .i64 0) (by assumption) (by assumption); have t3' := f_next q (b := w.heap.size + 3) (o := 1) (x := .int .i64 0) (by assumption) (by assumption); have t4' := b_next q (b := w.heap.size + 3) (x := .cells #[.int .i64 0, .int .i64 0] 29 (0, 0)) (by assumption)))
  all_goals
    have qw := to_qw ‹_›
    have hW := heap_setCell_same _ _ 1 _ _ (.int .i64 sv) (heap_setCell_same _ _ 0 _ _ (.int .i64 su) t4')
    have HW := Lib.hid hW
    clear hW
    go_wp2_with fail
    refine (HP.out _).mono ?_
    rintro e w9 ⟨rfl, q9⟩
    have hb9 := b_next q9 HW.out
    have m0 : w9.cell? ⟨w.heap.size + 3, 0, none⟩ = some (.int .i64 su) := by rw [cell_of_row w9 _ 0 _ _ _ hb9]; rfl
    have m1 : w9.cell? ⟨w.heap.size + 3, 1, none⟩ = some (.int .i64 sv) := by rw [cell_of_row w9 _ 1 _ _ _ hb9]; rfl
    have f0 := frozen_of_row w9 _ 0 _ _ hb9
    have f1 := frozen_of_row w9 _ 1 _ _ hb9
    have HB := Lib.hid hb9
    clear hb9
    go_wp2_with fail
    refine bodyPost_ret (results_cell_tmp rfl _ _ _ _ _ _ _ rfl (heap_setCell_same _ _ _ _ _ _ (heap_setCell_same _ _ _ _ _ _ HB.out)) Try.underlying29 rfl (by kernel_rfl)) rfl ⟨rfl, ?_⟩
    repeat (refine Q.setCell ?_ (by simp; try omega) _)
    exact qw.trans q9

end Go.Proofs.Ytmagppjmjjkbjaa
