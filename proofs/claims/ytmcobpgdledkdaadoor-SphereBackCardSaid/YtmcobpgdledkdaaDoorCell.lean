/- Cells and blocks behind calls; results that lie in a block of their own. -/
import Derived.Test.YtmcobpgdledkdaaDoorBase
namespace Go.Proofs.YtmcobpgdledkdaaDoor
open Go.RowKit
set_option linter.unusedVariables false

/-- One result, a struct in a block of its own. -/
theorem results_cell1 {P : Program} {fn : Func} {p : Tmp} {ty : TypeId} (h : fn.results = #[.cell p ty]) (tmps : Array Value) (w : World) (g : Nat) (T : TypeId) (cs : Array Value) (fr : Nat × Nat) (d : TypeDesc)
    (hp : tmps.getD p undef = .pointer (some ⟨g, 0, none⟩)) (hg : w.heap[g]? = some (.cells cs T fr))
    (hu : P.underlying ty = some d) (hd : (match d with | .struct _ | .array _ _ => true | _ => false) = true) (hi : (P.info? ty).map (·.size) = some cs.size) :
    (results fn tmps).run P w = .ok (.agg cs) w := by
  have hp' : tmps[p]?.getD undef = .pointer (some ⟨g, 0, none⟩) := by simpa using hp
  simp [results, h, hp', asAddr, run_loadVar_row w g T ty cs fr d hg hu hd hi]
theorem bcell {W w1 : World} (hb : Q W w1) : (∀ b o, b < W.heap.size → w1.cell? ⟨b, o, none⟩ = W.cell? ⟨b, o, none⟩) ∧ (∀ b o, b < W.heap.size → w1.frozen? ⟨b, o, none⟩ = W.frozen? ⟨b, o, none⟩) := ⟨fun b o h => hb.cell h, fun b o h => hb.frozen h⟩
theorem set_other {v : World} {b o b' o' : Nat} {x u : Value} (h : v.cell? ⟨b, o, none⟩ = some x) (hb : b ≠ b') : (v.setCell ⟨b', o', none⟩ u).cell? ⟨b, o, none⟩ = some x :=
  (World.cell?_setCell_other v ⟨b', o', none⟩ ⟨b, o, none⟩ u (fun e => hb (by injection e with e1; exact e1.symm))).trans h
theorem t_next {u v : World} {b o : Nat} {x : Value} (q : Q u v) (h : u.cell? ⟨b, o, none⟩ = some x) : v.cell? ⟨b, o, none⟩ = some x := (q.cell (block_lt_of_cell h)).trans h
theorem b_next {u v : World} {b : Nat} {x : Obj} (q : Q u v) (h : u.heap[b]? = some x) : v.heap[b]? = some x := (q.block (Array.getElem?_eq_some_iff.1 h).1).trans h
theorem f_next {u v : World} {b o : Nat} {x : Value} (q : Q u v) (h : u.cell? ⟨b, o, none⟩ = some x) (f : u.frozen? ⟨b, o, none⟩ = false) : v.frozen? ⟨b, o, none⟩ = false := (q.frozen (block_lt_of_cell h)).trans f
theorem new1 (w : World) (a b : Obj) : ((w.alloc a).alloc b).heap[w.heap.size + 1]? = some b := by
  have := heap_alloc_new (w.alloc a) b
  rwa [size_alloc] at this
theorem new2 (w : World) (a b c : Obj) : (((w.alloc a).alloc b).alloc c).heap[w.heap.size + 2]? = some c := by
  have := heap_alloc_new ((w.alloc a).alloc b) c
  rwa [size_alloc, size_alloc] at this
/-- A row's cells, and that they may be written. -/
theorem row2 {w : World} {g : Nat} {a b : Value} {T : TypeId} (h : w.heap[g]? = some (.cells #[a, b] T (0, 0))) : w.cell? ⟨g, 0, none⟩ = some a ∧ w.cell? ⟨g, 1, none⟩ = some b ∧ w.frozen? ⟨g, 0, none⟩ = false ∧ w.frozen? ⟨g, 1, none⟩ = false :=
  ⟨by rw [cell_of_row w _ 0 _ _ _ h]; rfl, by rw [cell_of_row w _ 1 _ _ _ h]; rfl, frozen_of_row w _ 0 _ _ h, frozen_of_row w _ 1 _ _ h⟩
theorem row3 {w : World} {g : Nat} {a b c : Value} {T : TypeId} (h : w.heap[g]? = some (.cells #[a, b, c] T (0, 0))) : w.cell? ⟨g, 0, none⟩ = some a ∧ w.cell? ⟨g, 1, none⟩ = some b ∧ w.cell? ⟨g, 2, none⟩ = some c ∧ w.frozen? ⟨g, 0, none⟩ = false ∧ w.frozen? ⟨g, 1, none⟩ = false ∧ w.frozen? ⟨g, 2, none⟩ = false :=
  ⟨by rw [cell_of_row w _ 0 _ _ _ h]; rfl, by rw [cell_of_row w _ 1 _ _ _ h]; rfl, by rw [cell_of_row w _ 2 _ _ _ h]; rfl, frozen_of_row w _ 0 _ _ h, frozen_of_row w _ 1 _ _ h, frozen_of_row w _ 2 _ _ h⟩
end Go.Proofs.YtmcobpgdledkdaaDoor
