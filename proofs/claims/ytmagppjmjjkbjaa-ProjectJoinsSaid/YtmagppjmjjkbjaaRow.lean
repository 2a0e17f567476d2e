/- An array of ints in a block of the call's own, filled from its start: what its cells hold, and how it is read whole. -/
import Derived.Test.YtmagppjmjjkbjaaBits
import Derived.Laws.Rows
import Derived.Deep.OwnRows
namespace Go.Proofs.Ytmagppjmjjkbjaa
open Go.RowKit
set_option linter.unusedVariables false

/-- Block B holds n cells of type T, none frozen; the first k are the ints f 0, f 1, ... -/
def Row (w : World) (B : Nat) (T : TypeId) (n k : Nat) (f : Nat → Int) : Prop :=
  ∃ cs : Array Value, w.heap[B]? = some (.cells cs T (0, 0)) ∧ cs.size = n ∧ ∀ i, i < k → cs[i]? = some (.int .i64 (f i))

theorem Row.cell {w : World} {B T n k : Nat} {f : Nat → Int} (h : Row w B T n k f) {i : Nat} (hi : i < k) : w.cell? ⟨B, i, none⟩ = some (.int .i64 (f i)) := by
  obtain ⟨cs, h1, h2, h3⟩ := h
  rw [cell_of_row w B i cs T _ h1]
  exact h3 i hi
theorem Row.any {w : World} {B T n k : Nat} {f : Nat → Int} (h : Row w B T n k f) {i : Nat} (hi : i < n) : ∃ v, w.cell? ⟨B, i, none⟩ = some v := by
  obtain ⟨cs, h1, h2, h3⟩ := h
  rw [cell_of_row w B i cs T _ h1]
  exact ⟨cs[i]'(by omega), by simp [h2, hi]⟩
theorem Row.frozen {w : World} {B T n k : Nat} {f : Nat → Int} (h : Row w B T n k f) (i : Nat) : w.frozen? ⟨B, i, none⟩ = false := by
  obtain ⟨cs, h1, h2, h3⟩ := h
  exact frozen_of_row w B i cs T h1
theorem Row.lt {w : World} {B T n k : Nat} {f : Nat → Int} (h : Row w B T n k f) : B < w.heap.size := by
  obtain ⟨cs, h1, h2, h3⟩ := h
  exact (Array.getElem?_eq_some_iff.1 h1).1
theorem Row.set {w : World} {B T n k : Nat} {f : Nat → Int} (h : Row w B T n k f) (hk : k < n) : Row (w.setCell ⟨B, k, none⟩ (.int .i64 (f k))) B T n (k + 1) f := by
  obtain ⟨cs, h1, h2, h3⟩ := h
  refine ⟨cs.setIfInBounds k (.int .i64 (f k)), heap_setCell_same w B k cs T _ h1, by simp [h2], fun i hi => ?_⟩
  by_cases e : i = k
  · subst e
    simp [h2, hk]
  · rw [Array.getElem?_setIfInBounds_ne (by omega)]
    exact h3 i (by omega)
theorem Row.of_block {w w' : World} {B T n k : Nat} {f : Nat → Int} (h : Row w B T n k f) (e : w'.heap[B]? = w.heap[B]?) : Row w' B T n k f := by
  obtain ⟨cs, h1, h2, h3⟩ := h
  exact ⟨cs, by rw [e, h1], h2, h3⟩
theorem Row.below {w w' : World} {B T n k : Nat} {f : Nat → Int} (h : Row w B T n k f) (hb : Q w w') : Row w' B T n k f := h.of_block (Below.block hb B h.lt)
theorem Row.drewN {w : World} {B T n k : Nat} {f : Nat → Int} (h : Row w B T n k f) (m : Nat) : Row (w.drewN m) B T n k f := h
theorem Row.fresh (w : World) (cs : Array Value) (T : TypeId) (f : Nat → Int) : Row (w.alloc (.cells cs T)) w.heap.size T cs.size 0 f :=
  ⟨cs, heap_alloc_new w _, rfl, fun i hi => by omega⟩
theorem Row.whole {w : World} {B T n : Nat} {f : Nat → Int} (h : Row w B T n n f) : ∃ cs : Array Value, w.heap[B]? = some (.cells cs T (0, 0)) ∧ cs.size = n ∧ ∀ i, i < n → cs[i]? = some (.int .i64 (f i)) := h

/-- A store into a block of the call's own leaves what was there before. -/
theorem Q.setNew {w w' : World} (h : Q w w') {B i : Nat} (hB : w.heap.size ≤ B) (v : Value) : Q w (w'.setCell ⟨B, i, none⟩ v) := Q.setCell h hB v

/-- The element of an array of ints at an index. -/
theorem run_index_agg {P : Program} (w : World) {T E n : Nat} (hT : P.underlying T = some (.array n E)) (hE : P.underlying E = some (.int .i64)) (i0 : TypeInfo) (hI : P.info? E = some i0) (hS : i0.size = 1) (cs : Array Value) (i : Int) (h0 : 0 ≤ i) (hi : i < n) (v : Value) (hv : cs[i.toNat]? = some v) :
    (Instr.index T (.agg cs) (.int .i64 i)).run P w = .ok v w := by
  simp [Instr.index, asIntOf, run_underlying hT, h0, hi, part, isAgg, run_underlying hE, sizeOf, typeInfo, hI, hS, hv]
end Go.Proofs.Ytmagppjmjjkbjaa
