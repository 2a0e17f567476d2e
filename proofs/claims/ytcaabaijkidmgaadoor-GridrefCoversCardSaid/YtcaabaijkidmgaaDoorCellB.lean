/- Stores into rows of two cells. -/
import Derived.Test.YtcaabaijkidmgaaDoorCell
namespace Go.Proofs.YtcaabaijkidmgaaDoor
open Go.RowKit
set_option linter.unusedVariables false

theorem set2 {w : World} {g : Nat} {a b x y : Value} {T : TypeId} (h : w.heap[g]? = some (.cells #[a, b] T (0, 0))) : ((w.setCell ⟨g, 0, none⟩ x).setCell ⟨g, 1, none⟩ y).heap[g]? = some (.cells #[x, y] T (0, 0)) :=
  heap_setCell_same _ _ _ _ _ _ (heap_setCell_same _ _ _ _ _ _ h)
theorem set2a {w : World} {g : Nat} {a b x : Value} {T : TypeId} (h : w.heap[g]? = some (.cells #[a, b] T (0, 0))) : (w.setCell ⟨g, 0, none⟩ x).heap[g]? = some (.cells #[x, b] T (0, 0)) :=
  heap_setCell_same _ _ _ _ _ _ h
theorem set2b {w : World} {g : Nat} {a b x : Value} {T : TypeId} (h : w.heap[g]? = some (.cells #[a, b] T (0, 0))) : (w.setCell ⟨g, 1, none⟩ x).heap[g]? = some (.cells #[a, x] T (0, 0)) :=
  heap_setCell_same _ _ _ _ _ _ h
theorem set_else {w : World} {g g' i : Nat} {x : Value} {o : Obj} (hg : g ≠ g') (h : w.heap[g]? = some o) : (w.setCell ⟨g', i, none⟩ x).heap[g]? = some o :=
  (heap_setCell_other _ _ _ _ hg).trans h
end Go.Proofs.YtcaabaijkidmgaaDoor
