/- Contract of sheetgrid.Covering and At: the sheets that have a point in common with a box, or the error. -/
import Derived.Test.YtcaabaijkidmgaaDoorGridBox
import Derived.Test.YtcaabaijkidmgaaDoorWords
import Derived.Deep.LoopGhost
namespace Go.Proofs.YtcaabaijkidmgaaDoor
open Go.RowKit
set_option linter.unusedVariables false

namespace Grid
/-- Has sheet s a point in common with the box? -/
def hit (X Y W H C x0 y0 x1 y1 s : Int) : Prop := max (bx X W C s) x0 ≤ min (bx X W C s + W) x1 ∧ max (by' Y H C s) y0 ≤ min (by' Y H C s + H) y1
instance (X Y W H C x0 y0 x1 y1 s : Int) : Decidable (hit X Y W H C x0 y0 x1 y1 s) := by unfold hit; infer_instance
/-- The sheets among the first k. -/
def cov (X Y W H C x0 y0 x1 y1 : Int) : Nat → List Int
  | 0 => []
  | k + 1 => if hit X Y W H C x0 y0 x1 y1 ((k : Int) + 1) then cov X Y W H C x0 y0 x1 y1 k ++ [(k : Int) + 1] else cov X Y W H C x0 y0 x1 y1 k
theorem cov_len (X Y W H C x0 y0 x1 y1 : Int) (k : Nat) : (cov X Y W H C x0 y0 x1 y1 k).length ≤ k := by
  induction k with
  | zero => exact Nat.le_refl _
  | succ k ih =>
    rw [cov]
    split
    · simp
      omega
    · omega
end Grid

/-- The cells of a box in block B. -/
structure BoxAt (w : World) (B : Nat) (a b c d : Int) : Prop where
  c0 : w.cell? ⟨B, 0, none⟩ = some (.int .i64 a)
  c1 : w.cell? ⟨B, 1, none⟩ = some (.int .i64 b)
  c2 : w.cell? ⟨B, 2, none⟩ = some (.int .i64 c)
  c3 : w.cell? ⟨B, 3, none⟩ = some (.int .i64 d)
  blk : w.heap[B]? = some (.cells #[.int .i64 a, .int .i64 b, .int .i64 c, .int .i64 d] 33 (0, 0))
theorem BoxAt.of_block {w : World} {B : Nat} {a b c d : Int} (hb : w.heap[B]? = some (.cells #[.int .i64 a, .int .i64 b, .int .i64 c, .int .i64 d] 33 (0, 0))) : BoxAt w B a b c d :=
  ⟨by rw [cell_of_row w B 0 _ _ _ hb]; rfl, by rw [cell_of_row w B 1 _ _ _ hb]; rfl, by rw [cell_of_row w B 2 _ _ _ hb]; rfl, by rw [cell_of_row w B 3 _ _ _ hb]; rfl, hb⟩
theorem BoxAt.fresh (w : World) (a b c d : Int) : BoxAt (w.alloc (.cells #[.int .i64 a, .int .i64 b, .int .i64 c, .int .i64 d] 33)) w.heap.size a b c d := .of_block (heap_alloc_new w _)
theorem BoxAt.lt {w : World} {B : Nat} {a b c d : Int} (h : BoxAt w B a b c d) : B < w.heap.size := (Array.getElem?_eq_some_iff.1 h.blk).1
theorem BoxAt.next {w w' : World} {B : Nat} {a b c d : Int} (h : BoxAt w B a b c d) (q : Q w w') : BoxAt w' B a b c d := .of_block ((q.block h.lt).trans h.blk)

def CovPost (l : List Int) (w : World) (e : Ending) (w' : World) : Prop := ∃ v, e = .returned (.tuple #[v, .int .i64 0]) ∧ Ints w' v l ∧ Q w w'

def GridN (C R : Int) : Nat := (C * R).toNat

end Go.Proofs.YtcaabaijkidmgaaDoor
