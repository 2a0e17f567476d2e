/- A slice of points as an argument: it reads as a list of points. -/
import Derived.Test.YtmagppjmjjkbjaaFlat
import Derived.Test.YtmagppjmjjkbjaaPts
import Derived.Deep.Slices
namespace Go.Proofs.Ytmagppjmjjkbjaa
open Go.ChangeShapes Go.WideShapes Go.ChangeAt Go.RowKit Go.Deep
set_option linter.unusedVariables false

def cellInt : Option Value → Int
  | some (.int _ n) => n
  | _ => 0
theorem cellInt_int (k : IntKind) (n : Int) : cellInt (some (.int k n)) = n := rfl
section
variable {H : Type} {enc : TypeId × Value → H} {w : World}
set_option maxRecDepth 100000 in
/-- A slice of points by its reading: a list of points; the places that were read lie in the memory. -/
theorem pts_open {r : Reach} {b0 : Nat} {v : Value} {d : DataW H} {p : List MemPlace} (hv : Value.okWide Try.prog w r b0 33 v) (h : DataW.Trod enc Try.prog w 0 (fun _ => true) true 33 v d p) :
    ∃ l : List (Int × Int), Pts w v l ∧ l.length ≤ maxLen ∧ (∀ q ∈ l, I64 q.1 ∧ I64 q.2) ∧ ∀ x ∈ p, x.block < w.heap.size := by
  obtain ⟨A, len, cap, rfl⟩ := okWide_slice Try.underlying33 hv
  obtain ⟨fuel, hf⟩ := h
  have hcells : Try.prog.cellsOf 29 = 2 := by kernel_rfl
  have hflat : flat Try.prog 3 29 = true := by kernel_rfl
  rcases open_slice Try.underlying33 hf with ⟨hcs, hx⟩ | ⟨a, len', cap', m, n, D, Pl, hcs, hb, hl, hm, hmm, hx, hi⟩
  · simp [Value.cells] at hcs
    obtain ⟨rfl, rfl, rfl⟩ := hcs
    simp only [Prod.mk.injEq] at hx
    refine ⟨[], Pts.nil w, by simp, by simp, ?_⟩
    rw [hx.2]
    simp
  · simp [Value.cells] at hcs
    obtain ⟨rfl, rfl, rfl⟩ := hcs
    rw [hcells] at hx hi
    have hml : len ≤ m := by rw [hmm]; simp; omega
    have key : ∀ i, i < m → Pl i = [] ∧ (∃ x y : Int, w.cell? (a.add (i * 2)) = some (.int .i64 x) ∧ w.cell? (a.add (i * 2 + 1)) = some (.int .i64 y) ∧ I64 x ∧ I64 y) := by
      intro i him
      obtain ⟨cs', hc, ht⟩ := hi i him
      obtain ⟨_, hcl, hat⟩ := World.cells?_some hc
      obtain ⟨f1, f2, f3⟩ := flat_trod 3 29 n _ _ hflat ht
      match cs', hcl with
      | [c0, c1], _ =>
        obtain ⟨x, rfl, hx⟩ := f3 0 c0 rfl
        obtain ⟨y, rfl, hy⟩ := f3 1 c1 rfl
        have e0 := hat 0 (by omega)
        have e1 := hat 1 (by omega)
        rw [add_of_add] at e0 e1
        exact ⟨f1, x, y, e0, e1, hx, hy⟩
    refine ⟨(List.range len).map fun i => (cellInt (w.cell? (a.add (i * 2))), cellInt (w.cell? (a.add (i * 2 + 1)))), ⟨some a, cap, by simp, by simpa using hl, by rw [ptCells_len], fun hn => ⟨a, rfl, ?_, fun j u hu => ?_⟩⟩, by simp; omega, ?_, ?_⟩
    · obtain ⟨_, x, y, h1, _⟩ := key 0 (by simp at hn; omega)
      have := block_lt_of_cell h1
      rwa [block_of_add] at this
    · have hj : j < len * 2 := by
        have := (List.getElem?_eq_some_iff.1 hu).1
        rw [ptCells_len] at this
        simpa using this
      obtain ⟨_, x, y, h1, h2, _⟩ := key (j / 2) (by omega)
      have hp := ptCells_at ((List.range len).map fun i => (cellInt (w.cell? (a.add (i * 2))), cellInt (w.cell? (a.add (i * 2 + 1))))) (j / 2) (by simp; omega)
      simp only [List.getElem_map, List.getElem_range, h1, h2, cellInt_int] at hp
      rcases Nat.mod_two_eq_zero_or_one j with e | e
      · have ej : j / 2 * 2 = j := by omega
        rw [ej] at hp h1
        rw [hp.1] at hu
        rw [h1]
        exact hu
      · have ej : j / 2 * 2 + 1 = j := by omega
        rw [ej] at hp h2
        rw [hp.2] at hu
        rw [h2]
        exact hu
    · intro q hq
      obtain ⟨i, hi', rfl⟩ := List.mem_map.1 hq
      rw [List.mem_range] at hi'
      obtain ⟨_, x, y, h1, h2, h3, h4⟩ := key i (by omega)
      simp only [h1, h2, cellInt_int]
      exact ⟨h3, h4⟩
    · simp only [Prod.mk.injEq] at hx
      rw [hx.2]
      intro z hz
      rw [List.mem_append] at hz
      rcases hz with hz | hz
      · obtain ⟨i, hi', rfl⟩ := MemPlace.mem_row.1 hz
        obtain ⟨_, x, y, h1, _⟩ := key 0 (by omega)
        have := block_lt_of_cell h1
        rwa [block_of_add] at this
      · obtain ⟨i, hi', hz'⟩ := List.mem_flatMap.1 hz
        rw [List.mem_range] at hi'
        rw [(key i hi').1] at hz'
        simp at hz'
end
end Go.Proofs.Ytmagppjmjjkbjaa
