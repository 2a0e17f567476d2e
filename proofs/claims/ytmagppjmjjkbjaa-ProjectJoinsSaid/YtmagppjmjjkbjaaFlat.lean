/- Structs of ints by value (nested ones too): what a reading of one says of its cells. -/
import Derived.Test.YtmagppjmjjkbjaaProg
import Derived.WalkKit
import Derived.ProofKit
import Derived.OpenShut
namespace Go.Proofs.Ytmagppjmjjkbjaa
open Go.ChangeShapes Go.WideShapes Go.ChangeAt Go.RowKit
set_option linter.unusedVariables false

/-- A type whose cells are all of kind int64: int, and structs of such types. -/
def flat (P : Program) : Nat → TypeId → Bool
  | 0, _ => false
  | n + 1, t => match P.underlying t with
    | some (.int .i64) => P.cellsOf t == 1
    | some (.struct fs) => fs.toList.all (fun f => flat P n f.type) && (List.range (P.cellsOf t)).all (fun i => fs.toList.any (fun f => decide (f.offset ≤ i ∧ i < f.offset + P.cellsOf f.type)))
    | _ => false

section
variable {H : Type} {enc : TypeId × Value → H} {P : Program} {w : World} {base : Nat} {spare : Nat → Bool} {held : Bool}
theorem bd64 {x : Int} (h : (Lit.int .i64 x).wf = true) : -9223372036854775808 ≤ x ∧ x ≤ 9223372036854775807 := bounds_i64 h
theorem flat_trod : ∀ (n : Nat) (t : TypeId) (fuel : Nat) (cs : List Value) (x : DataW H × List MemPlace), flat P n t = true → DataW.trod enc P w base spare held fuel t cs = some x →
    x.2 = [] ∧ cs.length = P.cellsOf t ∧ ∀ (i : Nat) (c : Value), cs[i]? = some c → ∃ z : Int, c = .int .i64 z ∧ -9223372036854775808 ≤ z ∧ z ≤ 9223372036854775807 := by
  intro n
  induction n with
  | zero => intro t fuel cs x h; simp [flat] at h
  | succ n ih =>
    intro t fuel cs x h hx
    unfold flat at h
    split at h
    · rename_i hu
      obtain ⟨z, rfl, rfl, wf⟩ := DataW.trod_int hu hx
      refine ⟨rfl, by simp at h; simp [h], fun i c hc => ?_⟩
      cases i with
      | zero => simp at hc; exact ⟨z, hc.symm, bd64 wf⟩
      | succ i => simp at hc
    · rename_i fs hu
      simp only [Bool.and_eq_true, List.all_eq_true, List.any_eq_true, decide_eq_true_eq, List.mem_range] at h
      obtain ⟨xs, m, _, rfl, hl, hlen, hf⟩ := DataW.trod_struct hu hx
      have hin : ∀ (j : Nat) (f : Field), fs[j]? = some f → ∃ y, xs[j]? = some y ∧ y.2 = [] ∧ ((cs.drop f.offset).take (P.cellsOf f.type)).length = P.cellsOf f.type ∧ ∀ (i : Nat) (c : Value), ((cs.drop f.offset).take (P.cellsOf f.type))[i]? = some c → ∃ z : Int, c = .int .i64 z ∧ -9223372036854775808 ≤ z ∧ z ≤ 9223372036854775807 := by
        intro j f hj
        have hjl : j < fs.size := (Array.getElem?_eq_some_iff.1 hj).1
        have e := hf j f hj
        have hy : xs[j]? = some xs[j] := List.getElem?_eq_getElem (by omega)
        rw [hy] at e
        have := ih f.type m _ _ (h.1 f (by have := Array.mem_of_getElem? hj; simpa using this)) e
        exact ⟨_, hy, this⟩
      refine ⟨?_, hl, fun i c hc => ?_⟩
      · show xs.flatMap (·.2) = []
        rw [List.flatMap_eq_nil_iff]
        intro y hy
        obtain ⟨j, hj, rfl⟩ := List.mem_iff_getElem.1 hy
        obtain ⟨y', h1, h2, _⟩ := hin j fs[j] (Array.getElem?_eq_getElem (by omega))
        rw [List.getElem?_eq_getElem hj] at h1
        rw [Option.some.inj h1]
        exact h2
      · have hi : i < cs.length := (List.getElem?_eq_some_iff.1 hc).1
        obtain ⟨f, hfm, h1, h2⟩ := h.2 i (by omega)
        obtain ⟨j, hj, hjf⟩ := List.mem_iff_getElem.1 hfm
        obtain ⟨y', _, _, _, h3⟩ := hin j f (by rw [Array.getElem?_eq_getElem (by simpa using hj)]; simpa using hjf)
        refine h3 (i - f.offset) c ?_
        rw [List.getElem?_take_of_lt (by omega), List.getElem?_drop]
        rw [show f.offset + (i - f.offset) = i by omega]
        exact hc
    · simp at h

/-- A struct of ints by value: its cells are ints. -/
theorem flat_open {r : Reach} {b0 : Nat} {t : TypeId} {fs : Array Field} {v : Value} {d : DataW H} {p : List MemPlace} (n : Nat) (hf : flat P n t = true) (hu : P.underlying t = some (.struct fs))
    (hv : Value.okWide P w r b0 t v) (h : DataW.Trod enc P w base spare held t v d p) :
    p = [] ∧ ∃ cs : Array Value, v = .agg cs ∧ cs.size = P.cellsOf t ∧ ∀ (i : Nat) (c : Value), cs[i]? = some c → ∃ z : Int, c = .int .i64 z ∧ -9223372036854775808 ≤ z ∧ z ≤ 9223372036854775807 := by
  obtain ⟨cs, rfl, hsz⟩ := okWide_struct hu hv
  obtain ⟨fuel, hx⟩ := h
  obtain ⟨h1, h2, h3⟩ := flat_trod n t fuel _ _ hf hx
  refine ⟨h1, cs, rfl, hsz, fun i c hc => h3 i c ?_⟩
  simpa [Value.cells] using hc
end

/-- The ints' range. -/
def I64 (x : Int) : Prop := -9223372036854775808 ≤ x ∧ x ≤ 9223372036854775807
theorem agg2_of {cs : Array Value} (hs : cs.size = 2) (h : ∀ (i : Nat) (c : Value), cs[i]? = some c → ∃ z : Int, c = .int .i64 z ∧ -9223372036854775808 ≤ z ∧ z ≤ 9223372036854775807) :
    ∃ a b : Int, cs = #[.int .i64 a, .int .i64 b] ∧ I64 a ∧ I64 b := by
  obtain ⟨l⟩ := cs
  match l, hs with
  | [c0, c1], _ =>
    obtain ⟨a, rfl, ha⟩ := h 0 c0 (by simp)
    obtain ⟨b, rfl, hb⟩ := h 1 c1 (by simp)
    exact ⟨a, b, rfl, ha, hb⟩
theorem agg4_of {cs : Array Value} (hs : cs.size = 4) (h : ∀ (i : Nat) (c : Value), cs[i]? = some c → ∃ z : Int, c = .int .i64 z ∧ -9223372036854775808 ≤ z ∧ z ≤ 9223372036854775807) :
    ∃ a b c d : Int, cs = #[.int .i64 a, .int .i64 b, .int .i64 c, .int .i64 d] ∧ I64 a ∧ I64 b ∧ I64 c ∧ I64 d := by
  obtain ⟨l⟩ := cs
  match l, hs with
  | [c0, c1, c2, c3], _ =>
    obtain ⟨a, rfl, ha⟩ := h 0 c0 (by simp)
    obtain ⟨b, rfl, hb⟩ := h 1 c1 (by simp)
    obtain ⟨c, rfl, hc⟩ := h 2 c2 (by simp)
    obtain ⟨d, rfl, hd⟩ := h 3 c3 (by simp)
    exact ⟨a, b, c, d, rfl, ha, hb, hc, hd⟩
theorem agg6_of {cs : Array Value} (hs : cs.size = 6) (h : ∀ (i : Nat) (c : Value), cs[i]? = some c → ∃ z : Int, c = .int .i64 z ∧ -9223372036854775808 ≤ z ∧ z ≤ 9223372036854775807) :
    ∃ a b c d e f : Int, cs = #[.int .i64 a, .int .i64 b, .int .i64 c, .int .i64 d, .int .i64 e, .int .i64 f] ∧ I64 a ∧ I64 b ∧ I64 c ∧ I64 d ∧ I64 e ∧ I64 f := by
  obtain ⟨l⟩ := cs
  match l, hs with
  | [c0, c1, c2, c3, c4, c5], _ =>
    obtain ⟨a, rfl, ha⟩ := h 0 c0 (by simp)
    obtain ⟨b, rfl, hb⟩ := h 1 c1 (by simp)
    obtain ⟨c, rfl, hc⟩ := h 2 c2 (by simp)
    obtain ⟨d, rfl, hd⟩ := h 3 c3 (by simp)
    obtain ⟨e, rfl, he⟩ := h 4 c4 (by simp)
    obtain ⟨f, rfl, hf⟩ := h 5 c5 (by simp)
    exact ⟨a, b, c, d, e, f, rfl, ha, hb, hc, hd, he, hf⟩
theorem laidOut : laidOutB Try.prog = true := by kernel_rfl
end Go.Proofs.Ytmagppjmjjkbjaa
