
/- Slices of points as lists; the reference's Same. -/
import Derived.Test.YtmagppjmjjkbjaaPrjA
import Derived.Test.YtmagppjmjjkbjaaWords
import Derived.Deep.LoopGhost
namespace Go.Proofs.Ytmagppjmjjkbjaa
open Go.RowKit
set_option linter.unusedVariables false

/-- The cells of a list of points. -/
def ptCells (l : List (Int × Int)) : List Value := l.flatMap fun p => [.int .i64 p.1, .int .i64 p.2]
theorem ptCells_len (l : List (Int × Int)) : (ptCells l).length = l.length * 2 := by
  induction l with
  | nil => rfl
  | cons p l ih => simp only [ptCells, List.flatMap_cons, List.length_append, List.length_cons, List.length_nil] at *; omega
theorem ptCells_at (l : List (Int × Int)) (k : Nat) (hk : k < l.length) : (ptCells l)[k * 2]? = some (.int .i64 (l[k]).1) ∧ (ptCells l)[k * 2 + 1]? = some (.int .i64 (l[k]).2) := by
  induction l generalizing k with
  | nil => simp at hk
  | cons p l ih =>
    cases k with
    | zero => exact ⟨rfl, rfl⟩
    | succ k =>
      have := ih k (by simpa using hk)
      simp only [ptCells, List.flatMap_cons, List.cons_append, List.nil_append] at this ⊢
      rw [show (k + 1) * 2 = k * 2 + 1 + 1 by omega, show k * 2 + 1 + 1 + 1 = (k * 2 + 1) + 1 + 1 by omega]
      simpa using this
theorem ptCells_snoc (l : List (Int × Int)) (p : Int × Int) : ptCells (l ++ [p]) = ptCells l ++ [.int .i64 p.1, .int .i64 p.2] := by simp [ptCells]
/-- A slice value that reads as a list of points. -/
def Pts (w : World) (v : Value) (l : List (Int × Int)) : Prop := ∃ A c, v = .slice A l.length c ∧ l.length ≤ c ∧ Reads w w.heap.size 2 A l.length (ptCells l)
theorem Pts.next {w w' : World} {v : Value} {l : List (Int × Int)} (h : Pts w v l) (q : Q w w') : Pts w' v l := by
  obtain ⟨A, c, e, hc, hr⟩ := h
  exact ⟨A, c, e, hc, (hr.below q).more q.sz⟩
theorem Pts.nil (w : World) : Pts w (.slice none 0 0) [] := ⟨none, 0, rfl, Nat.le_refl _, Reads.none_⟩
theorem Pts.own {w : World} {base : Nat} {v : Value} {l : List (Int × Int)} (h : w.ownsRow base 29 2 v l.length (ptCells l)) : Pts w v l := by
  rcases h.2 with ⟨hv, hl⟩ | ⟨g, cap, cur, hv, h1, h2, h3, h4, h5⟩
  · have e : l.length = 0 := by have := h.1; rw [hl] at this; simp at this; omega
    obtain rfl : l = [] := List.eq_nil_of_length_eq_zero e
    subst hv
    exact Pts.nil w
  · subst hv
    exact ⟨_, _, rfl, by omega, Reads.of_own h⟩
theorem add_succ (ad : Addr) (j : Nat) : ad.add (j + 1) = ⟨(ad.add j).block, (ad.add j).off + 1, none⟩ := by
  unfold Addr.add
  by_cases h : j = 0 <;> simp [h] <;> omega
theorem Pts.at_ {w : World} {A : Option Addr} {l : List (Int × Int)} (h : Reads w w.heap.size 2 A l.length (ptCells l)) (k : Nat) (hk : k < l.length) :
    ∃ ad, A = some ad ∧ ad.block < w.heap.size ∧ w.cell? (ad.add (k * 2)) = some (.int .i64 (l[k]).1) ∧ w.cell? ⟨(ad.add (k * 2)).block, (ad.add (k * 2)).off + 1, none⟩ = some (.int .i64 (l[k]).2) := by
  obtain ⟨ad, e, hb, hc⟩ := h.2 (by omega)
  have := ptCells_at l k hk
  exact ⟨ad, e, hb, hc _ _ this.1, by rw [← add_succ]; exact hc _ _ this.2⟩

set_option maxHeartbeats 2000000 in
theorem psame_true (v u : Value) (l : List (Int × Int)) (w : World) (hv : Pts w v l) (hu : Pts w u l) (hl : l.length ≤ 4294967296) :
    Calls Try.prog 19 #[v, u] w fun e w' => e = .returned (.bool true) ∧ Q w w' := by
  obtain ⟨A, c, rfl, hc, hr⟩ := hv
  obtain ⟨A', c', rfl, hc', hr'⟩ := hu
  have HR := Lib.hid hr
  have HR' := Lib.hid hr'
  clear hr hr'
  obtain ⟨n, hn⟩ : ∃ n, l.length = n := ⟨_, rfl⟩
  have HN := Lib.hid hn
  rw [hn] at hc hc' hl ⊢
  clear hn
  go_enter Try.func19, Try.ntmps19
  go_wp2_with fail
  go_loopw [5] (fun i wr => ∃ k : Nat, k ≤ n ∧ i = .int .i64 k ∧ ∃ m, wr = w.drewN m) (fun i _ => n - (intOf i).toNat)
  case atStart => exact ⟨0, by omega, rfl, 0, rfl⟩
  case round =>
    obtain ⟨k, hk, rfl, m, rfl⟩ := hrel
    by_cases hlt : k < n
    · obtain ⟨ad, rfl, _, h1, h3⟩ := Pts.at_ HR.out k (by rw [HN.out]; exact hlt)
      obtain ⟨ad', rfl, _, h2, h4⟩ := Pts.at_ HR'.out k (by rw [HN.out]; exact hlt)
      generalize (l[k]'(by rw [HN.out]; exact hlt)).1 = x at *
      generalize (l[k]'(by rw [HN.out]; exact hlt)).2 = y at *
      go_wp2_with fail
      go_quiet (fail)
      go_wp2_with fail
      go_roundw
      case rel => exact ⟨k + 1, by omega, by go_num, _, rfl⟩
      case measure => simp [intOf]; omega
    · go_wp2_with fail
      go_ret
      exact ⟨rfl, (Q.refl w).drewN _⟩
end Go.Proofs.Ytmagppjmjjkbjaa
