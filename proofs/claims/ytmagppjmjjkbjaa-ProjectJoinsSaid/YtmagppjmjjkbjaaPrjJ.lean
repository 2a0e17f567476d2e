/- Plain facts: the path of two lists of positions, one behind the other. -/
import Derived.Test.YtmagppjmjjkbjaaPrjP
namespace Go.Proofs.Ytmagppjmjjkbjaa.Prj
set_option linter.unusedVariables false

/-- The point of a position. -/
def qp (K L A S : Int) (p : Int × Int) : Int × Int := (qx K L A S p.1 p.2, qy K L A S p.1 p.2)
theorem pth_fold (K L A S : Int) (l : List (Int × Int)) (k : Nat) (hk : k ≤ l.length) : pth K L A S l k = ((l.take k).map (qp K L A S)).foldl push [] := by
  induction k with
  | zero => simp [pth]
  | succ k ih =>
    rw [pth, ih (by omega), List.take_succ_eq_append_getElem (by omega), List.map_append, List.foldl_append]
    rw [List.getElem?_eq_getElem (by omega)]
    rfl
theorem pth_all (K L A S : Int) (l : List (Int × Int)) : pth K L A S l l.length = (l.map (qp K L A S)).foldl push [] := by
  rw [pth_fold K L A S l l.length (Nat.le_refl _), List.take_length]
theorem fold_behind (cs : List (Int × Int)) : ∀ (acc : List (Int × Int)) (c : Int × Int), cs.foldl push (acc ++ [c]) = acc ++ cs.foldl push [c] := by
  induction cs with
  | nil => intro acc c; rfl
  | cons d cs ih =>
    intro acc c
    rw [List.foldl_cons, List.foldl_cons]
    by_cases e : c = d
    · rw [push_same (acc ++ [c]) d (by simp [e]), push_same [c] d (by simp [e])]
      exact ih acc c
    · rw [push_other (acc ++ [c]) d (by simp [e]), push_other [c] d (by simp [e]), ih (acc ++ [c]) d, ih [c] d]
      simp
theorem fold_head (cs : List (Int × Int)) (c : Int × Int) : ∃ t, cs.foldl push [c] = c :: t := by
  have := fold_behind cs [] c
  induction cs generalizing c with
  | nil => exact ⟨[], rfl⟩
  | cons d cs ih =>
    rw [List.foldl_cons]
    by_cases e : c = d
    · rw [push_same [c] d (by simp [e])]
      exact ih c (fold_behind cs [] c)
    · rw [push_other [c] d (by simp [e]), fold_behind cs [c] d]
      exact ⟨_, rfl⟩
/-- What is left of the second path behind the first. -/
def rest (x y : List (Int × Int)) : List (Int × Int) := if x ≠ [] ∧ y ≠ [] ∧ x.getLast? = y.head? then y.tail else y
theorem fold_join (acc bs : List (Int × Int)) : bs.foldl push acc = acc ++ rest acc (bs.foldl push []) := by
  cases bs with
  | nil => simp [rest]
  | cons c cs =>
    rw [List.foldl_cons, List.foldl_cons, push_nil]
    obtain ⟨t, ht⟩ := fold_head cs c
    by_cases e : acc.getLast? = some c
    · rw [push_same acc c e]
      have hne : acc ≠ [] := by intro h; rw [h] at e; simp at e
      obtain ⟨a', ha⟩ : ∃ a', acc = a' ++ [c] := by
        refine ⟨acc.dropLast, ?_⟩
        have := List.dropLast_concat_getLast hne
        rw [List.getLast?_eq_some_getLast hne] at e
        rw [← Option.some.inj e]
        exact this.symm
      rw [ht]
      unfold rest
      rw [if_pos ⟨hne, by simp, by rw [e]; rfl⟩, ha, fold_behind cs a' c, ht]
      simp
    · rw [push_other acc c e, fold_behind cs acc c, ht]
      unfold rest
      rw [if_neg]
      rintro ⟨h1, h2, h3⟩
      exact e h3
theorem pl_join (K L A S : Int) (a b : List (Int × Int)) (ha : allGood K L A S a) (hb : allGood K L A S b) : pl K L A S (a ++ b) = pl K L A S a ++ rest (pl K L A S a) (pl K L A S b) := by
  have hab : allGood K L A S (a ++ b) := fun p hp => by
    rcases List.mem_append.1 hp with h | h
    · exact ha p h
    · exact hb p h
  unfold pl
  rw [if_pos hab, if_pos ha, if_pos hb, pth_all, pth_all, pth_all, List.map_append, List.foldl_append, fold_join]
theorem pe_join (K L A S : Int) (a b : List (Int × Int)) (h : ¬ (allGood K L A S a ∧ allGood K L A S b)) : pl K L A S (a ++ b) = [] ∧ pe K L A S (a ++ b) = 2 := by
  have hn : ¬ allGood K L A S (a ++ b) := fun g => h ⟨fun p hp => g p (List.mem_append.2 (.inl hp)), fun p hp => g p (List.mem_append.2 (.inr hp))⟩
  exact ⟨if_neg hn, if_neg hn⟩
end Go.Proofs.Ytmagppjmjjkbjaa.Prj
