/- Plain law: the texts of positions. No program in sight. -/
import Derived.Test.YtmcobpgdledkdaaDoorSphB
namespace Go.Proofs.YtmcobpgdledkdaaDoor
set_option linter.unusedVariables false

theorem byt_in (l : List UInt8) (i : Nat) (h : i < l.length) : byt ⟨l.toArray⟩ i = (l[i].toNat : Int) := byt_mk l i h
theorem cat_size (l r : List UInt8) : (⟨(l ++ ([32] ++ r)).toArray⟩ : ByteArray).size = l.length + (1 + r.length) := by rw [size_mk]; simp; omega
theorem cat_l (l r : List UInt8) (i : Nat) (h : i < l.length) : byt ⟨(l ++ ([32] ++ r)).toArray⟩ i = byt ⟨l.toArray⟩ i := by
  rw [byt_in (l ++ ([32] ++ r)) i (by simp; omega), byt_in l i h, List.getElem_append_left h]
theorem cat_m (l r : List UInt8) : byt ⟨(l ++ ([32] ++ r)).toArray⟩ l.length = 32 := by
  rw [byt_in (l ++ ([32] ++ r)) l.length (by simp), List.getElem_append_right (Nat.le_refl _)]
  simp
theorem cat_r (l r : List UInt8) (i : Nat) (h : i < r.length) : byt ⟨(l ++ ([32] ++ r)).toArray⟩ (l.length + 1 + i) = byt ⟨r.toArray⟩ i := by
  rw [byt_in (l ++ ([32] ++ r)) (l.length + 1 + i) (by simp; omega), byt_in r i h]
  have e : (l ++ ([32] ++ r))[l.length + 1 + i]'(by simp; omega) = r[i] := by
    rw [List.getElem_append_right (by omega)]
    simp [show l.length + 1 + i - l.length = i + 1 by omega]
  rw [e]
theorem part_l (l r : List UInt8) : (⟨(l ++ ([32] ++ r)).toArray⟩ : ByteArray).extract 0 l.length = ⟨l.toArray⟩ := by
  have hs := cat_size l r
  apply byt_ext
  · rw [size_cut _ 0 l.length (by omega) (by omega), size_mk l]; omega
  · intro i hi
    rw [size_cut _ 0 l.length (by omega) (by omega)] at hi
    rw [byt_cut _ 0 l.length i (by omega) (by omega), Nat.zero_add]
    exact cat_l l r i (by omega)
theorem part_r (l r : List UInt8) : (⟨(l ++ ([32] ++ r)).toArray⟩ : ByteArray).extract (l.length + 1) (⟨(l ++ ([32] ++ r)).toArray⟩ : ByteArray).size = ⟨r.toArray⟩ := by
  have hs := cat_size l r
  apply byt_ext
  · rw [size_cut _ _ _ (by omega) (Nat.le_refl _), hs, size_mk r]; omega
  · intro i hi
    rw [size_cut _ _ _ (by omega) (Nat.le_refl _), hs] at hi
    rw [byt_cut _ _ _ i (Nat.le_refl _) (by omega)]
    exact cat_r l r i (by omega)
theorem spc_join (l r : List UInt8) (h : ∀ i, i < (⟨l.toArray⟩ : ByteArray).size → byt ⟨l.toArray⟩ i ≠ 32) : Spc ⟨(l ++ ([32] ++ r)).toArray⟩ l.length := by
  have hs := cat_size l r
  refine ⟨by omega, cat_m l r, ?_⟩
  intro i hi
  rw [cat_l l r i hi]
  exact h i (by rw [size_mk]; exact hi)
theorem join_of (s : ByteArray) (j : Nat) (l r : List UInt8) (h : Spc s j) (h1 : s.extract 0 j = ⟨l.toArray⟩) (h2 : s.extract (j + 1) s.size = ⟨r.toArray⟩) : s = ⟨(l ++ ([32] ++ r)).toArray⟩ := by
  have hj := h.1
  have z1 := congrArg ByteArray.size h1
  have z2 := congrArg ByteArray.size h2
  rw [size_cut _ _ _ (by omega) (by omega), size_mk l] at z1
  rw [size_cut _ _ _ (by omega) (Nat.le_refl _), size_mk r] at z2
  have hs := cat_size l r
  apply byt_ext
  · omega
  · intro i hi
    rcases Nat.lt_trichotomy i j with c | c | c
    · have e := byt_cut s 0 j i (by omega) (by omega)
      rw [h1, Nat.zero_add] at e
      rw [cat_l l r i (by omega), e]
    · rw [c, h.2.1, show j = l.length by omega, cat_m]
    · have e := byt_cut s (j + 1) s.size (i - (j + 1)) (Nat.le_refl _) (by omega)
      rw [h2, show j + 1 + (i - (j + 1)) = i by omega] at e
      have e2 := cat_r l r (i - (j + 1)) (by omega)
      rw [show l.length + 1 + (i - (j + 1)) = i by omega] at e2
      rw [e2, e]
namespace Sph
/-- Parse reads what Print writes. -/
theorem there (x y : Int) (h : vld x y) : ∃ j, Spc ⟨(prt x y).toArray⟩ j ∧ pval ((⟨(prt x y).toArray⟩ : ByteArray).extract 0 j) ((⟨(prt x y).toArray⟩ : ByteArray).extract (j + 1) (⟨(prt x y).toArray⟩ : ByteArray).size) = (x, y, 0) := by
  have hp : prt x y = wr y 78 83 ++ ([32] ++ wr x 69 87) := by unfold prt; rw [if_pos h]
  have hv := h
  unfold vld at hv
  obtain ⟨a1, a2, a3, a4⟩ := back y 78 83 (by decide) (by decide) (by decide) (by omega) _ rfl
  obtain ⟨b1, b2, b3, b4⟩ := back x 69 87 (by decide) (by decide) (by decide) (by omega) _ rfl
  rw [hp]
  refine ⟨(wr y 78 83).length, spc_join _ _ a4, ?_⟩
  rw [part_l, part_r]
  unfold pval
  have a1' : frm ⟨(wr y 78 83).toArray⟩ 78 83 := a1
  have b1' : frm ⟨(wr x 69 87).toArray⟩ 69 87 := b1
  have a3' : sg ⟨(wr y 78 83).toArray⟩ 78 = y := a3
  have b3' : sg ⟨(wr x 69 87).toArray⟩ 69 = x := b3
  rw [if_pos ⟨a1', b1'⟩, a3', b3', if_pos ⟨a2, b2, h⟩]
/-- Print writes what Parse has read. -/
theorem here (s : ByteArray) (j : Nat) (h : Spc s j) (he : (pval (s.extract 0 j) (s.extract (j + 1) s.size)).2.2 = 0) :
    (⟨(prt (pval (s.extract 0 j) (s.extract (j + 1) s.size)).1 (pval (s.extract 0 j) (s.extract (j + 1) s.size)).2.1).toArray⟩ : ByteArray) = s := by
  have hj := join_of s j
  generalize s.extract 0 j = b at *
  generalize s.extract (j + 1) s.size = t at *
  unfold pval at *
  by_cases c : frm b 78 83 ∧ frm t 69 87
  · rw [if_pos c] at he ⊢
    by_cases d : fits b = true ∧ fits t = true ∧ vld (sg t 69) (sg b 78)
    · rw [if_pos d]
      show (⟨(prt (sg t 69) (sg b 78)).toArray⟩ : ByteArray) = s
      have e1 : b = ⟨(wr (sg b 78) 78 83).toArray⟩ := fore b 78 83 (by decide) c.1 d.1
      have e2 : t = ⟨(wr (sg t 69) 69 87).toArray⟩ := fore t 69 87 (by decide) c.2 d.2.1
      unfold prt
      rw [if_pos d.2.2]
      exact (hj _ _ h e1 e2).symm
    · rw [if_neg d] at he
      exact absurd he (by decide)
  · rw [if_neg c] at he
    exact absurd he (by decide)
end Sph
end Go.Proofs.YtmcobpgdledkdaaDoor
