
/- Contracts of sphere.Parse and of the reference's Parse, whole. -/
import Derived.Test.YtmcobpgdledkdaaDoorSphS
namespace Go.Proofs.YtmcobpgdledkdaaDoor
open Go.RowKit
set_option linter.unusedVariables false

namespace Sph
/-- What Parse returns for the two parts of a text. -/
def pval (b h : ByteArray) : Int × Int × Int := if frm b 78 83 ∧ frm h 69 87 then (if fits b = true ∧ fits h = true ∧ vld (sg h 69) (sg b 78) then (sg h 69, sg b 78, 0) else (0, 0, 2)) else (0, 0, 20)
end Sph
theorem sparse_at (s : ByteArray) (hm : s.size ≤ 9223372036854775807) (j : Nat) (h : Spc s j) (w : World) :
    Calls Tryd.prog 15 #[.string s] w fun e w' => e = .returned (.tuple #[.agg #[.int .i64 (Sph.pval (s.extract 0 j) (s.extract (j + 1) s.size)).1, .int .i64 (Sph.pval (s.extract 0 j) (s.extract (j + 1) s.size)).2.1], .int .i64 (Sph.pval (s.extract 0 j) (s.extract (j + 1) s.size)).2.2]) ∧ Q w w' := by
  have hj := h.1
  have z1 := size_cut s 0 j (by omega) (by omega)
  have z2 := size_cut s (j + 1) s.size (by omega) (Nat.le_refl _)
  have HC := Lib.hid (fun W => scut_at s hm j h W)
  generalize s.extract 0 j = b at *
  generalize s.extract (j + 1) s.size = t at *
  have HA := fun W => sread_any b 78 83 (by omega) (by omega) (by omega) (by omega) (by omega) W
  have HB := fun W => sread_any t 69 87 (by omega) (by omega) (by omega) (by omega) (by omega) W
  unfold Sph.pval
  by_cases c : Sph.frm b 78 83 ∧ Sph.frm t 69 87
  · rw [if_pos c]
    rw [decide_eq_true c.1] at HA
    rw [decide_eq_true c.2] at HB
    by_cases d : Sph.fits b = true ∧ Sph.fits t = true ∧ Sph.vld (Sph.sg t 69) (Sph.sg b 78)
    · rw [if_pos d]
      rw [d.1] at HA
      rw [d.2.1] at HB
      exact sparse_ok s b t true _ _ w HC (Lib.hid HA) (Lib.hid HB) d.2.2
    · rw [if_neg d]
      refine sparse_rng s b t true _ _ _ _ w HC (Lib.hid HA) (Lib.hid HB) ?_
      cases e1 : Sph.fits b
      · exact .inl rfl
      · cases e2 : Sph.fits t
        · exact .inr (.inl rfl)
        · exact .inr (.inr (fun k => d ⟨e1, e2, k⟩))
  · rw [if_neg c]
    refine sparse_syn s b t true _ _ _ _ _ _ w HC (Lib.hid HA) (Lib.hid HB) ?_
    by_cases c1 : Sph.frm b 78 83
    · exact .inr (decide_eq_false (fun k => c ⟨c1, k⟩))
    · exact .inl (decide_eq_false c1)
theorem not_frm_empty (p m : Int) : ¬ Sph.frm ⟨#[]⟩ p m := fun h => by have := h.1; revert this; decide
theorem sparse_none (s : ByteArray) (hm : s.size ≤ 9223372036854775807) (h : ∀ i, i < s.size → byt s i ≠ 32) (w : World) :
    Calls Tryd.prog 15 #[.string s] w fun e w' => e = .returned (.tuple #[.agg #[.int .i64 0, .int .i64 0], .int .i64 20]) ∧ Q w w' := by
  have HC := Lib.hid (fun W => scut_none s hm h W)
  have HA := fun W => sread_any s 78 83 (by omega) (by omega) (by omega) (by omega) (by omega) W
  have HB := fun W => sread_any ⟨#[]⟩ 69 87 (by omega) (by omega) (by omega) (by omega) (by decide) W
  exact sparse_syn s s _ false _ _ _ _ _ _ w HC (Lib.hid HA) (Lib.hid HB) (.inr (decide_eq_false (not_frm_empty 69 87)))
theorem rparse_val (s : ByteArray) (hm : s.size ≤ 9223372036854775807) (j : Nat) (h : Spc s j) (w : World) :
    Calls Tryd.prog 16 #[.string s] w fun e w' => e = .returned (.tuple #[.agg #[.int .i64 (Sph.pval (s.extract 0 j) (s.extract (j + 1) s.size)).1, .int .i64 (Sph.pval (s.extract 0 j) (s.extract (j + 1) s.size)).2.1], .int .i64 (Sph.pval (s.extract 0 j) (s.extract (j + 1) s.size)).2.2]) ∧ Q w w' := by
  have hj := h.1
  have z1 := size_cut s 0 j (by omega) (by omega)
  have z2 := size_cut s (j + 1) s.size (by omega) (Nat.le_refl _)
  have l1 := slice_hi s j (by omega)
  have l2 : ∀ W, (Instr.slice 9 (.string s) (some (.int .i64 ((j : Int) + 1))) none none).run Tryd.prog W = .ok (.string (s.extract (j + 1) s.size)) W := fun W => by have := slice_lo s (j + 1) (by omega) W; simpa using this
  generalize s.extract 0 j = b at *
  generalize s.extract (j + 1) s.size = t at *
  have HA := fun W => rread_any b 78 83 (by omega) (by omega) (by omega) (by omega) (by omega) (by omega) W
  have HB := fun W => rread_any t 69 87 (by omega) (by omega) (by omega) (by omega) (by omega) (by omega) W
  unfold Sph.rang at HA HB
  unfold Sph.pval
  by_cases c1 : Sph.frm b 78 83
  · by_cases c2 : Sph.frm t 69 87
    · rw [if_pos ⟨c1, c2⟩]
      simp only [if_pos c1] at HA
      simp only [if_pos c2] at HB
      have := rparse_at s b t j hm h w l1 l2 _ _ _ _ _ _ (Lib.hid HA) (Lib.hid HB)
      unfold Sph.pres at this
      rw [if_pos (by simp)] at this
      by_cases d : Sph.fits b = true ∧ Sph.fits t = true ∧ Sph.vld (Sph.sg t 69) (Sph.sg b 78)
      · rw [if_pos d] at this ⊢
        exact this
      · rw [if_neg d] at this ⊢
        exact this
    · rw [if_neg (fun k => c2 k.2)]
      simp only [if_pos c1] at HA
      simp only [if_neg c2] at HB
      have := rparse_at s b t j hm h w l1 l2 _ _ _ _ _ _ (Lib.hid HA) (Lib.hid HB)
      unfold Sph.pres at this
      rw [if_neg (by simp)] at this
      exact this
  · rw [if_neg (fun k => c1 k.1)]
    simp only [if_neg c1] at HA
    by_cases c2 : Sph.frm t 69 87
    · simp only [if_pos c2] at HB
      have := rparse_at s b t j hm h w l1 l2 _ _ _ _ _ _ (Lib.hid HA) (Lib.hid HB)
      unfold Sph.pres at this
      rw [if_neg (by simp)] at this
      exact this
    · simp only [if_neg c2] at HB
      have := rparse_at s b t j hm h w l1 l2 _ _ _ _ _ _ (Lib.hid HA) (Lib.hid HB)
      unfold Sph.pres at this
      rw [if_neg (by simp)] at this
      exact this
end Go.Proofs.YtmcobpgdledkdaaDoor
