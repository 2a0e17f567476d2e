/- Plain laws of chapter 13: east and north do not decrease; what the search finds. -/
import Derived.Test.YtmagppjmjjkbjaaPrjG
namespace Go.Proofs.Ytmagppjmjjkbjaa.Prj
open Go.Proofs.Ytmagppjmjjkbjaa
set_option linter.unusedVariables false

theorem artanh0_mono (s t : Int) (h0 : 0 ≤ s) (h : s ≤ t) (h1 : t ≤ 1073725440) : Ser.artanh0 s ≤ Ser.artanh0 t := by
  unfold Ser.artanh0
  have a := Ser.fineLog_mono (1073741824 + s) (1073741824 + t) (by omega) (by omega) (by omega)
  have b := Ser.fineLog_mono (1073741824 - t) (1073741824 - s) (by omega) (by omega) (by omega)
  exact rnd_mono _ _ _ (by omega) (by omega)
theorem artanh0_zero : Ser.artanh0 0 = 0 := by
  unfold Ser.artanh0
  rw [Int.add_zero, Int.sub_zero, Int.sub_self]
  exact rnd_zero _ (by omega)
theorem artanh_mono2 (s t : Int) (h0 : -1073725440 ≤ s) (h : s ≤ t) (h1 : t ≤ 1073725440) : Ser.artanh s ≤ Ser.artanh t := by
  unfold Ser.artanh
  by_cases a : s < 0
  · rw [if_pos a]
    have n1 := artanh0_mono 0 (-s) (by omega) (by omega) (by omega)
    rw [artanh0_zero] at n1
    by_cases b : t < 0
    · rw [if_pos b]
      have := artanh0_mono (-t) (-s) (by omega) (by omega) (by omega)
      omega
    · rw [if_neg b]
      have n2 := artanh0_mono 0 t (by omega) (by omega) (by omega)
      rw [artanh0_zero] at n2
      omega
  · rw [if_neg a, if_neg (by omega)]
    exact artanh0_mono s t (by omega) h h1
theorem nv_mono (K A x y : Int) (ha0 : -306000 ≤ A) (ha1 : A ≤ 306000) (h0 : -306000 ≤ x) (h : x ≤ y) (h1 : y ≤ 306000) : nv K A x ≤ nv K A y := by
  unfold nv
  split
  · have a := sin_lat x h0 (by omega)
    have b := sin_lat y (by omega) h1
    have := artanh_mono2 (Ser.sin x) (Ser.sin y) a.1 (Ser.sin_mono x y (by omega) h (by omega)) b.2
    unfold art
    omega
  · split
    · have := Ser.sin_mono x y (by omega) h (by omega)
      omega
    · exact rad_mono _ _ (by omega) (by omega) (by omega)
theorem north_mono (K A S x y : Int) (hs : 1 ≤ S) (ha0 : -306000 ≤ A) (ha1 : A ≤ 306000) (h0 : -306000 ≤ x) (h : x ≤ y) (h1 : y ≤ 306000) : north K A S x ≤ north K A S y :=
  scl_mono S _ _ hs (nv_mono K A x y ha0 ha1 h0 h h1)
theorem sin_zero' : Ser.sin 0 = 0 := by decide +kernel
theorem cos_nn (y : Int) (h0 : -306000 ≤ y) (h1 : y ≤ 306000) : 0 ≤ Ser.cos y := by
  by_cases c : 0 ≤ y
  · rw [Ser.cos_half y c (by omega)]
    have := Ser.sin_mono 0 (324000 - y) (by omega) (by omega) (by omega)
    rw [sin_zero'] at this
    exact this
  · have e := Ser.cos_neg (-y)
    rw [Int.neg_neg] at e
    rw [e, Ser.cos_half (-y) (by omega) (by omega)]
    have := Ser.sin_mono 0 (324000 - -y) (by omega) (by omega) (by omega)
    rw [sin_zero'] at this
    exact this
theorem eu_mono (K L x x' y : Int) (hl0 : -648000 ≤ L) (hl1 : L ≤ 648000) (h0 : -648000 ≤ x) (h : x ≤ x') (h1 : x' ≤ 648000) (hy0 : -306000 ≤ y) (hy1 : y ≤ 306000) : eu K L x y ≤ eu K L x' y := by
  have r := rad_mono (x - L) (x' - L) (by omega) (by omega) (by omega)
  unfold eu
  split
  · exact rnd_mono _ _ _ (by omega) (Int.mul_le_mul_of_nonneg_right r (cos_nn y hy0 hy1))
  · exact r
theorem east_mono (K L S x x' y : Int) (hs : 1 ≤ S) (hl0 : -648000 ≤ L) (hl1 : L ≤ 648000) (h0 : -648000 ≤ x) (h : x ≤ x') (h1 : x' ≤ 648000) (hy0 : -306000 ≤ y) (hy1 : y ≤ 306000) : east K L S x y ≤ east K L S x' y :=
  scl_mono S _ _ hs (eu_mono K L x x' y hl0 hl1 h0 h h1 hy0 hy1)
theorem eu_zero (K L y : Int) : eu K L L y = 0 := by
  unfold eu
  rw [Int.sub_self, rad_zero, Int.zero_mul]
  split
  · exact rnd_zero _ (by omega)
  · rfl
theorem nv_zero (K A : Int) : nv K A A = 0 := by
  unfold nv
  split
  · omega
  · split
    · omega
    · rw [Int.sub_self, rad_zero]
/-- The center has the point 0. -/
theorem center (K L A S : Int) (h : Ok K L A S) : qx K L A S L A = 0 ∧ qy K L A S L A = 0 ∧ qe K L A S L A = 0 := by
  have e : east K L S L A = 0 := by unfold east; rw [eu_zero, scl_zero]
  have n : north K A S A = 0 := by unfold north; rw [nv_zero, scl_zero]
  have g : good K L A S L A := ⟨h.v, by rw [e, n]; exact ⟨by omega, by omega, by omega, by omega⟩⟩
  unfold qx qy qe
  rw [if_pos g, if_pos g, if_pos g]
  exact ⟨e, n, rfl⟩

/-- The search finds the first place whose number is not below t. -/
theorem bs_spec (F : Int → Int) (t : Int) (f : Nat) : ∀ lo hi : Int, lo ≤ hi → hi - lo < 2 ^ f → (∀ x y, lo ≤ x → x ≤ y → y ≤ hi → F x ≤ F y) → t ≤ F hi →
    t ≤ F (bs F t f lo hi) ∧ ∀ x, lo ≤ x → x < bs F t f lo hi → F x < t := by
  induction f with
  | zero =>
    intro lo hi h hl hm ht
    have e : hi = lo := by simp at hl; omega
    subst e
    exact ⟨ht, fun x a b => absurd b (by simp only [bs]; omega)⟩
  | succ f ih =>
    intro lo hi h hl hm ht
    rw [Int.pow_succ] at hl
    rw [bs]
    by_cases c : lo < hi
    · rw [if_pos c]
      by_cases d : F ((lo + hi) / 2) < t
      · rw [if_pos d]
        obtain ⟨i1, i2⟩ := ih ((lo + hi) / 2 + 1) hi (by omega) (by omega) (fun x y a b e => hm x y (by omega) b e) ht
        refine ⟨i1, fun x a b => ?_⟩
        by_cases g : (lo + hi) / 2 + 1 ≤ x
        · exact i2 x g b
        · have := hm x ((lo + hi) / 2) a (by omega) (by omega)
          omega
      · rw [if_neg d]
        exact ih lo ((lo + hi) / 2) (by omega) (by omega) (fun x y a b e => hm x y a b (by omega)) (by omega)
    · rw [if_neg c]
      have e : hi = lo := by omega
      subst e
      exact ⟨ht, fun x a b => absurd b (by omega)⟩
/-- A number that is there is found. -/
theorem near_hits (F : Int → Int) (t lo hi p : Int) (hlo : lo ≤ p) (hhi : p ≤ hi) (hl : hi - lo < 2097152) (hm : ∀ x y, lo ≤ x → x ≤ y → y ≤ hi → F x ≤ F y) (hp : F p = t) : F (near F t lo hi) = t := by
  obtain ⟨s1, s2⟩ := bs_spec F t 21 lo hi (by omega) (by rw [show (2 : Int) ^ 21 = 2097152 by decide]; exact hl) hm (by rw [← hp]; exact hm p hi hlo hhi (Int.le_refl _))
  have bd := bs_bd F t 21 lo hi (by omega)
  unfold near
  generalize bs F t 21 lo hi = r at *
  have hr : F r = t := by
    have hrp : r ≤ p := by
      by_cases c : r ≤ p
      · exact c
      · have := s2 p hlo (by omega)
        omega
    have := hm r p bd.1 hrp hhi
    omega
  unfold pick
  rw [if_neg]
  · exact hr
  · intro ⟨_, h2⟩
    rw [hr] at h2
    unfold far at h2
    omega
end Go.Proofs.Ytmagppjmjjkbjaa.Prj
