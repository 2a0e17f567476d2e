/- Plain functions of chapter 13: the numbers of a projection, and their bounds. -/
import Derived.Test.YtmagppjmjjkbjaaCircle
import Derived.Test.YtmagppjmjjkbjaaLogM
namespace Go.Proofs.Ytmagppjmjjkbjaa.Prj
open Go.Proofs.Ytmagppjmjjkbjaa

/-- A position in the range. -/
def vld (x y : Int) : Prop := -648000 ≤ x ∧ x ≤ 648000 ∧ -306000 ≤ y ∧ y ≤ 306000
instance (x y : Int) : Decidable (vld x y) := by unfold vld; infer_instance
/-- A valid projection. -/
structure Ok (K L A S : Int) : Prop where
  k0 : 1 ≤ K
  k1 : K ≤ 4
  v : vld L A
  s0 : 1 ≤ S
  s1 : S ≤ 524288
theorem ok_iff (K L A S : Int) : Ok K L A S ↔ (1 ≤ K ∧ K ≤ 4) ∧ vld L A ∧ 1 ≤ S ∧ S ≤ 524288 := ⟨fun h => ⟨⟨h.k0, h.k1⟩, h.v, h.s0, h.s1⟩, fun ⟨⟨a, b⟩, c, d, e⟩ => ⟨a, b, c, d, e⟩⟩
instance (K L A S : Int) : Decidable (Ok K L A S) := decidable_of_iff _ (ok_iff K L A S).symm
/-- Scale * n / One, rounded. -/
def scl (S n : Int) : Int := Ser.rnd (S * n) 1073741824
/-- The eastern number. -/
def eu (K L x y : Int) : Int := if K = 2 then Ser.rnd (Ser.rad (x - L) * Ser.cos y) 1073741824 else Ser.rad (x - L)
/-- The Mercator number of a latitude. -/
def art (y : Int) : Int := Ser.artanh (Ser.sin y)
/-- The northern number. -/
def nv (K A y : Int) : Int := if K = 3 then art y - art A else if K = 4 then Ser.sin y - Ser.sin A else Ser.rad (y - A)
def east (K L S x y : Int) : Int := scl S (eu K L x y)
def north (K A S y : Int) : Int := scl S (nv K A y)

theorem rnd_le (a b n : Int) (hb : 1 ≤ b) (h : a ≤ n * b) : Ser.rnd a b ≤ n := by
  unfold Ser.rnd
  have : (2 * a + b) / (2 * b) < n + 1 := (Int.ediv_lt_iff_lt_mul (by omega)).2 (by rw [Int.add_mul, Int.mul_left_comm]; omega)
  omega
theorem rnd_ge (a b n : Int) (hb : 1 ≤ b) (h : n * b ≤ a) : n ≤ Ser.rnd a b := by
  unfold Ser.rnd
  exact (Int.le_ediv_iff_mul_le (by omega)).2 (by rw [Int.mul_left_comm]; omega)
theorem rnd_mono (a c b : Int) (hb : 1 ≤ b) (h : a ≤ c) : Ser.rnd a b ≤ Ser.rnd c b := by
  unfold Ser.rnd
  exact Int.ediv_le_ediv (by omega) (by omega)
theorem rnd_zero (b : Int) (hb : 1 ≤ b) : Ser.rnd 0 b = 0 := by
  unfold Ser.rnd
  exact Int.ediv_eq_zero_of_lt (by omega) (by omega)
theorem rad_eq (x : Int) (h0 : -1296000 ≤ x) (h1 : x ≤ 1296000) : Ser.rad x = Ser.rnd (x * 3373259426) 648000 := by
  unfold Ser.rad
  rw [if_neg (by omega)]
theorem rad_bd (x : Int) (h0 : -1296000 ≤ x) (h1 : x ≤ 1296000) : -6746518852 ≤ Ser.rad x ∧ Ser.rad x ≤ 6746518852 := by
  rw [rad_eq x h0 h1]
  exact ⟨rnd_ge _ _ _ (by omega) (by omega), rnd_le _ _ _ (by omega) (by omega)⟩
theorem rad_mono (x y : Int) (h0 : -1296000 ≤ x) (h : x ≤ y) (h1 : y ≤ 1296000) : Ser.rad x ≤ Ser.rad y := by
  rw [rad_eq x h0 (by omega), rad_eq y (by omega) h1]
  exact rnd_mono _ _ _ (by omega) (by omega)
theorem rad_zero : Ser.rad 0 = 0 := by
  rw [rad_eq 0 (by omega) (by omega)]
  exact rnd_zero _ (by omega)
theorem mul_abs (a b n m : Int) (ha0 : -n ≤ a) (ha1 : a ≤ n) (hb0 : -m ≤ b) (hb1 : b ≤ m) : -(n * m) ≤ a * b ∧ a * b ≤ n * m := by
  have h1 : 0 ≤ (n - a) * (m - b) := Int.mul_nonneg (by omega) (by omega)
  have h2 : 0 ≤ (n + a) * (m + b) := Int.mul_nonneg (by omega) (by omega)
  have h3 : 0 ≤ (n - a) * (m + b) := Int.mul_nonneg (by omega) (by omega)
  have h4 : 0 ≤ (n + a) * (m - b) := Int.mul_nonneg (by omega) (by omega)
  simp only [Int.sub_mul, Int.mul_sub, Int.add_mul, Int.mul_add] at h1 h2 h3 h4
  constructor <;> omega
/-- The product in PrSine's eastern number. -/
theorem sine_bd (d y : Int) (h0 : -1296000 ≤ d) (h1 : d ≤ 1296000) : -7244019458077122842 ≤ Ser.rad d * Ser.cos y ∧ Ser.rad d * Ser.cos y ≤ 7244019458077122842 := by
  have a := rad_bd d h0 h1
  have b := Ser.cos_in y
  have := mul_abs (Ser.rad d) (Ser.cos y) 6746518852 1073741824 a.1 a.2 b.1 b.2
  omega
theorem eu_bd (K L x y : Int) (h0 : -1296000 ≤ x - L) (h1 : x - L ≤ 1296000) : -6746518852 ≤ eu K L x y ∧ eu K L x y ≤ 6746518852 := by
  unfold eu
  split
  · have a := rad_bd (x - L) h0 h1
    have b := Ser.cos_in y
    have := mul_abs (Ser.rad (x - L)) (Ser.cos y) 6746518852 1073741824 a.1 a.2 b.1 b.2
    exact ⟨rnd_ge _ _ _ (by omega) (by omega), rnd_le _ _ _ (by omega) (by omega)⟩
  · exact rad_bd _ h0 h1
theorem sin_306 : Ser.sin 306000 ≤ 1073725440 := by decide +kernel
theorem sin_lat (y : Int) (h0 : -306000 ≤ y) (h1 : y ≤ 306000) : -1073725440 ≤ Ser.sin y ∧ Ser.sin y ≤ 1073725440 := by
  have a := Ser.sin_mono y 306000 (by omega) h1 (by omega)
  have b := Ser.sin_mono (-y) 306000 (by omega) (by omega) (by omega)
  rw [Ser.sin_neg] at b
  have := sin_306
  omega
theorem artanh_bd2 (s : Int) (h0 : -1073725440 ≤ s) (h1 : s ≤ 1073725440) : -64000000000 ≤ Ser.artanh s ∧ Ser.artanh s ≤ 64000000000 := by
  by_cases c : 0 ≤ s
  · exact Ser.artanh_bd s c h1
  · have a := Ser.artanh_bd (-s) (by omega) (by omega)
    have b := Ser.artanh_odd (-s) (by omega) (by omega)
    rw [Int.neg_neg] at b
    omega
theorem art_bd (y : Int) (h0 : -306000 ≤ y) (h1 : y ≤ 306000) : -64000000000 ≤ art y ∧ art y ≤ 64000000000 := by
  have := sin_lat y h0 h1
  exact artanh_bd2 _ this.1 this.2
theorem nv_bd (K A y : Int) (ha0 : -306000 ≤ A) (ha1 : A ≤ 306000) (h0 : -306000 ≤ y) (h1 : y ≤ 306000) : -128000000000 ≤ nv K A y ∧ nv K A y ≤ 128000000000 := by
  unfold nv
  split
  · have := art_bd y h0 h1
    have := art_bd A ha0 ha1
    omega
  · split
    · have := Ser.sin_in y
      have := Ser.sin_in A
      omega
    · have := rad_bd (y - A) (by omega) (by omega)
      omega
/-- The product in a scaled number. -/
theorem scl_in (S n : Int) (hs0 : 1 ≤ S) (hs1 : S ≤ 524288) (h0 : -128000000000 ≤ n) (h1 : n ≤ 128000000000) : -67108864000000000 ≤ S * n ∧ S * n ≤ 67108864000000000 := by
  have := mul_abs S n 524288 128000000000 (by omega) (by omega) h0 h1
  omega
theorem scl_bd (S n : Int) (hs0 : 1 ≤ S) (hs1 : S ≤ 524288) (h0 : -128000000000 ≤ n) (h1 : n ≤ 128000000000) : -62500000 ≤ scl S n ∧ scl S n ≤ 62500000 := by
  have := scl_in S n hs0 hs1 h0 h1
  unfold scl
  exact ⟨rnd_ge _ _ _ (by omega) (by omega), rnd_le _ _ _ (by omega) (by omega)⟩
theorem scl_mono (S a b : Int) (hs0 : 1 ≤ S) (h : a ≤ b) : scl S a ≤ scl S b := by
  unfold scl
  exact rnd_mono _ _ _ (by omega) (Int.mul_le_mul_of_nonneg_left h (by omega))
theorem scl_zero (S : Int) : scl S 0 = 0 := by
  unfold scl
  rw [Int.mul_zero]
  exact rnd_zero _ (by omega)
end Go.Proofs.Ytmagppjmjjkbjaa.Prj
