/- Plain facts of the vectors: their lengths, the squares of chords, and the triangle of chords. No program in sight. -/
import Derived.Test.YtmcobpgdledkdaaDoorSphX
namespace Go.Proofs.YtmcobpgdledkdaaDoor.Sph
set_option linter.unusedVariables false

theorem sq_nn (a : Int) : 0 ≤ a * a := by
  rw [← Int.natAbs_mul_self]
  exact Int.natCast_nonneg _
theorem sq_le {a b : Int} (h : a.natAbs ≤ b.natAbs) : a * a ≤ b * b := by
  rw [← Int.natAbs_mul_self, ← Int.natAbs_mul_self (a := b)]
  exact Int.ofNat_le.2 (Nat.mul_le_mul h h)
theorem rnd_le (a c : Int) (m : Nat) (h : c = 1073741824) (hl : a.natAbs ≤ 1073741824 * m) : (Num.rnd a c).natAbs ≤ m := by
  subst h
  unfold Num.rnd
  omega
theorem vx_le (x y : Int) : vx x y * vx x y ≤ Ser.cos x * Ser.cos x := by
  apply sq_le
  apply rnd_le _ _ _ rfl
  rw [Int.natAbs_mul]
  have h := cos_in y
  exact Nat.mul_le_mul_right _ (by omega)
theorem vy_le (x y : Int) : vy x y * vy x y ≤ Ser.sin x * Ser.sin x := by
  apply sq_le
  apply rnd_le _ _ _ rfl
  rw [Int.natAbs_mul]
  have h := cos_in y
  exact Nat.mul_le_mul_right _ (by omega)
theorem top : Ser.sin 306000 ≤ 1069700000 := by decide +kernel
theorem bot : -1069700000 ≤ Ser.sin (-306000) := by decide +kernel
theorem vz_le (y : Int) (h0 : -306000 ≤ y) (h1 : y ≤ 306000) : vz y * vz y ≤ 1144258090000000000 := by
  have a := Ser.sin_mono y 306000 (by omega) h1 (by omega)
  have b := Ser.sin_mono (-306000) y (by omega) h0 (by omega)
  have t := top
  have u := bot
  have := sq_le (a := vz y) (b := 1069700000) (by unfold vz; omega)
  omega
/-- The square of a vector's length. -/
theorem len_le (x y : Int) (h0 : -306000 ≤ y) (h1 : y ≤ 306000) : vx x y * vx x y + vy x y * vy x y + vz y * vz y ≤ 2297179596754330624 := by
  have a := vx_le x y
  have b := vy_le x y
  have c := vz_le y h0 h1
  have d := (Ser.circle x).1
  omega
/-- The square of a chord. -/
def dst (a b c d e f : Int) : Int := (d - a) * (d - a) + (e - b) * (e - b) + (f - c) * (f - c)
theorem sub_sq (a b : Int) : (b - a) * (b - a) ≤ 2 * (a * a) + 2 * (b * b) := by
  have h := sq_nn (a + b)
  rw [Int.add_mul, Int.mul_add, Int.mul_add] at h
  rw [Int.sub_mul, Int.mul_sub, Int.mul_sub]
  rw [Int.mul_comm b a] at *
  omega
def D (x y u v : Int) : Int := dst (vx x y) (vy x y) (vz y) (vx u v) (vy u v) (vz v)
theorem D_bd (x y u v : Int) (hy0 : -306000 ≤ y) (hy1 : y ≤ 306000) (hv0 : -306000 ≤ v) (hv1 : v ≤ 306000) : 0 ≤ D x y u v ∧ D x y u v ≤ 9188718387017322496 := by
  have a := len_le x y hy0 hy1
  have b := len_le u v hv0 hv1
  have c0 := sub_sq (vx x y) (vx u v)
  have c1 := sub_sq (vy x y) (vy u v)
  have c2 := sub_sq (vz y) (vz v)
  have d0 := sq_nn (vx u v - vx x y)
  have d1 := sq_nn (vy u v - vy x y)
  have d2 := sq_nn (vz v - vz y)
  unfold D dst
  omega
theorem D_sym (x y u v : Int) : (vx x y - vx u v) * (vx x y - vx u v) + (vy x y - vy u v) * (vy x y - vy u v) + (vz y - vz v) * (vz y - vz v) = D x y u v := by
  unfold D dst
  have h : ∀ a b : Int, (a - b) * (a - b) = (b - a) * (b - a) := fun a b => by rw [← Int.neg_sub, Int.neg_mul_neg]
  rw [h (vx x y), h (vy x y), h (vz y)]
end Go.Proofs.YtmcobpgdledkdaaDoor.Sph
