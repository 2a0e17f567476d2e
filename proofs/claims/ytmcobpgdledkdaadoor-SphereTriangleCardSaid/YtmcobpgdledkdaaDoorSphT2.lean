/- Plain facts: the root of a number, the triangle of three chords. No program in sight. -/
import Derived.Test.YtmcobpgdledkdaaDoorSphY
namespace Go.Proofs.YtmcobpgdledkdaaDoor
set_option linter.unusedVariables false

theorem root_nat (n : Nat) : ∃ r : Nat, r * r ≤ n ∧ n < (r + 1) * (r + 1) := by
  induction n with
  | zero => exact ⟨0, by omega, by omega⟩
  | succ n ih =>
    obtain ⟨r, h1, h2⟩ := ih
    by_cases c : (r + 1) * (r + 1) ≤ n + 1
    · refine ⟨r + 1, c, ?_⟩
      have : (r + 1 + 1) * (r + 1 + 1) = (r + 1) * (r + 1) + 2 * (r + 1) + 1 := by grind
      omega
    · exact ⟨r, by omega, by omega⟩
theorem root_ex (n : Int) (h : 0 ≤ n) : ∃ r, IsSqrt n r := by
  obtain ⟨r, h1, h2⟩ := root_nat n.toNat
  refine ⟨(r : Int), Int.natCast_nonneg _, ?_, ?_⟩
  · have : ((r * r : Nat) : Int) ≤ ((n.toNat : Nat) : Int) := Int.ofNat_le.2 h1
    rw [Int.natCast_mul] at this
    omega
  · have : ((n.toNat : Nat) : Int) < (((r + 1) * (r + 1) : Nat) : Int) := Int.ofNat_lt.2 h2
    rw [Int.natCast_mul, Int.natCast_add, show ((1 : Nat) : Int) = 1 from rfl] at this
    omega
namespace Sph
theorem cauchy (a b c d e f : Int) : (a * d + b * e + c * f) * (a * d + b * e + c * f) ≤ (a * a + b * b + c * c) * (d * d + e * e + f * f) := by
  have h1 := sq_nn (a * e - b * d)
  have h2 := sq_nn (a * f - c * d)
  have h3 := sq_nn (b * f - c * e)
  have h : (a * a + b * b + c * c) * (d * d + e * e + f * f) = (a * d + b * e + c * f) * (a * d + b * e + c * f) + (a * e - b * d) * (a * e - b * d) + (a * f - c * d) * (a * f - c * d) + (b * f - c * e) * (b * f - c * e) := by grind
  omega
theorem lt_of_sq {a b : Int} (hb : 0 ≤ b) (h : a * a < b * b) : a < b := by
  apply Decidable.byContradiction
  intro c
  have := Int.mul_le_mul (show b ≤ a by omega) (show b ≤ a by omega) hb (by omega)
  omega
theorem triangle (a b c d e f g h i n p q : Int) (hn : IsSqrt (dst a b c d e f) n) (hp : IsSqrt (dst a b c g h i) p) (hq : IsSqrt (dst g h i d e f) q) : n ≤ p + q + 1 := by
  obtain ⟨n0, n1, n2⟩ := hn
  obtain ⟨p0, p1, p2⟩ := hp
  obtain ⟨q0, q1, q2⟩ := hq
  unfold dst at *
  have hc := cauchy (g - a) (h - b) (i - c) (d - g) (e - h) (f - i)
  have e1 : (d - a) * (d - a) + (e - b) * (e - b) + (f - c) * (f - c) = ((g - a) * (g - a) + (h - b) * (h - b) + (i - c) * (i - c)) + ((d - g) * (d - g) + (e - h) * (e - h) + (f - i) * (f - i)) + 2 * ((g - a) * (d - g) + (h - b) * (e - h) + (i - c) * (f - i)) := by grind
  rw [e1] at n1
  have u0 : 0 ≤ (g - a) * (g - a) + (h - b) * (h - b) + (i - c) * (i - c) := by
    have := sq_nn (g - a); have := sq_nn (h - b); have := sq_nn (i - c); omega
  have v0 : 0 ≤ (d - g) * (d - g) + (e - h) * (e - h) + (f - i) * (f - i) := by
    have := sq_nn (d - g); have := sq_nn (e - h); have := sq_nn (f - i); omega
  generalize (g - a) * (g - a) + (h - b) * (h - b) + (i - c) * (i - c) = U at *
  generalize (d - g) * (d - g) + (e - h) * (e - h) + (f - i) * (f - i) = V at *
  generalize (g - a) * (d - g) + (h - b) * (e - h) + (i - c) * (f - i) = W at *
  have hw : W < (p + 1) * (q + 1) := by
    apply lt_of_sq (Int.mul_nonneg (by omega) (by omega))
    have h1 : U * V ≤ U * ((q + 1) * (q + 1)) := Int.mul_le_mul_of_nonneg_left (by omega) u0
    have h2 : U * ((q + 1) * (q + 1)) < (p + 1) * (p + 1) * ((q + 1) * (q + 1)) := Int.mul_lt_mul_of_pos_right p2 (Int.mul_pos (by omega) (by omega))
    have h3 : (p + 1) * (q + 1) * ((p + 1) * (q + 1)) = (p + 1) * (p + 1) * ((q + 1) * (q + 1)) := by grind
    omega
  have hl : n * n < (p + q + 2) * (p + q + 2) := by
    have e2 : (p + q + 2) * (p + q + 2) = (p + 1) * (p + 1) + (q + 1) * (q + 1) + 2 * ((p + 1) * (q + 1)) := by grind
    omega
  have := lt_of_sq (by omega) hl
  omega
theorem D_self (x y : Int) : D x y x y = 0 := by unfold D dst; simp
theorem D_swap (x y u v : Int) : D u v x y = D x y u v := D_sym x y u v
theorem root_zero : IsSqrt 0 0 := ⟨by omega, by omega, by omega⟩
end Sph
end Go.Proofs.YtmcobpgdledkdaaDoor
