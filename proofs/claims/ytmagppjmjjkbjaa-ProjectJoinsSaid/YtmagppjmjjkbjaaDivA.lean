/- Plain arithmetic of the long division of two words by one: no program in sight. -/
import Derived.WalkKit
import Derived.Lib.BitFns
import Derived.Laws.Bits64b
namespace Go.Proofs.Ytmagppjmjjkbjaa.Div
open Go.RowKit Go.Lib
set_option linter.unusedVariables false

theorem norm (y s : Nat) (hy : y < 18446744073709551616) (hy0 : 0 < y) (hb : Lib.bitLen y = 64 - s) (hs : s ≤ 64) :
    s < 64 ∧ 9223372036854775808 ≤ y * 2 ^ s ∧ y * 2 ^ s < 18446744073709551616 := by
  have hne : Lib.bitLen y ≠ 0 := by
    unfold Lib.bitLen
    rw [Lib.bitLenAux, if_neg (by omega)]
    omega
  have hlt : s < 64 := by omega
  have hP : 2 ^ s * 2 ^ (64 - s) = 18446744073709551616 := by rw [← Nat.pow_add, show s + (64 - s) = 64 from by omega]
  have hP' : 2 ^ s * 2 ^ (63 - s) = 9223372036854775808 := by rw [← Nat.pow_add, show s + (63 - s) = 63 from by omega]
  refine ⟨hlt, ?_, ?_⟩
  · have h1 : 2 ^ (63 - s) ≤ y := by
      refine Nat.le_of_not_lt fun h => ?_
      have := Lib.bitLen_le y (63 - s) (by omega) h
      omega
    calc 9223372036854775808 = 2 ^ (63 - s) * 2 ^ s := by rw [Nat.mul_comm, hP']
      _ ≤ y * 2 ^ s := Nat.mul_le_mul_right _ h1
  · have h2 : y < 2 ^ (64 - s) := by
      refine Nat.lt_of_not_le fun h => ?_
      have := Lib.bitLen_shift (64 - s) y h (by omega)
      have hq : 0 < y / 2 ^ (64 - s) := Nat.div_pos h (Nat.two_pow_pos _)
      have hne2 : Lib.bitLen (y / 2 ^ (64 - s)) ≠ 0 := by
        unfold Lib.bitLen
        rw [Lib.bitLenAux, if_neg (by omega)]
        omega
      omega
    calc y * 2 ^ s < 2 ^ (64 - s) * 2 ^ s := Nat.mul_lt_mul_of_pos_right h2 (Nat.two_pow_pos _)
      _ = 18446744073709551616 := by rw [Nat.mul_comm, hP]

theorem wrap_u64_nat (a : Nat) : IntKind.u64.wrap (a : Int) = ((a % 18446744073709551616 : Nat) : Int) := by rw [IntKind.wrap_u64]; omega

theorem shl_eq (y s : Nat) : IntKind.u64.wrap ((y : Int) * 2 ^ s) = ((y * 2 ^ s % 18446744073709551616 : Nat) : Int) := by
  have : ((y : Int) * 2 ^ s) = ((y * 2 ^ s : Nat) : Int) := by simp
  rw [this, wrap_u64_nat]

theorem shr_eq (lo s : Nat) : (lo : Int) / 2 ^ s = ((lo / 2 ^ s : Nat) : Int) := by simp

theorem and_eq (a : Nat) (ha : a < 18446744073709551616) : bits .and .u64 (a : Int) 4294967295 = ((a % 4294967296 : Nat) : Int) := by
  have h := bits_and_u64_nat a 4294967295 ha (by omega)
  have e : a &&& 4294967295 = a % 4294967296 := Nat.and_two_pow_sub_one_eq_mod a 32
  rw [e] at h
  exact h

/-- The high word of the shifted dividend. -/
theorem high (hi lo y s : Nat) (hlo : lo < 18446744073709551616) (hhi : hi < y) (hs : s < 64) (hY : y * 2 ^ s < 18446744073709551616) :
    bits .or .u64 (IntKind.u64.wrap ((hi : Int) * 2 ^ s)) ((lo : Int) / 2 ^ (64 - s)) = (((hi * 18446744073709551616 + lo) * 2 ^ s / 18446744073709551616 : Nat) : Int) := by
  have hP : 2 ^ s * 2 ^ (64 - s) = 18446744073709551616 := by rw [← Nat.pow_add, show s + (64 - s) = 64 from by omega]
  have h1 : hi * 2 ^ s < 18446744073709551616 := Nat.lt_of_le_of_lt (Nat.mul_le_mul_right _ (by omega)) hY
  have h2 : lo / 2 ^ (64 - s) < 2 ^ s := (Nat.div_lt_iff_lt_mul (Nat.two_pow_pos _)).2 (by rw [hP]; exact hlo)
  have h3 : lo / 2 ^ (64 - s) < 18446744073709551616 := Nat.lt_of_le_of_lt (Nat.div_le_self _ _) hlo
  rw [shl_eq, shr_eq, Nat.mod_eq_of_lt h1, bits_or_u64_nat _ _ h1 h3, Nat.mul_comm hi (2 ^ s), ← Nat.two_pow_add_eq_or_of_lt h2]
  congr 1
  have e1 : (hi * 18446744073709551616 + lo) * 2 ^ s = lo * 2 ^ s + (2 ^ s * hi) * 18446744073709551616 := by
    rw [Nat.add_mul, Nat.mul_right_comm, Nat.mul_comm hi (2 ^ s), Nat.add_comm]
  rw [e1, Nat.add_mul_div_right _ _ (by omega)]
  have e2 : lo * 2 ^ s / 18446744073709551616 = lo / 2 ^ (64 - s) := by
    rw [← hP, Nat.mul_comm lo, Nat.mul_div_mul_left _ _ (Nat.two_pow_pos _)]
  rw [e2, Nat.add_comm]

/-- The numbers of a round: u the words above, c the next half word, y the divisor of two half words. -/
structure Half (u c y1 y0 q r : Nat) : Prop where
  sum : q * y1 + r = u
  up : (u * 4294967296 + c) / (y1 * 4294967296 + y0) ≤ q
  most : q ≤ 4294967297
  rest : r < 4294967296

theorem half_start (u c y1 y0 : Nat) (hc : c < 4294967296) (h1 : 2147483648 ≤ y1) (h2 : y1 < 4294967296) (h0 : y0 < 4294967296) (hu : u < y1 * 4294967296 + y0) :
    Half u c y1 y0 (u / y1) (u % y1) := by
  have hy : 0 < y1 := by omega
  refine ⟨by rw [Nat.mul_comm]; exact Nat.div_add_mod u y1, ?_, ?_, Nat.lt_trans (Nat.mod_lt _ hy) h2⟩
  · rw [Nat.le_div_iff_mul_le hy]
    have h := Nat.div_mul_le_self (u * 4294967296 + c) (y1 * 4294967296 + y0)
    generalize (u * 4294967296 + c) / (y1 * 4294967296 + y0) = q at h
    rw [Nat.mul_add, ← Nat.mul_assoc] at h
    omega
  · refine Nat.le_of_lt_succ ((Nat.div_lt_iff_lt_mul hy).2 ?_)
    omega

theorem aux_lt (a b r c u : Nat) (e : a + r = u) (ht : r * 4294967296 + c < b) : u * 4294967296 + c < a * 4294967296 + b := by
  subst e
  rw [Nat.add_mul, Nat.add_assoc]
  exact Nat.add_lt_add_left ht _

/-- One round goes down by one. -/
theorem half_down (u c y1 y0 q r : Nat) (h : Half u c y1 y0 q r) (h1 : 2147483648 ≤ y1) (hu : u < y1 * 4294967296 + y0) (hc : c < 4294967296)
    (ht : 4294967296 ≤ q ∨ r * 4294967296 + c < q * y0) (hr : r + y1 < 4294967296) : Half u c y1 y0 (q - 1) (r + y1) ∧ 0 < q := by
  have hlt : (u * 4294967296 + c) / (y1 * 4294967296 + y0) < q := by
    rw [Nat.div_lt_iff_lt_mul (by omega)]
    rcases ht with ht | ht
    · have : 4294967296 * (y1 * 4294967296 + y0) ≤ q * (y1 * 4294967296 + y0) := Nat.mul_le_mul_right _ ht
      omega
    · have e := h.sum
      rw [Nat.mul_add, ← Nat.mul_assoc]
      exact aux_lt _ _ r c u e ht
  have hq : 0 < q := Nat.lt_of_le_of_lt (Nat.zero_le _) hlt
  refine ⟨⟨?_, by omega, by have := h.most; omega, hr⟩, hq⟩
  have e := h.sum
  obtain ⟨k, rfl⟩ : ∃ k, q = k + 1 := ⟨q - 1, by omega⟩
  rw [Nat.add_mul] at e
  simp only [Nat.add_sub_cancel]
  omega

/-- The end of the rounds by the test. -/
theorem half_end (u c y1 y0 q r : Nat) (h : Half u c y1 y0 q r) (h1 : 2147483648 ≤ y1) (ht : q * y0 ≤ r * 4294967296 + c) :
    q = (u * 4294967296 + c) / (y1 * 4294967296 + y0) := by
  refine Nat.le_antisymm ?_ h.up
  rw [Nat.le_div_iff_mul_le (by omega)]
  have e := h.sum
  rw [Nat.mul_add, ← Nat.mul_assoc]
  omega

/-- The end of the rounds by the break. -/
theorem half_break (u c y1 y0 q r : Nat) (h : Half u c y1 y0 q r) (h1 : 2147483648 ≤ y1) (h0 : y0 < 4294967296) (hu : u < y1 * 4294967296 + y0) (hc : c < 4294967296)
    (ht : 4294967296 ≤ q ∨ r * 4294967296 + c < q * y0) (hr : 4294967296 ≤ r + y1) : q - 1 = (u * 4294967296 + c) / (y1 * 4294967296 + y0) ∧ 0 < q := by
  have hlt : (u * 4294967296 + c) / (y1 * 4294967296 + y0) < q := by
    rw [Nat.div_lt_iff_lt_mul (by omega)]
    rcases ht with ht | ht
    · have : 4294967296 * (y1 * 4294967296 + y0) ≤ q * (y1 * 4294967296 + y0) := Nat.mul_le_mul_right _ ht
      omega
    · have e := h.sum
      rw [Nat.mul_add, ← Nat.mul_assoc]
      exact aux_lt _ _ r c u e ht
  have hq : 0 < q := Nat.lt_of_le_of_lt (Nat.zero_le _) hlt
  refine ⟨Nat.le_antisymm ?_ (by omega), hq⟩
  rw [Nat.le_div_iff_mul_le (by omega)]
  have e := h.sum
  have hm := h.most
  obtain ⟨k, rfl⟩ : ∃ k, q = k + 1 := ⟨q - 1, by omega⟩
  rw [Nat.add_mul] at e
  simp only [Nat.add_sub_cancel]
  rw [Nat.mul_add, ← Nat.mul_assoc]
  have hk : k * y0 ≤ 4294967296 * 4294967295 := Nat.mul_le_mul (by omega) (by omega)
  omega

/-- The same three, in integers. -/
theorem int_down (u c y1 y0 : Nat) (k z i1 i0 ic : Int) (e1 : i1 = y1) (e0 : i0 = y0) (ec : ic = c) (hk0 : 0 ≤ k) (hz0 : 0 ≤ z) (h : Half u c y1 y0 k.toNat z.toNat) (h1 : 2147483648 ≤ i1) (hu : u < y1 * 4294967296 + y0) (hc : ic ≤ 4294967295)
    (ht : 4294967296 ≤ k ∨ 4294967296 * z + ic < k * i0) (hr : z + i1 < 4294967296) : Half u c y1 y0 (k - 1).toNat (z + i1).toNat ∧ 0 < k := by
  subst e1 e0 ec
  obtain ⟨a, rfl⟩ := Int.eq_ofNat_of_zero_le hk0
  obtain ⟨b, rfl⟩ := Int.eq_ofNat_of_zero_le hz0
  simp only [Int.toNat_natCast] at h
  obtain ⟨r1, r2⟩ := half_down u c y1 y0 a b h (by omega) hu (by omega) (by
    rcases ht with ht | ht
    · exact .inl (by omega)
    · refine .inr ?_
      rw [← Int.natCast_mul] at ht
      omega) (by omega)
  have ea : ((a : Int) - 1).toNat = a - 1 := by omega
  have eb : ((b : Int) + (y1 : Int)).toNat = b + y1 := by omega
  rw [ea, eb]
  exact ⟨r1, by omega⟩

theorem int_break (u c y1 y0 : Nat) (k z i1 i0 ic : Int) (e1 : i1 = y1) (e0 : i0 = y0) (ec : ic = c) (hk0 : 0 ≤ k) (hz0 : 0 ≤ z) (h : Half u c y1 y0 k.toNat z.toNat) (h1 : 2147483648 ≤ i1) (h0 : i0 ≤ 4294967295) (hu : u < y1 * 4294967296 + y0) (hc : ic ≤ 4294967295)
    (ht : 4294967296 ≤ k ∨ 4294967296 * z + ic < k * i0) (hr : 4294967296 ≤ z + i1) : (k - 1).toNat = (u * 4294967296 + c) / (y1 * 4294967296 + y0) ∧ 0 < k := by
  subst e1 e0 ec
  obtain ⟨a, rfl⟩ := Int.eq_ofNat_of_zero_le hk0
  obtain ⟨b, rfl⟩ := Int.eq_ofNat_of_zero_le hz0
  simp only [Int.toNat_natCast] at h
  obtain ⟨r1, r2⟩ := half_break u c y1 y0 a b h (by omega) (by omega) hu (by omega) (by
    rcases ht with ht | ht
    · exact .inl (by omega)
    · refine .inr ?_
      rw [← Int.natCast_mul] at ht
      omega) (by omega)
  have ea : ((a : Int) - 1).toNat = a - 1 := by omega
  rw [ea]
  exact ⟨r1, by omega⟩

theorem int_end (u c y1 y0 : Nat) (k z i1 i0 ic : Int) (e1 : i1 = y1) (e0 : i0 = y0) (ec : ic = c) (hk0 : 0 ≤ k) (hz0 : 0 ≤ z) (h : Half u c y1 y0 k.toNat z.toNat) (h1 : 2147483648 ≤ i1)
    (ht : k * i0 ≤ 4294967296 * z + ic) : k.toNat = (u * 4294967296 + c) / (y1 * 4294967296 + y0) := by
  subst e1 e0 ec
  obtain ⟨a, rfl⟩ := Int.eq_ofNat_of_zero_le hk0
  obtain ⟨b, rfl⟩ := Int.eq_ofNat_of_zero_le hz0
  simp only [Int.toNat_natCast] at h
  rw [← Int.natCast_mul] at ht
  exact half_end u c y1 y0 a b h (by omega) (by omega)

/-- The quotient of a half word is a half word. -/
theorem quot_lt (u c Y : Nat) (hc : c < 4294967296) (hu : u < Y) : (u * 4294967296 + c) / Y < 4294967296 := by
  refine (Nat.div_lt_iff_lt_mul (by omega)).2 ?_
  omega

/-- The start of a half word's division, in integers. -/
theorem int_start (u c y1 y0 : Nat) (hc : c < 4294967296) (h1 : 2147483648 ≤ y1) (h2 : y1 < 4294967296) (h0 : y0 < 4294967296) (hu : u < y1 * 4294967296 + y0) :
    ∃ q p r : Int, (u : Int) / (y1 : Int) = q ∧ 0 ≤ q ∧ q ≤ 4294967297 ∧ q * (y1 : Int) = p ∧ 0 ≤ p ∧ p ≤ (u : Int) ∧ (u : Int) - p = r ∧ 0 ≤ r ∧ r ≤ 4294967295 ∧ Half u c y1 y0 q.toNat r.toNat := by
  have h := half_start u c y1 y0 hc h1 h2 h0 hu
  have hs := h.sum
  have hm := h.most
  have hr := h.rest
  have hs' : ((u / y1 : Nat) : Int) * (y1 : Int) + ((u % y1 : Nat) : Int) = (u : Int) := by
    rw [← Int.natCast_mul, ← Int.natCast_add, hs]
  refine ⟨((u / y1 : Nat) : Int), ((u / y1 : Nat) : Int) * (y1 : Int), ((u % y1 : Nat) : Int), by simp, Int.natCast_nonneg _, by omega, rfl, ?_, by omega, by omega, Int.natCast_nonneg _, by omega, ?_⟩
  · rw [← Int.natCast_mul]
    exact Int.natCast_nonneg _
  · simpa only [Int.toNat_natCast] using h

/-- What is left behind a half word's division, in words. -/
theorem left (u c Y q : Nat) (hY0 : 0 < Y) (hY : Y < 18446744073709551616) (hq : q = (u * 4294967296 + c) / Y) :
    IntKind.u64.wrap (IntKind.u64.wrap (IntKind.u64.wrap ((u : Int) * 4294967296) + (c : Int)) - IntKind.u64.wrap ((q : Int) * (Y : Int))) = (((u * 4294967296 + c) % Y : Nat) : Int) := by
  have h1 := Nat.div_add_mod (u * 4294967296 + c) Y
  have h2 := Nat.mod_lt (u * 4294967296 + c) hY0
  rw [← hq, Nat.mul_comm Y q] at h1
  have e : (q : Int) * (Y : Int) = ((q * Y : Nat) : Int) := (Int.natCast_mul q Y).symm
  rw [e]
  simp only [IntKind.wrap_u64]
  omega

/-- The whole. -/
theorem whole (U Y t1 t0 u q1 q0 v : Nat) (hU : U = u * 18446744073709551616 + (t1 * 4294967296 + t0)) (hY : 0 < Y)
    (h1 : q1 = (u * 4294967296 + t1) / Y) (hv : v = (u * 4294967296 + t1) % Y) (h0 : q0 = (v * 4294967296 + t0) / Y) :
    q1 * 4294967296 + q0 = U / Y ∧ (v * 4294967296 + t0) % Y = U % Y := by
  have a1 := Nat.div_add_mod (u * 4294967296 + t1) Y
  rw [← h1, ← hv] at a1
  have a0 := Nat.div_add_mod (v * 4294967296 + t0) Y
  rw [← h0] at a0
  have hm := Nat.mod_lt (v * 4294967296 + t0) hY
  have e : U = (v * 4294967296 + t0) % Y + (q1 * 4294967296 + q0) * Y := by
    rw [hU, Nat.add_mul]
    have : q1 * 4294967296 * Y = Y * q1 * 4294967296 := by rw [Nat.mul_right_comm, Nat.mul_comm q1 Y]
    rw [this, Nat.mul_comm q0 Y]
    clear this hm h1 hv h0 hU
    omega
  constructor
  · rw [e, Nat.add_mul_div_right _ _ hY, Nat.div_eq_of_lt hm, Nat.zero_add]
  · rw [e, Nat.add_mul_mod_self_right, Nat.mod_mod]

theorem unshift (N y P : Nat) (hP : 0 < P) : N * P / (y * P) = N / y ∧ N * P % (y * P) / P = N % y := by
  constructor
  · exact Nat.mul_div_mul_right _ _ hP
  · rw [Nat.mul_mod_mul_right, Nat.mul_div_cancel _ hP]

end Go.Proofs.Ytmagppjmjjkbjaa.Div
