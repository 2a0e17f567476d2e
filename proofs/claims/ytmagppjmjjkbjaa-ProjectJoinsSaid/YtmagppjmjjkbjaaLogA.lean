/- The fine logarithm of package series, as plain Lean functions, and their bounds: no program in sight. -/
import Derived.Lib.BitFns
import Derived.Test.YtmagppjmjjkbjaaSer
namespace Go.Proofs.Ytmagppjmjjkbjaa.Ser
set_option linter.unusedVariables false

/-- The exponent: 2^(30 + lex x) ≤ x < 2^(31 + lex x). -/
def lex (x : Int) : Int := (Lib.bitLen x.toNat : Int) - 31
/-- The mantissa, from 2^56 on. -/
def man (x : Int) : Int := if lex x ≤ 26 then x * 2 ^ (26 - lex x).toNat else x / 2 ^ (lex x - 26).toNat
def zed (m : Int) : Int := (m - 72057594037927936) * 72057594037927936 / (m + 72057594037927936)
def wed (z : Int) : Int := z * z / 72057594037927936
def pw (z w : Int) : Nat → Int
  | 0 => z
  | k + 1 => pw z w k * w / 72057594037927936
def lsum (z w : Int) : Nat → Int
  | 0 => 0
  | k + 1 => lsum z w k + pw z w k / (2 * (k : Int) + 1)
def msum (m : Int) : Int := lsum (zed m) (wed (zed m)) 21
def fineLog (x : Int) : Int := lex x * 49946518145322873 + 2 * msum (man x)

theorem bitLen_pow (n b : Nat) (h0 : 0 < n) (h1 : n < 2 ^ 64) (hb : Lib.bitLen n = b) : 2 ^ (b - 1) ≤ n ∧ n < 2 ^ b ∧ 1 ≤ b ∧ b ≤ 64 := by
  have hne : ∀ k, 0 < k → Lib.bitLen k ≠ 0 := by
    intro k hk
    unfold Lib.bitLen
    rw [Lib.bitLenAux, if_neg (by omega)]
    omega
  have hb0 := hne n h0
  have hle := Lib.bitLen_le n 64 (by omega) h1
  refine ⟨Nat.le_of_not_lt fun h => ?_, Nat.lt_of_not_le fun h => ?_, by omega, by omega⟩
  · have := Lib.bitLen_le n (b - 1) (by omega) h
    omega
  · have h2 := Lib.bitLen_shift b n h h1
    have h3 := hne (n / 2 ^ b) (Nat.div_pos h (Nat.two_pow_pos _))
    omega

theorem lex_bd (x : Int) (h0 : 1 ≤ x) (h1 : x ≤ 4611686018427387904) : -30 ≤ lex x ∧ lex x ≤ 32 := by
  obtain ⟨n, rfl⟩ := Int.eq_ofNat_of_zero_le (show 0 ≤ x by omega)
  have h := bitLen_pow n _ (by omega) (by omega) rfl
  have h63 := Lib.bitLen_le n 63 (by omega) (by omega)
  unfold lex
  rw [Int.toNat_natCast]
  omega

theorem man_bd (x : Int) (h0 : 1 ≤ x) (h1 : x ≤ 4611686018427387904) : 72057594037927936 ≤ man x ∧ man x < 144115188075855872 := by
  have hl := lex_bd x h0 h1
  obtain ⟨n, rfl⟩ := Int.eq_ofNat_of_zero_le (show 0 ≤ x by omega)
  have h := bitLen_pow n _ (by omega) (by omega) rfl
  have hx : lex (n : Int) = (Lib.bitLen n : Int) - 31 := by unfold lex; rw [Int.toNat_natCast]
  unfold man
  generalize Lib.bitLen n = b at *
  obtain ⟨ha, hb, hc, hd⟩ := h
  split
  · rename_i hle
    have e : (26 - lex (n : Int)).toNat = 57 - b := by omega
    rw [e]
    have p1 : 2 ^ (b - 1) * 2 ^ (57 - b) = 72057594037927936 := by rw [← Nat.pow_add, show b - 1 + (57 - b) = 56 by omega]
    have p2 : 2 ^ b * 2 ^ (57 - b) = 144115188075855872 := by rw [← Nat.pow_add, show b + (57 - b) = 57 by omega]
    have q1 : 2 ^ (b - 1) * 2 ^ (57 - b) ≤ n * 2 ^ (57 - b) := Nat.mul_le_mul_right _ ha
    have q2 : n * 2 ^ (57 - b) < 2 ^ b * 2 ^ (57 - b) := Nat.mul_lt_mul_of_pos_right hb (Nat.two_pow_pos _)
    have e2 : (n : Int) * 2 ^ (57 - b) = ((n * 2 ^ (57 - b) : Nat) : Int) := by simp
    rw [e2]
    omega
  · rename_i hle
    have e : (lex (n : Int) - 26).toNat = b - 57 := by omega
    rw [e]
    have p1 : 72057594037927936 * 2 ^ (b - 57) = 2 ^ (b - 1) := by
      rw [show (72057594037927936 : Nat) = 2 ^ 56 from rfl, ← Nat.pow_add, show 56 + (b - 57) = b - 1 by omega]
    have p2 : 144115188075855872 * 2 ^ (b - 57) = 2 ^ b := by
      rw [show (144115188075855872 : Nat) = 2 ^ 57 from rfl, ← Nat.pow_add, show 57 + (b - 57) = b by omega]
    have q1 : 72057594037927936 ≤ n / 2 ^ (b - 57) := (Nat.le_div_iff_mul_le (Nat.two_pow_pos _)).2 (by rw [p1]; exact ha)
    have q2 : n / 2 ^ (b - 57) < 144115188075855872 := (Nat.div_lt_iff_lt_mul (Nat.two_pow_pos _)).2 (by rw [p2]; exact hb)
    have e2 : (n : Int) / 2 ^ (b - 57) = ((n / 2 ^ (b - 57) : Nat) : Int) := by simp
    rw [e2]
    omega

theorem zed_bd (m : Int) (h0 : 72057594037927936 ≤ m) (h1 : m ≤ 144115188075855872) : 0 ≤ zed m ∧ zed m ≤ 24019198012642646 := by
  unfold zed
  constructor
  · exact Int.ediv_nonneg (by omega) (by omega)
  · refine Int.le_of_lt_add_one ((Int.ediv_lt_iff_lt_mul (by omega)).2 ?_)
    omega

theorem sq_bd (z w : Int) (hz0 : 0 ≤ z) (hw0 : 0 ≤ w) (hw : w ≤ 72057594037927936) : 0 ≤ z * w / 72057594037927936 ∧ z * w / 72057594037927936 ≤ z := by
  have h1 := Int.mul_nonneg hz0 hw0
  have h2 : z * w ≤ z * 72057594037927936 := Int.mul_le_mul_of_nonneg_left hw hz0
  constructor <;> omega

theorem wed_bd (z : Int) (h0 : 0 ≤ z) (h1 : z ≤ 24019198012642646) : 0 ≤ wed z ∧ wed z ≤ 24019198012642646 := by
  have := sq_bd z z h0 h0 (by omega)
  unfold wed
  omega

theorem pw_bd (z w : Int) (hz0 : 0 ≤ z) (hz : z ≤ 24019198012642646) (hw0 : 0 ≤ w) (hw : w ≤ 24019198012642646) (k : Nat) : 0 ≤ pw z w k ∧ pw z w k ≤ z := by
  induction k with
  | zero => exact ⟨hz0, Int.le_refl _⟩
  | succ k ih =>
    have := sq_bd (pw z w k) w ih.1 hw0 (by omega)
    rw [pw]
    omega

theorem lsum_bd (z w : Int) (hz0 : 0 ≤ z) (hz : z ≤ 24019198012642646) (hw0 : 0 ≤ w) (hw : w ≤ 24019198012642646) (k : Nat) : 0 ≤ lsum z w k ∧ lsum z w k ≤ (k : Int) * 24019198012642646 := by
  induction k with
  | zero => exact ⟨Int.le_refl _, by simp [lsum]⟩
  | succ k ih =>
    have h := pw_bd z w hz0 hz hw0 hw k
    have h1 := Int.ediv_nonneg h.1 (show 0 ≤ 2 * (k : Int) + 1 by omega)
    have h2 := Int.ediv_le_self (2 * (k : Int) + 1) h.1
    rw [lsum, Int.natCast_add, Int.add_mul]
    omega

theorem msum_bd (m : Int) (h0 : 72057594037927936 ≤ m) (h1 : m ≤ 144115188075855872) : 0 ≤ msum m ∧ msum m ≤ 504403158265495566 := by
  have hz := zed_bd m h0 h1
  have hw := wed_bd _ hz.1 hz.2
  have := lsum_bd _ _ hz.1 hz.2 hw.1 hw.2 21
  unfold msum
  omega

theorem fineLog_bd (x : Int) (h0 : 1 ≤ x) (h1 : x ≤ 4611686018427387904) : -1600000000000000000 ≤ fineLog x ∧ fineLog x ≤ 2700000000000000000 := by
  have hl := lex_bd x h0 h1
  have hm := man_bd x h0 h1
  have hs := msum_bd (man x) hm.1 (by omega)
  unfold fineLog
  omega

def log (x : Int) : Int := rnd (fineLog x) 67108864
/-- The inverse hyperbolic tangent of a number from 0 on. -/
def artanh0 (s : Int) : Int := rnd (fineLog (1073741824 + s) - fineLog (1073741824 - s)) 134217728
def artanh (s : Int) : Int := if s < 0 then -artanh0 (-s) else artanh0 s

end Go.Proofs.Ytmagppjmjjkbjaa.Ser
