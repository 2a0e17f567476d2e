/- The numbers of package series, as plain Lean functions, and their bounds: no program in sight. -/
namespace Go.Proofs.Ytmagppjmjjkbjaa.Ser
set_option linter.unusedVariables false

/-- a / b rounded to the nearest integer, halves up. -/
def rnd (a b : Int) : Int := (2 * a + b) / (2 * b)

/-- The angle of t arc seconds times 2^60. -/
def ang (t : Int) : Int := t * 3622009729038561421 / 648000

/-- The k-th term of the fine sine. -/
def term (a : Int) : Nat → Int
  | 0 => a
  | k + 1 => term a k * a / 1152921504606846976 * a / 1152921504606846976 / (2 * ((k : Int) + 1) * (2 * ((k : Int) + 1) + 1))

/-- The sum of the first k terms, with alternating signs. -/
def part (a : Int) : Nat → Int
  | 0 => 0
  | k + 1 => if k % 2 = 0 then part a k + term a k else part a k - term a k

def fine (t : Int) : Int := part (ang t) 14

theorem ang_bd (t : Int) (h0 : 0 ≤ t) (h1 : t ≤ 324000) : 0 ≤ ang t ∧ ang t ≤ 1811004864519280710 := by
  unfold ang
  omega

theorem mul_bd (x a : Int) (hx : 0 ≤ x) (ha0 : 0 ≤ a) (ha : a ≤ 2305843009213693952) : 0 ≤ x * a / 1152921504606846976 ∧ x * a / 1152921504606846976 ≤ 2 * x := by
  have h1 := Int.mul_nonneg hx ha0
  have h2 : x * a ≤ x * 2305843009213693952 := Int.mul_le_mul_of_nonneg_left ha hx
  constructor <;> omega

theorem den_pos (k : Nat) : 6 ≤ 2 * ((k : Int) + 1) * (2 * ((k : Int) + 1) + 1) := by
  have h : (2 : Int) * 3 ≤ 2 * ((k : Int) + 1) * (2 * ((k : Int) + 1) + 1) := Int.mul_le_mul (by omega) (by omega) (by omega) (by omega)
  omega

theorem term_down (a : Int) (ha0 : 0 ≤ a) (ha : a ≤ 2305843009213693952) (k : Nat) : 0 ≤ term a k ∧ term a k ≤ a ∧ 0 ≤ term a (k + 1) ∧ term a (k + 1) ≤ term a k := by
  have step : ∀ k, 0 ≤ term a k → 0 ≤ term a (k + 1) ∧ term a (k + 1) ≤ term a k := by
    intro k h
    have b1 := mul_bd _ a h ha0 ha
    have b2 := mul_bd _ a b1.1 ha0 ha
    have d := den_pos k
    rw [term]
    generalize term a k * a / 1152921504606846976 * a / 1152921504606846976 = y at *
    generalize 2 * ((k : Int) + 1) * (2 * ((k : Int) + 1) + 1) = c at *
    have e1 : 0 ≤ y / c := Int.ediv_nonneg b2.1 (by omega)
    refine ⟨e1, ?_⟩
    have e2 := Int.mul_ediv_add_emod y c
    have e3 := Int.emod_nonneg y (show c ≠ 0 by omega)
    have e4 : 6 * (y / c) ≤ c * (y / c) := Int.mul_le_mul_of_nonneg_right d e1
    omega
  induction k with
  | zero => exact ⟨ha0, Int.le_refl _, step 0 ha0⟩
  | succ k ih =>
    have s := step (k + 1) ih.2.2.1
    exact ⟨ih.2.2.1, by omega, s⟩

theorem part_bd (a : Int) (ha0 : 0 ≤ a) (ha : a ≤ 2305843009213693952) (k : Nat) :
    (k % 2 = 0 → 0 ≤ part a k ∧ part a k + term a k ≤ a) ∧ (k % 2 = 1 → term a k ≤ part a k ∧ part a k ≤ a) := by
  induction k with
  | zero => exact ⟨fun _ => ⟨Int.le_refl _, by simp [part, term]⟩, fun h => by omega⟩
  | succ k ih =>
    have t := term_down a ha0 ha k
    by_cases h : k % 2 = 0
    · refine ⟨fun h' => by omega, fun _ => ?_⟩
      rw [part, if_pos h]
      have := ih.1 h
      omega
    · refine ⟨fun _ => ?_, fun h' => by omega⟩
      rw [part, if_neg h]
      have := ih.2 (by omega)
      omega

theorem part_in (a : Int) (ha0 : 0 ≤ a) (ha : a ≤ 2305843009213693952) (k : Nat) : 0 ≤ part a k ∧ part a k ≤ a := by
  have b := part_bd a ha0 ha k
  have t := term_down a ha0 ha k
  by_cases h : k % 2 = 0
  · have := b.1 h
    omega
  · have := b.2 (by omega)
    omega

theorem fine_bd (t : Int) (h0 : 0 ≤ t) (h1 : t ≤ 324000) : 0 ≤ fine t ∧ fine t ≤ 1811004864519280710 := by
  have a := ang_bd t h0 h1
  have p := part_in (ang t) a.1 (by omega) 14
  unfold fine
  omega

/-- The sine of r arc seconds, from 0 to half a turn. -/
def sin0 (r : Int) : Int := rnd (fine (if 324000 < r then 648000 - r else r)) 1073741824

def sin (x : Int) : Int := if 648000 < x % 1296000 then -sin0 (1296000 - x % 1296000) else sin0 (x % 1296000)

def cos (x : Int) : Int := sin (324000 - x % 1296000)

def rad (x : Int) : Int := if x < -2147483648 ∨ 2147483648 < x then 0 else rnd (x * 3373259426) 648000

theorem sin0_bd (r : Int) (h0 : 0 ≤ r) (h1 : r ≤ 648000) : 0 ≤ sin0 r ∧ sin0 r ≤ 1686629714 := by
  have f := fine_bd (if 324000 < r then 648000 - r else r) (by split <;> omega) (by split <;> omega)
  unfold sin0 rnd
  omega

theorem sin_bd (x : Int) : -1686629714 ≤ sin x ∧ sin x ≤ 1686629714 := by
  unfold sin
  split
  · have := sin0_bd (1296000 - x % 1296000) (by omega) (by omega)
    omega
  · have := sin0_bd (x % 1296000) (by omega) (by omega)
    omega

theorem cos_bd (x : Int) : -1686629714 ≤ cos x ∧ cos x ≤ 1686629714 := sin_bd _

/-- The search by halves for the least angle whose sine is at least y. -/
def bs (y : Int) : Nat → Int → Int → Int
  | 0, lo, _ => lo
  | f + 1, lo, hi => if lo < hi then (if sin ((lo + hi) / 2) < y then bs y f ((lo + hi) / 2 + 1) hi else bs y f lo ((lo + hi) / 2)) else lo

def fst (y : Int) : Int := bs y 19 0 324000

theorem bs_bd (y : Int) (f : Nat) : ∀ lo hi : Int, lo ≤ hi → lo ≤ bs y f lo hi ∧ bs y f lo hi ≤ hi := by
  induction f with
  | zero => intro lo hi h; exact ⟨Int.le_refl _, h⟩
  | succ f ih =>
    intro lo hi h
    rw [bs]
    split
    · split
      · have := ih ((lo + hi) / 2 + 1) hi (by omega)
        omega
      · have := ih lo ((lo + hi) / 2) (by omega)
        omega
    · omega

theorem fst_bd (y : Int) : 0 ≤ fst y ∧ fst y ≤ 324000 := bs_bd y 19 0 324000 (by omega)

theorem bs_same (y : Int) (f : Nat) (lo : Int) : bs y f lo lo = lo := by
  cases f with
  | zero => rfl
  | succ f => rw [bs, if_neg (by omega)]

/-- The arc sine of a number from 0 to One, as the program finds it. -/
def asin0 (y : Int) : Int := if 0 < fst y ∧ y - sin (fst y - 1) ≤ sin (fst y) - y then fst (sin (fst y - 1)) else fst y

/-- The arc sine of a number from 0 to One, as the reference finds it. -/
def rasin0 (y : Int) : Int := if fst y = 0 then 0 else if y - sin (fst (sin (fst y - 1))) ≤ sin (fst y) - y then fst (sin (fst y - 1)) else fst y

theorem asin0_bd (y : Int) : 0 ≤ asin0 y ∧ asin0 y ≤ 324000 := by
  unfold asin0
  split <;> exact fst_bd _
theorem rasin0_bd (y : Int) : 0 ≤ rasin0 y ∧ rasin0 y ≤ 324000 := by
  unfold rasin0
  split
  · omega
  · split <;> exact fst_bd _

def asin (y : Int) : Int := if y < 0 then -asin0 (-y) else asin0 y
def rasin (y : Int) : Int := if y < 0 then -rasin0 (-y) else rasin0 y

end Go.Proofs.Ytmagppjmjjkbjaa.Ser
