/- The sine of every whole arc second of a quarter turn, in natural numbers, ready for the kernel's reckoning; that it is the plain Lean function's; what one pass over a piece of the quarter shows. No program in sight. -/
import Derived.Test.YtmagppjmjjkbjaaSer
namespace Go.Proofs.Ytmagppjmjjkbjaa.Tab
open Go.Proofs.Ytmagppjmjjkbjaa
set_option linter.unusedVariables false

def step (d p a : Nat) : Nat := Nat.div (Nat.div (Nat.mul (Nat.div (Nat.mul p a) 1152921504606846976) a) 1152921504606846976) d

def fineA (a : Nat) : Nat :=
  let p1 := step 6 a a
  let p2 := step 20 p1 a
  let p3 := step 42 p2 a
  let p4 := step 72 p3 a
  let p5 := step 110 p4 a
  let p6 := step 156 p5 a
  let p7 := step 210 p6 a
  let p8 := step 272 p7 a
  let p9 := step 342 p8 a
  let p10 := step 420 p9 a
  let p11 := step 506 p10 a
  let p12 := step 600 p11 a
  let p13 := step 702 p12 a
  Nat.sub (Nat.add (Nat.add (Nat.add (Nat.add (Nat.add (Nat.add a p2) p4) p6) p8) p10) p12) (Nat.add (Nat.add (Nat.add (Nat.add (Nat.add (Nat.add p1 p3) p5) p7) p9) p11) p13)

def sn (t : Nat) : Nat := Nat.div (Nat.add (fineA (Nat.div (Nat.mul t 3622009729038561421) 648000)) 536870912) 1073741824

/-- s^2 + c^2 is One^2 within 2 One. -/
def circ (s c : Nat) : Bool := Nat.ble (Nat.add (Nat.mul s s) (Nat.mul c c)) 1152921506754330624 && Nat.ble 1152921504606846976 (Nat.add (Nat.add (Nat.mul s s) (Nat.mul c c)) 2147483648)

def chk : Nat → Nat → Nat → Nat → Bool
  | 0, _, _, _ => true
  | n + 1, t, s, c =>
    let s' := sn (Nat.succ t)
    let c' := sn (Nat.sub 324000 (Nat.succ t))
    bif Nat.ble s s' then bif Nat.ble c' c then bif circ s' c' then chk n (Nat.succ t) s' c' else false else false else false

def pass (n t : Nat) : Bool := chk n t (sn t) (sn (Nat.sub 324000 t))

theorem step_cast (d p a k : Nat) (hd : (d : Int) = 2 * ((k : Int) + 1) * (2 * ((k : Int) + 1) + 1)) (x : Int) (hx : Ser.term x k = (p : Int)) (ha : x = (a : Int)) :
    Ser.term x (k + 1) = ((step d p a : Nat) : Int) := by
  rw [Ser.term, hx, ← hd, ha]
  show _ = ((p * a / 1152921504606846976 * a / 1152921504606846976 / d : Nat) : Int)
  simp only [Int.natCast_ediv, Int.natCast_mul]
  rfl

theorem fineA_cast (a : Nat) (ha : (a : Int) ≤ 2305843009213693952) : ((fineA a : Nat) : Int) = Ser.part (a : Int) 14 := by
  have t0 : Ser.term (a : Int) 0 = (a : Int) := rfl
  have t1 := step_cast 6 a a 0 (by decide) (a : Int) t0 rfl
  generalize hp1 : step 6 a a = p1 at t1
  have t2 := step_cast 20 p1 a 1 (by decide) (a : Int) t1 rfl
  generalize hp2 : step 20 p1 a = p2 at t2
  have t3 := step_cast 42 p2 a 2 (by decide) (a : Int) t2 rfl
  generalize hp3 : step 42 p2 a = p3 at t3
  have t4 := step_cast 72 p3 a 3 (by decide) (a : Int) t3 rfl
  generalize hp4 : step 72 p3 a = p4 at t4
  have t5 := step_cast 110 p4 a 4 (by decide) (a : Int) t4 rfl
  generalize hp5 : step 110 p4 a = p5 at t5
  have t6 := step_cast 156 p5 a 5 (by decide) (a : Int) t5 rfl
  generalize hp6 : step 156 p5 a = p6 at t6
  have t7 := step_cast 210 p6 a 6 (by decide) (a : Int) t6 rfl
  generalize hp7 : step 210 p6 a = p7 at t7
  have t8 := step_cast 272 p7 a 7 (by decide) (a : Int) t7 rfl
  generalize hp8 : step 272 p7 a = p8 at t8
  have t9 := step_cast 342 p8 a 8 (by decide) (a : Int) t8 rfl
  generalize hp9 : step 342 p8 a = p9 at t9
  have t10 := step_cast 420 p9 a 9 (by decide) (a : Int) t9 rfl
  generalize hp10 : step 420 p9 a = p10 at t10
  have t11 := step_cast 506 p10 a 10 (by decide) (a : Int) t10 rfl
  generalize hp11 : step 506 p10 a = p11 at t11
  have t12 := step_cast 600 p11 a 11 (by decide) (a : Int) t11 rfl
  generalize hp12 : step 600 p11 a = p12 at t12
  have t13 := step_cast 702 p12 a 12 (by decide) (a : Int) t12 rfl
  generalize hp13 : step 702 p12 a = p13 at t13
  have hp := Ser.part_in (a : Int) (Int.natCast_nonneg a) ha 14
  have hs : Ser.part (a : Int) 14 = (a : Int) - (p1 : Int) + (p2 : Int) - (p3 : Int) + (p4 : Int) - (p5 : Int) + (p6 : Int) - (p7 : Int) + (p8 : Int) - (p9 : Int) + (p10 : Int) - (p11 : Int) + (p12 : Int) - (p13 : Int) := by
    simp [Ser.part, t0, t1, t2, t3, t4, t5, t6, t7, t8, t9, t10, t11, t12, t13]
  rw [hs] at hp ⊢
  unfold fineA
  simp only [hp1, hp2, hp3, hp4, hp5, hp6, hp7, hp8, hp9, hp10, hp11, hp12, hp13]
  show ((((((((a + p2) + p4) + p6) + p8) + p10) + p12) - ((((((p1 + p3) + p5) + p7) + p9) + p11) + p13) : Nat) : Int) = _
  omega

theorem sn_cast (t : Nat) (ht : t ≤ 324000) : ((sn t : Nat) : Int) = Ser.sin0 (t : Int) := by
  have hb := Ser.ang_bd (t : Int) (by omega) (by omega)
  have ha : ((t * 3622009729038561421 / 648000 : Nat) : Int) = Ser.ang (t : Int) := by
    unfold Ser.ang
    simp only [Int.natCast_ediv, Int.natCast_mul]
    rfl
  have hf := fineA_cast (t * 3622009729038561421 / 648000) (by rw [ha]; omega)
  rw [ha] at hf
  have e : Ser.sin0 (t : Int) = (Ser.fine (t : Int) + 536870912) / 1073741824 := by
    unfold Ser.sin0 Ser.rnd
    rw [if_neg (by omega)]
    omega
  rw [e]
  unfold Ser.fine
  rw [← hf]
  show (((fineA (t * 3622009729038561421 / 648000) + 536870912) / 1073741824 : Nat) : Int) = _
  omega

/-- What a pass shows. -/
theorem chk_sound : ∀ (n t s c : Nat), s = sn t → c = sn (324000 - t) → chk n t s c = true → ∀ j, j < n →
    sn (t + j) ≤ sn (t + j + 1) ∧ sn (324000 - (t + j + 1)) ≤ sn (324000 - (t + j)) ∧ circ (sn (t + j + 1)) (sn (324000 - (t + j + 1))) = true
  | 0, _, _, _, _, _, _, j, hj => by omega
  | n + 1, t, s, c, hs, hc, h, j, hj => by
    rw [chk] at h
    simp only [cond_eq_ite] at h
    split at h
    · rename_i h1
      split at h
      · rename_i h2
        split at h
        · rename_i h3
          have hc' : sn (Nat.sub 324000 (Nat.succ t)) = sn (324000 - (t + 1)) := rfl
          rw [hc'] at h2 h3 h
          by_cases e : j = 0
          · subst e
            subst hs hc
            exact ⟨Nat.le_of_ble_eq_true h1, Nat.le_of_ble_eq_true h2, h3⟩
          · have := chk_sound n (t + 1) _ _ rfl rfl h (j - 1) (by omega)
            rw [show t + 1 + (j - 1) = t + j by omega] at this
            exact this
        · exact absurd h (by simp)
      · exact absurd h (by simp)
    · exact absurd h (by simp)

theorem pass_sound (n t : Nat) (h : pass n t = true) (x : Nat) (h0 : t ≤ x) (h1 : x < t + n) :
    sn x ≤ sn (x + 1) ∧ sn (324000 - (x + 1)) ≤ sn (324000 - x) ∧ circ (sn (x + 1)) (sn (324000 - (x + 1))) = true := by
  have := chk_sound n t _ _ rfl rfl h (x - t) (by omega)
  rw [show t + (x - t) = x by omega] at this
  exact this

end Go.Proofs.Ytmagppjmjjkbjaa.Tab
