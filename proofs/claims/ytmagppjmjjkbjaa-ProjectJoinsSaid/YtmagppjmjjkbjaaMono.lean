/- The sine rises over the quarter turn, and the squares of sine and cosine add up to One^2 within 2 One: for all angles, out of the passes. No program in sight. -/
import Derived.Test.YtmagppjmjjkbjaaTabP1
import Derived.Test.YtmagppjmjjkbjaaTabP2
import Derived.Test.YtmagppjmjjkbjaaTabP3
namespace Go.Proofs.Ytmagppjmjjkbjaa.Tab
open Go.Proofs.Ytmagppjmjjkbjaa
set_option linter.unusedVariables false

def Good (x : Nat) : Prop := sn x ≤ sn (x + 1) ∧ sn (324000 - (x + 1)) ≤ sn (324000 - x) ∧ circ (sn (x + 1)) (sn (324000 - (x + 1))) = true

theorem good (x : Nat) (h : x < 162000) : Good x := by
  unfold Good
  by_cases c1 : x < 54000
  · by_cases c : x < 5400
    · exact pass_sound _ _ pass0 x (by omega) (by omega)
    by_cases c : x < 10800
    · exact pass_sound _ _ pass1 x (by omega) (by omega)
    by_cases c : x < 16200
    · exact pass_sound _ _ pass2 x (by omega) (by omega)
    by_cases c : x < 21600
    · exact pass_sound _ _ pass3 x (by omega) (by omega)
    by_cases c : x < 27000
    · exact pass_sound _ _ pass4 x (by omega) (by omega)
    by_cases c : x < 32400
    · exact pass_sound _ _ pass5 x (by omega) (by omega)
    by_cases c : x < 37800
    · exact pass_sound _ _ pass6 x (by omega) (by omega)
    by_cases c : x < 43200
    · exact pass_sound _ _ pass7 x (by omega) (by omega)
    by_cases c : x < 48600
    · exact pass_sound _ _ pass8 x (by omega) (by omega)
    · exact pass_sound _ _ pass9 x (by omega) (by omega)
  by_cases c2 : x < 108000
  · by_cases c : x < 59400
    · exact pass_sound _ _ pass10 x (by omega) (by omega)
    by_cases c : x < 64800
    · exact pass_sound _ _ pass11 x (by omega) (by omega)
    by_cases c : x < 70200
    · exact pass_sound _ _ pass12 x (by omega) (by omega)
    by_cases c : x < 75600
    · exact pass_sound _ _ pass13 x (by omega) (by omega)
    by_cases c : x < 81000
    · exact pass_sound _ _ pass14 x (by omega) (by omega)
    by_cases c : x < 83700
    · exact pass_sound _ _ pass15a x (by omega) (by omega)
    by_cases c : x < 86400
    · exact pass_sound _ _ pass15b x (by omega) (by omega)
    by_cases c : x < 91800
    · exact pass_sound _ _ pass16 x (by omega) (by omega)
    by_cases c : x < 97200
    · exact pass_sound _ _ pass17 x (by omega) (by omega)
    by_cases c : x < 102600
    · exact pass_sound _ _ pass18 x (by omega) (by omega)
    · exact pass_sound _ _ pass19 x (by omega) (by omega)
  · by_cases c : x < 113400
    · exact pass_sound _ _ pass20 x (by omega) (by omega)
    by_cases c : x < 118800
    · exact pass_sound _ _ pass21 x (by omega) (by omega)
    by_cases c : x < 124200
    · exact pass_sound _ _ pass22 x (by omega) (by omega)
    by_cases c : x < 129600
    · exact pass_sound _ _ pass23 x (by omega) (by omega)
    by_cases c : x < 135000
    · exact pass_sound _ _ pass24 x (by omega) (by omega)
    by_cases c : x < 140400
    · exact pass_sound _ _ pass25 x (by omega) (by omega)
    by_cases c : x < 145800
    · exact pass_sound _ _ pass26 x (by omega) (by omega)
    by_cases c : x < 151200
    · exact pass_sound _ _ pass27 x (by omega) (by omega)
    by_cases c : x < 156600
    · exact pass_sound _ _ pass28 x (by omega) (by omega)
    · exact pass_sound _ _ pass29 x (by omega) (by omega)

theorem sn_step (x : Nat) (h : x < 324000) : sn x ≤ sn (x + 1) := by
  by_cases c : x < 162000
  · exact (good x c).1
  · have h2 := (good (323999 - x) (by omega)).2.1
    rw [show 324000 - (323999 - x + 1) = x by omega, show 324000 - (323999 - x) = x + 1 by omega] at h2
    exact h2

theorem sn_mono (x k : Nat) (h : x + k ≤ 324000) : sn x ≤ sn (x + k) := by
  induction k with
  | zero => exact Nat.le_refl _
  | succ k ih => exact Nat.le_trans (ih (by omega)) (sn_step (x + k) (by omega))

theorem circ_zero : circ (sn 0) (sn 324000) = true := by decide +kernel
theorem sn_top : sn 324000 = 1073741824 := by decide +kernel
theorem sn_bot : sn 0 = 0 := by decide +kernel

theorem circ_low (x : Nat) (h : x ≤ 162000) : circ (sn x) (sn (324000 - x)) = true := by
  cases x with
  | zero => exact circ_zero
  | succ x => exact (good x (by omega)).2.2

theorem circ_swap (s c : Nat) (h : circ s c = true) : circ c s = true := by
  unfold circ at h ⊢
  rw [show Nat.add (Nat.mul c c) (Nat.mul s s) = Nat.add (Nat.mul s s) (Nat.mul c c) from Nat.add_comm _ _]
  exact h

theorem circ_all (x : Nat) (h : x ≤ 324000) : circ (sn x) (sn (324000 - x)) = true := by
  by_cases c : x ≤ 162000
  · exact circ_low x c
  · have := circ_swap _ _ (circ_low (324000 - x) (by omega))
    rw [show 324000 - (324000 - x) = x by omega] at this
    exact this
end Go.Proofs.Ytmagppjmjjkbjaa.Tab

namespace Go.Proofs.Ytmagppjmjjkbjaa.Ser
theorem sin0_low (t : Int) (h0 : 0 ≤ t) (h1 : t ≤ 324000) : sin0 t = (Tab.sn t.toNat : Int) := by
  rw [Tab.sn_cast t.toNat (by omega), Int.toNat_of_nonneg h0]

theorem sin0_mono (s t : Int) (h0 : 0 ≤ s) (h : s ≤ t) (h1 : t ≤ 324000) : sin0 s ≤ sin0 t := by
  rw [sin0_low s h0 (by omega), sin0_low t (by omega) h1]
  have := Tab.sn_mono s.toNat (t.toNat - s.toNat) (by omega)
  rw [show s.toNat + (t.toNat - s.toNat) = t.toNat by omega] at this
  omega

theorem sin0_in (t : Int) (h0 : 0 ≤ t) (h1 : t ≤ 324000) : 0 ≤ sin0 t ∧ sin0 t ≤ 1073741824 := by
  have a := sin0_mono t 324000 h0 h1 (by omega)
  have b := sin0_mono 0 t (by omega) h0 h1
  have ea : sin0 324000 = 1073741824 := by rw [sin0_low 324000 (by omega) (by omega)]; exact congrArg Int.ofNat Tab.sn_top
  have eb : sin0 0 = 0 := by rw [sin0_low 0 (by omega) (by omega)]; exact congrArg Int.ofNat Tab.sn_bot
  omega

theorem sin0_circ (t : Int) (h0 : 0 ≤ t) (h1 : t ≤ 324000) :
    sin0 t * sin0 t + sin0 (324000 - t) * sin0 (324000 - t) ≤ 1152921506754330624 ∧ 1152921504606846976 ≤ sin0 t * sin0 t + sin0 (324000 - t) * sin0 (324000 - t) + 2147483648 := by
  have h := Tab.circ_all t.toNat (by omega)
  rw [sin0_low t h0 h1, sin0_low (324000 - t) (by omega) (by omega), show (324000 - t).toNat = 324000 - t.toNat by omega]
  unfold Tab.circ at h
  rw [Bool.and_eq_true] at h
  have a := Nat.le_of_ble_eq_true h.1
  have b := Nat.le_of_ble_eq_true h.2
  generalize Tab.sn t.toNat = s at *
  generalize Tab.sn (324000 - t.toNat) = c at *
  have a' : s * s + c * c ≤ 1152921506754330624 := a
  have b' : 1152921504606846976 ≤ s * s + c * c + 2147483648 := b
  rw [← Int.natCast_mul, ← Int.natCast_mul]
  omega

theorem sin0_refl (r : Int) (h0 : 0 ≤ r) (h1 : r ≤ 648000) : sin0 (648000 - r) = sin0 r := by
  by_cases c : r = 324000
  · subst c
    rfl
  · unfold sin0
    by_cases c2 : 324000 < r
    · rw [if_neg (by omega), if_pos c2]
    · rw [if_pos (by omega), if_neg c2, show 648000 - (648000 - r) = r by omega]

/-- The sine between minus a quarter and a quarter. -/
theorem sin_quarter (t : Int) (h0 : -324000 ≤ t) (h1 : t ≤ 324000) : sin t = if t < 0 then -sin0 (-t) else sin0 t := by
  unfold sin
  by_cases c : t < 0
  · rw [if_pos c, show t % 1296000 = t + 1296000 by omega, if_pos (by omega), show 1296000 - (t + 1296000) = -t by omega]
  · rw [if_neg c, show t % 1296000 = t by omega, if_neg (by omega)]

theorem sin_mono (x y : Int) (h0 : -324000 ≤ x) (h : x ≤ y) (h1 : y ≤ 324000) : sin x ≤ sin y := by
  rw [sin_quarter x h0 (by omega), sin_quarter y (by omega) h1]
  by_cases cx : x < 0
  · rw [if_pos cx]
    by_cases cy : y < 0
    · rw [if_pos cy]
      have := sin0_mono (-y) (-x) (by omega) (by omega) (by omega)
      omega
    · rw [if_neg cy]
      have a := sin0_in (-x) (by omega) (by omega)
      have b := sin0_in y (by omega) (by omega)
      omega
  · rw [if_neg cx, if_neg (by omega)]
    exact sin0_mono x y (by omega) h h1

/-- The cosine of an angle from 0 to half a turn. -/
theorem cos_half (x : Int) (h0 : 0 ≤ x) (h1 : x ≤ 648000) : cos x = sin (324000 - x) := by
  unfold cos
  rw [show x % 1296000 = x by omega]

theorem sin_in (x : Int) : -1073741824 ≤ sin x ∧ sin x ≤ 1073741824 := by
  have h : ∀ r : Int, 0 ≤ r → r ≤ 648000 → 0 ≤ sin0 r ∧ sin0 r ≤ 1073741824 := by
    intro r h0 h1
    by_cases c : r ≤ 324000
    · exact sin0_in r h0 c
    · rw [← sin0_refl r h0 h1]
      exact sin0_in _ (by omega) (by omega)
  unfold sin
  split
  · have := h (1296000 - x % 1296000) (by omega) (by omega)
    omega
  · have := h (x % 1296000) (by omega) (by omega)
    omega
end Go.Proofs.Ytmagppjmjjkbjaa.Ser
