
/- Contracts of sphere.Valid, Wrap and digits, and of the reference's Valid and Wrap. -/
import Derived.Test.YtmcobpgdledkdaaDoorByt
import Derived.Test.YtmcobpgdledkdaaDoorCell
import Derived.Test.YtmcobpgdledkdaaDoorNum
import Derived.ScopeJumps
import Derived.WalkMore
namespace Go.Proofs.YtmcobpgdledkdaaDoor
open Go.RowKit
set_option linter.unusedVariables false

namespace Sph
/-- A valid position. -/
def vld (x y : Int) : Prop := -648000 ≤ x ∧ x ≤ 648000 ∧ -306000 ≤ y ∧ y ≤ 306000
instance (x y : Int) : Decidable (vld x y) := by unfold vld; infer_instance
/-- The wrapped longitude. -/
def wrp (x : Int) : Int := if 648000 < x.tmod 1296000 then x.tmod 1296000 - 1296000 else if x.tmod 1296000 ≤ -648000 then x.tmod 1296000 + 1296000 else x.tmod 1296000
theorem tmod_bd (x : Int) : -1296000 < x.tmod 1296000 ∧ x.tmod 1296000 < 1296000 := ⟨(Num.tdiv_pos x 1296000 (by omega)).2.1, (Num.tdiv_pos x 1296000 (by omega)).2.2.1⟩
end Sph
theorem ret_pt {a b c d : Int} (h : a = c) (k : b = d) : Ending.returned (.agg #[.int .i64 a, .int .i64 b]) = .returned (.agg #[.int .i64 c, .int .i64 d]) := by rw [h, k]
theorem svalid_yes (x y : Int) (w : World) (h : Sph.vld x y) :
    Calls Tryd.prog 10 #[.agg #[.int .i64 x, .int .i64 y]] w fun e w' => e = .returned (.bool true) ∧ Q w w' := by
  unfold Sph.vld at h
  have d0 : decide (-648000 ≤ x) = true := by simp; omega
  have d1 : decide (x ≤ 648000) = true := by simp; omega
  have d2 : decide (-306000 ≤ y) = true := by simp; omega
  have d3 : decide (y ≤ 306000) = true := by simp; omega
  clear h
  go_enter Tryd.func10, Tryd.ntmps10
  go_wp2_with fail
  go_ret
  exact ⟨rfl, ((Q.refl w).alloc _)⟩
theorem svalid_no (x y : Int) (w : World) (h : ¬ (Sph.vld x y)) :
    Calls Tryd.prog 10 #[.agg #[.int .i64 x, .int .i64 y]] w fun e w' => e = .returned (.bool false) ∧ Q w w' := by
  unfold Sph.vld at h
  by_cases c0 : -648000 ≤ x
  rotate_left
  · have d0 : decide (-648000 ≤ x) = false := by simp; omega
    clear h
    go_enter Tryd.func10, Tryd.ntmps10
    go_wp2_with fail
    go_ret
    exact ⟨rfl, ((Q.refl w).alloc _)⟩
  have d0 : decide (-648000 ≤ x) = true := by simp; omega
  by_cases c1 : x ≤ 648000
  rotate_left
  · have d1 : decide (x ≤ 648000) = false := by simp; omega
    clear h
    go_enter Tryd.func10, Tryd.ntmps10
    go_wp2_with fail
    go_ret
    exact ⟨rfl, ((Q.refl w).alloc _)⟩
  have d1 : decide (x ≤ 648000) = true := by simp; omega
  by_cases c2 : -306000 ≤ y
  rotate_left
  · have d2 : decide (-306000 ≤ y) = false := by simp; omega
    clear h
    go_enter Tryd.func10, Tryd.ntmps10
    go_wp2_with fail
    go_ret
    exact ⟨rfl, ((Q.refl w).alloc _)⟩
  have d2 : decide (-306000 ≤ y) = true := by simp; omega
  by_cases c3 : y ≤ 306000
  rotate_left
  · have d3 : decide (y ≤ 306000) = false := by simp; omega
    clear h
    go_enter Tryd.func10, Tryd.ntmps10
    go_wp2_with fail
    go_ret
    exact ⟨rfl, ((Q.refl w).alloc _)⟩
  have d3 : decide (y ≤ 306000) = true := by simp; omega
  omega
theorem svalid_any (x y : Int) (w : World) :
    Calls Tryd.prog 10 #[.agg #[.int .i64 x, .int .i64 y]] w fun e w' => e = .returned (.bool (decide (Sph.vld x y))) ∧ Q w w' := by
  by_cases h : Sph.vld x y
  · rw [decide_eq_true h]
    exact svalid_yes x y w h
  · rw [decide_eq_false h]
    exact svalid_no x y w h
theorem rvalid_yes (x y : Int) (w : World) (h : Sph.vld x y) :
    Calls Tryd.prog 11 #[.agg #[.int .i64 x, .int .i64 y]] w fun e w' => e = .returned (.bool true) ∧ Q w w' := by
  unfold Sph.vld at h
  have d0 : decide (-648000 ≤ x) = true := by simp; omega
  have d1 : decide (x ≤ 648000) = true := by simp; omega
  have d2 : decide (-306000 ≤ y) = true := by simp; omega
  have d3 : decide (y ≤ 306000) = true := by simp; omega
  clear h
  go_enter Tryd.func11, Tryd.ntmps11
  go_wp2_with fail
  go_ret
  exact ⟨rfl, ((Q.refl w).alloc _)⟩
theorem rvalid_no (x y : Int) (w : World) (h : ¬ (Sph.vld x y)) :
    Calls Tryd.prog 11 #[.agg #[.int .i64 x, .int .i64 y]] w fun e w' => e = .returned (.bool false) ∧ Q w w' := by
  unfold Sph.vld at h
  by_cases c0 : -648000 ≤ x
  rotate_left
  · have d0 : decide (-648000 ≤ x) = false := by simp; omega
    clear h
    go_enter Tryd.func11, Tryd.ntmps11
    go_wp2_with fail
    go_ret
    exact ⟨rfl, ((Q.refl w).alloc _)⟩
  have d0 : decide (-648000 ≤ x) = true := by simp; omega
  by_cases c1 : x ≤ 648000
  rotate_left
  · have d1 : decide (x ≤ 648000) = false := by simp; omega
    clear h
    go_enter Tryd.func11, Tryd.ntmps11
    go_wp2_with fail
    go_ret
    exact ⟨rfl, ((Q.refl w).alloc _)⟩
  have d1 : decide (x ≤ 648000) = true := by simp; omega
  by_cases c2 : -306000 ≤ y
  rotate_left
  · have d2 : decide (-306000 ≤ y) = false := by simp; omega
    clear h
    go_enter Tryd.func11, Tryd.ntmps11
    go_wp2_with fail
    go_ret
    exact ⟨rfl, ((Q.refl w).alloc _)⟩
  have d2 : decide (-306000 ≤ y) = true := by simp; omega
  by_cases c3 : y ≤ 306000
  rotate_left
  · have d3 : decide (y ≤ 306000) = false := by simp; omega
    clear h
    go_enter Tryd.func11, Tryd.ntmps11
    go_wp2_with fail
    go_ret
    exact ⟨rfl, ((Q.refl w).alloc _)⟩
  have d3 : decide (y ≤ 306000) = true := by simp; omega
  omega
theorem rvalid_any (x y : Int) (w : World) :
    Calls Tryd.prog 11 #[.agg #[.int .i64 x, .int .i64 y]] w fun e w' => e = .returned (.bool (decide (Sph.vld x y))) ∧ Q w w' := by
  by_cases h : Sph.vld x y
  · rw [decide_eq_true h]
    exact rvalid_yes x y w h
  · rw [decide_eq_false h]
    exact rvalid_no x y w h
theorem swrap_any (x y : Int) (w : World) :
    Calls Tryd.prog 12 #[.agg #[.int .i64 x, .int .i64 y]] w fun e w' => e = .returned (.agg #[.int .i64 (Sph.wrp x), .int .i64 y]) ∧ Q w w' := by
  have hb := Sph.tmod_bd x
  obtain ⟨r, hr⟩ : ∃ r : Int, x.tmod 1296000 = r := ⟨_, rfl⟩
  have HW := Lib.hid (show Sph.wrp x = if 648000 < r then r - 1296000 else if r ≤ -648000 then r + 1296000 else r by unfold Sph.wrp; rw [hr])
  rw [hr] at hb
  obtain ⟨h0, h1⟩ := hb
  by_cases c1 : 648000 < r
  · have d1 : decide (648000 < r) = true := by simp; omega
    rw [if_pos c1] at HW
    go_enter Tryd.func12, Tryd.ntmps12
    go_wp2_with fail
    refine bodyPost_ret (results_cell1 rfl _ _ _ _ _ _ _ rfl (new1 _ _ _) Tryd.underlying23 rfl (by kernel_rfl)) rfl ⟨ret_pt HW.out.symm rfl, ?_⟩
    repeat (refine Q.setCell ?_ (by simp; try omega) _)
    exact ((Q.refl _).alloc _).alloc _
  by_cases c2 : r ≤ -648000
  · have d1 : decide (648000 < r) = false := by simp; omega
    have d2 : decide (r ≤ -648000) = true := by simp; omega
    rw [if_neg c1, if_pos c2] at HW
    go_enter Tryd.func12, Tryd.ntmps12
    go_wp2_with fail
    refine bodyPost_ret (results_cell1 rfl _ _ _ _ _ _ _ rfl (new1 _ _ _) Tryd.underlying23 rfl (by kernel_rfl)) rfl ⟨ret_pt HW.out.symm rfl, ?_⟩
    repeat (refine Q.setCell ?_ (by simp; try omega) _)
    exact ((Q.refl _).alloc _).alloc _
  have d1 : decide (648000 < r) = false := by simp; omega
  have d2 : decide (r ≤ -648000) = false := by simp; omega
  rw [if_neg c1, if_neg c2] at HW
  go_enter Tryd.func12, Tryd.ntmps12
  go_wp2_with fail
  refine bodyPost_ret (results_cell1 rfl _ _ _ _ _ _ _ rfl (new1 _ _ _) Tryd.underlying23 rfl (by kernel_rfl)) rfl ⟨ret_pt HW.out.symm rfl, ?_⟩
  repeat (refine Q.setCell ?_ (by simp; try omega) _)
  exact ((Q.refl _).alloc _).alloc _
theorem rwrap_any (x y : Int) (w : World) :
    Calls Tryd.prog 13 #[.agg #[.int .i64 x, .int .i64 y]] w fun e w' => e = .returned (.agg #[.int .i64 (Sph.wrp x), .int .i64 y]) ∧ Q w w' := by
  have hb := Sph.tmod_bd x
  obtain ⟨r, hr⟩ : ∃ r : Int, x.tmod 1296000 = r := ⟨_, rfl⟩
  have HW := Lib.hid (show Sph.wrp x = if 648000 < r then r - 1296000 else if r ≤ -648000 then r + 1296000 else r by unfold Sph.wrp; rw [hr])
  rw [hr] at hb
  obtain ⟨h0, h1⟩ := hb
  by_cases c1 : 648000 < r
  · have d1 : decide (r < -647999) = false := by simp; omega
    have d2 : decide (648000 < r) = true := by simp; omega
    rw [if_pos c1] at HW
    go_enter Tryd.func13, Tryd.ntmps13
    go_wp2_with fail
    refine bodyPost_ret (results_cell1 rfl _ _ _ _ _ _ _ rfl (new1 _ _ _) Tryd.underlying23 rfl (by kernel_rfl)) rfl ⟨ret_pt HW.out.symm rfl, ?_⟩
    repeat (refine Q.setCell ?_ (by simp; try omega) _)
    exact ((Q.refl _).alloc _).alloc _
  by_cases c2 : r ≤ -648000
  · have d1 : decide (r < -647999) = true := by simp; omega
    have d2 : decide (648000 < r + 1296000) = false := by simp; omega
    rw [if_neg c1, if_pos c2] at HW
    go_enter Tryd.func13, Tryd.ntmps13
    go_wp2_with fail
    refine bodyPost_ret (results_cell1 rfl _ _ _ _ _ _ _ rfl (new1 _ _ _) Tryd.underlying23 rfl (by kernel_rfl)) rfl ⟨ret_pt HW.out.symm rfl, ?_⟩
    repeat (refine Q.setCell ?_ (by simp; try omega) _)
    exact ((Q.refl _).alloc _).alloc _
  have d1 : decide (r < -647999) = false := by simp; omega
  have d2 : decide (648000 < r) = false := by simp; omega
  rw [if_neg c1, if_neg c2] at HW
  go_enter Tryd.func13, Tryd.ntmps13
  go_wp2_with fail
  refine bodyPost_ret (results_cell1 rfl _ _ _ _ _ _ _ rfl (new1 _ _ _) Tryd.underlying23 rfl (by kernel_rfl)) rfl ⟨ret_pt HW.out.symm rfl, ?_⟩
  repeat (refine Q.setCell ?_ (by simp; try omega) _)
  exact ((Q.refl _).alloc _).alloc _

namespace Sph
/-- Is a byte a digit? -/
def dg (x : Int) : Prop := 48 ≤ x ∧ x ≤ 57
instance (x : Int) : Decidable (dg x) := by unfold dg; infer_instance
/-- The number that the first k bytes make. -/
def val (s : ByteArray) : Nat → Int
  | 0 => 0
  | k + 1 => 10 * val s k + (byt s k - 48)
/-- How many digits stand at the start, at most three of which count. -/
def cnt (s : ByteArray) : Nat := if dg (byt s 0) then (if dg (byt s 1) then (if dg (byt s 2) then 3 else 2) else 1) else 0
theorem dg_lt {s : ByteArray} {i : Nat} (h : dg (byt s i)) : i < s.size := by
  apply Decidable.byContradiction
  intro c
  rw [byt_none s i (by omega)] at h
  unfold dg at h
  omega
theorem val_bd (s : ByteArray) (c : Nat) (hd : ∀ i, i < c → dg (byt s i)) : ∀ k, k ≤ c → 0 ≤ val s k ∧ val s k < 10 ^ k := by
  intro k
  induction k with
  | zero => intro _; simp [val]
  | succ k ih =>
    intro h
    have := ih (by omega)
    have hk := hd k (by omega)
    unfold dg at hk
    rw [Int.pow_succ]
    simp only [val]
    omega
theorem cnt_dg (s : ByteArray) : ∀ i, i < cnt s → dg (byt s i) := by
  intro i hi
  unfold cnt at hi
  by_cases h0 : dg (byt s 0)
  · by_cases h1 : dg (byt s 1)
    · by_cases h2 : dg (byt s 2)
      · rw [if_pos h0, if_pos h1, if_pos h2] at hi
        match i, hi with
        | 0, _ => exact h0
        | 1, _ => exact h1
        | 2, _ => exact h2
      · rw [if_pos h0, if_pos h1, if_neg h2] at hi
        match i, hi with
        | 0, _ => exact h0
        | 1, _ => exact h1
    · rw [if_pos h0, if_neg h1] at hi
      match i, hi with
      | 0, _ => exact h0
  · rw [if_neg h0] at hi
    omega
theorem cnt_stop (s : ByteArray) : cnt s = 3 ∨ ¬ dg (byt s (cnt s)) := by
  unfold cnt
  by_cases h0 : dg (byt s 0)
  · by_cases h1 : dg (byt s 1)
    · by_cases h2 : dg (byt s 2)
      · rw [if_pos h0, if_pos h1, if_pos h2]; exact .inl rfl
      · rw [if_pos h0, if_pos h1, if_neg h2]; exact .inr h2
    · rw [if_pos h0, if_neg h1]; exact .inr h1
  · rw [if_neg h0]; exact .inr h0
theorem cnt_le (s : ByteArray) : cnt s ≤ 3 := by
  unfold cnt
  repeat' split
  all_goals omega
end Sph
end Go.Proofs.YtmcobpgdledkdaaDoor
