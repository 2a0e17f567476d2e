/- Contracts of sheetgrid.Check and find: whether a series is valid, and the column and row of a sheet. -/
import Derived.Test.YtcaabaijkidmgaaDoorBase
namespace Go.Proofs.YtcaabaijkidmgaaDoor
open Go.RowKit
set_option linter.unusedVariables false

namespace Grid
/-- A coordinate. -/
def co (x : Int) : Prop := -1048576 ≤ x ∧ x ≤ 1048576
/-- The series at (X, Y) of C columns and R rows of sheets of width W and height H is valid. -/
structure Ok (X Y W H C R : Int) : Prop where
  x0 : -1048576 ≤ X
  x1 : X ≤ 1048576
  y0 : -1048576 ≤ Y
  y1 : Y ≤ 1048576
  w0 : 1 ≤ W
  w1 : W ≤ 65536
  h0 : 1 ≤ H
  h1 : H ≤ 65536
  c0 : 1 ≤ C
  c1 : C ≤ 16
  r0 : 1 ≤ R
  r1 : R ≤ 16
  ex0 : -1048576 ≤ X + C * W
  ex1 : X + C * W ≤ 1048576
  ey0 : -1048576 ≤ Y + R * H
  ey1 : Y + R * H ≤ 1048576
theorem ok_iff (X Y W H C R : Int) : Ok X Y W H C R ↔ ((-1048576 ≤ X ∧ X ≤ 1048576) ∧ (-1048576 ≤ Y ∧ Y ≤ 1048576)) ∧ (1 ≤ W ∧ W ≤ 65536) ∧ (1 ≤ H ∧ H ≤ 65536) ∧ (1 ≤ C ∧ C ≤ 16) ∧ (1 ≤ R ∧ R ≤ 16) ∧ (-1048576 ≤ X + C * W ∧ X + C * W ≤ 1048576) ∧ (-1048576 ≤ Y + R * H ∧ Y + R * H ≤ 1048576) :=
  ⟨fun h => ⟨⟨⟨h.x0, h.x1⟩, h.y0, h.y1⟩, ⟨h.w0, h.w1⟩, ⟨h.h0, h.h1⟩, ⟨h.c0, h.c1⟩, ⟨h.r0, h.r1⟩, ⟨h.ex0, h.ex1⟩, h.ey0, h.ey1⟩,
   fun ⟨⟨⟨a, b⟩, c, d⟩, ⟨e, f⟩, ⟨g, h⟩, ⟨i, j⟩, ⟨k, l⟩, ⟨m, n⟩, p, q⟩ => ⟨a, b, c, d, e, f, g, h, i, j, k, l, m, n, p, q⟩⟩
instance (X Y W H C R : Int) : Decidable (Ok X Y W H C R) := decidable_of_iff _ (ok_iff X Y W H C R).symm
/-- The error of a series. -/
def chk (X Y W H C R : Int) : Int := if Ok X Y W H C R then 0 else 2
theorem prod_bd (a b n m : Int) (ha0 : 1 ≤ a) (ha : a ≤ n) (hb0 : 1 ≤ b) (hb : b ≤ m) : 1 ≤ a * b ∧ a * b ≤ n * m := by
  have h1 : (1 : Int) * 1 ≤ a * b := Int.mul_le_mul ha0 hb0 (by omega) (by omega)
  have h2 : a * b ≤ n * m := Int.mul_le_mul ha hb (by omega) (by omega)
  omega
end Grid

theorem from_yes (n lo hi : Int) (w : World) (h : lo ≤ n ∧ n ≤ hi) :
    Calls Tryd.prog 49 #[.int .i64 n, .int .i64 lo, .int .i64 hi] w fun e w' => e = .returned (.bool true) ∧ w = w' := by
  have d1 : decide (lo ≤ n) = true := by simp; omega
  have d2 : decide (n ≤ hi) = true := by simp; omega
  go_enter Tryd.func49, Tryd.ntmps49
  go_wp2
  go_ret
  exact ⟨rfl, rfl⟩
theorem from_no (n lo hi : Int) (w : World) (h : ¬ (lo ≤ n ∧ n ≤ hi)) :
    Calls Tryd.prog 49 #[.int .i64 n, .int .i64 lo, .int .i64 hi] w fun e w' => e = .returned (.bool false) ∧ w = w' := by
  by_cases c : lo ≤ n
  · have d1 : decide (lo ≤ n) = true := by simp; omega
    have d2 : decide (n ≤ hi) = false := by simp; omega
    go_enter Tryd.func49, Tryd.ntmps49
    go_wp2
    go_ret
    exact ⟨rfl, rfl⟩
  · have d1 : decide (lo ≤ n) = false := by simp; omega
    go_enter Tryd.func49, Tryd.ntmps49
    go_wp2
    go_ret
    exact ⟨rfl, rfl⟩

theorem valid_yes (x y : Int) (B : Nat) (w : World) (hc : w.cell? ⟨B, 0, none⟩ = some (.func (Fn.func 49) #[] #[])) (hx : -1048576 ≤ x ∧ x ≤ 1048576) (hy : -1048576 ≤ y ∧ y ≤ 1048576) :
    Calls Tryd.prog 50 #[.int .i64 x, .int .i64 y, .pointer (some ⟨B, 0, none⟩)] w fun e w' => e = .returned (.bool true) ∧ w = w' := by
  have H1 := Lib.hid (fun W => from_yes x (-1048576) 1048576 W hx)
  have H2 := Lib.hid (fun W => from_yes y (-1048576) 1048576 W hy)
  go_enter Tryd.func50, Tryd.ntmps50
  go_wp2_with fail
  refine (H1.out _).mono ?_
  rintro e w' ⟨rfl, rfl⟩
  go_wp2_with fail
  refine (H2.out _).mono ?_
  rintro e w' ⟨rfl, rfl⟩
  go_wp2_with fail
  go_ret
  exact ⟨rfl, rfl⟩
theorem valid_no (x y : Int) (B : Nat) (w : World) (hc : w.cell? ⟨B, 0, none⟩ = some (.func (Fn.func 49) #[] #[])) (h : ¬ ((-1048576 ≤ x ∧ x ≤ 1048576) ∧ (-1048576 ≤ y ∧ y ≤ 1048576))) :
    Calls Tryd.prog 50 #[.int .i64 x, .int .i64 y, .pointer (some ⟨B, 0, none⟩)] w fun e w' => e = .returned (.bool false) ∧ w = w' := by
  by_cases c : -1048576 ≤ x ∧ x ≤ 1048576
  · have H1 := Lib.hid (fun W => from_yes x (-1048576) 1048576 W c)
    have H2 := Lib.hid (fun W => from_no y (-1048576) 1048576 W (by omega))
    clear c h
    go_enter Tryd.func50, Tryd.ntmps50
    go_wp2_with fail
    refine (H1.out _).mono ?_
    rintro e w' ⟨rfl, rfl⟩
    go_wp2_with fail
    refine (H2.out _).mono ?_
    rintro e w' ⟨rfl, rfl⟩
    go_wp2_with fail
    go_ret
    exact ⟨rfl, rfl⟩
  · have H1 := Lib.hid (fun W => from_no x (-1048576) 1048576 W c)
    clear c h
    go_enter Tryd.func50, Tryd.ntmps50
    go_wp2_with fail
    refine (H1.out _).mono ?_
    rintro e w' ⟨rfl, rfl⟩
    go_wp2_with fail
    go_ret
    exact ⟨rfl, rfl⟩

set_option maxHeartbeats 4000000 in
theorem check_no (X Y W H C R : Int) (w : World) (h : ¬ Grid.Ok X Y W H C R) :
    Calls Tryd.prog 26 #[.agg #[.int .i64 X, .int .i64 Y, .int .i64 W, .int .i64 H, .int .i64 C, .int .i64 R]] w fun e w' => e = .returned (.int .i64 2) ∧ Q w w' := by
  rw [Grid.ok_iff] at h
  have hmf : ∀ (fn : Fn) (first cap : Array Value) (w : World), (Instr.makeFunc fn first cap).run Tryd.prog w = .ok (.func fn first cap) w := fun _ _ _ _ => rfl
  by_cases c0 : ((-1048576 ≤ X ∧ X ≤ 1048576) ∧ (-1048576 ≤ Y ∧ Y ≤ 1048576))
  rotate_left
  · clear h
    go_enter Tryd.func26, Tryd.ntmps26
    go_wp2_with fail
    refine (valid_no _ _ _ _ (by simp) (by omega)).mono ?_
    rintro e w' ⟨rfl, rfl⟩
    go_wp2_with fail
    go_ret
    exact ⟨rfl, ((Q.refl w).alloc _).alloc _⟩
  by_cases c1 : (1 ≤ W ∧ W ≤ 65536)
  rotate_left
  · clear h
    go_enter Tryd.func26, Tryd.ntmps26
    go_wp2_with fail
    refine (valid_yes _ _ _ _ (by simp) (by omega) (by omega)).mono ?_
    rintro e w' ⟨rfl, rfl⟩
    go_wp2_with fail
    refine (from_no _ _ _ _ (by omega)).mono ?_
    rintro e w' ⟨rfl, rfl⟩
    go_wp2_with fail
    go_ret
    exact ⟨rfl, ((Q.refl w).alloc _).alloc _⟩
  by_cases c2 : (1 ≤ H ∧ H ≤ 65536)
  rotate_left
  · clear h
    go_enter Tryd.func26, Tryd.ntmps26
    go_wp2_with fail
    refine (valid_yes _ _ _ _ (by simp) (by omega) (by omega)).mono ?_
    rintro e w' ⟨rfl, rfl⟩
    go_wp2_with fail
    refine (from_yes _ _ _ _ (by omega)).mono ?_
    rintro e w' ⟨rfl, rfl⟩
    go_wp2_with fail
    refine (from_no _ _ _ _ (by omega)).mono ?_
    rintro e w' ⟨rfl, rfl⟩
    go_wp2_with fail
    go_ret
    exact ⟨rfl, ((Q.refl w).alloc _).alloc _⟩
  by_cases c3 : (1 ≤ C ∧ C ≤ 16)
  rotate_left
  · clear h
    go_enter Tryd.func26, Tryd.ntmps26
    go_wp2_with fail
    refine (valid_yes _ _ _ _ (by simp) (by omega) (by omega)).mono ?_
    rintro e w' ⟨rfl, rfl⟩
    go_wp2_with fail
    refine (from_yes _ _ _ _ (by omega)).mono ?_
    rintro e w' ⟨rfl, rfl⟩
    go_wp2_with fail
    refine (from_yes _ _ _ _ (by omega)).mono ?_
    rintro e w' ⟨rfl, rfl⟩
    go_wp2_with fail
    refine (from_no _ _ _ _ (by omega)).mono ?_
    rintro e w' ⟨rfl, rfl⟩
    go_wp2_with fail
    go_ret
    exact ⟨rfl, ((Q.refl w).alloc _).alloc _⟩
  by_cases c4 : (1 ≤ R ∧ R ≤ 16)
  rotate_left
  · clear h
    go_enter Tryd.func26, Tryd.ntmps26
    go_wp2_with fail
    refine (valid_yes _ _ _ _ (by simp) (by omega) (by omega)).mono ?_
    rintro e w' ⟨rfl, rfl⟩
    go_wp2_with fail
    refine (from_yes _ _ _ _ (by omega)).mono ?_
    rintro e w' ⟨rfl, rfl⟩
    go_wp2_with fail
    refine (from_yes _ _ _ _ (by omega)).mono ?_
    rintro e w' ⟨rfl, rfl⟩
    go_wp2_with fail
    refine (from_yes _ _ _ _ (by omega)).mono ?_
    rintro e w' ⟨rfl, rfl⟩
    go_wp2_with fail
    refine (from_no _ _ _ _ (by omega)).mono ?_
    rintro e w' ⟨rfl, rfl⟩
    go_wp2_with fail
    go_ret
    exact ⟨rfl, ((Q.refl w).alloc _).alloc _⟩
  have b1 := Grid.prod_bd C W 16 65536 c3.1 c3.2 c1.1 c1.2
  have b2 := Grid.prod_bd R H 16 65536 c4.1 c4.2 c2.1 c2.2
  have c5 : ¬ ((-1048576 ≤ X + C * W ∧ X + C * W ≤ 1048576) ∧ (-1048576 ≤ Y + R * H ∧ Y + R * H ≤ 1048576)) := fun c => h ⟨c0, c1, c2, c3, c4, c.1, c.2⟩
  clear h
  obtain ⟨p, hp⟩ : ∃ p, C * W = p := ⟨_, rfl⟩
  obtain ⟨q, hq⟩ : ∃ q, R * H = q := ⟨_, rfl⟩
  rw [hp] at b1 c5
  rw [hq] at b2 c5
  obtain ⟨b10, b11⟩ := b1
  obtain ⟨b20, b21⟩ := b2
  go_enter Tryd.func26, Tryd.ntmps26
  go_wp2_with fail
  refine (valid_yes _ _ _ _ (by simp) (by omega) (by omega)).mono ?_
  rintro e w' ⟨rfl, rfl⟩
  go_wp2_with fail
  refine (from_yes _ _ _ _ (by omega)).mono ?_
  rintro e w' ⟨rfl, rfl⟩
  go_wp2_with fail
  refine (from_yes _ _ _ _ (by omega)).mono ?_
  rintro e w' ⟨rfl, rfl⟩
  go_wp2_with fail
  refine (from_yes _ _ _ _ (by omega)).mono ?_
  rintro e w' ⟨rfl, rfl⟩
  go_wp2_with fail
  refine (from_yes _ _ _ _ (by omega)).mono ?_
  rintro e w' ⟨rfl, rfl⟩
  go_wp2_with fail
  refine (valid_no _ _ _ _ (by simp) (by omega)).mono ?_
  rintro e w' ⟨rfl, rfl⟩
  go_wp2_with fail
  go_ret
  exact ⟨rfl, ((Q.refl w).alloc _).alloc _⟩

set_option maxHeartbeats 4000000 in
theorem check_yes (X Y W H C R : Int) (w : World) (h : Grid.Ok X Y W H C R) :
    Calls Tryd.prog 26 #[.agg #[.int .i64 X, .int .i64 Y, .int .i64 W, .int .i64 H, .int .i64 C, .int .i64 R]] w fun e w' => e = .returned (.int .i64 0) ∧ Q w w' := by
  obtain ⟨x0, x1, y0, y1, w0, w1, h0, h1, c0, c1, r0, r1, ex0, ex1, ey0, ey1⟩ := h
  have hmf : ∀ (fn : Fn) (first cap : Array Value) (w : World), (Instr.makeFunc fn first cap).run Tryd.prog w = .ok (.func fn first cap) w := fun _ _ _ _ => rfl
  obtain ⟨p, hp⟩ : ∃ p, C * W = p := ⟨_, rfl⟩
  obtain ⟨q, hq⟩ : ∃ q, R * H = q := ⟨_, rfl⟩
  rw [hp] at ex0 ex1
  rw [hq] at ey0 ey1
  have b10 : 0 ≤ p := by rw [← hp]; exact Int.mul_nonneg (by omega) (by omega)
  have b20 : 0 ≤ q := by rw [← hq]; exact Int.mul_nonneg (by omega) (by omega)
  go_enter Tryd.func26, Tryd.ntmps26
  go_wp2_with fail
  refine (valid_yes _ _ _ _ (by simp) (by omega) (by omega)).mono ?_
  rintro e w' ⟨rfl, rfl⟩
  go_wp2_with fail
  refine (from_yes _ _ _ _ (by omega)).mono ?_
  rintro e w' ⟨rfl, rfl⟩
  go_wp2_with fail
  refine (from_yes _ _ _ _ (by omega)).mono ?_
  rintro e w' ⟨rfl, rfl⟩
  go_wp2_with fail
  refine (from_yes _ _ _ _ (by omega)).mono ?_
  rintro e w' ⟨rfl, rfl⟩
  go_wp2_with fail
  refine (from_yes _ _ _ _ (by omega)).mono ?_
  rintro e w' ⟨rfl, rfl⟩
  go_wp2_with fail
  refine (valid_yes _ _ _ _ (by simp) (by omega) (by omega)).mono ?_
  rintro e w' ⟨rfl, rfl⟩
  go_wp2_with fail
  go_ret
  exact ⟨rfl, ((Q.refl w).alloc _).alloc _⟩

theorem check_any (X Y W H C R : Int) (w : World) :
    Calls Tryd.prog 26 #[.agg #[.int .i64 X, .int .i64 Y, .int .i64 W, .int .i64 H, .int .i64 C, .int .i64 R]] w fun e w' => e = .returned (.int .i64 (Grid.chk X Y W H C R)) ∧ Q w w' := by
  unfold Grid.chk
  by_cases c : Grid.Ok X Y W H C R
  · rw [if_pos c]
    exact check_yes X Y W H C R w c
  · rw [if_neg c]
    exact check_no X Y W H C R w c
end Go.Proofs.YtcaabaijkidmgaaDoor
