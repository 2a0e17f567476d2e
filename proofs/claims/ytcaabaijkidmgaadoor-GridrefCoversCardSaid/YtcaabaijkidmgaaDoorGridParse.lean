/- Contract of sheetgrid.Parse: the sheet with a name, or the error. -/
import Derived.Test.YtcaabaijkidmgaaDoorGridFind
import Derived.Deep.LoopGhost
namespace Go.Proofs.YtcaabaijkidmgaaDoor
open Go.RowKit
set_option linter.unusedVariables false

namespace Grid
/-- Byte i of a string, or 0. -/
def byt (s : ByteArray) (i : Nat) : Int := if h : i < s.size then (s[i].toNat : Int) else 0
theorem byt_bd (s : ByteArray) (i : Nat) : 0 ≤ byt s i ∧ byt s i ≤ 255 := by
  unfold byt
  split
  · have := s[i].toNat_lt
    omega
  · omega
end Grid
theorem byt_run (s : ByteArray) (i : Nat) (h : i < s.size) (w : World) : (Instr.index 9 (.string s) (.int .i64 (i : Int))).run Tryd.prog w = .ok (.int .u8 (Grid.byt s i)) w := by
  rw [run_index_string w 9 s .i64 (i : Int) Tryd.underlying9, dif_pos (by omega)]
  unfold Grid.byt
  rw [dif_pos h]
  rfl

theorem parse_bad (X Y W H C R : Int) (s : ByteArray) (w : World) (h : ¬ Grid.Ok X Y W H C R) :
    Calls Tryd.prog 34 #[.agg #[.int .i64 X, .int .i64 Y, .int .i64 W, .int .i64 H, .int .i64 C, .int .i64 R], .string s] w fun e w' => e = .returned (.tuple #[.int .i64 0, .int .i64 2]) ∧ Q w w' := by
  go_enter Tryd.func34, Tryd.ntmps34
  go_wp2_with fail
  refine (check_no X Y W H C R _ h).mono ?_
  rintro e w1 ⟨rfl, q1⟩
  go_wp2_with fail
  go_ret2
  exact ⟨rfl, q1.behind _⟩

theorem parse_short (X Y W H C R : Int) (s : ByteArray) (w : World) (h : Grid.Ok X Y W H C R) (hs : s.size < 2) (hm : s.size ≤ 9223372036854775807) :
    Calls Tryd.prog 34 #[.agg #[.int .i64 X, .int .i64 Y, .int .i64 W, .int .i64 H, .int .i64 C, .int .i64 R], .string s] w fun e w' => e = .returned (.tuple #[.int .i64 0, .int .i64 20]) ∧ Q w w' := by
  have HK := Lib.hid h
  clear h
  have d0 : decide ((s.size : Int) < 2) = true := by simp; omega
  go_enter Tryd.func34, Tryd.ntmps34
  go_wp2_with fail
  refine (check_yes X Y W H C R _ HK.out).mono ?_
  rintro e w1 ⟨rfl, q1⟩
  go_wp2_with fail
  go_ret2
  exact ⟨rfl, q1.behind _⟩

theorem parse_long (X Y W H C R : Int) (s : ByteArray) (w : World) (h : Grid.Ok X Y W H C R) (hs : 3 < s.size) (hm : s.size ≤ 9223372036854775807) :
    Calls Tryd.prog 34 #[.agg #[.int .i64 X, .int .i64 Y, .int .i64 W, .int .i64 H, .int .i64 C, .int .i64 R], .string s] w fun e w' => e = .returned (.tuple #[.int .i64 0, .int .i64 20]) ∧ Q w w' := by
  have HK := Lib.hid h
  clear h
  have d0 : decide ((s.size : Int) < 2) = false := by simp; omega
  have d1 : decide (3 < (s.size : Int)) = true := by simp; omega
  go_enter Tryd.func34, Tryd.ntmps34
  go_wp2_with fail
  refine (check_yes X Y W H C R _ HK.out).mono ?_
  rintro e w1 ⟨rfl, q1⟩
  go_wp2_with fail
  go_ret2
  exact ⟨rfl, q1.behind _⟩

set_option maxHeartbeats 2000000 in
theorem parse2_form (X Y W H C R : Int) (s : ByteArray) (x y : Int) (hn : s.size = 2)
    (i0 : ∀ W, (Instr.index 9 (.string s) (.int .i64 0)).run Tryd.prog W = .ok (.int .u8 x) W)  (i1 : ∀ W, (Instr.index 9 (.string s) (.int .i64 1)).run Tryd.prog W = .ok (.int .u8 y) W) (x0 : 0 ≤ x) (x1 : x ≤ 255) (y0 : 0 ≤ y) (y1 : y ≤ 255) (w : World) (h : Grid.Ok X Y W H C R) (hf : x < 65 ∨ 80 < x ∨ y = 48) :
    Calls Tryd.prog 34 #[.agg #[.int .i64 X, .int .i64 Y, .int .i64 W, .int .i64 H, .int .i64 C, .int .i64 R], .string s] w fun e w' => e = .returned (.tuple #[.int .i64 0, .int .i64 20]) ∧ Q w w' := by
  have HK := Lib.hid h
  clear h
  by_cases k1 : x < 65
  · have d1 : decide (x < 65) = true := by simpa using k1
    go_enter Tryd.func34, Tryd.ntmps34
    go_wp2_with fail
    refine (check_yes X Y W H C R _ HK.out).mono ?_
    rintro e w1 ⟨rfl, q1⟩
    go_wp2_with fail
    go_ret2
    exact ⟨rfl, q1.behind _⟩
  have d1 : decide (x < 65) = false := by simpa using k1
  by_cases k2 : 80 < x
  · have d2 : decide (80 < x) = true := by simpa using k2
    go_enter Tryd.func34, Tryd.ntmps34
    go_wp2_with fail
    refine (check_yes X Y W H C R _ HK.out).mono ?_
    rintro e w1 ⟨rfl, q1⟩
    go_wp2_with fail
    go_ret2
    exact ⟨rfl, q1.behind _⟩
  have d2 : decide (80 < x) = false := by simpa using k2
  have d3 : (y == 48) = true := by simp; omega
  clear hf
  go_enter Tryd.func34, Tryd.ntmps34
  go_wp2_with fail
  refine (check_yes X Y W H C R _ HK.out).mono ?_
  rintro e w1 ⟨rfl, q1⟩
  go_wp2_with fail
  go_ret2
  exact ⟨rfl, q1.behind _⟩

set_option maxHeartbeats 4000000 in
theorem parse2_any (X Y W H C R : Int) (s : ByteArray) (x y : Int) (hn : s.size = 2)
    (i0 : ∀ W, (Instr.index 9 (.string s) (.int .i64 0)).run Tryd.prog W = .ok (.int .u8 x) W)  (i1 : ∀ W, (Instr.index 9 (.string s) (.int .i64 1)).run Tryd.prog W = .ok (.int .u8 y) W) (x0 : 0 ≤ x) (x1 : x ≤ 255) (y0 : 0 ≤ y) (y1 : y ≤ 255) (w : World) (h : Grid.Ok X Y W H C R) (hx0 : 65 ≤ x) (hx1 : x ≤ 80) (hy : y ≠ 48) :
    Calls Tryd.prog 34 #[.agg #[.int .i64 X, .int .i64 Y, .int .i64 W, .int .i64 H, .int .i64 C, .int .i64 R], .string s] w fun e w' => e = .returned (if 48 ≤ y ∧ y ≤ 57 then (if C ≤ x - 65 ∨ R < (y - 48) then .tuple #[.int .i64 0, .int .i64 7] else .tuple #[.int .i64 (((y - 48) - 1) * C + (x - 65) + 1), .int .i64 0]) else .tuple #[.int .i64 0, .int .i64 20]) ∧ Q w w' := by
  obtain ⟨rv, hrv⟩ : ∃ rv : Value, (if 48 ≤ y ∧ y ≤ 57 then (if C ≤ x - 65 ∨ R < (y - 48) then .tuple #[.int .i64 0, .int .i64 7] else .tuple #[.int .i64 (((y - 48) - 1) * C + (x - 65) + 1), .int .i64 0]) else .tuple #[.int .i64 0, .int .i64 20]) = rv := ⟨_, rfl⟩
  rw [hrv]
  have HRV := Lib.hid hrv
  clear hrv
  have hC0 := h.c0
  have hC1 := h.c1
  have hR0 := h.r0
  have hR1 := h.r1
  have HK := Lib.hid h
  clear h
  have d1 : decide (x < 65) = false := by simp; omega
  have d2 : decide (80 < x) = false := by simp; omega
  have d3 : (y == 48) = false := by simpa using hy
  have HN := Lib.hid hn
  go_enter Tryd.func34, Tryd.ntmps34
  go_wp2_with fail
  refine (check_yes X Y W H C R _ HK.out).mono ?_
  rintro e w1 ⟨rfl, q1⟩
  have n4 := ((SeAt.fresh w X Y W H C R).next q1).cc
  have n5 := ((SeAt.fresh w X Y W H C R).next q1).cr
  go_wp2_with fail
  go_loop [7, 8] (fun r i => (r = .int .i64 0 ∧ i = .int .i64 1) ∨ (r = .int .i64 (y - 48) ∧ i = .int .i64 2 ∧ 48 ≤ y ∧ y ≤ 57)) (fun _ i => 2 - (intOf i).toNat)
  case atStart => exact .inl ⟨rfl, rfl⟩
  case round =>
    rcases hrel with ⟨rfl, rfl⟩ | ⟨rfl, rfl, h1, h2⟩
    · skip
      by_cases t1 : y < 48
      · have e1 : decide (y < 48) = true := by simpa using t1
        go_wp2_with fail
        go_ret2
        exact ⟨by rw [← HRV.out, if_neg (by omega)]; rfl, q1.behind _⟩
      have e1 : decide (y < 48) = false := by simpa using t1
      by_cases t2 : 57 < y
      · have e2 : decide (57 < y) = true := by simpa using t2
        go_wp2_with fail
        go_ret2
        exact ⟨by rw [← HRV.out, if_neg (by omega)]; rfl, q1.behind _⟩
      have e2 : decide (57 < y) = false := by simpa using t2
      go_wp2_with fail
      go_round
      case rel => exact .inr ⟨by go_num, rfl, by omega, by omega⟩
      case measure => simp [intOf]
    · skip
      have HR1 := Lib.hid HRV.out
      rw [if_pos (by omega)] at HR1
      obtain ⟨q, hqe⟩ : ∃ q, (y - 48) = q := ⟨_, rfl⟩
      have hq0 : 0 ≤ q := by omega
      have hq1 : q ≤ 99 := by omega
      rw [hqe] at HR1
      have b0 := Int.mul_le_mul_of_nonneg_right (show -1 ≤ q - 1 by omega) (show 0 ≤ C by omega)
      have b1 := Int.mul_le_mul_of_nonneg_right (show q - 1 ≤ 98 by omega) (show 0 ≤ C by omega)
      obtain ⟨p, hp⟩ : ∃ p, (q - 1) * C = p := ⟨_, rfl⟩
      rw [hp] at b0 b1 HR1
      by_cases t1 : C ≤ x - 65
      · have e1 : decide (C ≤ x - 65) = true := by simpa using t1
        rw [if_pos (.inl t1)] at HR1
        go_wp2_with fail
        go_ret2
        exact ⟨by rw [← HR1.out]; rfl, q1.behind _⟩
      have e1 : decide (C ≤ x - 65) = false := by simpa using t1
      by_cases t2 : R < q
      · have e2 : decide (R < q) = true := by simpa using t2
        rw [if_pos (.inr t2)] at HR1
        go_wp2_with fail
        go_ret2
        exact ⟨by rw [← HR1.out]; rfl, q1.behind _⟩
      have e2 : decide (R < q) = false := by simpa using t2
      rw [if_neg (by omega)] at HR1
      go_wp2_with fail
      go_ret2
      exact ⟨by rw [← HR1.out]; rfl, q1.behind _⟩

set_option maxHeartbeats 2000000 in
theorem parse3_form (X Y W H C R : Int) (s : ByteArray) (x y z : Int) (hn : s.size = 3)
    (i0 : ∀ W, (Instr.index 9 (.string s) (.int .i64 0)).run Tryd.prog W = .ok (.int .u8 x) W)  (i1 : ∀ W, (Instr.index 9 (.string s) (.int .i64 1)).run Tryd.prog W = .ok (.int .u8 y) W)  (i2 : ∀ W, (Instr.index 9 (.string s) (.int .i64 2)).run Tryd.prog W = .ok (.int .u8 z) W) (x0 : 0 ≤ x) (x1 : x ≤ 255) (y0 : 0 ≤ y) (y1 : y ≤ 255) (z0 : 0 ≤ z) (z1 : z ≤ 255) (w : World) (h : Grid.Ok X Y W H C R) (hf : x < 65 ∨ 80 < x ∨ y = 48) :
    Calls Tryd.prog 34 #[.agg #[.int .i64 X, .int .i64 Y, .int .i64 W, .int .i64 H, .int .i64 C, .int .i64 R], .string s] w fun e w' => e = .returned (.tuple #[.int .i64 0, .int .i64 20]) ∧ Q w w' := by
  have HK := Lib.hid h
  clear h
  by_cases k1 : x < 65
  · have d1 : decide (x < 65) = true := by simpa using k1
    go_enter Tryd.func34, Tryd.ntmps34
    go_wp2_with fail
    refine (check_yes X Y W H C R _ HK.out).mono ?_
    rintro e w1 ⟨rfl, q1⟩
    go_wp2_with fail
    go_ret2
    exact ⟨rfl, q1.behind _⟩
  have d1 : decide (x < 65) = false := by simpa using k1
  by_cases k2 : 80 < x
  · have d2 : decide (80 < x) = true := by simpa using k2
    go_enter Tryd.func34, Tryd.ntmps34
    go_wp2_with fail
    refine (check_yes X Y W H C R _ HK.out).mono ?_
    rintro e w1 ⟨rfl, q1⟩
    go_wp2_with fail
    go_ret2
    exact ⟨rfl, q1.behind _⟩
  have d2 : decide (80 < x) = false := by simpa using k2
  have d3 : (y == 48) = true := by simp; omega
  clear hf
  go_enter Tryd.func34, Tryd.ntmps34
  go_wp2_with fail
  refine (check_yes X Y W H C R _ HK.out).mono ?_
  rintro e w1 ⟨rfl, q1⟩
  go_wp2_with fail
  go_ret2
  exact ⟨rfl, q1.behind _⟩

set_option maxHeartbeats 4000000 in
theorem parse3_any (X Y W H C R : Int) (s : ByteArray) (x y z : Int) (hn : s.size = 3)
    (i0 : ∀ W, (Instr.index 9 (.string s) (.int .i64 0)).run Tryd.prog W = .ok (.int .u8 x) W)  (i1 : ∀ W, (Instr.index 9 (.string s) (.int .i64 1)).run Tryd.prog W = .ok (.int .u8 y) W)  (i2 : ∀ W, (Instr.index 9 (.string s) (.int .i64 2)).run Tryd.prog W = .ok (.int .u8 z) W) (x0 : 0 ≤ x) (x1 : x ≤ 255) (y0 : 0 ≤ y) (y1 : y ≤ 255) (z0 : 0 ≤ z) (z1 : z ≤ 255) (w : World) (h : Grid.Ok X Y W H C R) (hx0 : 65 ≤ x) (hx1 : x ≤ 80) (hy : y ≠ 48) :
    Calls Tryd.prog 34 #[.agg #[.int .i64 X, .int .i64 Y, .int .i64 W, .int .i64 H, .int .i64 C, .int .i64 R], .string s] w fun e w' => e = .returned (if 48 ≤ y ∧ y ≤ 57 ∧ 48 ≤ z ∧ z ≤ 57 then (if C ≤ x - 65 ∨ R < (10 * (y - 48) + (z - 48)) then .tuple #[.int .i64 0, .int .i64 7] else .tuple #[.int .i64 (((10 * (y - 48) + (z - 48)) - 1) * C + (x - 65) + 1), .int .i64 0]) else .tuple #[.int .i64 0, .int .i64 20]) ∧ Q w w' := by
  obtain ⟨rv, hrv⟩ : ∃ rv : Value, (if 48 ≤ y ∧ y ≤ 57 ∧ 48 ≤ z ∧ z ≤ 57 then (if C ≤ x - 65 ∨ R < (10 * (y - 48) + (z - 48)) then .tuple #[.int .i64 0, .int .i64 7] else .tuple #[.int .i64 (((10 * (y - 48) + (z - 48)) - 1) * C + (x - 65) + 1), .int .i64 0]) else .tuple #[.int .i64 0, .int .i64 20]) = rv := ⟨_, rfl⟩
  rw [hrv]
  have HRV := Lib.hid hrv
  clear hrv
  have hC0 := h.c0
  have hC1 := h.c1
  have hR0 := h.r0
  have hR1 := h.r1
  have HK := Lib.hid h
  clear h
  have d1 : decide (x < 65) = false := by simp; omega
  have d2 : decide (80 < x) = false := by simp; omega
  have d3 : (y == 48) = false := by simpa using hy
  have HN := Lib.hid hn
  go_enter Tryd.func34, Tryd.ntmps34
  go_wp2_with fail
  refine (check_yes X Y W H C R _ HK.out).mono ?_
  rintro e w1 ⟨rfl, q1⟩
  have n4 := ((SeAt.fresh w X Y W H C R).next q1).cc
  have n5 := ((SeAt.fresh w X Y W H C R).next q1).cr
  go_wp2_with fail
  go_loop [7, 8] (fun r i => (r = .int .i64 0 ∧ i = .int .i64 1) ∨ (r = .int .i64 (y - 48) ∧ i = .int .i64 2 ∧ 48 ≤ y ∧ y ≤ 57) ∨ (r = .int .i64 (10 * (y - 48) + (z - 48)) ∧ i = .int .i64 3 ∧ 48 ≤ y ∧ y ≤ 57 ∧ 48 ≤ z ∧ z ≤ 57)) (fun _ i => 3 - (intOf i).toNat)
  case atStart => exact .inl ⟨rfl, rfl⟩
  case round =>
    rcases hrel with ⟨rfl, rfl⟩ | ⟨rfl, rfl, h1, h2⟩ | ⟨rfl, rfl, h1, h2, h3, h4⟩
    · skip
      by_cases t1 : y < 48
      · have e1 : decide (y < 48) = true := by simpa using t1
        go_wp2_with fail
        go_ret2
        exact ⟨by rw [← HRV.out, if_neg (by omega)]; rfl, q1.behind _⟩
      have e1 : decide (y < 48) = false := by simpa using t1
      by_cases t2 : 57 < y
      · have e2 : decide (57 < y) = true := by simpa using t2
        go_wp2_with fail
        go_ret2
        exact ⟨by rw [← HRV.out, if_neg (by omega)]; rfl, q1.behind _⟩
      have e2 : decide (57 < y) = false := by simpa using t2
      go_wp2_with fail
      go_round
      case rel => exact .inr (.inl ⟨by go_num, rfl, by omega, by omega⟩)
      case measure => simp [intOf]
    · skip
      by_cases t1 : z < 48
      · have e1 : decide (z < 48) = true := by simpa using t1
        go_wp2_with fail
        go_ret2
        exact ⟨by rw [← HRV.out, if_neg (by omega)]; rfl, q1.behind _⟩
      have e1 : decide (z < 48) = false := by simpa using t1
      by_cases t2 : 57 < z
      · have e2 : decide (57 < z) = true := by simpa using t2
        go_wp2_with fail
        go_ret2
        exact ⟨by rw [← HRV.out, if_neg (by omega)]; rfl, q1.behind _⟩
      have e2 : decide (57 < z) = false := by simpa using t2
      go_wp2_with fail
      go_round
      case rel => exact .inr (.inr ⟨by go_num, rfl, by omega, by omega, by omega, by omega⟩)
      case measure => simp [intOf]
    · skip
      have HR1 := Lib.hid HRV.out
      rw [if_pos (by omega)] at HR1
      obtain ⟨q, hqe⟩ : ∃ q, (10 * (y - 48) + (z - 48)) = q := ⟨_, rfl⟩
      have hq0 : 0 ≤ q := by omega
      have hq1 : q ≤ 99 := by omega
      rw [hqe] at HR1
      have b0 := Int.mul_le_mul_of_nonneg_right (show -1 ≤ q - 1 by omega) (show 0 ≤ C by omega)
      have b1 := Int.mul_le_mul_of_nonneg_right (show q - 1 ≤ 98 by omega) (show 0 ≤ C by omega)
      obtain ⟨p, hp⟩ : ∃ p, (q - 1) * C = p := ⟨_, rfl⟩
      rw [hp] at b0 b1 HR1
      by_cases t1 : C ≤ x - 65
      · have e1 : decide (C ≤ x - 65) = true := by simpa using t1
        rw [if_pos (.inl t1)] at HR1
        go_wp2_with fail
        go_ret2
        exact ⟨by rw [← HR1.out]; rfl, q1.behind _⟩
      have e1 : decide (C ≤ x - 65) = false := by simpa using t1
      by_cases t2 : R < q
      · have e2 : decide (R < q) = true := by simpa using t2
        rw [if_pos (.inr t2)] at HR1
        go_wp2_with fail
        go_ret2
        exact ⟨by rw [← HR1.out]; rfl, q1.behind _⟩
      have e2 : decide (R < q) = false := by simpa using t2
      rw [if_neg (by omega)] at HR1
      go_wp2_with fail
      go_ret2
      exact ⟨by rw [← HR1.out]; rfl, q1.behind _⟩

namespace Grid
/-- What Parse answers for a valid series of C columns and R rows. -/
def prs (C R : Int) (s : ByteArray) : Value :=
  if s.size < 2 ∨ 3 < s.size then .tuple #[.int .i64 0, .int .i64 20]
  else if byt s 0 < 65 ∨ 80 < byt s 0 ∨ byt s 1 = 48 then .tuple #[.int .i64 0, .int .i64 20]
  else if s.size = 2 then
    (if 48 ≤ byt s 1 ∧ byt s 1 ≤ 57 then (if C ≤ byt s 0 - 65 ∨ R < (byt s 1 - 48) then .tuple #[.int .i64 0, .int .i64 7] else .tuple #[.int .i64 (((byt s 1 - 48) - 1) * C + (byt s 0 - 65) + 1), .int .i64 0]) else .tuple #[.int .i64 0, .int .i64 20])
  else
    (if 48 ≤ byt s 1 ∧ byt s 1 ≤ 57 ∧ 48 ≤ byt s 2 ∧ byt s 2 ≤ 57 then (if C ≤ byt s 0 - 65 ∨ R < (10 * (byt s 1 - 48) + (byt s 2 - 48)) then .tuple #[.int .i64 0, .int .i64 7] else .tuple #[.int .i64 (((10 * (byt s 1 - 48) + (byt s 2 - 48)) - 1) * C + (byt s 0 - 65) + 1), .int .i64 0]) else .tuple #[.int .i64 0, .int .i64 20])
end Grid

theorem parse_any (X Y W H C R : Int) (s : ByteArray) (w : World) (h : Grid.Ok X Y W H C R) (hm : s.size ≤ 9223372036854775807) :
    Calls Tryd.prog 34 #[.agg #[.int .i64 X, .int .i64 Y, .int .i64 W, .int .i64 H, .int .i64 C, .int .i64 R], .string s] w fun e w' => e = .returned (Grid.prs C R s) ∧ Q w w' := by
  have b0 := Grid.byt_bd s 0
  have b1 := Grid.byt_bd s 1
  have b2 := Grid.byt_bd s 2
  unfold Grid.prs
  by_cases c1 : s.size < 2
  · rw [if_pos (.inl c1)]
    exact parse_short X Y W H C R s w h c1 hm
  by_cases c2 : 3 < s.size
  · rw [if_pos (.inr c2)]
    exact parse_long X Y W H C R s w h c2 hm
  rw [if_neg (by omega)]
  have i0 := fun W => byt_run s 0 (by omega) W
  have i1 := fun W => byt_run s 1 (by omega) W
  by_cases c4 : s.size = 2
  · by_cases c3 : Grid.byt s 0 < 65 ∨ 80 < Grid.byt s 0 ∨ Grid.byt s 1 = 48
    · rw [if_pos c3]
      exact parse2_form X Y W H C R s _ _ c4 i0 i1 b0.1 b0.2 b1.1 b1.2 w h c3
    · rw [if_neg c3, if_pos c4]
      exact parse2_any X Y W H C R s _ _ c4 i0 i1 b0.1 b0.2 b1.1 b1.2 w h (by omega) (by omega) (by omega)
  · have c5 : s.size = 3 := by omega
    have i2 := fun W => byt_run s 2 (by omega) W
    by_cases c3 : Grid.byt s 0 < 65 ∨ 80 < Grid.byt s 0 ∨ Grid.byt s 1 = 48
    · rw [if_pos c3]
      exact parse3_form X Y W H C R s _ _ _ c5 i0 i1 i2 b0.1 b0.2 b1.1 b1.2 b2.1 b2.2 w h c3
    · rw [if_neg c3, if_neg c4]
      exact parse3_any X Y W H C R s _ _ _ c5 i0 i1 i2 b0.1 b0.2 b1.1 b1.2 b2.1 b2.2 w h (by omega) (by omega) (by omega)
end Go.Proofs.YtcaabaijkidmgaaDoor
