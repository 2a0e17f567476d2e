
/- Contract of the reference's Neighbor (package mapsheetsref40): the same as sheetgrid's. -/
import Derived.Test.YtpnifjeelmfegaaDoorGridNb
import Derived.Test.YtpnifjeelmfegaaDoorGridRB
namespace Go.Proofs.YtpnifjeelmfegaaDoor
open Go.RowKit
set_option linter.unusedVariables false

theorem rnb_bad (X Y W H C R s side : Int) (w : World) (h : ¬ Grid.Ok X Y W H C R) :
    Calls Tryd.prog 21 #[.agg #[.int .i64 X, .int .i64 Y, .int .i64 W, .int .i64 H, .int .i64 C, .int .i64 R], .int .i64 s, .int .i64 side] w fun e w' => e = .returned (.tuple #[.int .i64 0, .bool false]) ∧ Q w w' := by
  go_enter Tryd.func21, Tryd.ntmps21
  go_wp2_with fail
  refine (rcheck_no X Y W H C R _ h).mono ?_
  rintro e w1 ⟨rfl, q1⟩
  go_wp2_with fail
  go_ret2
  exact ⟨rfl, q1.behind _⟩
theorem rnb_none (X Y W H C R s side : Int) (w : World) (h : Grid.Ok X Y W H C R) (hs : s < 1 ∨ C * R < s) :
    Calls Tryd.prog 21 #[.agg #[.int .i64 X, .int .i64 Y, .int .i64 W, .int .i64 H, .int .i64 C, .int .i64 R], .int .i64 s, .int .i64 side] w fun e w' => e = .returned (.tuple #[.int .i64 0, .bool false]) ∧ Q w w' := by
  have HT := Lib.hid (fun W' => there_no X Y W H C R s W' h hs)
  have HC := Lib.hid (fun W' => rcheck_yes X Y W H C R W' h)
  clear h hs
  go_enter Tryd.func21, Tryd.ntmps21
  go_wp2_with fail
  refine (HC.out _).mono ?_
  rintro e w1 ⟨rfl, q1⟩
  obtain ⟨k0, k1, k2, k3, k4, k5, k6⟩ := (SeAt.fresh w X Y W H C R).next q1
  clear k6
  go_wp2_with fail
  refine (HT.out _).mono ?_
  rintro e w2 ⟨rfl, q2⟩
  go_wp2_with fail
  go_ret2
  exact ⟨rfl, (q1.trans q2).behind _⟩
theorem rnb_side (X Y W H C R s side : Int) (w : World) (h : Grid.Ok X Y W H C R) (hs0 : 1 ≤ s) (hs1 : s ≤ C * R) (hd : side < 1 ∨ 4 < side) :
    Calls Tryd.prog 21 #[.agg #[.int .i64 X, .int .i64 Y, .int .i64 W, .int .i64 H, .int .i64 C, .int .i64 R], .int .i64 s, .int .i64 side] w fun e w' => e = .returned (.tuple #[.int .i64 0, .bool false]) ∧ Q w w' := by
  have hp := Grid.prod_bd C R 16 16 h.c0 h.c1 h.r0 h.r1
  have HT := Lib.hid (fun W' => there_yes X Y W H C R s W' h hs0 hs1)
  have HP := Lib.hid (fun W' => place_any X Y W H C R s W' h hs0 (by omega))
  have HC := Lib.hid (fun W' => rcheck_yes X Y W H C R W' h)
  have d1 : (side == 1) = false := by simp; omega
  have d2 : (side == 2) = false := by simp; omega
  have d3 : (side == 3) = false := by simp; omega
  have d4 : (side == 4) = false := by simp; omega
  generalize (s - 1) % C = c at *
  generalize (s - 1) / C = r at *
  clear h hs0 hs1 hd hp
  go_enter Tryd.func21, Tryd.ntmps21
  go_wp2_with fail
  refine (HC.out _).mono ?_
  rintro e w1 ⟨rfl, q1⟩
  obtain ⟨k0, k1, k2, k3, k4, k5, k6⟩ := (SeAt.fresh w X Y W H C R).next q1
  clear k6
  go_wp2_with fail
  refine (HT.out _).mono ?_
  rintro e w2 ⟨rfl, q2⟩
  clear k0 k1 k2 k3 k4 k5
  obtain ⟨k0, k1, k2, k3, k4, k5, k6⟩ := ((SeAt.fresh w X Y W H C R).next q1).next q2
  clear k6
  go_wp2_with fail
  refine (HP.out _).mono ?_
  rintro e w3 ⟨rfl, q3⟩
  clear k0 k1 k2 k3 k4 k5
  go_wp2_with fail
  go_ret2
  exact ⟨rfl, (q1.trans (q2.trans q3)).behind _⟩

set_option maxHeartbeats 4000000 in
theorem rnb_core (X Y W H C R s side c r x y : Int) (w : World) (hs : (side = 1 ∧ x = -1 ∧ y = 0) ∨ (side = 2 ∧ x = 0 ∧ y = -1) ∨ (side = 3 ∧ x = 1 ∧ y = 0) ∨ (side = 4 ∧ x = 0 ∧ y = 1))
    (hc0 : 0 ≤ c) (hc1 : c ≤ 15) (hr0 : 0 ≤ r) (hr1 : r ≤ 15) (hC0 : 1 ≤ C) (hC1 : C ≤ 16) (hR0 : 1 ≤ R) (hR1 : R ≤ 16)
    (HC : Hid (∀ w, Calls Tryd.prog 14 #[.agg #[.int .i64 X, .int .i64 Y, .int .i64 W, .int .i64 H, .int .i64 C, .int .i64 R]] w fun e w' => e = .returned (.int .i64 0) ∧ Q w w'))
    (HT : Hid (∀ w, Calls Tryd.prog 28 #[.agg #[.int .i64 X, .int .i64 Y, .int .i64 W, .int .i64 H, .int .i64 C, .int .i64 R], .int .i64 s] w fun e w' => e = .returned (.bool true) ∧ Q w w'))
    (HP : Hid (∀ w, Calls Tryd.prog 29 #[.agg #[.int .i64 X, .int .i64 Y, .int .i64 W, .int .i64 H, .int .i64 C, .int .i64 R], .int .i64 s] w fun e w' => e = .returned (.tuple #[.int .i64 c, .int .i64 r]) ∧ Q w w'))
    (u v p : Int) (hu : c + x = u) (hv : r + y = v) (hp : v * C = p) (hp0 : -16 ≤ p) (hp1 : p ≤ 256) :
    Calls Tryd.prog 21 #[.agg #[.int .i64 X, .int .i64 Y, .int .i64 W, .int .i64 H, .int .i64 C, .int .i64 R], .int .i64 s, .int .i64 side] w fun e w' => e = .returned (if u < 0 ∨ C ≤ u ∨ v < 0 ∨ R ≤ v then .tuple #[.int .i64 0, .bool false] else .tuple #[.int .i64 (p + u + 1), .bool true]) ∧ Q w w' := by
  have hu0 : -1 ≤ u := by omega
  have hu1 : u ≤ 16 := by omega
  have e1 : x = -1 → c - 1 = u := fun h => by omega
  have e2 : y = -1 → r - 1 = v := fun h => by omega
  have e3 : x = 0 → c = u := fun h => by omega
  have e4 : y = 0 → r = v := fun h => by omega
  by_cases k1 : u < 0
  · have d1 : decide (u < 0) = true := by simpa using k1
    rw [if_pos (by omega)]
    clear hp k1
    rcases hs with ⟨rfl, rfl, rfl⟩ | ⟨rfl, rfl, rfl⟩ | ⟨rfl, rfl, rfl⟩ | ⟨rfl, rfl, rfl⟩
    all_goals
      go_enter Tryd.func21, Tryd.ntmps21
      go_wp2_with fail
      refine (HC.out _).mono ?_
      rintro e w1 ⟨rfl, q1⟩
      obtain ⟨k0, k1, k2, k3, k4, k5, k6⟩ := (SeAt.fresh w X Y W H C R).next q1
      clear k6
      go_wp2_with fail
      refine (HT.out _).mono ?_
      rintro e w2 ⟨rfl, q2⟩
      clear k0 k1 k2 k3 k4 k5
      obtain ⟨k0, k1, k2, k3, k4, k5, k6⟩ := ((SeAt.fresh w X Y W H C R).next q1).next q2
      clear k6
      go_wp2_with fail
      refine (HP.out _).mono ?_
      rintro e w3 ⟨rfl, q3⟩
      clear k0 k1 k2 k3 k4 k5
      obtain ⟨k0, k1, k2, k3, k4, k5, k6⟩ := (((SeAt.fresh w X Y W H C R).next q1).next q2).next q3
      clear k0 k1 k2 k3 k6
      go_wp2_with fail
      go_ret2
      exact ⟨rfl, (q1.trans (q2.trans q3)).behind _⟩
  have d1 : decide (u < 0) = false := by simpa using k1
  by_cases k2 : v < 0
  · have d2 : decide (v < 0) = true := by simpa using k2
    rw [if_pos (by omega)]
    clear hp k2
    rcases hs with ⟨rfl, rfl, rfl⟩ | ⟨rfl, rfl, rfl⟩ | ⟨rfl, rfl, rfl⟩ | ⟨rfl, rfl, rfl⟩
    all_goals
      go_enter Tryd.func21, Tryd.ntmps21
      go_wp2_with fail
      refine (HC.out _).mono ?_
      rintro e w1 ⟨rfl, q1⟩
      obtain ⟨k0, k1, k2, k3, k4, k5, k6⟩ := (SeAt.fresh w X Y W H C R).next q1
      clear k6
      go_wp2_with fail
      refine (HT.out _).mono ?_
      rintro e w2 ⟨rfl, q2⟩
      clear k0 k1 k2 k3 k4 k5
      obtain ⟨k0, k1, k2, k3, k4, k5, k6⟩ := ((SeAt.fresh w X Y W H C R).next q1).next q2
      clear k6
      go_wp2_with fail
      refine (HP.out _).mono ?_
      rintro e w3 ⟨rfl, q3⟩
      clear k0 k1 k2 k3 k4 k5
      obtain ⟨k0, k1, k2, k3, k4, k5, k6⟩ := (((SeAt.fresh w X Y W H C R).next q1).next q2).next q3
      clear k0 k1 k2 k3 k6
      go_wp2_with fail
      go_ret2
      exact ⟨rfl, (q1.trans (q2.trans q3)).behind _⟩
  have d2 : decide (v < 0) = false := by simpa using k2
  by_cases k3 : C ≤ u
  · have d3 : decide (C ≤ u) = true := by simpa using k3
    rw [if_pos (by omega)]
    clear hp k3
    rcases hs with ⟨rfl, rfl, rfl⟩ | ⟨rfl, rfl, rfl⟩ | ⟨rfl, rfl, rfl⟩ | ⟨rfl, rfl, rfl⟩
    all_goals
      go_enter Tryd.func21, Tryd.ntmps21
      go_wp2_with fail
      refine (HC.out _).mono ?_
      rintro e w1 ⟨rfl, q1⟩
      obtain ⟨k0, k1, k2, k3, k4, k5, k6⟩ := (SeAt.fresh w X Y W H C R).next q1
      clear k6
      go_wp2_with fail
      refine (HT.out _).mono ?_
      rintro e w2 ⟨rfl, q2⟩
      clear k0 k1 k2 k3 k4 k5
      obtain ⟨k0, k1, k2, k3, k4, k5, k6⟩ := ((SeAt.fresh w X Y W H C R).next q1).next q2
      clear k6
      go_wp2_with fail
      refine (HP.out _).mono ?_
      rintro e w3 ⟨rfl, q3⟩
      clear k0 k1 k2 k3 k4 k5
      obtain ⟨k0, k1, k2, k3, k4, k5, k6⟩ := (((SeAt.fresh w X Y W H C R).next q1).next q2).next q3
      clear k0 k1 k2 k3 k6
      go_wp2_with fail
      go_ret2
      exact ⟨rfl, (q1.trans (q2.trans q3)).behind _⟩
  have d3 : decide (C ≤ u) = false := by simpa using k3
  by_cases k4 : R ≤ v
  · have d4 : decide (R ≤ v) = true := by simpa using k4
    rw [if_pos (by omega)]
    clear hp k4
    rcases hs with ⟨rfl, rfl, rfl⟩ | ⟨rfl, rfl, rfl⟩ | ⟨rfl, rfl, rfl⟩ | ⟨rfl, rfl, rfl⟩
    all_goals
      go_enter Tryd.func21, Tryd.ntmps21
      go_wp2_with fail
      refine (HC.out _).mono ?_
      rintro e w1 ⟨rfl, q1⟩
      obtain ⟨k0, k1, k2, k3, k4, k5, k6⟩ := (SeAt.fresh w X Y W H C R).next q1
      clear k6
      go_wp2_with fail
      refine (HT.out _).mono ?_
      rintro e w2 ⟨rfl, q2⟩
      clear k0 k1 k2 k3 k4 k5
      obtain ⟨k0, k1, k2, k3, k4, k5, k6⟩ := ((SeAt.fresh w X Y W H C R).next q1).next q2
      clear k6
      go_wp2_with fail
      refine (HP.out _).mono ?_
      rintro e w3 ⟨rfl, q3⟩
      clear k0 k1 k2 k3 k4 k5
      obtain ⟨k0, k1, k2, k3, k4, k5, k6⟩ := (((SeAt.fresh w X Y W H C R).next q1).next q2).next q3
      clear k0 k1 k2 k3 k6
      go_wp2_with fail
      go_ret2
      exact ⟨rfl, (q1.trans (q2.trans q3)).behind _⟩
  have d4 : decide (R ≤ v) = false := by simpa using k4
  rw [if_neg (by omega)]
  clear k1 k2 k3 k4
  rcases hs with ⟨rfl, rfl, rfl⟩ | ⟨rfl, rfl, rfl⟩ | ⟨rfl, rfl, rfl⟩ | ⟨rfl, rfl, rfl⟩
  all_goals
    go_enter Tryd.func21, Tryd.ntmps21
    go_wp2_with fail
    refine (HC.out _).mono ?_
    rintro e w1 ⟨rfl, q1⟩
    obtain ⟨k0, k1, k2, k3, k4, k5, k6⟩ := (SeAt.fresh w X Y W H C R).next q1
    clear k6
    go_wp2_with fail
    refine (HT.out _).mono ?_
    rintro e w2 ⟨rfl, q2⟩
    clear k0 k1 k2 k3 k4 k5
    obtain ⟨k0, k1, k2, k3, k4, k5, k6⟩ := ((SeAt.fresh w X Y W H C R).next q1).next q2
    clear k6
    go_wp2_with fail
    refine (HP.out _).mono ?_
    rintro e w3 ⟨rfl, q3⟩
    clear k0 k1 k2 k3 k4 k5
    obtain ⟨k0, k1, k2, k3, k4, k5, k6⟩ := (((SeAt.fresh w X Y W H C R).next q1).next q2).next q3
    clear k0 k1 k2 k3 k6
    go_wp2_with fail
    go_ret2
    exact ⟨rfl, (q1.trans (q2.trans q3)).behind _⟩

theorem rnb_there (X Y W H C R s side : Int) (w : World) (h : Grid.Ok X Y W H C R) (hs0 : 1 ≤ s) (hs1 : s ≤ C * R) (h1 : 1 ≤ side) (h4 : side ≤ 4) :
    Calls Tryd.prog 21 #[.agg #[.int .i64 X, .int .i64 Y, .int .i64 W, .int .i64 H, .int .i64 C, .int .i64 R], .int .i64 s, .int .i64 side] w fun e w' => e = .returned (Grid.nbv C R s side) ∧ Q w w' := by
  have hc0 := h.c0
  have hc1 := h.c1
  have hr0 := h.r0
  have hr1 := h.r1
  have hp := Grid.prod_bd C R 16 16 h.c0 h.c1 h.r0 h.r1
  have a1 := Int.emod_nonneg (s - 1) (show C ≠ 0 by omega)
  have a2 := Int.emod_lt_of_pos (s - 1) (show 0 < C by omega)
  have a3 := Int.ediv_nonneg (show 0 ≤ s - 1 by omega) (show 0 ≤ C by omega)
  have a4 : (s - 1) / C < R := (Int.ediv_lt_iff_lt_mul (by omega)).2 (by rw [Int.mul_comm]; omega)
  have hd : (side = 1 ∧ Grid.dx side = -1 ∧ Grid.dy side = 0) ∨ (side = 2 ∧ Grid.dx side = 0 ∧ Grid.dy side = -1) ∨ (side = 3 ∧ Grid.dx side = 1 ∧ Grid.dy side = 0) ∨ (side = 4 ∧ Grid.dx side = 0 ∧ Grid.dy side = 1) := by
    obtain rfl | rfl | rfl | rfl : side = 1 ∨ side = 2 ∨ side = 3 ∨ side = 4 := by omega
    · exact .inl ⟨rfl, rfl, rfl⟩
    · exact .inr (.inl ⟨rfl, rfl, rfl⟩)
    · exact .inr (.inr (.inl ⟨rfl, rfl, rfl⟩))
    · exact .inr (.inr (.inr ⟨rfl, rfl, rfl⟩))
  have b1 : -1 * C ≤ ((s - 1) / C + Grid.dy side) * C := Int.mul_le_mul_of_nonneg_right (by omega) (by omega)
  have b2 : ((s - 1) / C + Grid.dy side) * C ≤ 16 * C := Int.mul_le_mul_of_nonneg_right (by omega) (by omega)
  exact rnb_core X Y W H C R s side _ _ _ _ w hd a1 (by omega) a3 (by omega) hc0 hc1 hr0 hr1 (fun W' => rcheck_yes X Y W H C R W' h) (fun W' => there_yes X Y W H C R s W' h hs0 hs1) (fun W' => place_any X Y W H C R s W' h hs0 (by omega)) _ _ _ rfl rfl rfl (by omega) (by omega)
end Go.Proofs.YtpnifjeelmfegaaDoor
