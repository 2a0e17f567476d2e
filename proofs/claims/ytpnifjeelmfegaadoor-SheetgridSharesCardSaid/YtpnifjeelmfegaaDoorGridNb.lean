/- Contract of sheetgrid.Neighbor: the sheet on a side of a sheet. -/
import Derived.Test.YtpnifjeelmfegaaDoorGridFind
namespace Go.Proofs.YtpnifjeelmfegaaDoor
open Go.RowKit
set_option linter.unusedVariables false

/-- The table of moves, as the program's text lays it. -/
structure Mv (w : World) : Prop where
  m0 : w.cell? ⟨0, 0, none⟩ = some (.int .i64 (-1))
  m1 : w.cell? ⟨0, 1, none⟩ = some (.int .i64 0)
  m2 : w.cell? ⟨0, 2, none⟩ = some (.int .i64 0)
  m3 : w.cell? ⟨0, 3, none⟩ = some (.int .i64 (-1))
  m4 : w.cell? ⟨0, 4, none⟩ = some (.int .i64 1)
  m5 : w.cell? ⟨0, 5, none⟩ = some (.int .i64 0)
  m6 : w.cell? ⟨0, 6, none⟩ = some (.int .i64 0)
  m7 : w.cell? ⟨0, 7, none⟩ = some (.int .i64 1)
theorem Mv.lt {w : World} (h : Mv w) : 0 < w.heap.size := block_lt_of_cell h.m0
theorem Mv.next {w w' : World} (h : Mv w) (q : Q w w') : Mv w' :=
  ⟨(q.cell h.lt).trans h.m0, (q.cell h.lt).trans h.m1, (q.cell h.lt).trans h.m2, (q.cell h.lt).trans h.m3, (q.cell h.lt).trans h.m4, (q.cell h.lt).trans h.m5, (q.cell h.lt).trans h.m6, (q.cell h.lt).trans h.m7⟩
theorem Mv.alloc {w : World} (h : Mv w) (o : Obj) : Mv (w.alloc o) := h.next ((Q.refl w).alloc o)

namespace Grid
def dx (side : Int) : Int := if side = 1 then -1 else if side = 3 then 1 else 0
def dy (side : Int) : Int := if side = 2 then -1 else if side = 4 then 1 else 0
end Grid

theorem nb_err (X Y W H C R s side er : Int) (w : World) (her : (er != 0) = true) (HF : Hid (∀ W', Calls Tryd.prog 27 #[.agg #[.int .i64 X, .int .i64 Y, .int .i64 W, .int .i64 H, .int .i64 C, .int .i64 R], .int .i64 s] W' fun e w' => e = .returned (.tuple #[.int .i64 0, .int .i64 0, .int .i64 er]) ∧ Q W' w')) :
    Calls Tryd.prog 20 #[.agg #[.int .i64 X, .int .i64 Y, .int .i64 W, .int .i64 H, .int .i64 C, .int .i64 R], .int .i64 s, .int .i64 side] w fun e w' => e = .returned (.tuple #[.int .i64 0, .bool false]) ∧ Q w w' := by
  go_enter Tryd.func20, Tryd.ntmps20
  go_wp2_with fail
  refine (HF.out _).mono ?_
  rintro e w1 ⟨rfl, q1⟩
  go_wp2_with fail
  go_ret2
  exact ⟨rfl, q1.behind _⟩

theorem nb_side (X Y W H C R s side c r : Int) (w : World) (hs : side < 1 ∨ 4 < side) (HF : Hid (∀ W', Calls Tryd.prog 27 #[.agg #[.int .i64 X, .int .i64 Y, .int .i64 W, .int .i64 H, .int .i64 C, .int .i64 R], .int .i64 s] W' fun e w' => e = .returned (.tuple #[.int .i64 c, .int .i64 r, .int .i64 0]) ∧ Q W' w')) :
    Calls Tryd.prog 20 #[.agg #[.int .i64 X, .int .i64 Y, .int .i64 W, .int .i64 H, .int .i64 C, .int .i64 R], .int .i64 s, .int .i64 side] w fun e w' => e = .returned (.tuple #[.int .i64 0, .bool false]) ∧ Q w w' := by
  by_cases k : side < 1
  · have d1 : decide (side < 1) = true := by simpa using k
    go_enter Tryd.func20, Tryd.ntmps20
    go_wp2_with fail
    refine (HF.out _).mono ?_
    rintro e w1 ⟨rfl, q1⟩
    go_wp2_with fail
    go_ret2
    exact ⟨rfl, q1.behind _⟩
  · have d1 : decide (side < 1) = false := by simpa using k
    have d2 : decide (4 < side) = true := by simp; omega
    go_enter Tryd.func20, Tryd.ntmps20
    go_wp2_with fail
    refine (HF.out _).mono ?_
    rintro e w1 ⟨rfl, q1⟩
    go_wp2_with fail
    go_ret2
    exact ⟨rfl, q1.behind _⟩

set_option maxHeartbeats 4000000 in
theorem nb_core (X Y W H C R s side c r x y : Int) (w : World) (hM : Mv w) (hs : (side = 1 ∧ x = -1 ∧ y = 0) ∨ (side = 2 ∧ x = 0 ∧ y = -1) ∨ (side = 3 ∧ x = 1 ∧ y = 0) ∨ (side = 4 ∧ x = 0 ∧ y = 1))
    (hc0 : 0 ≤ c) (hc1 : c ≤ 15) (hr0 : 0 ≤ r) (hr1 : r ≤ 15) (hC0 : 1 ≤ C) (hC1 : C ≤ 16) (hR0 : 1 ≤ R) (hR1 : R ≤ 16)
    (HF : Hid (∀ W', Calls Tryd.prog 27 #[.agg #[.int .i64 X, .int .i64 Y, .int .i64 W, .int .i64 H, .int .i64 C, .int .i64 R], .int .i64 s] W' fun e w' => e = .returned (.tuple #[.int .i64 c, .int .i64 r, .int .i64 0]) ∧ Q W' w')) (u v p : Int) (hu : c + x = u) (hv : r + y = v) (hp : v * C = p) (hp0 : -16 ≤ p) (hp1 : p ≤ 256) :
    Calls Tryd.prog 20 #[.agg #[.int .i64 X, .int .i64 Y, .int .i64 W, .int .i64 H, .int .i64 C, .int .i64 R], .int .i64 s, .int .i64 side] w fun e w' => e = .returned (if u < 0 ∨ C ≤ u ∨ v < 0 ∨ R ≤ v then .tuple #[.int .i64 0, .bool false] else .tuple #[.int .i64 (p + u + 1), .bool true]) ∧ Q w w' := by
  have HM := Lib.hid hM
  clear hM
  have hu0 : -1 ≤ u := by omega
  have hu1 : u ≤ 16 := by omega
  by_cases k1 : u < 0
  · have d1 : decide (u < 0) = true := by simpa using k1
    rw [if_pos (.inl k1)]
    clear hp k1
    rcases hs with ⟨rfl, rfl, rfl⟩ | ⟨rfl, rfl, rfl⟩ | ⟨rfl, rfl, rfl⟩ | ⟨rfl, rfl, rfl⟩
    all_goals
      go_enter Tryd.func20, Tryd.ntmps20
      go_wp2_with fail
      refine (HF.out _).mono ?_
      rintro e w1 ⟨rfl, q1⟩
      obtain ⟨m0, m1, m2, m3, m4, m5, m6, m7⟩ := (HM.out.alloc _).next q1
      obtain ⟨_, _, _, _, n4, n5, _⟩ := (SeAt.fresh w X Y W H C R).next q1
      go_wp2_with fail
      go_ret2
      exact ⟨rfl, q1.behind _⟩
  have d1 : decide (u < 0) = false := by simpa using k1
  by_cases k2 : C ≤ u
  · have d2 : decide (C ≤ u) = true := by simpa using k2
    rw [if_pos (.inr (.inl k2))]
    clear hp k2
    rcases hs with ⟨rfl, rfl, rfl⟩ | ⟨rfl, rfl, rfl⟩ | ⟨rfl, rfl, rfl⟩ | ⟨rfl, rfl, rfl⟩
    all_goals
      go_enter Tryd.func20, Tryd.ntmps20
      go_wp2_with fail
      refine (HF.out _).mono ?_
      rintro e w1 ⟨rfl, q1⟩
      obtain ⟨m0, m1, m2, m3, m4, m5, m6, m7⟩ := (HM.out.alloc _).next q1
      obtain ⟨_, _, _, _, n4, n5, _⟩ := (SeAt.fresh w X Y W H C R).next q1
      go_wp2_with fail
      go_ret2
      exact ⟨rfl, q1.behind _⟩
  have d2 : decide (C ≤ u) = false := by simpa using k2
  by_cases k3 : v < 0
  · have d3 : decide (v < 0) = true := by simpa using k3
    rw [if_pos (.inr (.inr (.inl k3)))]
    clear hp k3
    rcases hs with ⟨rfl, rfl, rfl⟩ | ⟨rfl, rfl, rfl⟩ | ⟨rfl, rfl, rfl⟩ | ⟨rfl, rfl, rfl⟩
    all_goals
      go_enter Tryd.func20, Tryd.ntmps20
      go_wp2_with fail
      refine (HF.out _).mono ?_
      rintro e w1 ⟨rfl, q1⟩
      obtain ⟨m0, m1, m2, m3, m4, m5, m6, m7⟩ := (HM.out.alloc _).next q1
      obtain ⟨_, _, _, _, n4, n5, _⟩ := (SeAt.fresh w X Y W H C R).next q1
      go_wp2_with fail
      go_ret2
      exact ⟨rfl, q1.behind _⟩
  have d3 : decide (v < 0) = false := by simpa using k3
  by_cases k4 : R ≤ v
  · have d4 : decide (R ≤ v) = true := by simpa using k4
    rw [if_pos (.inr (.inr (.inr k4)))]
    clear hp k4
    rcases hs with ⟨rfl, rfl, rfl⟩ | ⟨rfl, rfl, rfl⟩ | ⟨rfl, rfl, rfl⟩ | ⟨rfl, rfl, rfl⟩
    all_goals
      go_enter Tryd.func20, Tryd.ntmps20
      go_wp2_with fail
      refine (HF.out _).mono ?_
      rintro e w1 ⟨rfl, q1⟩
      obtain ⟨m0, m1, m2, m3, m4, m5, m6, m7⟩ := (HM.out.alloc _).next q1
      obtain ⟨_, _, _, _, n4, n5, _⟩ := (SeAt.fresh w X Y W H C R).next q1
      go_wp2_with fail
      go_ret2
      exact ⟨rfl, q1.behind _⟩
  have d4 : decide (R ≤ v) = false := by simpa using k4
  rw [if_neg (by omega)]
  clear k1 k2 k3 k4
  rcases hs with ⟨rfl, rfl, rfl⟩ | ⟨rfl, rfl, rfl⟩ | ⟨rfl, rfl, rfl⟩ | ⟨rfl, rfl, rfl⟩
  all_goals
    go_enter Tryd.func20, Tryd.ntmps20
    go_wp2_with fail
    refine (HF.out _).mono ?_
    rintro e w1 ⟨rfl, q1⟩
    obtain ⟨m0, m1, m2, m3, m4, m5, m6, m7⟩ := (HM.out.alloc _).next q1
    obtain ⟨_, _, _, _, n4, n5, _⟩ := (SeAt.fresh w X Y W H C R).next q1
    go_wp2_with fail
    go_ret2
    exact ⟨rfl, q1.behind _⟩

namespace Grid
/-- The neighbour of a sheet that is there on a side. -/
def nbv (C R s side : Int) : Value :=
  if (s - 1) % C + dx side < 0 ∨ C ≤ (s - 1) % C + dx side ∨ (s - 1) / C + dy side < 0 ∨ R ≤ (s - 1) / C + dy side then .tuple #[.int .i64 0, .bool false]
  else .tuple #[.int .i64 (((s - 1) / C + dy side) * C + ((s - 1) % C + dx side) + 1), .bool true]
end Grid

theorem nb_there (X Y W H C R s side : Int) (w : World) (hM : Mv w) (h : Grid.Ok X Y W H C R) (hs0 : 1 ≤ s) (hs1 : s ≤ C * R) (h1 : 1 ≤ side) (h4 : side ≤ 4) :
    Calls Tryd.prog 20 #[.agg #[.int .i64 X, .int .i64 Y, .int .i64 W, .int .i64 H, .int .i64 C, .int .i64 R], .int .i64 s, .int .i64 side] w fun e w' => e = .returned (Grid.nbv C R s side) ∧ Q w w' := by
  have hc0 := h.c0
  have hc1 := h.c1
  have hr0 := h.r0
  have hr1 := h.r1
  have a1 := Int.emod_nonneg (s - 1) (show C ≠ 0 by omega)
  have a2 := Int.emod_lt_of_pos (s - 1) (show 0 < C by omega)
  have a3 := Int.ediv_nonneg (show 0 ≤ s - 1 by omega) (show 0 ≤ C by omega)
  have a4 : (s - 1) / C < R := (Int.ediv_lt_iff_lt_mul (by omega)).2 (by rw [Int.mul_comm]; omega)
  have hd : (side = 1 ∧ Grid.dx side = -1 ∧ Grid.dy side = 0) ∨ (side = 2 ∧ Grid.dx side = 0 ∧ Grid.dy side = -1) ∨ (side = 3 ∧ Grid.dx side = 1 ∧ Grid.dy side = 0) ∨ (side = 4 ∧ Grid.dx side = 0 ∧ Grid.dy side = 1) := by
    obtain rfl | rfl | rfl | rfl : side = 1 ∨ side = 2 ∨ side = 3 ∨ side = 4 := by omega
    · exact .inl ⟨rfl, rfl, rfl⟩
    · exact .inr (.inl ⟨rfl, rfl, rfl⟩)
    · exact .inr (.inr (.inl ⟨rfl, rfl, rfl⟩))
    · exact .inr (.inr (.inr ⟨rfl, rfl, rfl⟩))
  have b1 : -1 * C ≤ ((s - 1) / C + Grid.dy side) * C := Int.mul_le_mul_of_nonneg_right (by omega) (by omega)
  have b2 : ((s - 1) / C + Grid.dy side) * C ≤ 16 * C := Int.mul_le_mul_of_nonneg_right (by omega) (by omega)
  exact nb_core X Y W H C R s side _ _ _ _ w hM hd a1 (by omega) a3 (by omega) hc0 hc1 hr0 hr1 (fun W' => find_yes X Y W H C R s W' h hs0 hs1) _ _ _ rfl rfl rfl (by omega) (by omega)
end Go.Proofs.YtpnifjeelmfegaaDoor
