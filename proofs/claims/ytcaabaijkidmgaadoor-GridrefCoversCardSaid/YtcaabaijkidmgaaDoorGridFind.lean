/- Contract of sheetgrid.find: the column and the row of a sheet, or the error. -/
import Derived.Test.YtcaabaijkidmgaaDoorGridCheck
namespace Go.Proofs.YtcaabaijkidmgaaDoor
open Go.RowKit
set_option linter.unusedVariables false

/-- The cells of a series in block B. -/
structure SeAt (w : World) (B : Nat) (X Y W H C R : Int) : Prop where
  cx : w.cell? ⟨B, 0, none⟩ = some (.int .i64 X)
  cy : w.cell? ⟨B, 1, none⟩ = some (.int .i64 Y)
  cw : w.cell? ⟨B, 2, none⟩ = some (.int .i64 W)
  ch : w.cell? ⟨B, 3, none⟩ = some (.int .i64 H)
  cc : w.cell? ⟨B, 4, none⟩ = some (.int .i64 C)
  cr : w.cell? ⟨B, 5, none⟩ = some (.int .i64 R)
  blk : w.heap[B]? = some (.cells #[.int .i64 X, .int .i64 Y, .int .i64 W, .int .i64 H, .int .i64 C, .int .i64 R] 25 (0, 0))
theorem SeAt.of_block {w : World} {B : Nat} {X Y W H C R : Int} (hb : w.heap[B]? = some (.cells #[.int .i64 X, .int .i64 Y, .int .i64 W, .int .i64 H, .int .i64 C, .int .i64 R] 25 (0, 0))) : SeAt w B X Y W H C R :=
  ⟨by rw [cell_of_row w B 0 _ _ _ hb]; rfl, by rw [cell_of_row w B 1 _ _ _ hb]; rfl, by rw [cell_of_row w B 2 _ _ _ hb]; rfl, by rw [cell_of_row w B 3 _ _ _ hb]; rfl, by rw [cell_of_row w B 4 _ _ _ hb]; rfl, by rw [cell_of_row w B 5 _ _ _ hb]; rfl, hb⟩
theorem SeAt.fresh (w : World) (X Y W H C R : Int) : SeAt (w.alloc (.cells #[.int .i64 X, .int .i64 Y, .int .i64 W, .int .i64 H, .int .i64 C, .int .i64 R] 25)) w.heap.size X Y W H C R := .of_block (heap_alloc_new w _)
theorem SeAt.lt {w : World} {B : Nat} {X Y W H C R : Int} (h : SeAt w B X Y W H C R) : B < w.heap.size := (Array.getElem?_eq_some_iff.1 h.blk).1
theorem SeAt.next {w w' : World} {B : Nat} {X Y W H C R : Int} (h : SeAt w B X Y W H C R) (q : Q w w') : SeAt w' B X Y W H C R := .of_block ((q.block h.lt).trans h.blk)

set_option maxHeartbeats 4000000 in
theorem find_bad (X Y W H C R s : Int) (w : World) (h : ¬ Grid.Ok X Y W H C R) :
    Calls Tryd.prog 51 #[.agg #[.int .i64 X, .int .i64 Y, .int .i64 W, .int .i64 H, .int .i64 C, .int .i64 R], .int .i64 s] w fun e w' => e = .returned (.tuple #[.int .i64 0, .int .i64 0, .int .i64 2]) ∧ Q w w' := by
  go_enter Tryd.func51, Tryd.ntmps51
  go_wp2_with fail
  refine (check_no X Y W H C R _ h).mono ?_
  rintro e w1 ⟨rfl, q1⟩
  go_wp2_with fail
  go_ret3
  exact ⟨rfl, q1.behind _⟩

set_option maxHeartbeats 4000000 in
theorem find_none (X Y W H C R s : Int) (w : World) (h : Grid.Ok X Y W H C R) (hs : s < 1 ∨ C * R < s) :
    Calls Tryd.prog 51 #[.agg #[.int .i64 X, .int .i64 Y, .int .i64 W, .int .i64 H, .int .i64 C, .int .i64 R], .int .i64 s] w fun e w' => e = .returned (.tuple #[.int .i64 0, .int .i64 0, .int .i64 7]) ∧ Q w w' := by
  have hp := Grid.prod_bd C R 16 16 h.c0 h.c1 h.r0 h.r1
  obtain ⟨n, hn⟩ : ∃ n, C * R = n := ⟨_, rfl⟩
  rw [hn] at hs hp
  obtain ⟨hp0, hp1⟩ := hp
  have HK := Lib.hid h
  clear h
  by_cases c : s < 1
  · have d1 : decide (s < 1) = true := by simpa using c
    go_enter Tryd.func51, Tryd.ntmps51
    go_wp2_with fail
    refine (check_yes X Y W H C R _ HK.out).mono ?_
    rintro e w1 ⟨rfl, q1⟩
    go_wp2_with fail
    go_ret3
    exact ⟨rfl, q1.behind _⟩
  · have d1 : decide (s < 1) = false := by simpa using c
    have d2 : decide (n < s) = true := by simp; omega
    go_enter Tryd.func51, Tryd.ntmps51
    go_wp2_with fail
    refine (check_yes X Y W H C R _ HK.out).mono ?_
    rintro e w1 ⟨rfl, q1⟩
    obtain ⟨k0, k1, k2, k3, k4, k5, k6⟩ := (SeAt.fresh w X Y W H C R).next q1
    clear k0 k1 k2 k3 k6
    go_wp2_with fail
    go_ret3
    exact ⟨rfl, q1.behind _⟩

set_option maxHeartbeats 4000000 in
theorem find_yes (X Y W H C R s : Int) (w : World) (h : Grid.Ok X Y W H C R) (hs0 : 1 ≤ s) (hs1 : s ≤ C * R) :
    Calls Tryd.prog 51 #[.agg #[.int .i64 X, .int .i64 Y, .int .i64 W, .int .i64 H, .int .i64 C, .int .i64 R], .int .i64 s] w fun e w' => e = .returned (.tuple #[.int .i64 ((s - 1) % C), .int .i64 ((s - 1) / C), .int .i64 0]) ∧ Q w w' := by
  have hp := Grid.prod_bd C R 16 16 h.c0 h.c1 h.r0 h.r1
  obtain ⟨n, hn⟩ : ∃ n, C * R = n := ⟨_, rfl⟩
  rw [hn] at hs1 hp
  obtain ⟨hp0, hp1⟩ := hp
  have hc0 := h.c0
  have hc1 := h.c1
  have HK := Lib.hid h
  clear h
  have d1 : decide (s < 1) = false := by simp; omega
  have d2 : decide (n < s) = false := by simp; omega
  have dn : ¬ C = 0 := by omega
  have hw1 : IntKind.i64.wrap (s - 1) = s - 1 := IntWalk.i64_in _ (by omega)
  have hq0 : 0 ≤ (s - 1) / C := Int.ediv_nonneg (by omega) (by omega)
  have hq1 : (s - 1) / C ≤ s - 1 := Int.ediv_le_self _ (by omega)
  have hw2 : wrap64 ((s - 1).tdiv C) = (s - 1) / C := by
    rw [Int.tdiv_eq_ediv_of_nonneg (by omega)]
    exact IntWalk.wrap64_in _ ⟨by omega, by omega⟩
  have hw3 : (s - 1).tmod C = (s - 1) % C := Int.tmod_eq_emod_of_nonneg (by omega)
  go_enter Tryd.func51, Tryd.ntmps51
  go_wp2_with fail
  refine (check_yes X Y W H C R _ HK.out).mono ?_
  rintro e w1 ⟨rfl, q1⟩
  obtain ⟨k0, k1, k2, k3, k4, k5, k6⟩ := (SeAt.fresh w X Y W H C R).next q1
  clear k0 k1 k2 k3 k6
  go_wp2_with fail
  go_quiet (fail)
  go_wp2_with fail
  go_ret3
  exact ⟨rfl, (q1.behind _).drewN _⟩
end Go.Proofs.YtcaabaijkidmgaaDoor
