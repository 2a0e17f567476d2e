
/- Contracts of the reference's number, Name and form (package mapsheetsref40). -/
import Derived.Test.YtcaabaijkidmgaaDoorGridName
import Derived.Test.YtcaabaijkidmgaaDoorGridParse
import Derived.Test.YtcaabaijkidmgaaDoorGridRB
namespace Go.Proofs.YtcaabaijkidmgaaDoor
open Go.RowKit
set_option linter.unusedVariables false

set_option maxRecDepth 100000 in
set_option maxHeartbeats 4000000 in
theorem number_any (n : Nat) (h0 : 1 ≤ n) (h1 : n ≤ 16) (w : World) :
    Calls Tryd.prog 54 #[.int .i64 (n : Int)] w fun e w' => e = .returned (.string ⟨(Grid.dec n).toArray⟩) ∧ ∃ m, w' = w.drewN m := by
  obtain rfl | rfl | rfl | rfl | rfl | rfl | rfl | rfl | rfl | rfl | rfl | rfl | rfl | rfl | rfl | rfl : n = 1 ∨ n = 2 ∨ n = 3 ∨ n = 4 ∨ n = 5 ∨ n = 6 ∨ n = 7 ∨ n = 8 ∨ n = 9 ∨ n = 10 ∨ n = 11 ∨ n = 12 ∨ n = 13 ∨ n = 14 ∨ n = 15 ∨ n = 16 := by omega
  all_goals
    go_enter Tryd.func54, Tryd.ntmps54
    go_wp2_with fail
    try go_quiet (fail)
    try go_wp2_with fail
    go_ret
    first | exact ⟨ret_str (by decide +kernel), 0, rfl⟩ | exact ⟨ret_str (by decide +kernel), _, rfl⟩

theorem rname_bad (X Y W H C R s : Int) (w : World) (h : ¬ Grid.Ok X Y W H C R) :
    Calls Tryd.prog 32 #[.agg #[.int .i64 X, .int .i64 Y, .int .i64 W, .int .i64 H, .int .i64 C, .int .i64 R], .int .i64 s] w fun e w' => e = .returned (.tuple #[.string ⟨#[]⟩, .int .i64 2]) ∧ Q w w' := by
  go_enter Tryd.func32, Tryd.ntmps32
  go_wp2_with fail
  refine (rbox_bad X Y W H C R s _ h).mono ?_
  rintro e w1 ⟨rfl, q1⟩
  go_wp2_with fail
  go_ret2
  exact ⟨rfl, (q1.behind _).alloc _⟩
theorem rname_none (X Y W H C R s : Int) (w : World) (h : Grid.Ok X Y W H C R) (hs : s < 1 ∨ C * R < s) :
    Calls Tryd.prog 32 #[.agg #[.int .i64 X, .int .i64 Y, .int .i64 W, .int .i64 H, .int .i64 C, .int .i64 R], .int .i64 s] w fun e w' => e = .returned (.tuple #[.string ⟨#[]⟩, .int .i64 7]) ∧ Q w w' := by
  go_enter Tryd.func32, Tryd.ntmps32
  go_wp2_with fail
  refine (rbox_none X Y W H C R s _ h hs).mono ?_
  rintro e w1 ⟨rfl, q1⟩
  go_wp2_with fail
  go_ret2
  exact ⟨rfl, (q1.behind _).alloc _⟩

theorem letters_run (c : Nat) (h : c ≤ 15) (w : World) : (Instr.slice 9 (.string ⟨#[65, 66, 67, 68, 69, 70, 71, 72, 73, 74, 75, 76, 77, 78, 79, 80]⟩) (some (.int .i64 (c : Int))) (some (.int .i64 ((c : Int) + 1))) none).run Tryd.prog w = .ok (.string ⟨#[UInt8.ofNat (65 + c)]⟩) w := by
  obtain rfl | rfl | rfl | rfl | rfl | rfl | rfl | rfl | rfl | rfl | rfl | rfl | rfl | rfl | rfl | rfl : c = 0 ∨ c = 1 ∨ c = 2 ∨ c = 3 ∨ c = 4 ∨ c = 5 ∨ c = 6 ∨ c = 7 ∨ c = 8 ∨ c = 9 ∨ c = 10 ∨ c = 11 ∨ c = 12 ∨ c = 13 ∨ c = 14 ∨ c = 15 := by omega
  all_goals kernel_rfl

namespace Grid
/-- The name of a sheet of a series of C columns. -/
def nm (C s : Int) : List UInt8 := UInt8.ofNat (65 + ((s - 1) % C).toNat) :: dec (((s - 1) / C).toNat + 1)
end Grid

set_option maxRecDepth 100000 in
set_option maxHeartbeats 4000000 in
theorem rname_yes (X Y W H C R s : Int) (w : World) (h : Grid.Ok X Y W H C R) (hs0 : 1 ≤ s) (hs1 : s ≤ C * R) (c r : Nat) (hc : (s - 1) % C = (c : Int)) (hr : (s - 1) / C = (r : Int)) (hc1 : c ≤ 15) (hr1 : r ≤ 15) :
    Calls Tryd.prog 32 #[.agg #[.int .i64 X, .int .i64 Y, .int .i64 W, .int .i64 H, .int .i64 C, .int .i64 R], .int .i64 s] w fun e w' => e = .returned (.tuple #[.string ⟨(UInt8.ofNat (65 + c) :: Grid.dec (r + 1)).toArray⟩, .int .i64 0]) ∧ Q w w' := by
  have hp := Grid.prod_bd C R 16 16 h.c0 h.c1 h.r0 h.r1
  have HB := Lib.hid (fun W' => rbox_there X Y W H C R s W' h hs0 hs1)
  have HP := Lib.hid (fun W' => place_any X Y W H C R s W' h hs0 (by omega))
  rw [hc, hr] at HP
  clear hc hr h hs0 hs1 hp
  have HI := Lib.hid (fun W' => number_any (r + 1) (by omega) (by omega) W')
  have hS := letters_run c hc1
  obtain ⟨k, hk⟩ : ∃ k : Int, (c : Int) = k := ⟨_, rfl⟩
  obtain ⟨j, hj⟩ : ∃ j : Int, (r : Int) = j := ⟨_, rfl⟩
  rw [hk, hj] at HP
  rw [hk] at hS
  rw [show ((r + 1 : Nat) : Int) = j + 1 by omega] at HI
  have hk0 : 0 ≤ k := by omega
  have hk1 : k ≤ 15 := by omega
  have hj0 : 0 ≤ j := by omega
  have hj1 : j ≤ 15 := by omega
  have hL : (Grid.dec (r + 1)).length ≤ 2 := by unfold Grid.dec; split <;> simp
  have HC := Lib.hid (show (⟨#[UInt8.ofNat (65 + c)]⟩ : ByteArray) ++ ⟨(Grid.dec (r + 1)).toArray⟩ = ⟨(UInt8.ofNat (65 + c) :: Grid.dec (r + 1)).toArray⟩ from by have := letter_cat c hc1 (Grid.dec (r + 1)); rw [letter c hc1] at this; exact this)
  obtain ⟨eb, heb⟩ : ∃ eb : ByteArray, (⟨#[UInt8.ofNat (65 + c)]⟩ : ByteArray) = eb := ⟨_, rfl⟩
  obtain ⟨db, hdb⟩ : ∃ db : ByteArray, (⟨(Grid.dec (r + 1)).toArray⟩ : ByteArray) = db := ⟨_, rfl⟩
  have hsum : eb.size + db.size ≤ 9223372036854775807 := by
    rw [← heb, ← hdb]
    show 1 + (Grid.dec (r + 1)).length ≤ _
    omega
  rw [heb] at hS HC
  rw [hdb] at HC HI
  have hw1 : IntKind.i64.wrap (k + 1) = k + 1 := IntWalk.i64_in _ (by omega)
  have hw2 : IntKind.i64.wrap (j + 1) = j + 1 := IntWalk.i64_in _ (by omega)
  clear hk hj heb hdb hL
  go_enter Tryd.func32, Tryd.ntmps32
  go_wp2_with fail
  refine (HB.out _).mono ?_
  rintro e w1 ⟨rfl, q1⟩
  obtain ⟨k0, k1, k2, k3, k4, k5, k6⟩ := (SeAt.fresh w X Y W H C R).next q1
  clear k6
  have hlt : w.heap.size < w1.heap.size := by have := q1.sz; simp at this; omega
  go_wp2_with fail
  refine (HP.out _).mono ?_
  rintro e w2 ⟨rfl, q2⟩
  clear k0 k1 k2 k3 k4 k5
  go_wp2_with fail
  go_quiet ((exact Calls.quiet_of (HI.out _)))
  go_wp2_with fail
  go_ret2
  refine ⟨?_, (((q1.behind _).alloc _).trans q2).drewN _⟩
  exact ret_str2 HC.out
end Go.Proofs.YtcaabaijkidmgaaDoor
