/- Contract of strconv.Itoa for the numbers from 1 to 16, and of sheetgrid.Name. -/
import Derived.Test.YtcaabaijkidmgaaDoorGridFind
namespace Go.Proofs.YtcaabaijkidmgaaDoor
open Go.RowKit
set_option linter.unusedVariables false

namespace Grid
/-- The decimal digits of a number from 1 to 99. -/
def dec (n : Nat) : List UInt8 := if n < 10 then [UInt8.ofNat (48 + n)] else [UInt8.ofNat (48 + n / 10), UInt8.ofNat (48 + n % 10)]
end Grid

theorem ret_str2 {a b : ByteArray} {v : Value} (h : a = b) : Ending.returned (.tuple #[.string a, v]) = .returned (.tuple #[.string b, v]) := by rw [h]
theorem letter (c : Nat) (h : c ≤ 15) : Utf8.encode (65 + (c : Int)) = ⟨#[UInt8.ofNat (65 + c)]⟩ := by
  obtain rfl | rfl | rfl | rfl | rfl | rfl | rfl | rfl | rfl | rfl | rfl | rfl | rfl | rfl | rfl | rfl : c = 0 ∨ c = 1 ∨ c = 2 ∨ c = 3 ∨ c = 4 ∨ c = 5 ∨ c = 6 ∨ c = 7 ∨ c = 8 ∨ c = 9 ∨ c = 10 ∨ c = 11 ∨ c = 12 ∨ c = 13 ∨ c = 14 ∨ c = 15 := by omega
  all_goals decide +kernel
theorem letter_cat (c : Nat) (h : c ≤ 15) (l : List UInt8) : Utf8.encode (65 + (c : Int)) ++ (⟨l.toArray⟩ : ByteArray) = ⟨(UInt8.ofNat (65 + c) :: l).toArray⟩ := by
  rw [letter c h]
  apply ByteArray.ext
  simp
theorem ret_str {a b : ByteArray} (h : a = b) : Ending.returned (.string a) = .returned (.string b) := by rw [h]

set_option maxRecDepth 100000 in
set_option maxHeartbeats 4000000 in
theorem small_any (n : Nat) (h0 : 1 ≤ n) (h1 : n ≤ 16) (w : World) :
    Calls Tryd.prog 100 #[.int .i64 (n : Int)] w fun e w' => e = .returned (.string ⟨(Grid.dec n).toArray⟩) ∧ w = w' := by
  obtain rfl | rfl | rfl | rfl | rfl | rfl | rfl | rfl | rfl | rfl | rfl | rfl | rfl | rfl | rfl | rfl : n = 1 ∨ n = 2 ∨ n = 3 ∨ n = 4 ∨ n = 5 ∨ n = 6 ∨ n = 7 ∨ n = 8 ∨ n = 9 ∨ n = 10 ∨ n = 11 ∨ n = 12 ∨ n = 13 ∨ n = 14 ∨ n = 15 ∨ n = 16 := by omega
  all_goals
    go_enter Tryd.func100, Tryd.ntmps100
    go_wp2_with fail
    go_ret
    exact ⟨ret_str (by decide +kernel), rfl⟩

theorem formatInt_any (n : Nat) (h0 : 1 ≤ n) (h1 : n ≤ 16) (w : World) :
    Calls Tryd.prog 91 #[.int .i64 (n : Int), .int .i64 10] w fun e w' => e = .returned (.string ⟨(Grid.dec n).toArray⟩) ∧ w = w' := by
  have HS := Lib.hid (fun W => small_any n h0 h1 W)
  obtain ⟨k, hk⟩ : ∃ k : Int, (n : Int) = k := ⟨_, rfl⟩
  rw [hk] at HS ⊢
  have hk0 : 1 ≤ k := by omega
  have hk1 : k ≤ 16 := by omega
  clear hk
  generalize (⟨(Grid.dec n).toArray⟩ : ByteArray) = b at *
  have d1 : decide (0 ≤ k) = true := by simp; omega
  have d2 : decide (k < 100) = true := by simp; omega
  go_enter Tryd.func91, Tryd.ntmps91
  go_wp2_with fail
  refine (HS.out _).mono ?_
  rintro e w' ⟨rfl, rfl⟩
  go_wp2_with fail
  go_ret
  exact ⟨rfl, rfl⟩
theorem itoa_any (n : Nat) (h0 : 1 ≤ n) (h1 : n ≤ 16) (w : World) :
    Calls Tryd.prog 52 #[.int .i64 (n : Int)] w fun e w' => e = .returned (.string ⟨(Grid.dec n).toArray⟩) ∧ w = w' := by
  have HS := Lib.hid (fun W => formatInt_any n h0 h1 W)
  obtain ⟨k, hk⟩ : ∃ k : Int, (n : Int) = k := ⟨_, rfl⟩
  rw [hk] at HS ⊢
  have hk0 : 1 ≤ k := by omega
  have hk1 : k ≤ 16 := by omega
  clear hk
  generalize (⟨(Grid.dec n).toArray⟩ : ByteArray) = b at *
  have HI : Hid (∀ W, Calls Tryd.prog 68 #[.int .i64 k] W fun e w' => e = .returned (.string b) ∧ W = w') := by
    intro W
    go_enter Tryd.func68, Tryd.ntmps68
    go_wp2_with fail
    refine (HS.out _).mono ?_
    rintro e w' ⟨rfl, rfl⟩
    go_wp2_with fail
    go_ret
    exact ⟨rfl, rfl⟩
  go_enter Tryd.func52, Tryd.ntmps52
  go_wp2_with fail
  refine (HI.out _).mono ?_
  rintro e w' ⟨rfl, rfl⟩
  go_wp2_with fail
  go_ret
  exact ⟨rfl, rfl⟩

set_option maxRecDepth 100000 in
set_option maxHeartbeats 4000000 in
theorem name_yes (X Y W H C R s : Int) (w : World) (h : Grid.Ok X Y W H C R) (hs0 : 1 ≤ s) (hs1 : s ≤ C * R) (c r : Nat) (hc : (s - 1) % C = (c : Int)) (hr : (s - 1) / C = (r : Int)) (hc1 : c ≤ 15) (hr1 : r ≤ 15) :
    Calls Tryd.prog 28 #[.agg #[.int .i64 X, .int .i64 Y, .int .i64 W, .int .i64 H, .int .i64 C, .int .i64 R], .int .i64 s] w fun e w' => e = .returned (.tuple #[.string ⟨(UInt8.ofNat (65 + c) :: Grid.dec (r + 1)).toArray⟩, .int .i64 0]) ∧ Q w w' := by
  have HF := Lib.hid (fun W' => find_yes X Y W H C R s W' h hs0 hs1)
  rw [hc, hr] at HF
  clear hc hr
  have HI := Lib.hid (fun W' => itoa_any (r + 1) (by omega) (by omega) W')
  obtain ⟨k, hk⟩ : ∃ k : Int, (c : Int) = k := ⟨_, rfl⟩
  obtain ⟨j, hj⟩ : ∃ j : Int, (r : Int) = j := ⟨_, rfl⟩
  rw [hk, hj] at HF
  rw [show ((r + 1 : Nat) : Int) = j + 1 by omega] at HI
  have hk0 : 0 ≤ k := by omega
  have hk1 : k ≤ 15 := by omega
  have hj0 : 0 ≤ j := by omega
  have hj1 : j ≤ 15 := by omega
  have hU : Utf8.encode (65 + k) = ⟨#[UInt8.ofNat (65 + c)]⟩ := by rw [← hk]; exact letter c hc1
  have hL : (Grid.dec (r + 1)).length ≤ 2 := by unfold Grid.dec; split <;> simp
  have HC := Lib.hid (letter_cat c hc1 (Grid.dec (r + 1)))
  rw [hk, hU] at HC
  obtain ⟨eb, heb⟩ : ∃ eb : ByteArray, (⟨#[UInt8.ofNat (65 + c)]⟩ : ByteArray) = eb := ⟨_, rfl⟩
  obtain ⟨db, hdb⟩ : ∃ db : ByteArray, (⟨(Grid.dec (r + 1)).toArray⟩ : ByteArray) = db := ⟨_, rfl⟩
  have hsum : eb.size + db.size ≤ 9223372036854775807 := by
    rw [← heb, ← hdb]
    show 1 + (Grid.dec (r + 1)).length ≤ _
    omega
  rw [heb] at hU HC
  rw [hdb] at HC HI
  clear hk hj heb hdb hL
  go_enter Tryd.func28, Tryd.ntmps28
  go_wp2_with fail
  refine (HF.out _).mono ?_
  rintro e w1 ⟨rfl, q1⟩
  go_wp2_with fail
  refine (HI.out _).mono ?_
  rintro e w2 ⟨rfl, rfl⟩
  go_wp2_with fail
  go_ret2
  refine ⟨?_, q1.behind _⟩
  exact ret_str2 HC.out

theorem name_err (X Y W H C R s er : Int) (w : World) (her : (er != 0) = true) (HF : Hid (∀ W', Calls Tryd.prog 51 #[.agg #[.int .i64 X, .int .i64 Y, .int .i64 W, .int .i64 H, .int .i64 C, .int .i64 R], .int .i64 s] W' fun e w' => e = .returned (.tuple #[.int .i64 0, .int .i64 0, .int .i64 er]) ∧ Q W' w')) :
    Calls Tryd.prog 28 #[.agg #[.int .i64 X, .int .i64 Y, .int .i64 W, .int .i64 H, .int .i64 C, .int .i64 R], .int .i64 s] w fun e w' => e = .returned (.tuple #[.string ⟨#[]⟩, .int .i64 er]) ∧ Q w w' := by
  go_enter Tryd.func28, Tryd.ntmps28
  go_wp2_with fail
  refine (HF.out _).mono ?_
  rintro e w1 ⟨rfl, q1⟩
  go_wp2_with fail
  go_ret2
  exact ⟨rfl, q1.behind _⟩
end Go.Proofs.YtcaabaijkidmgaaDoor
