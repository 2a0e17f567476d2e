
/- Contract of the reference's read (package mapsheetsref12). -/
import Derived.Test.YtmcobpgdledkdaaDoorSphE
namespace Go.Proofs.YtmcobpgdledkdaaDoor
open Go.RowKit
set_option linter.unusedVariables false
theorem ret_ang {a b : Int} {x y : Bool} (h : a = b) (k : x = y) : Ending.returned (.agg #[.int .i64 a, .bool true, .bool x]) = .returned (.agg #[.int .i64 b, .bool true, .bool y]) := by rw [h, k]

set_option maxHeartbeats 4000000 in
theorem rread_a (s : ByteArray) (p m k : Int) (p0 : 0 ≤ p) (p1 : p ≤ 255) (m0 : 0 ≤ m) (m1 : m ≤ 255) (hz : (s.size : Int) = k + 7) (k1 : k ≤ 140737488351232) (k0 : -7 ≤ k) (h : decide (k < 1) = true) (w : World) :
    Calls Tryd.prog 23 #[.string s, .int .u8 p, .int .u8 m] w fun e w' => e = .returned (.agg #[.int .i64 0, .bool false, .bool false]) ∧ Q w w' := by
  go_enter Tryd.func23, Tryd.ntmps23
  go_wp2_with fail
  refine bodyPost_ret (results_cell1 rfl _ _ _ _ _ _ _ rfl (heap_alloc_new _ _) Tryd.underlying43 rfl (by kernel_rfl)) rfl ⟨rfl, (Q.refl _).alloc _⟩
set_option maxHeartbeats 4000000 in
theorem rread_b (s : ByteArray) (p m k : Int) (p0 : 0 ≤ p) (p1 : p ≤ 255) (m0 : 0 ≤ m) (m1 : m ≤ 255) (hz : (s.size : Int) = k + 7) (k1 : k ≤ 140737488351232) (k0 : 1 ≤ k) (h : decide (3 < k) = true) (w : World) :
    Calls Tryd.prog 23 #[.string s, .int .u8 p, .int .u8 m] w fun e w' => e = .returned (.agg #[.int .i64 0, .bool false, .bool false]) ∧ Q w w' := by
  go_enter Tryd.func23, Tryd.ntmps23
  go_wp2_with fail
  refine bodyPost_ret (results_cell1 rfl _ _ _ _ _ _ _ rfl (heap_alloc_new _ _) Tryd.underlying43 rfl (by kernel_rfl)) rfl ⟨rfl, (Q.refl _).alloc _⟩
set_option maxHeartbeats 4000000 in
theorem rread_c (s : ByteArray) (p m k : Int) (p0 : 0 ≤ p) (p1 : p ≤ 255) (m0 : 0 ≤ m) (m1 : m ≤ 255) (hz : (s.size : Int) = k + 7) (k0 : 1 ≤ k) (k1 : k ≤ 3) (hg : decide (1 < k) = true) (x : Int) (i0 : ∀ W, (Instr.index 9 (.string s) (.int .i64 0)).run Tryd.prog W = .ok (.int .u8 x) W) (hx : (x == 48) = true) (w : World) :
    Calls Tryd.prog 23 #[.string s, .int .u8 p, .int .u8 m] w fun e w' => e = .returned (.agg #[.int .i64 0, .bool false, .bool false]) ∧ Q w w' := by
  go_enter Tryd.func23, Tryd.ntmps23
  go_wp2_with fail
  refine bodyPost_ret (results_cell1 rfl _ _ _ _ _ _ _ rfl (heap_alloc_new _ _) Tryd.underlying43 rfl (by kernel_rfl)) rfl ⟨rfl, (Q.refl _).alloc _⟩
set_option maxHeartbeats 4000000 in
theorem rread_d1 (s : ByteArray) (p m k : Int) (p0 : 0 ≤ p) (p1 : p ≤ 255) (m0 : 0 ≤ m) (m1 : m ≤ 255) (hz : (s.size : Int) = k + 7) (k0 : 1 ≤ k) (k1 : k ≤ 3) (hg : decide (1 < k) = false) (y0 : Int) (r0 : ∀ W, (Instr.index 9 (.string s) (.int .i64 k)).run Tryd.prog W = .ok (.int .u8 y0) W) (h0 : (y0 != 45) = true) (w : World) :
    Calls Tryd.prog 23 #[.string s, .int .u8 p, .int .u8 m] w fun e w' => e = .returned (.agg #[.int .i64 0, .bool false, .bool false]) ∧ Q w w' := by
  go_enter Tryd.func23, Tryd.ntmps23
  go_wp2_with fail
  refine bodyPost_ret (results_cell1 rfl _ _ _ _ _ _ _ rfl (heap_alloc_new _ _) Tryd.underlying43 rfl (by kernel_rfl)) rfl ⟨rfl, (Q.refl _).alloc _⟩
set_option maxHeartbeats 4000000 in
theorem rread_e1 (s : ByteArray) (p m k : Int) (p0 : 0 ≤ p) (p1 : p ≤ 255) (m0 : 0 ≤ m) (m1 : m ≤ 255) (hz : (s.size : Int) = k + 7) (k0 : 1 ≤ k) (k1 : k ≤ 3) (hg : decide (1 < k) = false) (y0 : Int) (r0 : ∀ W, (Instr.index 9 (.string s) (.int .i64 k)).run Tryd.prog W = .ok (.int .u8 y0) W) (h0 : (y0 != 45) = false) (y3 : Int) (r3 : ∀ W, (Instr.index 9 (.string s) (.int .i64 (k + 3))).run Tryd.prog W = .ok (.int .u8 y3) W) (h3 : (y3 != 45) = true) (w : World) :
    Calls Tryd.prog 23 #[.string s, .int .u8 p, .int .u8 m] w fun e w' => e = .returned (.agg #[.int .i64 0, .bool false, .bool false]) ∧ Q w w' := by
  go_enter Tryd.func23, Tryd.ntmps23
  go_wp2_with fail
  refine bodyPost_ret (results_cell1 rfl _ _ _ _ _ _ _ rfl (heap_alloc_new _ _) Tryd.underlying43 rfl (by kernel_rfl)) rfl ⟨rfl, (Q.refl _).alloc _⟩
set_option maxHeartbeats 4000000 in
theorem rread_f1 (s : ByteArray) (p m k : Int) (p0 : 0 ≤ p) (p1 : p ≤ 255) (m0 : 0 ≤ m) (m1 : m ≤ 255) (hz : (s.size : Int) = k + 7) (k0 : 1 ≤ k) (k1 : k ≤ 3) (hg : decide (1 < k) = false) (y0 : Int) (r0 : ∀ W, (Instr.index 9 (.string s) (.int .i64 k)).run Tryd.prog W = .ok (.int .u8 y0) W) (h0 : (y0 != 45) = false) (y3 : Int) (r3 : ∀ W, (Instr.index 9 (.string s) (.int .i64 (k + 3))).run Tryd.prog W = .ok (.int .u8 y3) W) (h3 : (y3 != 45) = false) (de mi se : ByteArray) (d mn sc y6 : Int) (hde : ∀ W, (Instr.slice 9 (.string s) none (some (.int .i64 k)) none).run Tryd.prog W = .ok (.string de) W) (hmi : ∀ W, (Instr.slice 9 (.string s) (some (.int .i64 (k + 1))) (some (.int .i64 (k + 3))) none).run Tryd.prog W = .ok (.string mi) W) (hse : ∀ W, (Instr.slice 9 (.string s) (some (.int .i64 (k + 4))) (some (.int .i64 (k + 6))) none).run Tryd.prog W = .ok (.string se) W) (d0 : 0 ≤ d) (d1 : d ≤ 999) (n0 : 0 ≤ mn) (n1 : mn ≤ 999) (s0 : 0 ≤ sc) (s1 : sc ≤ 999) (r6 : ∀ W, (Instr.index 9 (.string s) (.int .i64 (k + 6))).run Tryd.prog W = .ok (.int .u8 y6) W) (t u : Bool) (HD : Hid (∀ W, Calls Tryd.prog 32 #[.string de] W fun e w' => e = .returned (.tuple #[.int .i64 d, .bool false]) ∧ W = w')) (HM : Hid (∀ W, Calls Tryd.prog 32 #[.string mi] W fun e w' => e = .returned (.tuple #[.int .i64 mn, .bool t]) ∧ W = w')) (HS : Hid (∀ W, Calls Tryd.prog 32 #[.string se] W fun e w' => e = .returned (.tuple #[.int .i64 sc, .bool u]) ∧ W = w')) (w : World) :
    Calls Tryd.prog 23 #[.string s, .int .u8 p, .int .u8 m] w fun e w' => e = .returned (.agg #[.int .i64 0, .bool false, .bool false]) ∧ Q w w' := by
  go_enter Tryd.func23, Tryd.ntmps23
  go_wp2_with fail
  refine (HD.out _).mono ?_
  rintro e v0 ⟨rfl, rfl⟩
  go_wp2_with fail
  refine (HM.out _).mono ?_
  rintro e v1 ⟨rfl, rfl⟩
  go_wp2_with fail
  refine (HS.out _).mono ?_
  rintro e v2 ⟨rfl, rfl⟩
  go_wp2_with fail
  refine bodyPost_ret (results_cell1 rfl _ _ _ _ _ _ _ rfl (heap_alloc_new _ _) Tryd.underlying43 rfl (by kernel_rfl)) rfl ⟨rfl, (Q.refl _).alloc _⟩
set_option maxHeartbeats 4000000 in
theorem rread_g1 (s : ByteArray) (p m k : Int) (p0 : 0 ≤ p) (p1 : p ≤ 255) (m0 : 0 ≤ m) (m1 : m ≤ 255) (hz : (s.size : Int) = k + 7) (k0 : 1 ≤ k) (k1 : k ≤ 3) (hg : decide (1 < k) = false) (y0 : Int) (r0 : ∀ W, (Instr.index 9 (.string s) (.int .i64 k)).run Tryd.prog W = .ok (.int .u8 y0) W) (h0 : (y0 != 45) = false) (y3 : Int) (r3 : ∀ W, (Instr.index 9 (.string s) (.int .i64 (k + 3))).run Tryd.prog W = .ok (.int .u8 y3) W) (h3 : (y3 != 45) = false) (de mi se : ByteArray) (d mn sc y6 : Int) (hde : ∀ W, (Instr.slice 9 (.string s) none (some (.int .i64 k)) none).run Tryd.prog W = .ok (.string de) W) (hmi : ∀ W, (Instr.slice 9 (.string s) (some (.int .i64 (k + 1))) (some (.int .i64 (k + 3))) none).run Tryd.prog W = .ok (.string mi) W) (hse : ∀ W, (Instr.slice 9 (.string s) (some (.int .i64 (k + 4))) (some (.int .i64 (k + 6))) none).run Tryd.prog W = .ok (.string se) W) (d0 : 0 ≤ d) (d1 : d ≤ 999) (n0 : 0 ≤ mn) (n1 : mn ≤ 999) (s0 : 0 ≤ sc) (s1 : sc ≤ 999) (r6 : ∀ W, (Instr.index 9 (.string s) (.int .i64 (k + 6))).run Tryd.prog W = .ok (.int .u8 y6) W) (u : Bool) (HD : Hid (∀ W, Calls Tryd.prog 32 #[.string de] W fun e w' => e = .returned (.tuple #[.int .i64 d, .bool true]) ∧ W = w')) (HM : Hid (∀ W, Calls Tryd.prog 32 #[.string mi] W fun e w' => e = .returned (.tuple #[.int .i64 mn, .bool false]) ∧ W = w')) (HS : Hid (∀ W, Calls Tryd.prog 32 #[.string se] W fun e w' => e = .returned (.tuple #[.int .i64 sc, .bool u]) ∧ W = w')) (w : World) :
    Calls Tryd.prog 23 #[.string s, .int .u8 p, .int .u8 m] w fun e w' => e = .returned (.agg #[.int .i64 0, .bool false, .bool false]) ∧ Q w w' := by
  go_enter Tryd.func23, Tryd.ntmps23
  go_wp2_with fail
  refine (HD.out _).mono ?_
  rintro e v0 ⟨rfl, rfl⟩
  go_wp2_with fail
  refine (HM.out _).mono ?_
  rintro e v1 ⟨rfl, rfl⟩
  go_wp2_with fail
  refine (HS.out _).mono ?_
  rintro e v2 ⟨rfl, rfl⟩
  go_wp2_with fail
  refine bodyPost_ret (results_cell1 rfl _ _ _ _ _ _ _ rfl (heap_alloc_new _ _) Tryd.underlying43 rfl (by kernel_rfl)) rfl ⟨rfl, (Q.refl _).alloc _⟩
set_option maxHeartbeats 4000000 in
theorem rread_h1 (s : ByteArray) (p m k : Int) (p0 : 0 ≤ p) (p1 : p ≤ 255) (m0 : 0 ≤ m) (m1 : m ≤ 255) (hz : (s.size : Int) = k + 7) (k0 : 1 ≤ k) (k1 : k ≤ 3) (hg : decide (1 < k) = false) (y0 : Int) (r0 : ∀ W, (Instr.index 9 (.string s) (.int .i64 k)).run Tryd.prog W = .ok (.int .u8 y0) W) (h0 : (y0 != 45) = false) (y3 : Int) (r3 : ∀ W, (Instr.index 9 (.string s) (.int .i64 (k + 3))).run Tryd.prog W = .ok (.int .u8 y3) W) (h3 : (y3 != 45) = false) (de mi se : ByteArray) (d mn sc y6 : Int) (hde : ∀ W, (Instr.slice 9 (.string s) none (some (.int .i64 k)) none).run Tryd.prog W = .ok (.string de) W) (hmi : ∀ W, (Instr.slice 9 (.string s) (some (.int .i64 (k + 1))) (some (.int .i64 (k + 3))) none).run Tryd.prog W = .ok (.string mi) W) (hse : ∀ W, (Instr.slice 9 (.string s) (some (.int .i64 (k + 4))) (some (.int .i64 (k + 6))) none).run Tryd.prog W = .ok (.string se) W) (d0 : 0 ≤ d) (d1 : d ≤ 999) (n0 : 0 ≤ mn) (n1 : mn ≤ 999) (s0 : 0 ≤ sc) (s1 : sc ≤ 999) (r6 : ∀ W, (Instr.index 9 (.string s) (.int .i64 (k + 6))).run Tryd.prog W = .ok (.int .u8 y6) W) (HD : Hid (∀ W, Calls Tryd.prog 32 #[.string de] W fun e w' => e = .returned (.tuple #[.int .i64 d, .bool true]) ∧ W = w')) (HM : Hid (∀ W, Calls Tryd.prog 32 #[.string mi] W fun e w' => e = .returned (.tuple #[.int .i64 mn, .bool true]) ∧ W = w')) (HS : Hid (∀ W, Calls Tryd.prog 32 #[.string se] W fun e w' => e = .returned (.tuple #[.int .i64 sc, .bool false]) ∧ W = w')) (w : World) :
    Calls Tryd.prog 23 #[.string s, .int .u8 p, .int .u8 m] w fun e w' => e = .returned (.agg #[.int .i64 0, .bool false, .bool false]) ∧ Q w w' := by
  go_enter Tryd.func23, Tryd.ntmps23
  go_wp2_with fail
  refine (HD.out _).mono ?_
  rintro e v0 ⟨rfl, rfl⟩
  go_wp2_with fail
  refine (HM.out _).mono ?_
  rintro e v1 ⟨rfl, rfl⟩
  go_wp2_with fail
  refine (HS.out _).mono ?_
  rintro e v2 ⟨rfl, rfl⟩
  go_wp2_with fail
  refine bodyPost_ret (results_cell1 rfl _ _ _ _ _ _ _ rfl (heap_alloc_new _ _) Tryd.underlying43 rfl (by kernel_rfl)) rfl ⟨rfl, (Q.refl _).alloc _⟩
set_option maxHeartbeats 4000000 in
theorem rread_i1 (s : ByteArray) (p m k : Int) (p0 : 0 ≤ p) (p1 : p ≤ 255) (m0 : 0 ≤ m) (m1 : m ≤ 255) (hz : (s.size : Int) = k + 7) (k0 : 1 ≤ k) (k1 : k ≤ 3) (hg : decide (1 < k) = false) (y0 : Int) (r0 : ∀ W, (Instr.index 9 (.string s) (.int .i64 k)).run Tryd.prog W = .ok (.int .u8 y0) W) (h0 : (y0 != 45) = false) (y3 : Int) (r3 : ∀ W, (Instr.index 9 (.string s) (.int .i64 (k + 3))).run Tryd.prog W = .ok (.int .u8 y3) W) (h3 : (y3 != 45) = false) (de mi se : ByteArray) (d mn sc y6 : Int) (hde : ∀ W, (Instr.slice 9 (.string s) none (some (.int .i64 k)) none).run Tryd.prog W = .ok (.string de) W) (hmi : ∀ W, (Instr.slice 9 (.string s) (some (.int .i64 (k + 1))) (some (.int .i64 (k + 3))) none).run Tryd.prog W = .ok (.string mi) W) (hse : ∀ W, (Instr.slice 9 (.string s) (some (.int .i64 (k + 4))) (some (.int .i64 (k + 6))) none).run Tryd.prog W = .ok (.string se) W) (d0 : 0 ≤ d) (d1 : d ≤ 999) (n0 : 0 ≤ mn) (n1 : mn ≤ 999) (s0 : 0 ≤ sc) (s1 : sc ≤ 999) (r6 : ∀ W, (Instr.index 9 (.string s) (.int .i64 (k + 6))).run Tryd.prog W = .ok (.int .u8 y6) W) (HD : Hid (∀ W, Calls Tryd.prog 32 #[.string de] W fun e w' => e = .returned (.tuple #[.int .i64 d, .bool true]) ∧ W = w')) (HM : Hid (∀ W, Calls Tryd.prog 32 #[.string mi] W fun e w' => e = .returned (.tuple #[.int .i64 mn, .bool true]) ∧ W = w')) (HS : Hid (∀ W, Calls Tryd.prog 32 #[.string se] W fun e w' => e = .returned (.tuple #[.int .i64 sc, .bool true]) ∧ W = w')) (hp : (y6 != p) = true) (hm : (y6 != m) = true) (w : World) :
    Calls Tryd.prog 23 #[.string s, .int .u8 p, .int .u8 m] w fun e w' => e = .returned (.agg #[.int .i64 0, .bool false, .bool false]) ∧ Q w w' := by
  go_enter Tryd.func23, Tryd.ntmps23
  go_wp2_with fail
  refine (HD.out _).mono ?_
  rintro e v0 ⟨rfl, rfl⟩
  go_wp2_with fail
  refine (HM.out _).mono ?_
  rintro e v1 ⟨rfl, rfl⟩
  go_wp2_with fail
  refine (HS.out _).mono ?_
  rintro e v2 ⟨rfl, rfl⟩
  go_wp2_with fail
  refine bodyPost_ret (results_cell1 rfl _ _ _ _ _ _ _ rfl (heap_alloc_new _ _) Tryd.underlying43 rfl (by kernel_rfl)) rfl ⟨rfl, (Q.refl _).alloc _⟩
set_option maxHeartbeats 4000000 in
theorem rread_j1 (s : ByteArray) (p m k : Int) (p0 : 0 ≤ p) (p1 : p ≤ 255) (m0 : 0 ≤ m) (m1 : m ≤ 255) (hz : (s.size : Int) = k + 7) (k0 : 1 ≤ k) (k1 : k ≤ 3) (hg : decide (1 < k) = false) (y0 : Int) (r0 : ∀ W, (Instr.index 9 (.string s) (.int .i64 k)).run Tryd.prog W = .ok (.int .u8 y0) W) (h0 : (y0 != 45) = false) (y3 : Int) (r3 : ∀ W, (Instr.index 9 (.string s) (.int .i64 (k + 3))).run Tryd.prog W = .ok (.int .u8 y3) W) (h3 : (y3 != 45) = false) (de mi se : ByteArray) (d mn sc y6 : Int) (hde : ∀ W, (Instr.slice 9 (.string s) none (some (.int .i64 k)) none).run Tryd.prog W = .ok (.string de) W) (hmi : ∀ W, (Instr.slice 9 (.string s) (some (.int .i64 (k + 1))) (some (.int .i64 (k + 3))) none).run Tryd.prog W = .ok (.string mi) W) (hse : ∀ W, (Instr.slice 9 (.string s) (some (.int .i64 (k + 4))) (some (.int .i64 (k + 6))) none).run Tryd.prog W = .ok (.string se) W) (d0 : 0 ≤ d) (d1 : d ≤ 999) (n0 : 0 ≤ mn) (n1 : mn ≤ 999) (s0 : 0 ≤ sc) (s1 : sc ≤ 999) (r6 : ∀ W, (Instr.index 9 (.string s) (.int .i64 (k + 6))).run Tryd.prog W = .ok (.int .u8 y6) W) (HD : Hid (∀ W, Calls Tryd.prog 32 #[.string de] W fun e w' => e = .returned (.tuple #[.int .i64 d, .bool true]) ∧ W = w')) (HM : Hid (∀ W, Calls Tryd.prog 32 #[.string mi] W fun e w' => e = .returned (.tuple #[.int .i64 mn, .bool true]) ∧ W = w')) (HS : Hid (∀ W, Calls Tryd.prog 32 #[.string se] W fun e w' => e = .returned (.tuple #[.int .i64 sc, .bool true]) ∧ W = w')) (hp : (y6 != p) = true) (hm : (y6 != m) = false) (hm2 : (y6 == m) = true) (e0 : (d == 0) = true) (e1 : (mn == 0) = true) (e2 : (sc == 0) = true) (w : World) :
    Calls Tryd.prog 23 #[.string s, .int .u8 p, .int .u8 m] w fun e w' => e = .returned (.agg #[.int .i64 0, .bool false, .bool false]) ∧ Q w w' := by
  go_enter Tryd.func23, Tryd.ntmps23
  go_wp2_with fail
  refine (HD.out _).mono ?_
  rintro e v0 ⟨rfl, rfl⟩
  go_wp2_with fail
  refine (HM.out _).mono ?_
  rintro e v1 ⟨rfl, rfl⟩
  go_wp2_with fail
  refine (HS.out _).mono ?_
  rintro e v2 ⟨rfl, rfl⟩
  go_wp2_with fail
  refine bodyPost_ret (results_cell1 rfl _ _ _ _ _ _ _ rfl (heap_alloc_new _ _) Tryd.underlying43 rfl (by kernel_rfl)) rfl ⟨rfl, (Q.refl _).alloc _⟩
set_option maxHeartbeats 4000000 in
theorem rread_l1t (s : ByteArray) (p m k : Int) (p0 : 0 ≤ p) (p1 : p ≤ 255) (m0 : 0 ≤ m) (m1 : m ≤ 255) (hz : (s.size : Int) = k + 7) (k0 : 1 ≤ k) (k1 : k ≤ 3) (hg : decide (1 < k) = false) (y0 : Int) (r0 : ∀ W, (Instr.index 9 (.string s) (.int .i64 k)).run Tryd.prog W = .ok (.int .u8 y0) W) (h0 : (y0 != 45) = false) (y3 : Int) (r3 : ∀ W, (Instr.index 9 (.string s) (.int .i64 (k + 3))).run Tryd.prog W = .ok (.int .u8 y3) W) (h3 : (y3 != 45) = false) (de mi se : ByteArray) (d mn sc y6 : Int) (hde : ∀ W, (Instr.slice 9 (.string s) none (some (.int .i64 k)) none).run Tryd.prog W = .ok (.string de) W) (hmi : ∀ W, (Instr.slice 9 (.string s) (some (.int .i64 (k + 1))) (some (.int .i64 (k + 3))) none).run Tryd.prog W = .ok (.string mi) W) (hse : ∀ W, (Instr.slice 9 (.string s) (some (.int .i64 (k + 4))) (some (.int .i64 (k + 6))) none).run Tryd.prog W = .ok (.string se) W) (d0 : 0 ≤ d) (d1 : d ≤ 999) (n0 : 0 ≤ mn) (n1 : mn ≤ 999) (s0 : 0 ≤ sc) (s1 : sc ≤ 999) (r6 : ∀ W, (Instr.index 9 (.string s) (.int .i64 (k + 6))).run Tryd.prog W = .ok (.int .u8 y6) W) (HD : Hid (∀ W, Calls Tryd.prog 32 #[.string de] W fun e w' => e = .returned (.tuple #[.int .i64 d, .bool true]) ∧ W = w')) (HM : Hid (∀ W, Calls Tryd.prog 32 #[.string mi] W fun e w' => e = .returned (.tuple #[.int .i64 mn, .bool true]) ∧ W = w')) (HS : Hid (∀ W, Calls Tryd.prog 32 #[.string se] W fun e w' => e = .returned (.tuple #[.int .i64 sc, .bool true]) ∧ W = w')) (bb : Bool) (hb1 : decide (mn < 60) = true) (hb2 : decide (sc < 60) = bb) (hp : (y6 != p) = false) (hm2 : (y6 == m) = false) (w : World) :
    Calls Tryd.prog 23 #[.string s, .int .u8 p, .int .u8 m] w fun e w' => e = .returned (.agg #[.int .i64 (d * 3600 + mn * 60 + sc), .bool true, .bool bb]) ∧ Q w w' := by
  go_enter Tryd.func23, Tryd.ntmps23
  go_wp2_with fail
  refine (HD.out _).mono ?_
  rintro e v0 ⟨rfl, rfl⟩
  go_wp2_with fail
  refine (HM.out _).mono ?_
  rintro e v1 ⟨rfl, rfl⟩
  go_wp2_with fail
  refine (HS.out _).mono ?_
  rintro e v2 ⟨rfl, rfl⟩
  go_wp2_with fail
  refine bodyPost_ret (results_cell1 rfl _ _ _ _ _ _ _ rfl (heap_alloc_new _ _) Tryd.underlying43 rfl (by kernel_rfl)) rfl ⟨rfl, (Q.refl _).alloc _⟩
set_option maxHeartbeats 4000000 in
theorem rread_k1td (s : ByteArray) (p m k : Int) (p0 : 0 ≤ p) (p1 : p ≤ 255) (m0 : 0 ≤ m) (m1 : m ≤ 255) (hz : (s.size : Int) = k + 7) (k0 : 1 ≤ k) (k1 : k ≤ 3) (hg : decide (1 < k) = false) (y0 : Int) (r0 : ∀ W, (Instr.index 9 (.string s) (.int .i64 k)).run Tryd.prog W = .ok (.int .u8 y0) W) (h0 : (y0 != 45) = false) (y3 : Int) (r3 : ∀ W, (Instr.index 9 (.string s) (.int .i64 (k + 3))).run Tryd.prog W = .ok (.int .u8 y3) W) (h3 : (y3 != 45) = false) (de mi se : ByteArray) (d mn sc y6 : Int) (hde : ∀ W, (Instr.slice 9 (.string s) none (some (.int .i64 k)) none).run Tryd.prog W = .ok (.string de) W) (hmi : ∀ W, (Instr.slice 9 (.string s) (some (.int .i64 (k + 1))) (some (.int .i64 (k + 3))) none).run Tryd.prog W = .ok (.string mi) W) (hse : ∀ W, (Instr.slice 9 (.string s) (some (.int .i64 (k + 4))) (some (.int .i64 (k + 6))) none).run Tryd.prog W = .ok (.string se) W) (d0 : 0 ≤ d) (d1 : d ≤ 999) (n0 : 0 ≤ mn) (n1 : mn ≤ 999) (s0 : 0 ≤ sc) (s1 : sc ≤ 999) (r6 : ∀ W, (Instr.index 9 (.string s) (.int .i64 (k + 6))).run Tryd.prog W = .ok (.int .u8 y6) W) (HD : Hid (∀ W, Calls Tryd.prog 32 #[.string de] W fun e w' => e = .returned (.tuple #[.int .i64 d, .bool true]) ∧ W = w')) (HM : Hid (∀ W, Calls Tryd.prog 32 #[.string mi] W fun e w' => e = .returned (.tuple #[.int .i64 mn, .bool true]) ∧ W = w')) (HS : Hid (∀ W, Calls Tryd.prog 32 #[.string se] W fun e w' => e = .returned (.tuple #[.int .i64 sc, .bool true]) ∧ W = w')) (bb : Bool) (hb1 : decide (mn < 60) = true) (hb2 : decide (sc < 60) = bb) (hp : (y6 != p) = true) (hm : (y6 != m) = false) (hm2 : (y6 == m) = true) (e0 : (d == 0) = false) (w : World) :
    Calls Tryd.prog 23 #[.string s, .int .u8 p, .int .u8 m] w fun e w' => e = .returned (.agg #[.int .i64 (-(d * 3600 + mn * 60 + sc)), .bool true, .bool bb]) ∧ Q w w' := by
  go_enter Tryd.func23, Tryd.ntmps23
  go_wp2_with fail
  refine (HD.out _).mono ?_
  rintro e v0 ⟨rfl, rfl⟩
  go_wp2_with fail
  refine (HM.out _).mono ?_
  rintro e v1 ⟨rfl, rfl⟩
  go_wp2_with fail
  refine (HS.out _).mono ?_
  rintro e v2 ⟨rfl, rfl⟩
  go_wp2_with fail
  refine bodyPost_ret (results_cell1 rfl _ _ _ _ _ _ _ rfl (heap_alloc_new _ _) Tryd.underlying43 rfl (by kernel_rfl)) rfl ⟨rfl, (Q.refl _).alloc _⟩
set_option maxHeartbeats 4000000 in
theorem rread_k1tm (s : ByteArray) (p m k : Int) (p0 : 0 ≤ p) (p1 : p ≤ 255) (m0 : 0 ≤ m) (m1 : m ≤ 255) (hz : (s.size : Int) = k + 7) (k0 : 1 ≤ k) (k1 : k ≤ 3) (hg : decide (1 < k) = false) (y0 : Int) (r0 : ∀ W, (Instr.index 9 (.string s) (.int .i64 k)).run Tryd.prog W = .ok (.int .u8 y0) W) (h0 : (y0 != 45) = false) (y3 : Int) (r3 : ∀ W, (Instr.index 9 (.string s) (.int .i64 (k + 3))).run Tryd.prog W = .ok (.int .u8 y3) W) (h3 : (y3 != 45) = false) (de mi se : ByteArray) (d mn sc y6 : Int) (hde : ∀ W, (Instr.slice 9 (.string s) none (some (.int .i64 k)) none).run Tryd.prog W = .ok (.string de) W) (hmi : ∀ W, (Instr.slice 9 (.string s) (some (.int .i64 (k + 1))) (some (.int .i64 (k + 3))) none).run Tryd.prog W = .ok (.string mi) W) (hse : ∀ W, (Instr.slice 9 (.string s) (some (.int .i64 (k + 4))) (some (.int .i64 (k + 6))) none).run Tryd.prog W = .ok (.string se) W) (d0 : 0 ≤ d) (d1 : d ≤ 999) (n0 : 0 ≤ mn) (n1 : mn ≤ 999) (s0 : 0 ≤ sc) (s1 : sc ≤ 999) (r6 : ∀ W, (Instr.index 9 (.string s) (.int .i64 (k + 6))).run Tryd.prog W = .ok (.int .u8 y6) W) (HD : Hid (∀ W, Calls Tryd.prog 32 #[.string de] W fun e w' => e = .returned (.tuple #[.int .i64 d, .bool true]) ∧ W = w')) (HM : Hid (∀ W, Calls Tryd.prog 32 #[.string mi] W fun e w' => e = .returned (.tuple #[.int .i64 mn, .bool true]) ∧ W = w')) (HS : Hid (∀ W, Calls Tryd.prog 32 #[.string se] W fun e w' => e = .returned (.tuple #[.int .i64 sc, .bool true]) ∧ W = w')) (bb : Bool) (hb1 : decide (mn < 60) = true) (hb2 : decide (sc < 60) = bb) (hp : (y6 != p) = true) (hm : (y6 != m) = false) (hm2 : (y6 == m) = true) (e0 : (d == 0) = true) (e1 : (mn == 0) = false) (w : World) :
    Calls Tryd.prog 23 #[.string s, .int .u8 p, .int .u8 m] w fun e w' => e = .returned (.agg #[.int .i64 (-(d * 3600 + mn * 60 + sc)), .bool true, .bool bb]) ∧ Q w w' := by
  go_enter Tryd.func23, Tryd.ntmps23
  go_wp2_with fail
  refine (HD.out _).mono ?_
  rintro e v0 ⟨rfl, rfl⟩
  go_wp2_with fail
  refine (HM.out _).mono ?_
  rintro e v1 ⟨rfl, rfl⟩
  go_wp2_with fail
  refine (HS.out _).mono ?_
  rintro e v2 ⟨rfl, rfl⟩
  go_wp2_with fail
  refine bodyPost_ret (results_cell1 rfl _ _ _ _ _ _ _ rfl (heap_alloc_new _ _) Tryd.underlying43 rfl (by kernel_rfl)) rfl ⟨rfl, (Q.refl _).alloc _⟩
set_option maxHeartbeats 4000000 in
theorem rread_k1ts (s : ByteArray) (p m k : Int) (p0 : 0 ≤ p) (p1 : p ≤ 255) (m0 : 0 ≤ m) (m1 : m ≤ 255) (hz : (s.size : Int) = k + 7) (k0 : 1 ≤ k) (k1 : k ≤ 3) (hg : decide (1 < k) = false) (y0 : Int) (r0 : ∀ W, (Instr.index 9 (.string s) (.int .i64 k)).run Tryd.prog W = .ok (.int .u8 y0) W) (h0 : (y0 != 45) = false) (y3 : Int) (r3 : ∀ W, (Instr.index 9 (.string s) (.int .i64 (k + 3))).run Tryd.prog W = .ok (.int .u8 y3) W) (h3 : (y3 != 45) = false) (de mi se : ByteArray) (d mn sc y6 : Int) (hde : ∀ W, (Instr.slice 9 (.string s) none (some (.int .i64 k)) none).run Tryd.prog W = .ok (.string de) W) (hmi : ∀ W, (Instr.slice 9 (.string s) (some (.int .i64 (k + 1))) (some (.int .i64 (k + 3))) none).run Tryd.prog W = .ok (.string mi) W) (hse : ∀ W, (Instr.slice 9 (.string s) (some (.int .i64 (k + 4))) (some (.int .i64 (k + 6))) none).run Tryd.prog W = .ok (.string se) W) (d0 : 0 ≤ d) (d1 : d ≤ 999) (n0 : 0 ≤ mn) (n1 : mn ≤ 999) (s0 : 0 ≤ sc) (s1 : sc ≤ 999) (r6 : ∀ W, (Instr.index 9 (.string s) (.int .i64 (k + 6))).run Tryd.prog W = .ok (.int .u8 y6) W) (HD : Hid (∀ W, Calls Tryd.prog 32 #[.string de] W fun e w' => e = .returned (.tuple #[.int .i64 d, .bool true]) ∧ W = w')) (HM : Hid (∀ W, Calls Tryd.prog 32 #[.string mi] W fun e w' => e = .returned (.tuple #[.int .i64 mn, .bool true]) ∧ W = w')) (HS : Hid (∀ W, Calls Tryd.prog 32 #[.string se] W fun e w' => e = .returned (.tuple #[.int .i64 sc, .bool true]) ∧ W = w')) (bb : Bool) (hb1 : decide (mn < 60) = true) (hb2 : decide (sc < 60) = bb) (hp : (y6 != p) = true) (hm : (y6 != m) = false) (hm2 : (y6 == m) = true) (e0 : (d == 0) = true) (e1 : (mn == 0) = true) (e2 : (sc == 0) = false) (w : World) :
    Calls Tryd.prog 23 #[.string s, .int .u8 p, .int .u8 m] w fun e w' => e = .returned (.agg #[.int .i64 (-(d * 3600 + mn * 60 + sc)), .bool true, .bool bb]) ∧ Q w w' := by
  go_enter Tryd.func23, Tryd.ntmps23
  go_wp2_with fail
  refine (HD.out _).mono ?_
  rintro e v0 ⟨rfl, rfl⟩
  go_wp2_with fail
  refine (HM.out _).mono ?_
  rintro e v1 ⟨rfl, rfl⟩
  go_wp2_with fail
  refine (HS.out _).mono ?_
  rintro e v2 ⟨rfl, rfl⟩
  go_wp2_with fail
  refine bodyPost_ret (results_cell1 rfl _ _ _ _ _ _ _ rfl (heap_alloc_new _ _) Tryd.underlying43 rfl (by kernel_rfl)) rfl ⟨rfl, (Q.refl _).alloc _⟩
set_option maxHeartbeats 4000000 in
theorem rread_l1f (s : ByteArray) (p m k : Int) (p0 : 0 ≤ p) (p1 : p ≤ 255) (m0 : 0 ≤ m) (m1 : m ≤ 255) (hz : (s.size : Int) = k + 7) (k0 : 1 ≤ k) (k1 : k ≤ 3) (hg : decide (1 < k) = false) (y0 : Int) (r0 : ∀ W, (Instr.index 9 (.string s) (.int .i64 k)).run Tryd.prog W = .ok (.int .u8 y0) W) (h0 : (y0 != 45) = false) (y3 : Int) (r3 : ∀ W, (Instr.index 9 (.string s) (.int .i64 (k + 3))).run Tryd.prog W = .ok (.int .u8 y3) W) (h3 : (y3 != 45) = false) (de mi se : ByteArray) (d mn sc y6 : Int) (hde : ∀ W, (Instr.slice 9 (.string s) none (some (.int .i64 k)) none).run Tryd.prog W = .ok (.string de) W) (hmi : ∀ W, (Instr.slice 9 (.string s) (some (.int .i64 (k + 1))) (some (.int .i64 (k + 3))) none).run Tryd.prog W = .ok (.string mi) W) (hse : ∀ W, (Instr.slice 9 (.string s) (some (.int .i64 (k + 4))) (some (.int .i64 (k + 6))) none).run Tryd.prog W = .ok (.string se) W) (d0 : 0 ≤ d) (d1 : d ≤ 999) (n0 : 0 ≤ mn) (n1 : mn ≤ 999) (s0 : 0 ≤ sc) (s1 : sc ≤ 999) (r6 : ∀ W, (Instr.index 9 (.string s) (.int .i64 (k + 6))).run Tryd.prog W = .ok (.int .u8 y6) W) (HD : Hid (∀ W, Calls Tryd.prog 32 #[.string de] W fun e w' => e = .returned (.tuple #[.int .i64 d, .bool true]) ∧ W = w')) (HM : Hid (∀ W, Calls Tryd.prog 32 #[.string mi] W fun e w' => e = .returned (.tuple #[.int .i64 mn, .bool true]) ∧ W = w')) (HS : Hid (∀ W, Calls Tryd.prog 32 #[.string se] W fun e w' => e = .returned (.tuple #[.int .i64 sc, .bool true]) ∧ W = w')) (bb : Bool) (hb1 : decide (mn < 60) = false) (hp : (y6 != p) = false) (hm2 : (y6 == m) = false) (w : World) :
    Calls Tryd.prog 23 #[.string s, .int .u8 p, .int .u8 m] w fun e w' => e = .returned (.agg #[.int .i64 (d * 3600 + mn * 60 + sc), .bool true, .bool false]) ∧ Q w w' := by
  go_enter Tryd.func23, Tryd.ntmps23
  go_wp2_with fail
  refine (HD.out _).mono ?_
  rintro e v0 ⟨rfl, rfl⟩
  go_wp2_with fail
  refine (HM.out _).mono ?_
  rintro e v1 ⟨rfl, rfl⟩
  go_wp2_with fail
  refine (HS.out _).mono ?_
  rintro e v2 ⟨rfl, rfl⟩
  go_wp2_with fail
  refine bodyPost_ret (results_cell1 rfl _ _ _ _ _ _ _ rfl (heap_alloc_new _ _) Tryd.underlying43 rfl (by kernel_rfl)) rfl ⟨rfl, (Q.refl _).alloc _⟩
set_option maxHeartbeats 4000000 in
theorem rread_k1fd (s : ByteArray) (p m k : Int) (p0 : 0 ≤ p) (p1 : p ≤ 255) (m0 : 0 ≤ m) (m1 : m ≤ 255) (hz : (s.size : Int) = k + 7) (k0 : 1 ≤ k) (k1 : k ≤ 3) (hg : decide (1 < k) = false) (y0 : Int) (r0 : ∀ W, (Instr.index 9 (.string s) (.int .i64 k)).run Tryd.prog W = .ok (.int .u8 y0) W) (h0 : (y0 != 45) = false) (y3 : Int) (r3 : ∀ W, (Instr.index 9 (.string s) (.int .i64 (k + 3))).run Tryd.prog W = .ok (.int .u8 y3) W) (h3 : (y3 != 45) = false) (de mi se : ByteArray) (d mn sc y6 : Int) (hde : ∀ W, (Instr.slice 9 (.string s) none (some (.int .i64 k)) none).run Tryd.prog W = .ok (.string de) W) (hmi : ∀ W, (Instr.slice 9 (.string s) (some (.int .i64 (k + 1))) (some (.int .i64 (k + 3))) none).run Tryd.prog W = .ok (.string mi) W) (hse : ∀ W, (Instr.slice 9 (.string s) (some (.int .i64 (k + 4))) (some (.int .i64 (k + 6))) none).run Tryd.prog W = .ok (.string se) W) (d0 : 0 ≤ d) (d1 : d ≤ 999) (n0 : 0 ≤ mn) (n1 : mn ≤ 999) (s0 : 0 ≤ sc) (s1 : sc ≤ 999) (r6 : ∀ W, (Instr.index 9 (.string s) (.int .i64 (k + 6))).run Tryd.prog W = .ok (.int .u8 y6) W) (HD : Hid (∀ W, Calls Tryd.prog 32 #[.string de] W fun e w' => e = .returned (.tuple #[.int .i64 d, .bool true]) ∧ W = w')) (HM : Hid (∀ W, Calls Tryd.prog 32 #[.string mi] W fun e w' => e = .returned (.tuple #[.int .i64 mn, .bool true]) ∧ W = w')) (HS : Hid (∀ W, Calls Tryd.prog 32 #[.string se] W fun e w' => e = .returned (.tuple #[.int .i64 sc, .bool true]) ∧ W = w')) (bb : Bool) (hb1 : decide (mn < 60) = false) (hp : (y6 != p) = true) (hm : (y6 != m) = false) (hm2 : (y6 == m) = true) (e0 : (d == 0) = false) (w : World) :
    Calls Tryd.prog 23 #[.string s, .int .u8 p, .int .u8 m] w fun e w' => e = .returned (.agg #[.int .i64 (-(d * 3600 + mn * 60 + sc)), .bool true, .bool false]) ∧ Q w w' := by
  go_enter Tryd.func23, Tryd.ntmps23
  go_wp2_with fail
  refine (HD.out _).mono ?_
  rintro e v0 ⟨rfl, rfl⟩
  go_wp2_with fail
  refine (HM.out _).mono ?_
  rintro e v1 ⟨rfl, rfl⟩
  go_wp2_with fail
  refine (HS.out _).mono ?_
  rintro e v2 ⟨rfl, rfl⟩
  go_wp2_with fail
  refine bodyPost_ret (results_cell1 rfl _ _ _ _ _ _ _ rfl (heap_alloc_new _ _) Tryd.underlying43 rfl (by kernel_rfl)) rfl ⟨rfl, (Q.refl _).alloc _⟩
set_option maxHeartbeats 4000000 in
theorem rread_k1fm (s : ByteArray) (p m k : Int) (p0 : 0 ≤ p) (p1 : p ≤ 255) (m0 : 0 ≤ m) (m1 : m ≤ 255) (hz : (s.size : Int) = k + 7) (k0 : 1 ≤ k) (k1 : k ≤ 3) (hg : decide (1 < k) = false) (y0 : Int) (r0 : ∀ W, (Instr.index 9 (.string s) (.int .i64 k)).run Tryd.prog W = .ok (.int .u8 y0) W) (h0 : (y0 != 45) = false) (y3 : Int) (r3 : ∀ W, (Instr.index 9 (.string s) (.int .i64 (k + 3))).run Tryd.prog W = .ok (.int .u8 y3) W) (h3 : (y3 != 45) = false) (de mi se : ByteArray) (d mn sc y6 : Int) (hde : ∀ W, (Instr.slice 9 (.string s) none (some (.int .i64 k)) none).run Tryd.prog W = .ok (.string de) W) (hmi : ∀ W, (Instr.slice 9 (.string s) (some (.int .i64 (k + 1))) (some (.int .i64 (k + 3))) none).run Tryd.prog W = .ok (.string mi) W) (hse : ∀ W, (Instr.slice 9 (.string s) (some (.int .i64 (k + 4))) (some (.int .i64 (k + 6))) none).run Tryd.prog W = .ok (.string se) W) (d0 : 0 ≤ d) (d1 : d ≤ 999) (n0 : 0 ≤ mn) (n1 : mn ≤ 999) (s0 : 0 ≤ sc) (s1 : sc ≤ 999) (r6 : ∀ W, (Instr.index 9 (.string s) (.int .i64 (k + 6))).run Tryd.prog W = .ok (.int .u8 y6) W) (HD : Hid (∀ W, Calls Tryd.prog 32 #[.string de] W fun e w' => e = .returned (.tuple #[.int .i64 d, .bool true]) ∧ W = w')) (HM : Hid (∀ W, Calls Tryd.prog 32 #[.string mi] W fun e w' => e = .returned (.tuple #[.int .i64 mn, .bool true]) ∧ W = w')) (HS : Hid (∀ W, Calls Tryd.prog 32 #[.string se] W fun e w' => e = .returned (.tuple #[.int .i64 sc, .bool true]) ∧ W = w')) (bb : Bool) (hb1 : decide (mn < 60) = false) (hp : (y6 != p) = true) (hm : (y6 != m) = false) (hm2 : (y6 == m) = true) (e0 : (d == 0) = true) (e1 : (mn == 0) = false) (w : World) :
    Calls Tryd.prog 23 #[.string s, .int .u8 p, .int .u8 m] w fun e w' => e = .returned (.agg #[.int .i64 (-(d * 3600 + mn * 60 + sc)), .bool true, .bool false]) ∧ Q w w' := by
  go_enter Tryd.func23, Tryd.ntmps23
  go_wp2_with fail
  refine (HD.out _).mono ?_
  rintro e v0 ⟨rfl, rfl⟩
  go_wp2_with fail
  refine (HM.out _).mono ?_
  rintro e v1 ⟨rfl, rfl⟩
  go_wp2_with fail
  refine (HS.out _).mono ?_
  rintro e v2 ⟨rfl, rfl⟩
  go_wp2_with fail
  refine bodyPost_ret (results_cell1 rfl _ _ _ _ _ _ _ rfl (heap_alloc_new _ _) Tryd.underlying43 rfl (by kernel_rfl)) rfl ⟨rfl, (Q.refl _).alloc _⟩
set_option maxHeartbeats 4000000 in
theorem rread_k1fs (s : ByteArray) (p m k : Int) (p0 : 0 ≤ p) (p1 : p ≤ 255) (m0 : 0 ≤ m) (m1 : m ≤ 255) (hz : (s.size : Int) = k + 7) (k0 : 1 ≤ k) (k1 : k ≤ 3) (hg : decide (1 < k) = false) (y0 : Int) (r0 : ∀ W, (Instr.index 9 (.string s) (.int .i64 k)).run Tryd.prog W = .ok (.int .u8 y0) W) (h0 : (y0 != 45) = false) (y3 : Int) (r3 : ∀ W, (Instr.index 9 (.string s) (.int .i64 (k + 3))).run Tryd.prog W = .ok (.int .u8 y3) W) (h3 : (y3 != 45) = false) (de mi se : ByteArray) (d mn sc y6 : Int) (hde : ∀ W, (Instr.slice 9 (.string s) none (some (.int .i64 k)) none).run Tryd.prog W = .ok (.string de) W) (hmi : ∀ W, (Instr.slice 9 (.string s) (some (.int .i64 (k + 1))) (some (.int .i64 (k + 3))) none).run Tryd.prog W = .ok (.string mi) W) (hse : ∀ W, (Instr.slice 9 (.string s) (some (.int .i64 (k + 4))) (some (.int .i64 (k + 6))) none).run Tryd.prog W = .ok (.string se) W) (d0 : 0 ≤ d) (d1 : d ≤ 999) (n0 : 0 ≤ mn) (n1 : mn ≤ 999) (s0 : 0 ≤ sc) (s1 : sc ≤ 999) (r6 : ∀ W, (Instr.index 9 (.string s) (.int .i64 (k + 6))).run Tryd.prog W = .ok (.int .u8 y6) W) (HD : Hid (∀ W, Calls Tryd.prog 32 #[.string de] W fun e w' => e = .returned (.tuple #[.int .i64 d, .bool true]) ∧ W = w')) (HM : Hid (∀ W, Calls Tryd.prog 32 #[.string mi] W fun e w' => e = .returned (.tuple #[.int .i64 mn, .bool true]) ∧ W = w')) (HS : Hid (∀ W, Calls Tryd.prog 32 #[.string se] W fun e w' => e = .returned (.tuple #[.int .i64 sc, .bool true]) ∧ W = w')) (bb : Bool) (hb1 : decide (mn < 60) = false) (hp : (y6 != p) = true) (hm : (y6 != m) = false) (hm2 : (y6 == m) = true) (e0 : (d == 0) = true) (e1 : (mn == 0) = true) (e2 : (sc == 0) = false) (w : World) :
    Calls Tryd.prog 23 #[.string s, .int .u8 p, .int .u8 m] w fun e w' => e = .returned (.agg #[.int .i64 (-(d * 3600 + mn * 60 + sc)), .bool true, .bool false]) ∧ Q w w' := by
  go_enter Tryd.func23, Tryd.ntmps23
  go_wp2_with fail
  refine (HD.out _).mono ?_
  rintro e v0 ⟨rfl, rfl⟩
  go_wp2_with fail
  refine (HM.out _).mono ?_
  rintro e v1 ⟨rfl, rfl⟩
  go_wp2_with fail
  refine (HS.out _).mono ?_
  rintro e v2 ⟨rfl, rfl⟩
  go_wp2_with fail
  refine bodyPost_ret (results_cell1 rfl _ _ _ _ _ _ _ rfl (heap_alloc_new _ _) Tryd.underlying43 rfl (by kernel_rfl)) rfl ⟨rfl, (Q.refl _).alloc _⟩
set_option maxHeartbeats 4000000 in
theorem rread_d2 (s : ByteArray) (p m k : Int) (p0 : 0 ≤ p) (p1 : p ≤ 255) (m0 : 0 ≤ m) (m1 : m ≤ 255) (hz : (s.size : Int) = k + 7) (k0 : 1 ≤ k) (k1 : k ≤ 3) (hg : decide (1 < k) = true) (x : Int) (i0 : ∀ W, (Instr.index 9 (.string s) (.int .i64 0)).run Tryd.prog W = .ok (.int .u8 x) W) (hx : (x == 48) = false) (y0 : Int) (r0 : ∀ W, (Instr.index 9 (.string s) (.int .i64 k)).run Tryd.prog W = .ok (.int .u8 y0) W) (h0 : (y0 != 45) = true) (w : World) :
    Calls Tryd.prog 23 #[.string s, .int .u8 p, .int .u8 m] w fun e w' => e = .returned (.agg #[.int .i64 0, .bool false, .bool false]) ∧ Q w w' := by
  go_enter Tryd.func23, Tryd.ntmps23
  go_wp2_with fail
  refine bodyPost_ret (results_cell1 rfl _ _ _ _ _ _ _ rfl (heap_alloc_new _ _) Tryd.underlying43 rfl (by kernel_rfl)) rfl ⟨rfl, (Q.refl _).alloc _⟩
set_option maxHeartbeats 4000000 in
theorem rread_e2 (s : ByteArray) (p m k : Int) (p0 : 0 ≤ p) (p1 : p ≤ 255) (m0 : 0 ≤ m) (m1 : m ≤ 255) (hz : (s.size : Int) = k + 7) (k0 : 1 ≤ k) (k1 : k ≤ 3) (hg : decide (1 < k) = true) (x : Int) (i0 : ∀ W, (Instr.index 9 (.string s) (.int .i64 0)).run Tryd.prog W = .ok (.int .u8 x) W) (hx : (x == 48) = false) (y0 : Int) (r0 : ∀ W, (Instr.index 9 (.string s) (.int .i64 k)).run Tryd.prog W = .ok (.int .u8 y0) W) (h0 : (y0 != 45) = false) (y3 : Int) (r3 : ∀ W, (Instr.index 9 (.string s) (.int .i64 (k + 3))).run Tryd.prog W = .ok (.int .u8 y3) W) (h3 : (y3 != 45) = true) (w : World) :
    Calls Tryd.prog 23 #[.string s, .int .u8 p, .int .u8 m] w fun e w' => e = .returned (.agg #[.int .i64 0, .bool false, .bool false]) ∧ Q w w' := by
  go_enter Tryd.func23, Tryd.ntmps23
  go_wp2_with fail
  refine bodyPost_ret (results_cell1 rfl _ _ _ _ _ _ _ rfl (heap_alloc_new _ _) Tryd.underlying43 rfl (by kernel_rfl)) rfl ⟨rfl, (Q.refl _).alloc _⟩
set_option maxHeartbeats 4000000 in
theorem rread_f2 (s : ByteArray) (p m k : Int) (p0 : 0 ≤ p) (p1 : p ≤ 255) (m0 : 0 ≤ m) (m1 : m ≤ 255) (hz : (s.size : Int) = k + 7) (k0 : 1 ≤ k) (k1 : k ≤ 3) (hg : decide (1 < k) = true) (x : Int) (i0 : ∀ W, (Instr.index 9 (.string s) (.int .i64 0)).run Tryd.prog W = .ok (.int .u8 x) W) (hx : (x == 48) = false) (y0 : Int) (r0 : ∀ W, (Instr.index 9 (.string s) (.int .i64 k)).run Tryd.prog W = .ok (.int .u8 y0) W) (h0 : (y0 != 45) = false) (y3 : Int) (r3 : ∀ W, (Instr.index 9 (.string s) (.int .i64 (k + 3))).run Tryd.prog W = .ok (.int .u8 y3) W) (h3 : (y3 != 45) = false) (de mi se : ByteArray) (d mn sc y6 : Int) (hde : ∀ W, (Instr.slice 9 (.string s) none (some (.int .i64 k)) none).run Tryd.prog W = .ok (.string de) W) (hmi : ∀ W, (Instr.slice 9 (.string s) (some (.int .i64 (k + 1))) (some (.int .i64 (k + 3))) none).run Tryd.prog W = .ok (.string mi) W) (hse : ∀ W, (Instr.slice 9 (.string s) (some (.int .i64 (k + 4))) (some (.int .i64 (k + 6))) none).run Tryd.prog W = .ok (.string se) W) (d0 : 0 ≤ d) (d1 : d ≤ 999) (n0 : 0 ≤ mn) (n1 : mn ≤ 999) (s0 : 0 ≤ sc) (s1 : sc ≤ 999) (r6 : ∀ W, (Instr.index 9 (.string s) (.int .i64 (k + 6))).run Tryd.prog W = .ok (.int .u8 y6) W) (t u : Bool) (HD : Hid (∀ W, Calls Tryd.prog 32 #[.string de] W fun e w' => e = .returned (.tuple #[.int .i64 d, .bool false]) ∧ W = w')) (HM : Hid (∀ W, Calls Tryd.prog 32 #[.string mi] W fun e w' => e = .returned (.tuple #[.int .i64 mn, .bool t]) ∧ W = w')) (HS : Hid (∀ W, Calls Tryd.prog 32 #[.string se] W fun e w' => e = .returned (.tuple #[.int .i64 sc, .bool u]) ∧ W = w')) (w : World) :
    Calls Tryd.prog 23 #[.string s, .int .u8 p, .int .u8 m] w fun e w' => e = .returned (.agg #[.int .i64 0, .bool false, .bool false]) ∧ Q w w' := by
  go_enter Tryd.func23, Tryd.ntmps23
  go_wp2_with fail
  refine (HD.out _).mono ?_
  rintro e v0 ⟨rfl, rfl⟩
  go_wp2_with fail
  refine (HM.out _).mono ?_
  rintro e v1 ⟨rfl, rfl⟩
  go_wp2_with fail
  refine (HS.out _).mono ?_
  rintro e v2 ⟨rfl, rfl⟩
  go_wp2_with fail
  refine bodyPost_ret (results_cell1 rfl _ _ _ _ _ _ _ rfl (heap_alloc_new _ _) Tryd.underlying43 rfl (by kernel_rfl)) rfl ⟨rfl, (Q.refl _).alloc _⟩
set_option maxHeartbeats 4000000 in
theorem rread_g2 (s : ByteArray) (p m k : Int) (p0 : 0 ≤ p) (p1 : p ≤ 255) (m0 : 0 ≤ m) (m1 : m ≤ 255) (hz : (s.size : Int) = k + 7) (k0 : 1 ≤ k) (k1 : k ≤ 3) (hg : decide (1 < k) = true) (x : Int) (i0 : ∀ W, (Instr.index 9 (.string s) (.int .i64 0)).run Tryd.prog W = .ok (.int .u8 x) W) (hx : (x == 48) = false) (y0 : Int) (r0 : ∀ W, (Instr.index 9 (.string s) (.int .i64 k)).run Tryd.prog W = .ok (.int .u8 y0) W) (h0 : (y0 != 45) = false) (y3 : Int) (r3 : ∀ W, (Instr.index 9 (.string s) (.int .i64 (k + 3))).run Tryd.prog W = .ok (.int .u8 y3) W) (h3 : (y3 != 45) = false) (de mi se : ByteArray) (d mn sc y6 : Int) (hde : ∀ W, (Instr.slice 9 (.string s) none (some (.int .i64 k)) none).run Tryd.prog W = .ok (.string de) W) (hmi : ∀ W, (Instr.slice 9 (.string s) (some (.int .i64 (k + 1))) (some (.int .i64 (k + 3))) none).run Tryd.prog W = .ok (.string mi) W) (hse : ∀ W, (Instr.slice 9 (.string s) (some (.int .i64 (k + 4))) (some (.int .i64 (k + 6))) none).run Tryd.prog W = .ok (.string se) W) (d0 : 0 ≤ d) (d1 : d ≤ 999) (n0 : 0 ≤ mn) (n1 : mn ≤ 999) (s0 : 0 ≤ sc) (s1 : sc ≤ 999) (r6 : ∀ W, (Instr.index 9 (.string s) (.int .i64 (k + 6))).run Tryd.prog W = .ok (.int .u8 y6) W) (u : Bool) (HD : Hid (∀ W, Calls Tryd.prog 32 #[.string de] W fun e w' => e = .returned (.tuple #[.int .i64 d, .bool true]) ∧ W = w')) (HM : Hid (∀ W, Calls Tryd.prog 32 #[.string mi] W fun e w' => e = .returned (.tuple #[.int .i64 mn, .bool false]) ∧ W = w')) (HS : Hid (∀ W, Calls Tryd.prog 32 #[.string se] W fun e w' => e = .returned (.tuple #[.int .i64 sc, .bool u]) ∧ W = w')) (w : World) :
    Calls Tryd.prog 23 #[.string s, .int .u8 p, .int .u8 m] w fun e w' => e = .returned (.agg #[.int .i64 0, .bool false, .bool false]) ∧ Q w w' := by
  go_enter Tryd.func23, Tryd.ntmps23
  go_wp2_with fail
  refine (HD.out _).mono ?_
  rintro e v0 ⟨rfl, rfl⟩
  go_wp2_with fail
  refine (HM.out _).mono ?_
  rintro e v1 ⟨rfl, rfl⟩
  go_wp2_with fail
  refine (HS.out _).mono ?_
  rintro e v2 ⟨rfl, rfl⟩
  go_wp2_with fail
  refine bodyPost_ret (results_cell1 rfl _ _ _ _ _ _ _ rfl (heap_alloc_new _ _) Tryd.underlying43 rfl (by kernel_rfl)) rfl ⟨rfl, (Q.refl _).alloc _⟩
set_option maxHeartbeats 4000000 in
theorem rread_h2 (s : ByteArray) (p m k : Int) (p0 : 0 ≤ p) (p1 : p ≤ 255) (m0 : 0 ≤ m) (m1 : m ≤ 255) (hz : (s.size : Int) = k + 7) (k0 : 1 ≤ k) (k1 : k ≤ 3) (hg : decide (1 < k) = true) (x : Int) (i0 : ∀ W, (Instr.index 9 (.string s) (.int .i64 0)).run Tryd.prog W = .ok (.int .u8 x) W) (hx : (x == 48) = false) (y0 : Int) (r0 : ∀ W, (Instr.index 9 (.string s) (.int .i64 k)).run Tryd.prog W = .ok (.int .u8 y0) W) (h0 : (y0 != 45) = false) (y3 : Int) (r3 : ∀ W, (Instr.index 9 (.string s) (.int .i64 (k + 3))).run Tryd.prog W = .ok (.int .u8 y3) W) (h3 : (y3 != 45) = false) (de mi se : ByteArray) (d mn sc y6 : Int) (hde : ∀ W, (Instr.slice 9 (.string s) none (some (.int .i64 k)) none).run Tryd.prog W = .ok (.string de) W) (hmi : ∀ W, (Instr.slice 9 (.string s) (some (.int .i64 (k + 1))) (some (.int .i64 (k + 3))) none).run Tryd.prog W = .ok (.string mi) W) (hse : ∀ W, (Instr.slice 9 (.string s) (some (.int .i64 (k + 4))) (some (.int .i64 (k + 6))) none).run Tryd.prog W = .ok (.string se) W) (d0 : 0 ≤ d) (d1 : d ≤ 999) (n0 : 0 ≤ mn) (n1 : mn ≤ 999) (s0 : 0 ≤ sc) (s1 : sc ≤ 999) (r6 : ∀ W, (Instr.index 9 (.string s) (.int .i64 (k + 6))).run Tryd.prog W = .ok (.int .u8 y6) W) (HD : Hid (∀ W, Calls Tryd.prog 32 #[.string de] W fun e w' => e = .returned (.tuple #[.int .i64 d, .bool true]) ∧ W = w')) (HM : Hid (∀ W, Calls Tryd.prog 32 #[.string mi] W fun e w' => e = .returned (.tuple #[.int .i64 mn, .bool true]) ∧ W = w')) (HS : Hid (∀ W, Calls Tryd.prog 32 #[.string se] W fun e w' => e = .returned (.tuple #[.int .i64 sc, .bool false]) ∧ W = w')) (w : World) :
    Calls Tryd.prog 23 #[.string s, .int .u8 p, .int .u8 m] w fun e w' => e = .returned (.agg #[.int .i64 0, .bool false, .bool false]) ∧ Q w w' := by
  go_enter Tryd.func23, Tryd.ntmps23
  go_wp2_with fail
  refine (HD.out _).mono ?_
  rintro e v0 ⟨rfl, rfl⟩
  go_wp2_with fail
  refine (HM.out _).mono ?_
  rintro e v1 ⟨rfl, rfl⟩
  go_wp2_with fail
  refine (HS.out _).mono ?_
  rintro e v2 ⟨rfl, rfl⟩
  go_wp2_with fail
  refine bodyPost_ret (results_cell1 rfl _ _ _ _ _ _ _ rfl (heap_alloc_new _ _) Tryd.underlying43 rfl (by kernel_rfl)) rfl ⟨rfl, (Q.refl _).alloc _⟩
set_option maxHeartbeats 4000000 in
theorem rread_i2 (s : ByteArray) (p m k : Int) (p0 : 0 ≤ p) (p1 : p ≤ 255) (m0 : 0 ≤ m) (m1 : m ≤ 255) (hz : (s.size : Int) = k + 7) (k0 : 1 ≤ k) (k1 : k ≤ 3) (hg : decide (1 < k) = true) (x : Int) (i0 : ∀ W, (Instr.index 9 (.string s) (.int .i64 0)).run Tryd.prog W = .ok (.int .u8 x) W) (hx : (x == 48) = false) (y0 : Int) (r0 : ∀ W, (Instr.index 9 (.string s) (.int .i64 k)).run Tryd.prog W = .ok (.int .u8 y0) W) (h0 : (y0 != 45) = false) (y3 : Int) (r3 : ∀ W, (Instr.index 9 (.string s) (.int .i64 (k + 3))).run Tryd.prog W = .ok (.int .u8 y3) W) (h3 : (y3 != 45) = false) (de mi se : ByteArray) (d mn sc y6 : Int) (hde : ∀ W, (Instr.slice 9 (.string s) none (some (.int .i64 k)) none).run Tryd.prog W = .ok (.string de) W) (hmi : ∀ W, (Instr.slice 9 (.string s) (some (.int .i64 (k + 1))) (some (.int .i64 (k + 3))) none).run Tryd.prog W = .ok (.string mi) W) (hse : ∀ W, (Instr.slice 9 (.string s) (some (.int .i64 (k + 4))) (some (.int .i64 (k + 6))) none).run Tryd.prog W = .ok (.string se) W) (d0 : 0 ≤ d) (d1 : d ≤ 999) (n0 : 0 ≤ mn) (n1 : mn ≤ 999) (s0 : 0 ≤ sc) (s1 : sc ≤ 999) (r6 : ∀ W, (Instr.index 9 (.string s) (.int .i64 (k + 6))).run Tryd.prog W = .ok (.int .u8 y6) W) (HD : Hid (∀ W, Calls Tryd.prog 32 #[.string de] W fun e w' => e = .returned (.tuple #[.int .i64 d, .bool true]) ∧ W = w')) (HM : Hid (∀ W, Calls Tryd.prog 32 #[.string mi] W fun e w' => e = .returned (.tuple #[.int .i64 mn, .bool true]) ∧ W = w')) (HS : Hid (∀ W, Calls Tryd.prog 32 #[.string se] W fun e w' => e = .returned (.tuple #[.int .i64 sc, .bool true]) ∧ W = w')) (hp : (y6 != p) = true) (hm : (y6 != m) = true) (w : World) :
    Calls Tryd.prog 23 #[.string s, .int .u8 p, .int .u8 m] w fun e w' => e = .returned (.agg #[.int .i64 0, .bool false, .bool false]) ∧ Q w w' := by
  go_enter Tryd.func23, Tryd.ntmps23
  go_wp2_with fail
  refine (HD.out _).mono ?_
  rintro e v0 ⟨rfl, rfl⟩
  go_wp2_with fail
  refine (HM.out _).mono ?_
  rintro e v1 ⟨rfl, rfl⟩
  go_wp2_with fail
  refine (HS.out _).mono ?_
  rintro e v2 ⟨rfl, rfl⟩
  go_wp2_with fail
  refine bodyPost_ret (results_cell1 rfl _ _ _ _ _ _ _ rfl (heap_alloc_new _ _) Tryd.underlying43 rfl (by kernel_rfl)) rfl ⟨rfl, (Q.refl _).alloc _⟩
set_option maxHeartbeats 4000000 in
theorem rread_j2 (s : ByteArray) (p m k : Int) (p0 : 0 ≤ p) (p1 : p ≤ 255) (m0 : 0 ≤ m) (m1 : m ≤ 255) (hz : (s.size : Int) = k + 7) (k0 : 1 ≤ k) (k1 : k ≤ 3) (hg : decide (1 < k) = true) (x : Int) (i0 : ∀ W, (Instr.index 9 (.string s) (.int .i64 0)).run Tryd.prog W = .ok (.int .u8 x) W) (hx : (x == 48) = false) (y0 : Int) (r0 : ∀ W, (Instr.index 9 (.string s) (.int .i64 k)).run Tryd.prog W = .ok (.int .u8 y0) W) (h0 : (y0 != 45) = false) (y3 : Int) (r3 : ∀ W, (Instr.index 9 (.string s) (.int .i64 (k + 3))).run Tryd.prog W = .ok (.int .u8 y3) W) (h3 : (y3 != 45) = false) (de mi se : ByteArray) (d mn sc y6 : Int) (hde : ∀ W, (Instr.slice 9 (.string s) none (some (.int .i64 k)) none).run Tryd.prog W = .ok (.string de) W) (hmi : ∀ W, (Instr.slice 9 (.string s) (some (.int .i64 (k + 1))) (some (.int .i64 (k + 3))) none).run Tryd.prog W = .ok (.string mi) W) (hse : ∀ W, (Instr.slice 9 (.string s) (some (.int .i64 (k + 4))) (some (.int .i64 (k + 6))) none).run Tryd.prog W = .ok (.string se) W) (d0 : 0 ≤ d) (d1 : d ≤ 999) (n0 : 0 ≤ mn) (n1 : mn ≤ 999) (s0 : 0 ≤ sc) (s1 : sc ≤ 999) (r6 : ∀ W, (Instr.index 9 (.string s) (.int .i64 (k + 6))).run Tryd.prog W = .ok (.int .u8 y6) W) (HD : Hid (∀ W, Calls Tryd.prog 32 #[.string de] W fun e w' => e = .returned (.tuple #[.int .i64 d, .bool true]) ∧ W = w')) (HM : Hid (∀ W, Calls Tryd.prog 32 #[.string mi] W fun e w' => e = .returned (.tuple #[.int .i64 mn, .bool true]) ∧ W = w')) (HS : Hid (∀ W, Calls Tryd.prog 32 #[.string se] W fun e w' => e = .returned (.tuple #[.int .i64 sc, .bool true]) ∧ W = w')) (hp : (y6 != p) = true) (hm : (y6 != m) = false) (hm2 : (y6 == m) = true) (e0 : (d == 0) = true) (e1 : (mn == 0) = true) (e2 : (sc == 0) = true) (w : World) :
    Calls Tryd.prog 23 #[.string s, .int .u8 p, .int .u8 m] w fun e w' => e = .returned (.agg #[.int .i64 0, .bool false, .bool false]) ∧ Q w w' := by
  go_enter Tryd.func23, Tryd.ntmps23
  go_wp2_with fail
  refine (HD.out _).mono ?_
  rintro e v0 ⟨rfl, rfl⟩
  go_wp2_with fail
  refine (HM.out _).mono ?_
  rintro e v1 ⟨rfl, rfl⟩
  go_wp2_with fail
  refine (HS.out _).mono ?_
  rintro e v2 ⟨rfl, rfl⟩
  go_wp2_with fail
  refine bodyPost_ret (results_cell1 rfl _ _ _ _ _ _ _ rfl (heap_alloc_new _ _) Tryd.underlying43 rfl (by kernel_rfl)) rfl ⟨rfl, (Q.refl _).alloc _⟩
set_option maxHeartbeats 4000000 in
theorem rread_l2t (s : ByteArray) (p m k : Int) (p0 : 0 ≤ p) (p1 : p ≤ 255) (m0 : 0 ≤ m) (m1 : m ≤ 255) (hz : (s.size : Int) = k + 7) (k0 : 1 ≤ k) (k1 : k ≤ 3) (hg : decide (1 < k) = true) (x : Int) (i0 : ∀ W, (Instr.index 9 (.string s) (.int .i64 0)).run Tryd.prog W = .ok (.int .u8 x) W) (hx : (x == 48) = false) (y0 : Int) (r0 : ∀ W, (Instr.index 9 (.string s) (.int .i64 k)).run Tryd.prog W = .ok (.int .u8 y0) W) (h0 : (y0 != 45) = false) (y3 : Int) (r3 : ∀ W, (Instr.index 9 (.string s) (.int .i64 (k + 3))).run Tryd.prog W = .ok (.int .u8 y3) W) (h3 : (y3 != 45) = false) (de mi se : ByteArray) (d mn sc y6 : Int) (hde : ∀ W, (Instr.slice 9 (.string s) none (some (.int .i64 k)) none).run Tryd.prog W = .ok (.string de) W) (hmi : ∀ W, (Instr.slice 9 (.string s) (some (.int .i64 (k + 1))) (some (.int .i64 (k + 3))) none).run Tryd.prog W = .ok (.string mi) W) (hse : ∀ W, (Instr.slice 9 (.string s) (some (.int .i64 (k + 4))) (some (.int .i64 (k + 6))) none).run Tryd.prog W = .ok (.string se) W) (d0 : 0 ≤ d) (d1 : d ≤ 999) (n0 : 0 ≤ mn) (n1 : mn ≤ 999) (s0 : 0 ≤ sc) (s1 : sc ≤ 999) (r6 : ∀ W, (Instr.index 9 (.string s) (.int .i64 (k + 6))).run Tryd.prog W = .ok (.int .u8 y6) W) (HD : Hid (∀ W, Calls Tryd.prog 32 #[.string de] W fun e w' => e = .returned (.tuple #[.int .i64 d, .bool true]) ∧ W = w')) (HM : Hid (∀ W, Calls Tryd.prog 32 #[.string mi] W fun e w' => e = .returned (.tuple #[.int .i64 mn, .bool true]) ∧ W = w')) (HS : Hid (∀ W, Calls Tryd.prog 32 #[.string se] W fun e w' => e = .returned (.tuple #[.int .i64 sc, .bool true]) ∧ W = w')) (bb : Bool) (hb1 : decide (mn < 60) = true) (hb2 : decide (sc < 60) = bb) (hp : (y6 != p) = false) (hm2 : (y6 == m) = false) (w : World) :
    Calls Tryd.prog 23 #[.string s, .int .u8 p, .int .u8 m] w fun e w' => e = .returned (.agg #[.int .i64 (d * 3600 + mn * 60 + sc), .bool true, .bool bb]) ∧ Q w w' := by
  go_enter Tryd.func23, Tryd.ntmps23
  go_wp2_with fail
  refine (HD.out _).mono ?_
  rintro e v0 ⟨rfl, rfl⟩
  go_wp2_with fail
  refine (HM.out _).mono ?_
  rintro e v1 ⟨rfl, rfl⟩
  go_wp2_with fail
  refine (HS.out _).mono ?_
  rintro e v2 ⟨rfl, rfl⟩
  go_wp2_with fail
  refine bodyPost_ret (results_cell1 rfl _ _ _ _ _ _ _ rfl (heap_alloc_new _ _) Tryd.underlying43 rfl (by kernel_rfl)) rfl ⟨rfl, (Q.refl _).alloc _⟩
set_option maxHeartbeats 4000000 in
theorem rread_k2td (s : ByteArray) (p m k : Int) (p0 : 0 ≤ p) (p1 : p ≤ 255) (m0 : 0 ≤ m) (m1 : m ≤ 255) (hz : (s.size : Int) = k + 7) (k0 : 1 ≤ k) (k1 : k ≤ 3) (hg : decide (1 < k) = true) (x : Int) (i0 : ∀ W, (Instr.index 9 (.string s) (.int .i64 0)).run Tryd.prog W = .ok (.int .u8 x) W) (hx : (x == 48) = false) (y0 : Int) (r0 : ∀ W, (Instr.index 9 (.string s) (.int .i64 k)).run Tryd.prog W = .ok (.int .u8 y0) W) (h0 : (y0 != 45) = false) (y3 : Int) (r3 : ∀ W, (Instr.index 9 (.string s) (.int .i64 (k + 3))).run Tryd.prog W = .ok (.int .u8 y3) W) (h3 : (y3 != 45) = false) (de mi se : ByteArray) (d mn sc y6 : Int) (hde : ∀ W, (Instr.slice 9 (.string s) none (some (.int .i64 k)) none).run Tryd.prog W = .ok (.string de) W) (hmi : ∀ W, (Instr.slice 9 (.string s) (some (.int .i64 (k + 1))) (some (.int .i64 (k + 3))) none).run Tryd.prog W = .ok (.string mi) W) (hse : ∀ W, (Instr.slice 9 (.string s) (some (.int .i64 (k + 4))) (some (.int .i64 (k + 6))) none).run Tryd.prog W = .ok (.string se) W) (d0 : 0 ≤ d) (d1 : d ≤ 999) (n0 : 0 ≤ mn) (n1 : mn ≤ 999) (s0 : 0 ≤ sc) (s1 : sc ≤ 999) (r6 : ∀ W, (Instr.index 9 (.string s) (.int .i64 (k + 6))).run Tryd.prog W = .ok (.int .u8 y6) W) (HD : Hid (∀ W, Calls Tryd.prog 32 #[.string de] W fun e w' => e = .returned (.tuple #[.int .i64 d, .bool true]) ∧ W = w')) (HM : Hid (∀ W, Calls Tryd.prog 32 #[.string mi] W fun e w' => e = .returned (.tuple #[.int .i64 mn, .bool true]) ∧ W = w')) (HS : Hid (∀ W, Calls Tryd.prog 32 #[.string se] W fun e w' => e = .returned (.tuple #[.int .i64 sc, .bool true]) ∧ W = w')) (bb : Bool) (hb1 : decide (mn < 60) = true) (hb2 : decide (sc < 60) = bb) (hp : (y6 != p) = true) (hm : (y6 != m) = false) (hm2 : (y6 == m) = true) (e0 : (d == 0) = false) (w : World) :
    Calls Tryd.prog 23 #[.string s, .int .u8 p, .int .u8 m] w fun e w' => e = .returned (.agg #[.int .i64 (-(d * 3600 + mn * 60 + sc)), .bool true, .bool bb]) ∧ Q w w' := by
  go_enter Tryd.func23, Tryd.ntmps23
  go_wp2_with fail
  refine (HD.out _).mono ?_
  rintro e v0 ⟨rfl, rfl⟩
  go_wp2_with fail
  refine (HM.out _).mono ?_
  rintro e v1 ⟨rfl, rfl⟩
  go_wp2_with fail
  refine (HS.out _).mono ?_
  rintro e v2 ⟨rfl, rfl⟩
  go_wp2_with fail
  refine bodyPost_ret (results_cell1 rfl _ _ _ _ _ _ _ rfl (heap_alloc_new _ _) Tryd.underlying43 rfl (by kernel_rfl)) rfl ⟨rfl, (Q.refl _).alloc _⟩
set_option maxHeartbeats 4000000 in
theorem rread_k2tm (s : ByteArray) (p m k : Int) (p0 : 0 ≤ p) (p1 : p ≤ 255) (m0 : 0 ≤ m) (m1 : m ≤ 255) (hz : (s.size : Int) = k + 7) (k0 : 1 ≤ k) (k1 : k ≤ 3) (hg : decide (1 < k) = true) (x : Int) (i0 : ∀ W, (Instr.index 9 (.string s) (.int .i64 0)).run Tryd.prog W = .ok (.int .u8 x) W) (hx : (x == 48) = false) (y0 : Int) (r0 : ∀ W, (Instr.index 9 (.string s) (.int .i64 k)).run Tryd.prog W = .ok (.int .u8 y0) W) (h0 : (y0 != 45) = false) (y3 : Int) (r3 : ∀ W, (Instr.index 9 (.string s) (.int .i64 (k + 3))).run Tryd.prog W = .ok (.int .u8 y3) W) (h3 : (y3 != 45) = false) (de mi se : ByteArray) (d mn sc y6 : Int) (hde : ∀ W, (Instr.slice 9 (.string s) none (some (.int .i64 k)) none).run Tryd.prog W = .ok (.string de) W) (hmi : ∀ W, (Instr.slice 9 (.string s) (some (.int .i64 (k + 1))) (some (.int .i64 (k + 3))) none).run Tryd.prog W = .ok (.string mi) W) (hse : ∀ W, (Instr.slice 9 (.string s) (some (.int .i64 (k + 4))) (some (.int .i64 (k + 6))) none).run Tryd.prog W = .ok (.string se) W) (d0 : 0 ≤ d) (d1 : d ≤ 999) (n0 : 0 ≤ mn) (n1 : mn ≤ 999) (s0 : 0 ≤ sc) (s1 : sc ≤ 999) (r6 : ∀ W, (Instr.index 9 (.string s) (.int .i64 (k + 6))).run Tryd.prog W = .ok (.int .u8 y6) W) (HD : Hid (∀ W, Calls Tryd.prog 32 #[.string de] W fun e w' => e = .returned (.tuple #[.int .i64 d, .bool true]) ∧ W = w')) (HM : Hid (∀ W, Calls Tryd.prog 32 #[.string mi] W fun e w' => e = .returned (.tuple #[.int .i64 mn, .bool true]) ∧ W = w')) (HS : Hid (∀ W, Calls Tryd.prog 32 #[.string se] W fun e w' => e = .returned (.tuple #[.int .i64 sc, .bool true]) ∧ W = w')) (bb : Bool) (hb1 : decide (mn < 60) = true) (hb2 : decide (sc < 60) = bb) (hp : (y6 != p) = true) (hm : (y6 != m) = false) (hm2 : (y6 == m) = true) (e0 : (d == 0) = true) (e1 : (mn == 0) = false) (w : World) :
    Calls Tryd.prog 23 #[.string s, .int .u8 p, .int .u8 m] w fun e w' => e = .returned (.agg #[.int .i64 (-(d * 3600 + mn * 60 + sc)), .bool true, .bool bb]) ∧ Q w w' := by
  go_enter Tryd.func23, Tryd.ntmps23
  go_wp2_with fail
  refine (HD.out _).mono ?_
  rintro e v0 ⟨rfl, rfl⟩
  go_wp2_with fail
  refine (HM.out _).mono ?_
  rintro e v1 ⟨rfl, rfl⟩
  go_wp2_with fail
  refine (HS.out _).mono ?_
  rintro e v2 ⟨rfl, rfl⟩
  go_wp2_with fail
  refine bodyPost_ret (results_cell1 rfl _ _ _ _ _ _ _ rfl (heap_alloc_new _ _) Tryd.underlying43 rfl (by kernel_rfl)) rfl ⟨rfl, (Q.refl _).alloc _⟩
set_option maxHeartbeats 4000000 in
theorem rread_k2ts (s : ByteArray) (p m k : Int) (p0 : 0 ≤ p) (p1 : p ≤ 255) (m0 : 0 ≤ m) (m1 : m ≤ 255) (hz : (s.size : Int) = k + 7) (k0 : 1 ≤ k) (k1 : k ≤ 3) (hg : decide (1 < k) = true) (x : Int) (i0 : ∀ W, (Instr.index 9 (.string s) (.int .i64 0)).run Tryd.prog W = .ok (.int .u8 x) W) (hx : (x == 48) = false) (y0 : Int) (r0 : ∀ W, (Instr.index 9 (.string s) (.int .i64 k)).run Tryd.prog W = .ok (.int .u8 y0) W) (h0 : (y0 != 45) = false) (y3 : Int) (r3 : ∀ W, (Instr.index 9 (.string s) (.int .i64 (k + 3))).run Tryd.prog W = .ok (.int .u8 y3) W) (h3 : (y3 != 45) = false) (de mi se : ByteArray) (d mn sc y6 : Int) (hde : ∀ W, (Instr.slice 9 (.string s) none (some (.int .i64 k)) none).run Tryd.prog W = .ok (.string de) W) (hmi : ∀ W, (Instr.slice 9 (.string s) (some (.int .i64 (k + 1))) (some (.int .i64 (k + 3))) none).run Tryd.prog W = .ok (.string mi) W) (hse : ∀ W, (Instr.slice 9 (.string s) (some (.int .i64 (k + 4))) (some (.int .i64 (k + 6))) none).run Tryd.prog W = .ok (.string se) W) (d0 : 0 ≤ d) (d1 : d ≤ 999) (n0 : 0 ≤ mn) (n1 : mn ≤ 999) (s0 : 0 ≤ sc) (s1 : sc ≤ 999) (r6 : ∀ W, (Instr.index 9 (.string s) (.int .i64 (k + 6))).run Tryd.prog W = .ok (.int .u8 y6) W) (HD : Hid (∀ W, Calls Tryd.prog 32 #[.string de] W fun e w' => e = .returned (.tuple #[.int .i64 d, .bool true]) ∧ W = w')) (HM : Hid (∀ W, Calls Tryd.prog 32 #[.string mi] W fun e w' => e = .returned (.tuple #[.int .i64 mn, .bool true]) ∧ W = w')) (HS : Hid (∀ W, Calls Tryd.prog 32 #[.string se] W fun e w' => e = .returned (.tuple #[.int .i64 sc, .bool true]) ∧ W = w')) (bb : Bool) (hb1 : decide (mn < 60) = true) (hb2 : decide (sc < 60) = bb) (hp : (y6 != p) = true) (hm : (y6 != m) = false) (hm2 : (y6 == m) = true) (e0 : (d == 0) = true) (e1 : (mn == 0) = true) (e2 : (sc == 0) = false) (w : World) :
    Calls Tryd.prog 23 #[.string s, .int .u8 p, .int .u8 m] w fun e w' => e = .returned (.agg #[.int .i64 (-(d * 3600 + mn * 60 + sc)), .bool true, .bool bb]) ∧ Q w w' := by
  go_enter Tryd.func23, Tryd.ntmps23
  go_wp2_with fail
  refine (HD.out _).mono ?_
  rintro e v0 ⟨rfl, rfl⟩
  go_wp2_with fail
  refine (HM.out _).mono ?_
  rintro e v1 ⟨rfl, rfl⟩
  go_wp2_with fail
  refine (HS.out _).mono ?_
  rintro e v2 ⟨rfl, rfl⟩
  go_wp2_with fail
  refine bodyPost_ret (results_cell1 rfl _ _ _ _ _ _ _ rfl (heap_alloc_new _ _) Tryd.underlying43 rfl (by kernel_rfl)) rfl ⟨rfl, (Q.refl _).alloc _⟩
set_option maxHeartbeats 4000000 in
theorem rread_l2f (s : ByteArray) (p m k : Int) (p0 : 0 ≤ p) (p1 : p ≤ 255) (m0 : 0 ≤ m) (m1 : m ≤ 255) (hz : (s.size : Int) = k + 7) (k0 : 1 ≤ k) (k1 : k ≤ 3) (hg : decide (1 < k) = true) (x : Int) (i0 : ∀ W, (Instr.index 9 (.string s) (.int .i64 0)).run Tryd.prog W = .ok (.int .u8 x) W) (hx : (x == 48) = false) (y0 : Int) (r0 : ∀ W, (Instr.index 9 (.string s) (.int .i64 k)).run Tryd.prog W = .ok (.int .u8 y0) W) (h0 : (y0 != 45) = false) (y3 : Int) (r3 : ∀ W, (Instr.index 9 (.string s) (.int .i64 (k + 3))).run Tryd.prog W = .ok (.int .u8 y3) W) (h3 : (y3 != 45) = false) (de mi se : ByteArray) (d mn sc y6 : Int) (hde : ∀ W, (Instr.slice 9 (.string s) none (some (.int .i64 k)) none).run Tryd.prog W = .ok (.string de) W) (hmi : ∀ W, (Instr.slice 9 (.string s) (some (.int .i64 (k + 1))) (some (.int .i64 (k + 3))) none).run Tryd.prog W = .ok (.string mi) W) (hse : ∀ W, (Instr.slice 9 (.string s) (some (.int .i64 (k + 4))) (some (.int .i64 (k + 6))) none).run Tryd.prog W = .ok (.string se) W) (d0 : 0 ≤ d) (d1 : d ≤ 999) (n0 : 0 ≤ mn) (n1 : mn ≤ 999) (s0 : 0 ≤ sc) (s1 : sc ≤ 999) (r6 : ∀ W, (Instr.index 9 (.string s) (.int .i64 (k + 6))).run Tryd.prog W = .ok (.int .u8 y6) W) (HD : Hid (∀ W, Calls Tryd.prog 32 #[.string de] W fun e w' => e = .returned (.tuple #[.int .i64 d, .bool true]) ∧ W = w')) (HM : Hid (∀ W, Calls Tryd.prog 32 #[.string mi] W fun e w' => e = .returned (.tuple #[.int .i64 mn, .bool true]) ∧ W = w')) (HS : Hid (∀ W, Calls Tryd.prog 32 #[.string se] W fun e w' => e = .returned (.tuple #[.int .i64 sc, .bool true]) ∧ W = w')) (bb : Bool) (hb1 : decide (mn < 60) = false) (hp : (y6 != p) = false) (hm2 : (y6 == m) = false) (w : World) :
    Calls Tryd.prog 23 #[.string s, .int .u8 p, .int .u8 m] w fun e w' => e = .returned (.agg #[.int .i64 (d * 3600 + mn * 60 + sc), .bool true, .bool false]) ∧ Q w w' := by
  go_enter Tryd.func23, Tryd.ntmps23
  go_wp2_with fail
  refine (HD.out _).mono ?_
  rintro e v0 ⟨rfl, rfl⟩
  go_wp2_with fail
  refine (HM.out _).mono ?_
  rintro e v1 ⟨rfl, rfl⟩
  go_wp2_with fail
  refine (HS.out _).mono ?_
  rintro e v2 ⟨rfl, rfl⟩
  go_wp2_with fail
  refine bodyPost_ret (results_cell1 rfl _ _ _ _ _ _ _ rfl (heap_alloc_new _ _) Tryd.underlying43 rfl (by kernel_rfl)) rfl ⟨rfl, (Q.refl _).alloc _⟩
set_option maxHeartbeats 4000000 in
theorem rread_k2fd (s : ByteArray) (p m k : Int) (p0 : 0 ≤ p) (p1 : p ≤ 255) (m0 : 0 ≤ m) (m1 : m ≤ 255) (hz : (s.size : Int) = k + 7) (k0 : 1 ≤ k) (k1 : k ≤ 3) (hg : decide (1 < k) = true) (x : Int) (i0 : ∀ W, (Instr.index 9 (.string s) (.int .i64 0)).run Tryd.prog W = .ok (.int .u8 x) W) (hx : (x == 48) = false) (y0 : Int) (r0 : ∀ W, (Instr.index 9 (.string s) (.int .i64 k)).run Tryd.prog W = .ok (.int .u8 y0) W) (h0 : (y0 != 45) = false) (y3 : Int) (r3 : ∀ W, (Instr.index 9 (.string s) (.int .i64 (k + 3))).run Tryd.prog W = .ok (.int .u8 y3) W) (h3 : (y3 != 45) = false) (de mi se : ByteArray) (d mn sc y6 : Int) (hde : ∀ W, (Instr.slice 9 (.string s) none (some (.int .i64 k)) none).run Tryd.prog W = .ok (.string de) W) (hmi : ∀ W, (Instr.slice 9 (.string s) (some (.int .i64 (k + 1))) (some (.int .i64 (k + 3))) none).run Tryd.prog W = .ok (.string mi) W) (hse : ∀ W, (Instr.slice 9 (.string s) (some (.int .i64 (k + 4))) (some (.int .i64 (k + 6))) none).run Tryd.prog W = .ok (.string se) W) (d0 : 0 ≤ d) (d1 : d ≤ 999) (n0 : 0 ≤ mn) (n1 : mn ≤ 999) (s0 : 0 ≤ sc) (s1 : sc ≤ 999) (r6 : ∀ W, (Instr.index 9 (.string s) (.int .i64 (k + 6))).run Tryd.prog W = .ok (.int .u8 y6) W) (HD : Hid (∀ W, Calls Tryd.prog 32 #[.string de] W fun e w' => e = .returned (.tuple #[.int .i64 d, .bool true]) ∧ W = w')) (HM : Hid (∀ W, Calls Tryd.prog 32 #[.string mi] W fun e w' => e = .returned (.tuple #[.int .i64 mn, .bool true]) ∧ W = w')) (HS : Hid (∀ W, Calls Tryd.prog 32 #[.string se] W fun e w' => e = .returned (.tuple #[.int .i64 sc, .bool true]) ∧ W = w')) (bb : Bool) (hb1 : decide (mn < 60) = false) (hp : (y6 != p) = true) (hm : (y6 != m) = false) (hm2 : (y6 == m) = true) (e0 : (d == 0) = false) (w : World) :
    Calls Tryd.prog 23 #[.string s, .int .u8 p, .int .u8 m] w fun e w' => e = .returned (.agg #[.int .i64 (-(d * 3600 + mn * 60 + sc)), .bool true, .bool false]) ∧ Q w w' := by
  go_enter Tryd.func23, Tryd.ntmps23
  go_wp2_with fail
  refine (HD.out _).mono ?_
  rintro e v0 ⟨rfl, rfl⟩
  go_wp2_with fail
  refine (HM.out _).mono ?_
  rintro e v1 ⟨rfl, rfl⟩
  go_wp2_with fail
  refine (HS.out _).mono ?_
  rintro e v2 ⟨rfl, rfl⟩
  go_wp2_with fail
  refine bodyPost_ret (results_cell1 rfl _ _ _ _ _ _ _ rfl (heap_alloc_new _ _) Tryd.underlying43 rfl (by kernel_rfl)) rfl ⟨rfl, (Q.refl _).alloc _⟩
set_option maxHeartbeats 4000000 in
theorem rread_k2fm (s : ByteArray) (p m k : Int) (p0 : 0 ≤ p) (p1 : p ≤ 255) (m0 : 0 ≤ m) (m1 : m ≤ 255) (hz : (s.size : Int) = k + 7) (k0 : 1 ≤ k) (k1 : k ≤ 3) (hg : decide (1 < k) = true) (x : Int) (i0 : ∀ W, (Instr.index 9 (.string s) (.int .i64 0)).run Tryd.prog W = .ok (.int .u8 x) W) (hx : (x == 48) = false) (y0 : Int) (r0 : ∀ W, (Instr.index 9 (.string s) (.int .i64 k)).run Tryd.prog W = .ok (.int .u8 y0) W) (h0 : (y0 != 45) = false) (y3 : Int) (r3 : ∀ W, (Instr.index 9 (.string s) (.int .i64 (k + 3))).run Tryd.prog W = .ok (.int .u8 y3) W) (h3 : (y3 != 45) = false) (de mi se : ByteArray) (d mn sc y6 : Int) (hde : ∀ W, (Instr.slice 9 (.string s) none (some (.int .i64 k)) none).run Tryd.prog W = .ok (.string de) W) (hmi : ∀ W, (Instr.slice 9 (.string s) (some (.int .i64 (k + 1))) (some (.int .i64 (k + 3))) none).run Tryd.prog W = .ok (.string mi) W) (hse : ∀ W, (Instr.slice 9 (.string s) (some (.int .i64 (k + 4))) (some (.int .i64 (k + 6))) none).run Tryd.prog W = .ok (.string se) W) (d0 : 0 ≤ d) (d1 : d ≤ 999) (n0 : 0 ≤ mn) (n1 : mn ≤ 999) (s0 : 0 ≤ sc) (s1 : sc ≤ 999) (r6 : ∀ W, (Instr.index 9 (.string s) (.int .i64 (k + 6))).run Tryd.prog W = .ok (.int .u8 y6) W) (HD : Hid (∀ W, Calls Tryd.prog 32 #[.string de] W fun e w' => e = .returned (.tuple #[.int .i64 d, .bool true]) ∧ W = w')) (HM : Hid (∀ W, Calls Tryd.prog 32 #[.string mi] W fun e w' => e = .returned (.tuple #[.int .i64 mn, .bool true]) ∧ W = w')) (HS : Hid (∀ W, Calls Tryd.prog 32 #[.string se] W fun e w' => e = .returned (.tuple #[.int .i64 sc, .bool true]) ∧ W = w')) (bb : Bool) (hb1 : decide (mn < 60) = false) (hp : (y6 != p) = true) (hm : (y6 != m) = false) (hm2 : (y6 == m) = true) (e0 : (d == 0) = true) (e1 : (mn == 0) = false) (w : World) :
    Calls Tryd.prog 23 #[.string s, .int .u8 p, .int .u8 m] w fun e w' => e = .returned (.agg #[.int .i64 (-(d * 3600 + mn * 60 + sc)), .bool true, .bool false]) ∧ Q w w' := by
  go_enter Tryd.func23, Tryd.ntmps23
  go_wp2_with fail
  refine (HD.out _).mono ?_
  rintro e v0 ⟨rfl, rfl⟩
  go_wp2_with fail
  refine (HM.out _).mono ?_
  rintro e v1 ⟨rfl, rfl⟩
  go_wp2_with fail
  refine (HS.out _).mono ?_
  rintro e v2 ⟨rfl, rfl⟩
  go_wp2_with fail
  refine bodyPost_ret (results_cell1 rfl _ _ _ _ _ _ _ rfl (heap_alloc_new _ _) Tryd.underlying43 rfl (by kernel_rfl)) rfl ⟨rfl, (Q.refl _).alloc _⟩
set_option maxHeartbeats 4000000 in
theorem rread_k2fs (s : ByteArray) (p m k : Int) (p0 : 0 ≤ p) (p1 : p ≤ 255) (m0 : 0 ≤ m) (m1 : m ≤ 255) (hz : (s.size : Int) = k + 7) (k0 : 1 ≤ k) (k1 : k ≤ 3) (hg : decide (1 < k) = true) (x : Int) (i0 : ∀ W, (Instr.index 9 (.string s) (.int .i64 0)).run Tryd.prog W = .ok (.int .u8 x) W) (hx : (x == 48) = false) (y0 : Int) (r0 : ∀ W, (Instr.index 9 (.string s) (.int .i64 k)).run Tryd.prog W = .ok (.int .u8 y0) W) (h0 : (y0 != 45) = false) (y3 : Int) (r3 : ∀ W, (Instr.index 9 (.string s) (.int .i64 (k + 3))).run Tryd.prog W = .ok (.int .u8 y3) W) (h3 : (y3 != 45) = false) (de mi se : ByteArray) (d mn sc y6 : Int) (hde : ∀ W, (Instr.slice 9 (.string s) none (some (.int .i64 k)) none).run Tryd.prog W = .ok (.string de) W) (hmi : ∀ W, (Instr.slice 9 (.string s) (some (.int .i64 (k + 1))) (some (.int .i64 (k + 3))) none).run Tryd.prog W = .ok (.string mi) W) (hse : ∀ W, (Instr.slice 9 (.string s) (some (.int .i64 (k + 4))) (some (.int .i64 (k + 6))) none).run Tryd.prog W = .ok (.string se) W) (d0 : 0 ≤ d) (d1 : d ≤ 999) (n0 : 0 ≤ mn) (n1 : mn ≤ 999) (s0 : 0 ≤ sc) (s1 : sc ≤ 999) (r6 : ∀ W, (Instr.index 9 (.string s) (.int .i64 (k + 6))).run Tryd.prog W = .ok (.int .u8 y6) W) (HD : Hid (∀ W, Calls Tryd.prog 32 #[.string de] W fun e w' => e = .returned (.tuple #[.int .i64 d, .bool true]) ∧ W = w')) (HM : Hid (∀ W, Calls Tryd.prog 32 #[.string mi] W fun e w' => e = .returned (.tuple #[.int .i64 mn, .bool true]) ∧ W = w')) (HS : Hid (∀ W, Calls Tryd.prog 32 #[.string se] W fun e w' => e = .returned (.tuple #[.int .i64 sc, .bool true]) ∧ W = w')) (bb : Bool) (hb1 : decide (mn < 60) = false) (hp : (y6 != p) = true) (hm : (y6 != m) = false) (hm2 : (y6 == m) = true) (e0 : (d == 0) = true) (e1 : (mn == 0) = true) (e2 : (sc == 0) = false) (w : World) :
    Calls Tryd.prog 23 #[.string s, .int .u8 p, .int .u8 m] w fun e w' => e = .returned (.agg #[.int .i64 (-(d * 3600 + mn * 60 + sc)), .bool true, .bool false]) ∧ Q w w' := by
  go_enter Tryd.func23, Tryd.ntmps23
  go_wp2_with fail
  refine (HD.out _).mono ?_
  rintro e v0 ⟨rfl, rfl⟩
  go_wp2_with fail
  refine (HM.out _).mono ?_
  rintro e v1 ⟨rfl, rfl⟩
  go_wp2_with fail
  refine (HS.out _).mono ?_
  rintro e v2 ⟨rfl, rfl⟩
  go_wp2_with fail
  refine bodyPost_ret (results_cell1 rfl _ _ _ _ _ _ _ rfl (heap_alloc_new _ _) Tryd.underlying43 rfl (by kernel_rfl)) rfl ⟨rfl, (Q.refl _).alloc _⟩
end Go.Proofs.YtmcobpgdledkdaaDoor
