
/- Contract of sphere.read. -/
import Derived.Test.YtmcobpgdledkdaaDoorSphD
namespace Go.Proofs.YtmcobpgdledkdaaDoor
open Go.RowKit
set_option linter.unusedVariables false

/-- What sphere.read returns: an angle and whether it is one; if it is none, the angle is not told. -/
def APost (ok : Bool) (a : Int) (b : Bool) (w : World) (e : Ending) (w' : World) : Prop := ∃ x y, e = .returned (.tuple #[.agg #[.int .i64 x, .bool y], .bool ok]) ∧ (ok = true → x = a ∧ y = b) ∧ Q w w'
set_option maxHeartbeats 2000000 in
theorem sread_a (s : ByteArray) (p m d c : Int) (p0 : 0 ≤ p) (p1 : p ≤ 255) (m0 : 0 ≤ m) (m1 : m ≤ 255) (HD : Hid (∀ W, Calls Tryd.prog 31 #[.string s] W fun e w' => e = .returned (.tuple #[.int .i64 d, .int .i64 c]) ∧ W = w')) (d0 : 0 ≤ d) (dd : d ≤ 999) (hc : (c == 0) = true) (w : World) :
    Calls Tryd.prog 22 #[.string s, .int .u8 p, .int .u8 m] w (APost false 0 false w) := by
  go_enter Tryd.func22, Tryd.ntmps22
  go_wp2_with fail
  refine (HD.out _).mono ?_
  rintro e v0 ⟨rfl, rfl⟩
  go_wp2_with fail
  refine bodyPost_ret (results_cell_tmp rfl _ _ _ _ _ _ _ rfl (heap_alloc_new _ _) Tryd.underlying39 rfl (by kernel_rfl)) rfl ⟨_, _, rfl, (fun h => by cases h), (Q.refl _).alloc _⟩
set_option maxHeartbeats 2000000 in
theorem sread_b (s : ByteArray) (p m d c : Int) (p0 : 0 ≤ p) (p1 : p ≤ 255) (m0 : 0 ≤ m) (m1 : m ≤ 255) (HD : Hid (∀ W, Calls Tryd.prog 31 #[.string s] W fun e w' => e = .returned (.tuple #[.int .i64 d, .int .i64 c]) ∧ W = w')) (d0 : 0 ≤ d) (dd : d ≤ 999) (hc : (c == 0) = false) (c0 : 0 ≤ c) (c1 : c ≤ 3) (hg : decide (1 < c) = true) (x : Int) (i0 : ∀ W, (Instr.index 9 (.string s) (.int .i64 0)).run Tryd.prog W = .ok (.int .u8 x) W) (hx : (x == 48) = true) (w : World) :
    Calls Tryd.prog 22 #[.string s, .int .u8 p, .int .u8 m] w (APost false 0 false w) := by
  go_enter Tryd.func22, Tryd.ntmps22
  go_wp2_with fail
  refine (HD.out _).mono ?_
  rintro e v0 ⟨rfl, rfl⟩
  go_wp2_with fail
  refine bodyPost_ret (results_cell_tmp rfl _ _ _ _ _ _ _ rfl (heap_alloc_new _ _) Tryd.underlying39 rfl (by kernel_rfl)) rfl ⟨_, _, rfl, (fun h => by cases h), (Q.refl _).alloc _⟩
set_option maxHeartbeats 2000000 in
theorem sread_c1 (s : ByteArray) (p m d c : Int) (p0 : 0 ≤ p) (p1 : p ≤ 255) (m0 : 0 ≤ m) (m1 : m ≤ 255) (HD : Hid (∀ W, Calls Tryd.prog 31 #[.string s] W fun e w' => e = .returned (.tuple #[.int .i64 d, .int .i64 c]) ∧ W = w')) (d0 : 0 ≤ d) (dd : d ≤ 999) (hc : (c == 0) = false) (c0 : 0 ≤ c) (c1 : c ≤ 3) (hg : decide (1 < c) = false) (rest : ByteArray) (hs : ∀ W, (Instr.slice 9 (.string s) (some (.int .i64 c)) none none).run Tryd.prog W = .ok (.string rest) W) (hn : ((rest.size : Int) != 7) = true) (w : World) :
    Calls Tryd.prog 22 #[.string s, .int .u8 p, .int .u8 m] w (APost false 0 false w) := by
  go_enter Tryd.func22, Tryd.ntmps22
  go_wp2_with fail
  refine (HD.out _).mono ?_
  rintro e v0 ⟨rfl, rfl⟩
  go_wp2_with fail
  refine bodyPost_ret (results_cell_tmp rfl _ _ _ _ _ _ _ rfl (heap_alloc_new _ _) Tryd.underlying39 rfl (by kernel_rfl)) rfl ⟨_, _, rfl, (fun h => by cases h), (Q.refl _).alloc _⟩
set_option maxHeartbeats 2000000 in
theorem sread_d1 (s : ByteArray) (p m d c : Int) (p0 : 0 ≤ p) (p1 : p ≤ 255) (m0 : 0 ≤ m) (m1 : m ≤ 255) (HD : Hid (∀ W, Calls Tryd.prog 31 #[.string s] W fun e w' => e = .returned (.tuple #[.int .i64 d, .int .i64 c]) ∧ W = w')) (d0 : 0 ≤ d) (dd : d ≤ 999) (hc : (c == 0) = false) (c0 : 0 ≤ c) (c1 : c ≤ 3) (hg : decide (1 < c) = false) (rest : ByteArray) (hs : ∀ W, (Instr.slice 9 (.string s) (some (.int .i64 c)) none none).run Tryd.prog W = .ok (.string rest) W) (hn : ((rest.size : Int) != 7) = false) (y0 : Int) (r0 : ∀ W, (Instr.index 9 (.string rest) (.int .i64 0)).run Tryd.prog W = .ok (.int .u8 y0) W) (h0 : (y0 != 45) = true) (w : World) :
    Calls Tryd.prog 22 #[.string s, .int .u8 p, .int .u8 m] w (APost false 0 false w) := by
  go_enter Tryd.func22, Tryd.ntmps22
  go_wp2_with fail
  refine (HD.out _).mono ?_
  rintro e v0 ⟨rfl, rfl⟩
  go_wp2_with fail
  refine bodyPost_ret (results_cell_tmp rfl _ _ _ _ _ _ _ rfl (heap_alloc_new _ _) Tryd.underlying39 rfl (by kernel_rfl)) rfl ⟨_, _, rfl, (fun h => by cases h), (Q.refl _).alloc _⟩
set_option maxHeartbeats 2000000 in
theorem sread_e1 (s : ByteArray) (p m d c : Int) (p0 : 0 ≤ p) (p1 : p ≤ 255) (m0 : 0 ≤ m) (m1 : m ≤ 255) (HD : Hid (∀ W, Calls Tryd.prog 31 #[.string s] W fun e w' => e = .returned (.tuple #[.int .i64 d, .int .i64 c]) ∧ W = w')) (d0 : 0 ≤ d) (dd : d ≤ 999) (hc : (c == 0) = false) (c0 : 0 ≤ c) (c1 : c ≤ 3) (hg : decide (1 < c) = false) (rest : ByteArray) (hs : ∀ W, (Instr.slice 9 (.string s) (some (.int .i64 c)) none none).run Tryd.prog W = .ok (.string rest) W) (hn : ((rest.size : Int) != 7) = false) (y0 : Int) (r0 : ∀ W, (Instr.index 9 (.string rest) (.int .i64 0)).run Tryd.prog W = .ok (.int .u8 y0) W) (h0 : (y0 != 45) = false) (y3 : Int) (r3 : ∀ W, (Instr.index 9 (.string rest) (.int .i64 3)).run Tryd.prog W = .ok (.int .u8 y3) W) (h3 : (y3 != 45) = true) (w : World) :
    Calls Tryd.prog 22 #[.string s, .int .u8 p, .int .u8 m] w (APost false 0 false w) := by
  go_enter Tryd.func22, Tryd.ntmps22
  go_wp2_with fail
  refine (HD.out _).mono ?_
  rintro e v0 ⟨rfl, rfl⟩
  go_wp2_with fail
  refine bodyPost_ret (results_cell_tmp rfl _ _ _ _ _ _ _ rfl (heap_alloc_new _ _) Tryd.underlying39 rfl (by kernel_rfl)) rfl ⟨_, _, rfl, (fun h => by cases h), (Q.refl _).alloc _⟩
set_option maxHeartbeats 2000000 in
theorem sread_f1 (s : ByteArray) (p m d c : Int) (p0 : 0 ≤ p) (p1 : p ≤ 255) (m0 : 0 ≤ m) (m1 : m ≤ 255) (HD : Hid (∀ W, Calls Tryd.prog 31 #[.string s] W fun e w' => e = .returned (.tuple #[.int .i64 d, .int .i64 c]) ∧ W = w')) (d0 : 0 ≤ d) (dd : d ≤ 999) (hc : (c == 0) = false) (c0 : 0 ≤ c) (c1 : c ≤ 3) (hg : decide (1 < c) = false) (rest : ByteArray) (hs : ∀ W, (Instr.slice 9 (.string s) (some (.int .i64 c)) none none).run Tryd.prog W = .ok (.string rest) W) (hn : ((rest.size : Int) != 7) = false) (y0 : Int) (r0 : ∀ W, (Instr.index 9 (.string rest) (.int .i64 0)).run Tryd.prog W = .ok (.int .u8 y0) W) (h0 : (y0 != 45) = false) (y3 : Int) (r3 : ∀ W, (Instr.index 9 (.string rest) (.int .i64 3)).run Tryd.prog W = .ok (.int .u8 y3) W) (h3 : (y3 != 45) = false) (mi se : ByteArray) (mn mc sc cc : Int) (hmi : ∀ W, (Instr.slice 9 (.string rest) (some (.int .i64 1)) (some (.int .i64 3)) none).run Tryd.prog W = .ok (.string mi) W) (hse : ∀ W, (Instr.slice 9 (.string rest) (some (.int .i64 4)) (some (.int .i64 6)) none).run Tryd.prog W = .ok (.string se) W) (HM : Hid (∀ W, Calls Tryd.prog 31 #[.string mi] W fun e w' => e = .returned (.tuple #[.int .i64 mn, .int .i64 mc]) ∧ W = w')) (HS : Hid (∀ W, Calls Tryd.prog 31 #[.string se] W fun e w' => e = .returned (.tuple #[.int .i64 sc, .int .i64 cc]) ∧ W = w')) (n0 : 0 ≤ mn) (n1 : mn ≤ 999) (s0 : 0 ≤ sc) (s1 : sc ≤ 999) (hf : (mc != 2) = true) (w : World) :
    Calls Tryd.prog 22 #[.string s, .int .u8 p, .int .u8 m] w (APost false 0 false w) := by
  go_enter Tryd.func22, Tryd.ntmps22
  go_wp2_with fail
  refine (HD.out _).mono ?_
  rintro e v0 ⟨rfl, rfl⟩
  go_wp2_with fail
  refine (HM.out _).mono ?_
  rintro e v1 ⟨rfl, rfl⟩
  go_wp2_with fail
  refine (HS.out _).mono ?_
  rintro e v2 ⟨rfl, rfl⟩
  go_wp2_with fail
  refine bodyPost_ret (results_cell_tmp rfl _ _ _ _ _ _ _ rfl (heap_alloc_new _ _) Tryd.underlying39 rfl (by kernel_rfl)) rfl ⟨_, _, rfl, (fun h => by cases h), (Q.refl _).alloc _⟩
set_option maxHeartbeats 2000000 in
theorem sread_g1 (s : ByteArray) (p m d c : Int) (p0 : 0 ≤ p) (p1 : p ≤ 255) (m0 : 0 ≤ m) (m1 : m ≤ 255) (HD : Hid (∀ W, Calls Tryd.prog 31 #[.string s] W fun e w' => e = .returned (.tuple #[.int .i64 d, .int .i64 c]) ∧ W = w')) (d0 : 0 ≤ d) (dd : d ≤ 999) (hc : (c == 0) = false) (c0 : 0 ≤ c) (c1 : c ≤ 3) (hg : decide (1 < c) = false) (rest : ByteArray) (hs : ∀ W, (Instr.slice 9 (.string s) (some (.int .i64 c)) none none).run Tryd.prog W = .ok (.string rest) W) (hn : ((rest.size : Int) != 7) = false) (y0 : Int) (r0 : ∀ W, (Instr.index 9 (.string rest) (.int .i64 0)).run Tryd.prog W = .ok (.int .u8 y0) W) (h0 : (y0 != 45) = false) (y3 : Int) (r3 : ∀ W, (Instr.index 9 (.string rest) (.int .i64 3)).run Tryd.prog W = .ok (.int .u8 y3) W) (h3 : (y3 != 45) = false) (mi se : ByteArray) (mn mc sc cc : Int) (hmi : ∀ W, (Instr.slice 9 (.string rest) (some (.int .i64 1)) (some (.int .i64 3)) none).run Tryd.prog W = .ok (.string mi) W) (hse : ∀ W, (Instr.slice 9 (.string rest) (some (.int .i64 4)) (some (.int .i64 6)) none).run Tryd.prog W = .ok (.string se) W) (HM : Hid (∀ W, Calls Tryd.prog 31 #[.string mi] W fun e w' => e = .returned (.tuple #[.int .i64 mn, .int .i64 mc]) ∧ W = w')) (HS : Hid (∀ W, Calls Tryd.prog 31 #[.string se] W fun e w' => e = .returned (.tuple #[.int .i64 sc, .int .i64 cc]) ∧ W = w')) (n0 : 0 ≤ mn) (n1 : mn ≤ 999) (s0 : 0 ≤ sc) (s1 : sc ≤ 999) (hf : (mc != 2) = false) (hh : (cc != 2) = true) (w : World) :
    Calls Tryd.prog 22 #[.string s, .int .u8 p, .int .u8 m] w (APost false 0 false w) := by
  go_enter Tryd.func22, Tryd.ntmps22
  go_wp2_with fail
  refine (HD.out _).mono ?_
  rintro e v0 ⟨rfl, rfl⟩
  go_wp2_with fail
  refine (HM.out _).mono ?_
  rintro e v1 ⟨rfl, rfl⟩
  go_wp2_with fail
  refine (HS.out _).mono ?_
  rintro e v2 ⟨rfl, rfl⟩
  go_wp2_with fail
  refine bodyPost_ret (results_cell_tmp rfl _ _ _ _ _ _ _ rfl (heap_alloc_new _ _) Tryd.underlying39 rfl (by kernel_rfl)) rfl ⟨_, _, rfl, (fun h => by cases h), (Q.refl _).alloc _⟩
set_option maxHeartbeats 2000000 in
theorem sread_h1t (s : ByteArray) (p m d c : Int) (p0 : 0 ≤ p) (p1 : p ≤ 255) (m0 : 0 ≤ m) (m1 : m ≤ 255) (HD : Hid (∀ W, Calls Tryd.prog 31 #[.string s] W fun e w' => e = .returned (.tuple #[.int .i64 d, .int .i64 c]) ∧ W = w')) (d0 : 0 ≤ d) (dd : d ≤ 999) (hc : (c == 0) = false) (c0 : 0 ≤ c) (c1 : c ≤ 3) (hg : decide (1 < c) = false) (rest : ByteArray) (hs : ∀ W, (Instr.slice 9 (.string s) (some (.int .i64 c)) none none).run Tryd.prog W = .ok (.string rest) W) (hn : ((rest.size : Int) != 7) = false) (y0 : Int) (r0 : ∀ W, (Instr.index 9 (.string rest) (.int .i64 0)).run Tryd.prog W = .ok (.int .u8 y0) W) (h0 : (y0 != 45) = false) (y3 : Int) (r3 : ∀ W, (Instr.index 9 (.string rest) (.int .i64 3)).run Tryd.prog W = .ok (.int .u8 y3) W) (h3 : (y3 != 45) = false) (mi se : ByteArray) (mn mc sc cc : Int) (hmi : ∀ W, (Instr.slice 9 (.string rest) (some (.int .i64 1)) (some (.int .i64 3)) none).run Tryd.prog W = .ok (.string mi) W) (hse : ∀ W, (Instr.slice 9 (.string rest) (some (.int .i64 4)) (some (.int .i64 6)) none).run Tryd.prog W = .ok (.string se) W) (HM : Hid (∀ W, Calls Tryd.prog 31 #[.string mi] W fun e w' => e = .returned (.tuple #[.int .i64 mn, .int .i64 mc]) ∧ W = w')) (HS : Hid (∀ W, Calls Tryd.prog 31 #[.string se] W fun e w' => e = .returned (.tuple #[.int .i64 sc, .int .i64 cc]) ∧ W = w')) (n0 : 0 ≤ mn) (n1 : mn ≤ 999) (s0 : 0 ≤ sc) (s1 : sc ≤ 999) (hf : (mc != 2) = false) (hh : (cc != 2) = false) (y6 : Int) (r6 : ∀ W, (Instr.index 9 (.string rest) (.int .i64 6)).run Tryd.prog W = .ok (.int .u8 y6) W) (bb : Bool) (hb1 : decide (mn ≤ 59) = true) (hb2 : decide (sc ≤ 59) = bb) (hp : (y6 == p) = true) (w : World) :
    Calls Tryd.prog 22 #[.string s, .int .u8 p, .int .u8 m] w (APost true (d * 3600 + mn * 60 + sc) bb w) := by
  go_enter Tryd.func22, Tryd.ntmps22
  go_wp2_with fail
  refine (HD.out _).mono ?_
  rintro e v0 ⟨rfl, rfl⟩
  go_wp2_with fail
  refine (HM.out _).mono ?_
  rintro e v1 ⟨rfl, rfl⟩
  go_wp2_with fail
  refine (HS.out _).mono ?_
  rintro e v2 ⟨rfl, rfl⟩
  go_wp2_with fail
  refine bodyPost_ret (results_cell_tmp rfl _ _ _ _ _ _ _ rfl (heap_alloc_new _ _) Tryd.underlying39 rfl (by kernel_rfl)) rfl ⟨_, _, rfl, (fun _ => ⟨rfl, rfl⟩), (Q.refl _).alloc _⟩
set_option maxHeartbeats 2000000 in
theorem sread_i1tt (s : ByteArray) (p m d c : Int) (p0 : 0 ≤ p) (p1 : p ≤ 255) (m0 : 0 ≤ m) (m1 : m ≤ 255) (HD : Hid (∀ W, Calls Tryd.prog 31 #[.string s] W fun e w' => e = .returned (.tuple #[.int .i64 d, .int .i64 c]) ∧ W = w')) (d0 : 0 ≤ d) (dd : d ≤ 999) (hc : (c == 0) = false) (c0 : 0 ≤ c) (c1 : c ≤ 3) (hg : decide (1 < c) = false) (rest : ByteArray) (hs : ∀ W, (Instr.slice 9 (.string s) (some (.int .i64 c)) none none).run Tryd.prog W = .ok (.string rest) W) (hn : ((rest.size : Int) != 7) = false) (y0 : Int) (r0 : ∀ W, (Instr.index 9 (.string rest) (.int .i64 0)).run Tryd.prog W = .ok (.int .u8 y0) W) (h0 : (y0 != 45) = false) (y3 : Int) (r3 : ∀ W, (Instr.index 9 (.string rest) (.int .i64 3)).run Tryd.prog W = .ok (.int .u8 y3) W) (h3 : (y3 != 45) = false) (mi se : ByteArray) (mn mc sc cc : Int) (hmi : ∀ W, (Instr.slice 9 (.string rest) (some (.int .i64 1)) (some (.int .i64 3)) none).run Tryd.prog W = .ok (.string mi) W) (hse : ∀ W, (Instr.slice 9 (.string rest) (some (.int .i64 4)) (some (.int .i64 6)) none).run Tryd.prog W = .ok (.string se) W) (HM : Hid (∀ W, Calls Tryd.prog 31 #[.string mi] W fun e w' => e = .returned (.tuple #[.int .i64 mn, .int .i64 mc]) ∧ W = w')) (HS : Hid (∀ W, Calls Tryd.prog 31 #[.string se] W fun e w' => e = .returned (.tuple #[.int .i64 sc, .int .i64 cc]) ∧ W = w')) (n0 : 0 ≤ mn) (n1 : mn ≤ 999) (s0 : 0 ≤ sc) (s1 : sc ≤ 999) (hf : (mc != 2) = false) (hh : (cc != 2) = false) (y6 : Int) (r6 : ∀ W, (Instr.index 9 (.string rest) (.int .i64 6)).run Tryd.prog W = .ok (.int .u8 y6) W) (bb : Bool) (hb1 : decide (mn ≤ 59) = true) (hb2 : decide (sc ≤ 59) = bb) (hp : (y6 == p) = false) (hm : (y6 == m) = true) (hz : (-(d * 3600 + mn * 60 + sc) != 0) = true) (w : World) :
    Calls Tryd.prog 22 #[.string s, .int .u8 p, .int .u8 m] w (APost true (-(d * 3600 + mn * 60 + sc)) bb w) := by
  go_enter Tryd.func22, Tryd.ntmps22
  go_wp2_with fail
  refine (HD.out _).mono ?_
  rintro e v0 ⟨rfl, rfl⟩
  go_wp2_with fail
  refine (HM.out _).mono ?_
  rintro e v1 ⟨rfl, rfl⟩
  go_wp2_with fail
  refine (HS.out _).mono ?_
  rintro e v2 ⟨rfl, rfl⟩
  go_wp2_with fail
  refine bodyPost_ret (results_cell_tmp rfl _ _ _ _ _ _ _ rfl (heap_alloc_new _ _) Tryd.underlying39 rfl (by kernel_rfl)) rfl ⟨_, _, rfl, (fun _ => ⟨rfl, rfl⟩), (Q.refl _).alloc _⟩
set_option maxHeartbeats 2000000 in
theorem sread_i1tf (s : ByteArray) (p m d c : Int) (p0 : 0 ≤ p) (p1 : p ≤ 255) (m0 : 0 ≤ m) (m1 : m ≤ 255) (HD : Hid (∀ W, Calls Tryd.prog 31 #[.string s] W fun e w' => e = .returned (.tuple #[.int .i64 d, .int .i64 c]) ∧ W = w')) (d0 : 0 ≤ d) (dd : d ≤ 999) (hc : (c == 0) = false) (c0 : 0 ≤ c) (c1 : c ≤ 3) (hg : decide (1 < c) = false) (rest : ByteArray) (hs : ∀ W, (Instr.slice 9 (.string s) (some (.int .i64 c)) none none).run Tryd.prog W = .ok (.string rest) W) (hn : ((rest.size : Int) != 7) = false) (y0 : Int) (r0 : ∀ W, (Instr.index 9 (.string rest) (.int .i64 0)).run Tryd.prog W = .ok (.int .u8 y0) W) (h0 : (y0 != 45) = false) (y3 : Int) (r3 : ∀ W, (Instr.index 9 (.string rest) (.int .i64 3)).run Tryd.prog W = .ok (.int .u8 y3) W) (h3 : (y3 != 45) = false) (mi se : ByteArray) (mn mc sc cc : Int) (hmi : ∀ W, (Instr.slice 9 (.string rest) (some (.int .i64 1)) (some (.int .i64 3)) none).run Tryd.prog W = .ok (.string mi) W) (hse : ∀ W, (Instr.slice 9 (.string rest) (some (.int .i64 4)) (some (.int .i64 6)) none).run Tryd.prog W = .ok (.string se) W) (HM : Hid (∀ W, Calls Tryd.prog 31 #[.string mi] W fun e w' => e = .returned (.tuple #[.int .i64 mn, .int .i64 mc]) ∧ W = w')) (HS : Hid (∀ W, Calls Tryd.prog 31 #[.string se] W fun e w' => e = .returned (.tuple #[.int .i64 sc, .int .i64 cc]) ∧ W = w')) (n0 : 0 ≤ mn) (n1 : mn ≤ 999) (s0 : 0 ≤ sc) (s1 : sc ≤ 999) (hf : (mc != 2) = false) (hh : (cc != 2) = false) (y6 : Int) (r6 : ∀ W, (Instr.index 9 (.string rest) (.int .i64 6)).run Tryd.prog W = .ok (.int .u8 y6) W) (bb : Bool) (hb1 : decide (mn ≤ 59) = true) (hb2 : decide (sc ≤ 59) = bb) (hp : (y6 == p) = false) (hm : (y6 == m) = true) (hz : (-(d * 3600 + mn * 60 + sc) != 0) = false) (w : World) :
    Calls Tryd.prog 22 #[.string s, .int .u8 p, .int .u8 m] w (APost false (-(d * 3600 + mn * 60 + sc)) bb w) := by
  go_enter Tryd.func22, Tryd.ntmps22
  go_wp2_with fail
  refine (HD.out _).mono ?_
  rintro e v0 ⟨rfl, rfl⟩
  go_wp2_with fail
  refine (HM.out _).mono ?_
  rintro e v1 ⟨rfl, rfl⟩
  go_wp2_with fail
  refine (HS.out _).mono ?_
  rintro e v2 ⟨rfl, rfl⟩
  go_wp2_with fail
  refine bodyPost_ret (results_cell_tmp rfl _ _ _ _ _ _ _ rfl (heap_alloc_new _ _) Tryd.underlying39 rfl (by kernel_rfl)) rfl ⟨_, _, rfl, (fun h => by cases h), (Q.refl _).alloc _⟩
set_option maxHeartbeats 2000000 in
theorem sread_j1t (s : ByteArray) (p m d c : Int) (p0 : 0 ≤ p) (p1 : p ≤ 255) (m0 : 0 ≤ m) (m1 : m ≤ 255) (HD : Hid (∀ W, Calls Tryd.prog 31 #[.string s] W fun e w' => e = .returned (.tuple #[.int .i64 d, .int .i64 c]) ∧ W = w')) (d0 : 0 ≤ d) (dd : d ≤ 999) (hc : (c == 0) = false) (c0 : 0 ≤ c) (c1 : c ≤ 3) (hg : decide (1 < c) = false) (rest : ByteArray) (hs : ∀ W, (Instr.slice 9 (.string s) (some (.int .i64 c)) none none).run Tryd.prog W = .ok (.string rest) W) (hn : ((rest.size : Int) != 7) = false) (y0 : Int) (r0 : ∀ W, (Instr.index 9 (.string rest) (.int .i64 0)).run Tryd.prog W = .ok (.int .u8 y0) W) (h0 : (y0 != 45) = false) (y3 : Int) (r3 : ∀ W, (Instr.index 9 (.string rest) (.int .i64 3)).run Tryd.prog W = .ok (.int .u8 y3) W) (h3 : (y3 != 45) = false) (mi se : ByteArray) (mn mc sc cc : Int) (hmi : ∀ W, (Instr.slice 9 (.string rest) (some (.int .i64 1)) (some (.int .i64 3)) none).run Tryd.prog W = .ok (.string mi) W) (hse : ∀ W, (Instr.slice 9 (.string rest) (some (.int .i64 4)) (some (.int .i64 6)) none).run Tryd.prog W = .ok (.string se) W) (HM : Hid (∀ W, Calls Tryd.prog 31 #[.string mi] W fun e w' => e = .returned (.tuple #[.int .i64 mn, .int .i64 mc]) ∧ W = w')) (HS : Hid (∀ W, Calls Tryd.prog 31 #[.string se] W fun e w' => e = .returned (.tuple #[.int .i64 sc, .int .i64 cc]) ∧ W = w')) (n0 : 0 ≤ mn) (n1 : mn ≤ 999) (s0 : 0 ≤ sc) (s1 : sc ≤ 999) (hf : (mc != 2) = false) (hh : (cc != 2) = false) (y6 : Int) (r6 : ∀ W, (Instr.index 9 (.string rest) (.int .i64 6)).run Tryd.prog W = .ok (.int .u8 y6) W) (bb : Bool) (hb1 : decide (mn ≤ 59) = true) (hb2 : decide (sc ≤ 59) = bb) (hp : (y6 == p) = false) (hm : (y6 == m) = false) (w : World) :
    Calls Tryd.prog 22 #[.string s, .int .u8 p, .int .u8 m] w (APost false 0 false w) := by
  go_enter Tryd.func22, Tryd.ntmps22
  go_wp2_with fail
  refine (HD.out _).mono ?_
  rintro e v0 ⟨rfl, rfl⟩
  go_wp2_with fail
  refine (HM.out _).mono ?_
  rintro e v1 ⟨rfl, rfl⟩
  go_wp2_with fail
  refine (HS.out _).mono ?_
  rintro e v2 ⟨rfl, rfl⟩
  go_wp2_with fail
  refine bodyPost_ret (results_cell_tmp rfl _ _ _ _ _ _ _ rfl (heap_alloc_new _ _) Tryd.underlying39 rfl (by kernel_rfl)) rfl ⟨_, _, rfl, (fun h => by cases h), (Q.refl _).alloc _⟩
set_option maxHeartbeats 2000000 in
theorem sread_h1f (s : ByteArray) (p m d c : Int) (p0 : 0 ≤ p) (p1 : p ≤ 255) (m0 : 0 ≤ m) (m1 : m ≤ 255) (HD : Hid (∀ W, Calls Tryd.prog 31 #[.string s] W fun e w' => e = .returned (.tuple #[.int .i64 d, .int .i64 c]) ∧ W = w')) (d0 : 0 ≤ d) (dd : d ≤ 999) (hc : (c == 0) = false) (c0 : 0 ≤ c) (c1 : c ≤ 3) (hg : decide (1 < c) = false) (rest : ByteArray) (hs : ∀ W, (Instr.slice 9 (.string s) (some (.int .i64 c)) none none).run Tryd.prog W = .ok (.string rest) W) (hn : ((rest.size : Int) != 7) = false) (y0 : Int) (r0 : ∀ W, (Instr.index 9 (.string rest) (.int .i64 0)).run Tryd.prog W = .ok (.int .u8 y0) W) (h0 : (y0 != 45) = false) (y3 : Int) (r3 : ∀ W, (Instr.index 9 (.string rest) (.int .i64 3)).run Tryd.prog W = .ok (.int .u8 y3) W) (h3 : (y3 != 45) = false) (mi se : ByteArray) (mn mc sc cc : Int) (hmi : ∀ W, (Instr.slice 9 (.string rest) (some (.int .i64 1)) (some (.int .i64 3)) none).run Tryd.prog W = .ok (.string mi) W) (hse : ∀ W, (Instr.slice 9 (.string rest) (some (.int .i64 4)) (some (.int .i64 6)) none).run Tryd.prog W = .ok (.string se) W) (HM : Hid (∀ W, Calls Tryd.prog 31 #[.string mi] W fun e w' => e = .returned (.tuple #[.int .i64 mn, .int .i64 mc]) ∧ W = w')) (HS : Hid (∀ W, Calls Tryd.prog 31 #[.string se] W fun e w' => e = .returned (.tuple #[.int .i64 sc, .int .i64 cc]) ∧ W = w')) (n0 : 0 ≤ mn) (n1 : mn ≤ 999) (s0 : 0 ≤ sc) (s1 : sc ≤ 999) (hf : (mc != 2) = false) (hh : (cc != 2) = false) (y6 : Int) (r6 : ∀ W, (Instr.index 9 (.string rest) (.int .i64 6)).run Tryd.prog W = .ok (.int .u8 y6) W) (bb : Bool) (hb1 : decide (mn ≤ 59) = false) (hp : (y6 == p) = true) (w : World) :
    Calls Tryd.prog 22 #[.string s, .int .u8 p, .int .u8 m] w (APost true (d * 3600 + mn * 60 + sc) false w) := by
  go_enter Tryd.func22, Tryd.ntmps22
  go_wp2_with fail
  refine (HD.out _).mono ?_
  rintro e v0 ⟨rfl, rfl⟩
  go_wp2_with fail
  refine (HM.out _).mono ?_
  rintro e v1 ⟨rfl, rfl⟩
  go_wp2_with fail
  refine (HS.out _).mono ?_
  rintro e v2 ⟨rfl, rfl⟩
  go_wp2_with fail
  refine bodyPost_ret (results_cell_tmp rfl _ _ _ _ _ _ _ rfl (heap_alloc_new _ _) Tryd.underlying39 rfl (by kernel_rfl)) rfl ⟨_, _, rfl, (fun _ => ⟨rfl, rfl⟩), (Q.refl _).alloc _⟩
set_option maxHeartbeats 2000000 in
theorem sread_i1ft (s : ByteArray) (p m d c : Int) (p0 : 0 ≤ p) (p1 : p ≤ 255) (m0 : 0 ≤ m) (m1 : m ≤ 255) (HD : Hid (∀ W, Calls Tryd.prog 31 #[.string s] W fun e w' => e = .returned (.tuple #[.int .i64 d, .int .i64 c]) ∧ W = w')) (d0 : 0 ≤ d) (dd : d ≤ 999) (hc : (c == 0) = false) (c0 : 0 ≤ c) (c1 : c ≤ 3) (hg : decide (1 < c) = false) (rest : ByteArray) (hs : ∀ W, (Instr.slice 9 (.string s) (some (.int .i64 c)) none none).run Tryd.prog W = .ok (.string rest) W) (hn : ((rest.size : Int) != 7) = false) (y0 : Int) (r0 : ∀ W, (Instr.index 9 (.string rest) (.int .i64 0)).run Tryd.prog W = .ok (.int .u8 y0) W) (h0 : (y0 != 45) = false) (y3 : Int) (r3 : ∀ W, (Instr.index 9 (.string rest) (.int .i64 3)).run Tryd.prog W = .ok (.int .u8 y3) W) (h3 : (y3 != 45) = false) (mi se : ByteArray) (mn mc sc cc : Int) (hmi : ∀ W, (Instr.slice 9 (.string rest) (some (.int .i64 1)) (some (.int .i64 3)) none).run Tryd.prog W = .ok (.string mi) W) (hse : ∀ W, (Instr.slice 9 (.string rest) (some (.int .i64 4)) (some (.int .i64 6)) none).run Tryd.prog W = .ok (.string se) W) (HM : Hid (∀ W, Calls Tryd.prog 31 #[.string mi] W fun e w' => e = .returned (.tuple #[.int .i64 mn, .int .i64 mc]) ∧ W = w')) (HS : Hid (∀ W, Calls Tryd.prog 31 #[.string se] W fun e w' => e = .returned (.tuple #[.int .i64 sc, .int .i64 cc]) ∧ W = w')) (n0 : 0 ≤ mn) (n1 : mn ≤ 999) (s0 : 0 ≤ sc) (s1 : sc ≤ 999) (hf : (mc != 2) = false) (hh : (cc != 2) = false) (y6 : Int) (r6 : ∀ W, (Instr.index 9 (.string rest) (.int .i64 6)).run Tryd.prog W = .ok (.int .u8 y6) W) (bb : Bool) (hb1 : decide (mn ≤ 59) = false) (hp : (y6 == p) = false) (hm : (y6 == m) = true) (hz : (-(d * 3600 + mn * 60 + sc) != 0) = true) (w : World) :
    Calls Tryd.prog 22 #[.string s, .int .u8 p, .int .u8 m] w (APost true (-(d * 3600 + mn * 60 + sc)) false w) := by
  go_enter Tryd.func22, Tryd.ntmps22
  go_wp2_with fail
  refine (HD.out _).mono ?_
  rintro e v0 ⟨rfl, rfl⟩
  go_wp2_with fail
  refine (HM.out _).mono ?_
  rintro e v1 ⟨rfl, rfl⟩
  go_wp2_with fail
  refine (HS.out _).mono ?_
  rintro e v2 ⟨rfl, rfl⟩
  go_wp2_with fail
  refine bodyPost_ret (results_cell_tmp rfl _ _ _ _ _ _ _ rfl (heap_alloc_new _ _) Tryd.underlying39 rfl (by kernel_rfl)) rfl ⟨_, _, rfl, (fun _ => ⟨rfl, rfl⟩), (Q.refl _).alloc _⟩
set_option maxHeartbeats 2000000 in
theorem sread_i1ff (s : ByteArray) (p m d c : Int) (p0 : 0 ≤ p) (p1 : p ≤ 255) (m0 : 0 ≤ m) (m1 : m ≤ 255) (HD : Hid (∀ W, Calls Tryd.prog 31 #[.string s] W fun e w' => e = .returned (.tuple #[.int .i64 d, .int .i64 c]) ∧ W = w')) (d0 : 0 ≤ d) (dd : d ≤ 999) (hc : (c == 0) = false) (c0 : 0 ≤ c) (c1 : c ≤ 3) (hg : decide (1 < c) = false) (rest : ByteArray) (hs : ∀ W, (Instr.slice 9 (.string s) (some (.int .i64 c)) none none).run Tryd.prog W = .ok (.string rest) W) (hn : ((rest.size : Int) != 7) = false) (y0 : Int) (r0 : ∀ W, (Instr.index 9 (.string rest) (.int .i64 0)).run Tryd.prog W = .ok (.int .u8 y0) W) (h0 : (y0 != 45) = false) (y3 : Int) (r3 : ∀ W, (Instr.index 9 (.string rest) (.int .i64 3)).run Tryd.prog W = .ok (.int .u8 y3) W) (h3 : (y3 != 45) = false) (mi se : ByteArray) (mn mc sc cc : Int) (hmi : ∀ W, (Instr.slice 9 (.string rest) (some (.int .i64 1)) (some (.int .i64 3)) none).run Tryd.prog W = .ok (.string mi) W) (hse : ∀ W, (Instr.slice 9 (.string rest) (some (.int .i64 4)) (some (.int .i64 6)) none).run Tryd.prog W = .ok (.string se) W) (HM : Hid (∀ W, Calls Tryd.prog 31 #[.string mi] W fun e w' => e = .returned (.tuple #[.int .i64 mn, .int .i64 mc]) ∧ W = w')) (HS : Hid (∀ W, Calls Tryd.prog 31 #[.string se] W fun e w' => e = .returned (.tuple #[.int .i64 sc, .int .i64 cc]) ∧ W = w')) (n0 : 0 ≤ mn) (n1 : mn ≤ 999) (s0 : 0 ≤ sc) (s1 : sc ≤ 999) (hf : (mc != 2) = false) (hh : (cc != 2) = false) (y6 : Int) (r6 : ∀ W, (Instr.index 9 (.string rest) (.int .i64 6)).run Tryd.prog W = .ok (.int .u8 y6) W) (bb : Bool) (hb1 : decide (mn ≤ 59) = false) (hp : (y6 == p) = false) (hm : (y6 == m) = true) (hz : (-(d * 3600 + mn * 60 + sc) != 0) = false) (w : World) :
    Calls Tryd.prog 22 #[.string s, .int .u8 p, .int .u8 m] w (APost false (-(d * 3600 + mn * 60 + sc)) false w) := by
  go_enter Tryd.func22, Tryd.ntmps22
  go_wp2_with fail
  refine (HD.out _).mono ?_
  rintro e v0 ⟨rfl, rfl⟩
  go_wp2_with fail
  refine (HM.out _).mono ?_
  rintro e v1 ⟨rfl, rfl⟩
  go_wp2_with fail
  refine (HS.out _).mono ?_
  rintro e v2 ⟨rfl, rfl⟩
  go_wp2_with fail
  refine bodyPost_ret (results_cell_tmp rfl _ _ _ _ _ _ _ rfl (heap_alloc_new _ _) Tryd.underlying39 rfl (by kernel_rfl)) rfl ⟨_, _, rfl, (fun h => by cases h), (Q.refl _).alloc _⟩
set_option maxHeartbeats 2000000 in
theorem sread_j1f (s : ByteArray) (p m d c : Int) (p0 : 0 ≤ p) (p1 : p ≤ 255) (m0 : 0 ≤ m) (m1 : m ≤ 255) (HD : Hid (∀ W, Calls Tryd.prog 31 #[.string s] W fun e w' => e = .returned (.tuple #[.int .i64 d, .int .i64 c]) ∧ W = w')) (d0 : 0 ≤ d) (dd : d ≤ 999) (hc : (c == 0) = false) (c0 : 0 ≤ c) (c1 : c ≤ 3) (hg : decide (1 < c) = false) (rest : ByteArray) (hs : ∀ W, (Instr.slice 9 (.string s) (some (.int .i64 c)) none none).run Tryd.prog W = .ok (.string rest) W) (hn : ((rest.size : Int) != 7) = false) (y0 : Int) (r0 : ∀ W, (Instr.index 9 (.string rest) (.int .i64 0)).run Tryd.prog W = .ok (.int .u8 y0) W) (h0 : (y0 != 45) = false) (y3 : Int) (r3 : ∀ W, (Instr.index 9 (.string rest) (.int .i64 3)).run Tryd.prog W = .ok (.int .u8 y3) W) (h3 : (y3 != 45) = false) (mi se : ByteArray) (mn mc sc cc : Int) (hmi : ∀ W, (Instr.slice 9 (.string rest) (some (.int .i64 1)) (some (.int .i64 3)) none).run Tryd.prog W = .ok (.string mi) W) (hse : ∀ W, (Instr.slice 9 (.string rest) (some (.int .i64 4)) (some (.int .i64 6)) none).run Tryd.prog W = .ok (.string se) W) (HM : Hid (∀ W, Calls Tryd.prog 31 #[.string mi] W fun e w' => e = .returned (.tuple #[.int .i64 mn, .int .i64 mc]) ∧ W = w')) (HS : Hid (∀ W, Calls Tryd.prog 31 #[.string se] W fun e w' => e = .returned (.tuple #[.int .i64 sc, .int .i64 cc]) ∧ W = w')) (n0 : 0 ≤ mn) (n1 : mn ≤ 999) (s0 : 0 ≤ sc) (s1 : sc ≤ 999) (hf : (mc != 2) = false) (hh : (cc != 2) = false) (y6 : Int) (r6 : ∀ W, (Instr.index 9 (.string rest) (.int .i64 6)).run Tryd.prog W = .ok (.int .u8 y6) W) (bb : Bool) (hb1 : decide (mn ≤ 59) = false) (hp : (y6 == p) = false) (hm : (y6 == m) = false) (w : World) :
    Calls Tryd.prog 22 #[.string s, .int .u8 p, .int .u8 m] w (APost false 0 false w) := by
  go_enter Tryd.func22, Tryd.ntmps22
  go_wp2_with fail
  refine (HD.out _).mono ?_
  rintro e v0 ⟨rfl, rfl⟩
  go_wp2_with fail
  refine (HM.out _).mono ?_
  rintro e v1 ⟨rfl, rfl⟩
  go_wp2_with fail
  refine (HS.out _).mono ?_
  rintro e v2 ⟨rfl, rfl⟩
  go_wp2_with fail
  refine bodyPost_ret (results_cell_tmp rfl _ _ _ _ _ _ _ rfl (heap_alloc_new _ _) Tryd.underlying39 rfl (by kernel_rfl)) rfl ⟨_, _, rfl, (fun h => by cases h), (Q.refl _).alloc _⟩
set_option maxHeartbeats 2000000 in
theorem sread_c2 (s : ByteArray) (p m d c : Int) (p0 : 0 ≤ p) (p1 : p ≤ 255) (m0 : 0 ≤ m) (m1 : m ≤ 255) (HD : Hid (∀ W, Calls Tryd.prog 31 #[.string s] W fun e w' => e = .returned (.tuple #[.int .i64 d, .int .i64 c]) ∧ W = w')) (d0 : 0 ≤ d) (dd : d ≤ 999) (hc : (c == 0) = false) (c0 : 0 ≤ c) (c1 : c ≤ 3) (hg : decide (1 < c) = true) (x : Int) (i0 : ∀ W, (Instr.index 9 (.string s) (.int .i64 0)).run Tryd.prog W = .ok (.int .u8 x) W) (hx : (x == 48) = false) (rest : ByteArray) (hs : ∀ W, (Instr.slice 9 (.string s) (some (.int .i64 c)) none none).run Tryd.prog W = .ok (.string rest) W) (hn : ((rest.size : Int) != 7) = true) (w : World) :
    Calls Tryd.prog 22 #[.string s, .int .u8 p, .int .u8 m] w (APost false 0 false w) := by
  go_enter Tryd.func22, Tryd.ntmps22
  go_wp2_with fail
  refine (HD.out _).mono ?_
  rintro e v0 ⟨rfl, rfl⟩
  go_wp2_with fail
  refine bodyPost_ret (results_cell_tmp rfl _ _ _ _ _ _ _ rfl (heap_alloc_new _ _) Tryd.underlying39 rfl (by kernel_rfl)) rfl ⟨_, _, rfl, (fun h => by cases h), (Q.refl _).alloc _⟩
set_option maxHeartbeats 2000000 in
theorem sread_d2 (s : ByteArray) (p m d c : Int) (p0 : 0 ≤ p) (p1 : p ≤ 255) (m0 : 0 ≤ m) (m1 : m ≤ 255) (HD : Hid (∀ W, Calls Tryd.prog 31 #[.string s] W fun e w' => e = .returned (.tuple #[.int .i64 d, .int .i64 c]) ∧ W = w')) (d0 : 0 ≤ d) (dd : d ≤ 999) (hc : (c == 0) = false) (c0 : 0 ≤ c) (c1 : c ≤ 3) (hg : decide (1 < c) = true) (x : Int) (i0 : ∀ W, (Instr.index 9 (.string s) (.int .i64 0)).run Tryd.prog W = .ok (.int .u8 x) W) (hx : (x == 48) = false) (rest : ByteArray) (hs : ∀ W, (Instr.slice 9 (.string s) (some (.int .i64 c)) none none).run Tryd.prog W = .ok (.string rest) W) (hn : ((rest.size : Int) != 7) = false) (y0 : Int) (r0 : ∀ W, (Instr.index 9 (.string rest) (.int .i64 0)).run Tryd.prog W = .ok (.int .u8 y0) W) (h0 : (y0 != 45) = true) (w : World) :
    Calls Tryd.prog 22 #[.string s, .int .u8 p, .int .u8 m] w (APost false 0 false w) := by
  go_enter Tryd.func22, Tryd.ntmps22
  go_wp2_with fail
  refine (HD.out _).mono ?_
  rintro e v0 ⟨rfl, rfl⟩
  go_wp2_with fail
  refine bodyPost_ret (results_cell_tmp rfl _ _ _ _ _ _ _ rfl (heap_alloc_new _ _) Tryd.underlying39 rfl (by kernel_rfl)) rfl ⟨_, _, rfl, (fun h => by cases h), (Q.refl _).alloc _⟩
set_option maxHeartbeats 2000000 in
theorem sread_e2 (s : ByteArray) (p m d c : Int) (p0 : 0 ≤ p) (p1 : p ≤ 255) (m0 : 0 ≤ m) (m1 : m ≤ 255) (HD : Hid (∀ W, Calls Tryd.prog 31 #[.string s] W fun e w' => e = .returned (.tuple #[.int .i64 d, .int .i64 c]) ∧ W = w')) (d0 : 0 ≤ d) (dd : d ≤ 999) (hc : (c == 0) = false) (c0 : 0 ≤ c) (c1 : c ≤ 3) (hg : decide (1 < c) = true) (x : Int) (i0 : ∀ W, (Instr.index 9 (.string s) (.int .i64 0)).run Tryd.prog W = .ok (.int .u8 x) W) (hx : (x == 48) = false) (rest : ByteArray) (hs : ∀ W, (Instr.slice 9 (.string s) (some (.int .i64 c)) none none).run Tryd.prog W = .ok (.string rest) W) (hn : ((rest.size : Int) != 7) = false) (y0 : Int) (r0 : ∀ W, (Instr.index 9 (.string rest) (.int .i64 0)).run Tryd.prog W = .ok (.int .u8 y0) W) (h0 : (y0 != 45) = false) (y3 : Int) (r3 : ∀ W, (Instr.index 9 (.string rest) (.int .i64 3)).run Tryd.prog W = .ok (.int .u8 y3) W) (h3 : (y3 != 45) = true) (w : World) :
    Calls Tryd.prog 22 #[.string s, .int .u8 p, .int .u8 m] w (APost false 0 false w) := by
  go_enter Tryd.func22, Tryd.ntmps22
  go_wp2_with fail
  refine (HD.out _).mono ?_
  rintro e v0 ⟨rfl, rfl⟩
  go_wp2_with fail
  refine bodyPost_ret (results_cell_tmp rfl _ _ _ _ _ _ _ rfl (heap_alloc_new _ _) Tryd.underlying39 rfl (by kernel_rfl)) rfl ⟨_, _, rfl, (fun h => by cases h), (Q.refl _).alloc _⟩
set_option maxHeartbeats 2000000 in
theorem sread_f2 (s : ByteArray) (p m d c : Int) (p0 : 0 ≤ p) (p1 : p ≤ 255) (m0 : 0 ≤ m) (m1 : m ≤ 255) (HD : Hid (∀ W, Calls Tryd.prog 31 #[.string s] W fun e w' => e = .returned (.tuple #[.int .i64 d, .int .i64 c]) ∧ W = w')) (d0 : 0 ≤ d) (dd : d ≤ 999) (hc : (c == 0) = false) (c0 : 0 ≤ c) (c1 : c ≤ 3) (hg : decide (1 < c) = true) (x : Int) (i0 : ∀ W, (Instr.index 9 (.string s) (.int .i64 0)).run Tryd.prog W = .ok (.int .u8 x) W) (hx : (x == 48) = false) (rest : ByteArray) (hs : ∀ W, (Instr.slice 9 (.string s) (some (.int .i64 c)) none none).run Tryd.prog W = .ok (.string rest) W) (hn : ((rest.size : Int) != 7) = false) (y0 : Int) (r0 : ∀ W, (Instr.index 9 (.string rest) (.int .i64 0)).run Tryd.prog W = .ok (.int .u8 y0) W) (h0 : (y0 != 45) = false) (y3 : Int) (r3 : ∀ W, (Instr.index 9 (.string rest) (.int .i64 3)).run Tryd.prog W = .ok (.int .u8 y3) W) (h3 : (y3 != 45) = false) (mi se : ByteArray) (mn mc sc cc : Int) (hmi : ∀ W, (Instr.slice 9 (.string rest) (some (.int .i64 1)) (some (.int .i64 3)) none).run Tryd.prog W = .ok (.string mi) W) (hse : ∀ W, (Instr.slice 9 (.string rest) (some (.int .i64 4)) (some (.int .i64 6)) none).run Tryd.prog W = .ok (.string se) W) (HM : Hid (∀ W, Calls Tryd.prog 31 #[.string mi] W fun e w' => e = .returned (.tuple #[.int .i64 mn, .int .i64 mc]) ∧ W = w')) (HS : Hid (∀ W, Calls Tryd.prog 31 #[.string se] W fun e w' => e = .returned (.tuple #[.int .i64 sc, .int .i64 cc]) ∧ W = w')) (n0 : 0 ≤ mn) (n1 : mn ≤ 999) (s0 : 0 ≤ sc) (s1 : sc ≤ 999) (hf : (mc != 2) = true) (w : World) :
    Calls Tryd.prog 22 #[.string s, .int .u8 p, .int .u8 m] w (APost false 0 false w) := by
  go_enter Tryd.func22, Tryd.ntmps22
  go_wp2_with fail
  refine (HD.out _).mono ?_
  rintro e v0 ⟨rfl, rfl⟩
  go_wp2_with fail
  refine (HM.out _).mono ?_
  rintro e v1 ⟨rfl, rfl⟩
  go_wp2_with fail
  refine (HS.out _).mono ?_
  rintro e v2 ⟨rfl, rfl⟩
  go_wp2_with fail
  refine bodyPost_ret (results_cell_tmp rfl _ _ _ _ _ _ _ rfl (heap_alloc_new _ _) Tryd.underlying39 rfl (by kernel_rfl)) rfl ⟨_, _, rfl, (fun h => by cases h), (Q.refl _).alloc _⟩
set_option maxHeartbeats 2000000 in
theorem sread_g2 (s : ByteArray) (p m d c : Int) (p0 : 0 ≤ p) (p1 : p ≤ 255) (m0 : 0 ≤ m) (m1 : m ≤ 255) (HD : Hid (∀ W, Calls Tryd.prog 31 #[.string s] W fun e w' => e = .returned (.tuple #[.int .i64 d, .int .i64 c]) ∧ W = w')) (d0 : 0 ≤ d) (dd : d ≤ 999) (hc : (c == 0) = false) (c0 : 0 ≤ c) (c1 : c ≤ 3) (hg : decide (1 < c) = true) (x : Int) (i0 : ∀ W, (Instr.index 9 (.string s) (.int .i64 0)).run Tryd.prog W = .ok (.int .u8 x) W) (hx : (x == 48) = false) (rest : ByteArray) (hs : ∀ W, (Instr.slice 9 (.string s) (some (.int .i64 c)) none none).run Tryd.prog W = .ok (.string rest) W) (hn : ((rest.size : Int) != 7) = false) (y0 : Int) (r0 : ∀ W, (Instr.index 9 (.string rest) (.int .i64 0)).run Tryd.prog W = .ok (.int .u8 y0) W) (h0 : (y0 != 45) = false) (y3 : Int) (r3 : ∀ W, (Instr.index 9 (.string rest) (.int .i64 3)).run Tryd.prog W = .ok (.int .u8 y3) W) (h3 : (y3 != 45) = false) (mi se : ByteArray) (mn mc sc cc : Int) (hmi : ∀ W, (Instr.slice 9 (.string rest) (some (.int .i64 1)) (some (.int .i64 3)) none).run Tryd.prog W = .ok (.string mi) W) (hse : ∀ W, (Instr.slice 9 (.string rest) (some (.int .i64 4)) (some (.int .i64 6)) none).run Tryd.prog W = .ok (.string se) W) (HM : Hid (∀ W, Calls Tryd.prog 31 #[.string mi] W fun e w' => e = .returned (.tuple #[.int .i64 mn, .int .i64 mc]) ∧ W = w')) (HS : Hid (∀ W, Calls Tryd.prog 31 #[.string se] W fun e w' => e = .returned (.tuple #[.int .i64 sc, .int .i64 cc]) ∧ W = w')) (n0 : 0 ≤ mn) (n1 : mn ≤ 999) (s0 : 0 ≤ sc) (s1 : sc ≤ 999) (hf : (mc != 2) = false) (hh : (cc != 2) = true) (w : World) :
    Calls Tryd.prog 22 #[.string s, .int .u8 p, .int .u8 m] w (APost false 0 false w) := by
  go_enter Tryd.func22, Tryd.ntmps22
  go_wp2_with fail
  refine (HD.out _).mono ?_
  rintro e v0 ⟨rfl, rfl⟩
  go_wp2_with fail
  refine (HM.out _).mono ?_
  rintro e v1 ⟨rfl, rfl⟩
  go_wp2_with fail
  refine (HS.out _).mono ?_
  rintro e v2 ⟨rfl, rfl⟩
  go_wp2_with fail
  refine bodyPost_ret (results_cell_tmp rfl _ _ _ _ _ _ _ rfl (heap_alloc_new _ _) Tryd.underlying39 rfl (by kernel_rfl)) rfl ⟨_, _, rfl, (fun h => by cases h), (Q.refl _).alloc _⟩
set_option maxHeartbeats 2000000 in
theorem sread_h2t (s : ByteArray) (p m d c : Int) (p0 : 0 ≤ p) (p1 : p ≤ 255) (m0 : 0 ≤ m) (m1 : m ≤ 255) (HD : Hid (∀ W, Calls Tryd.prog 31 #[.string s] W fun e w' => e = .returned (.tuple #[.int .i64 d, .int .i64 c]) ∧ W = w')) (d0 : 0 ≤ d) (dd : d ≤ 999) (hc : (c == 0) = false) (c0 : 0 ≤ c) (c1 : c ≤ 3) (hg : decide (1 < c) = true) (x : Int) (i0 : ∀ W, (Instr.index 9 (.string s) (.int .i64 0)).run Tryd.prog W = .ok (.int .u8 x) W) (hx : (x == 48) = false) (rest : ByteArray) (hs : ∀ W, (Instr.slice 9 (.string s) (some (.int .i64 c)) none none).run Tryd.prog W = .ok (.string rest) W) (hn : ((rest.size : Int) != 7) = false) (y0 : Int) (r0 : ∀ W, (Instr.index 9 (.string rest) (.int .i64 0)).run Tryd.prog W = .ok (.int .u8 y0) W) (h0 : (y0 != 45) = false) (y3 : Int) (r3 : ∀ W, (Instr.index 9 (.string rest) (.int .i64 3)).run Tryd.prog W = .ok (.int .u8 y3) W) (h3 : (y3 != 45) = false) (mi se : ByteArray) (mn mc sc cc : Int) (hmi : ∀ W, (Instr.slice 9 (.string rest) (some (.int .i64 1)) (some (.int .i64 3)) none).run Tryd.prog W = .ok (.string mi) W) (hse : ∀ W, (Instr.slice 9 (.string rest) (some (.int .i64 4)) (some (.int .i64 6)) none).run Tryd.prog W = .ok (.string se) W) (HM : Hid (∀ W, Calls Tryd.prog 31 #[.string mi] W fun e w' => e = .returned (.tuple #[.int .i64 mn, .int .i64 mc]) ∧ W = w')) (HS : Hid (∀ W, Calls Tryd.prog 31 #[.string se] W fun e w' => e = .returned (.tuple #[.int .i64 sc, .int .i64 cc]) ∧ W = w')) (n0 : 0 ≤ mn) (n1 : mn ≤ 999) (s0 : 0 ≤ sc) (s1 : sc ≤ 999) (hf : (mc != 2) = false) (hh : (cc != 2) = false) (y6 : Int) (r6 : ∀ W, (Instr.index 9 (.string rest) (.int .i64 6)).run Tryd.prog W = .ok (.int .u8 y6) W) (bb : Bool) (hb1 : decide (mn ≤ 59) = true) (hb2 : decide (sc ≤ 59) = bb) (hp : (y6 == p) = true) (w : World) :
    Calls Tryd.prog 22 #[.string s, .int .u8 p, .int .u8 m] w (APost true (d * 3600 + mn * 60 + sc) bb w) := by
  go_enter Tryd.func22, Tryd.ntmps22
  go_wp2_with fail
  refine (HD.out _).mono ?_
  rintro e v0 ⟨rfl, rfl⟩
  go_wp2_with fail
  refine (HM.out _).mono ?_
  rintro e v1 ⟨rfl, rfl⟩
  go_wp2_with fail
  refine (HS.out _).mono ?_
  rintro e v2 ⟨rfl, rfl⟩
  go_wp2_with fail
  refine bodyPost_ret (results_cell_tmp rfl _ _ _ _ _ _ _ rfl (heap_alloc_new _ _) Tryd.underlying39 rfl (by kernel_rfl)) rfl ⟨_, _, rfl, (fun _ => ⟨rfl, rfl⟩), (Q.refl _).alloc _⟩
set_option maxHeartbeats 2000000 in
theorem sread_i2tt (s : ByteArray) (p m d c : Int) (p0 : 0 ≤ p) (p1 : p ≤ 255) (m0 : 0 ≤ m) (m1 : m ≤ 255) (HD : Hid (∀ W, Calls Tryd.prog 31 #[.string s] W fun e w' => e = .returned (.tuple #[.int .i64 d, .int .i64 c]) ∧ W = w')) (d0 : 0 ≤ d) (dd : d ≤ 999) (hc : (c == 0) = false) (c0 : 0 ≤ c) (c1 : c ≤ 3) (hg : decide (1 < c) = true) (x : Int) (i0 : ∀ W, (Instr.index 9 (.string s) (.int .i64 0)).run Tryd.prog W = .ok (.int .u8 x) W) (hx : (x == 48) = false) (rest : ByteArray) (hs : ∀ W, (Instr.slice 9 (.string s) (some (.int .i64 c)) none none).run Tryd.prog W = .ok (.string rest) W) (hn : ((rest.size : Int) != 7) = false) (y0 : Int) (r0 : ∀ W, (Instr.index 9 (.string rest) (.int .i64 0)).run Tryd.prog W = .ok (.int .u8 y0) W) (h0 : (y0 != 45) = false) (y3 : Int) (r3 : ∀ W, (Instr.index 9 (.string rest) (.int .i64 3)).run Tryd.prog W = .ok (.int .u8 y3) W) (h3 : (y3 != 45) = false) (mi se : ByteArray) (mn mc sc cc : Int) (hmi : ∀ W, (Instr.slice 9 (.string rest) (some (.int .i64 1)) (some (.int .i64 3)) none).run Tryd.prog W = .ok (.string mi) W) (hse : ∀ W, (Instr.slice 9 (.string rest) (some (.int .i64 4)) (some (.int .i64 6)) none).run Tryd.prog W = .ok (.string se) W) (HM : Hid (∀ W, Calls Tryd.prog 31 #[.string mi] W fun e w' => e = .returned (.tuple #[.int .i64 mn, .int .i64 mc]) ∧ W = w')) (HS : Hid (∀ W, Calls Tryd.prog 31 #[.string se] W fun e w' => e = .returned (.tuple #[.int .i64 sc, .int .i64 cc]) ∧ W = w')) (n0 : 0 ≤ mn) (n1 : mn ≤ 999) (s0 : 0 ≤ sc) (s1 : sc ≤ 999) (hf : (mc != 2) = false) (hh : (cc != 2) = false) (y6 : Int) (r6 : ∀ W, (Instr.index 9 (.string rest) (.int .i64 6)).run Tryd.prog W = .ok (.int .u8 y6) W) (bb : Bool) (hb1 : decide (mn ≤ 59) = true) (hb2 : decide (sc ≤ 59) = bb) (hp : (y6 == p) = false) (hm : (y6 == m) = true) (hz : (-(d * 3600 + mn * 60 + sc) != 0) = true) (w : World) :
    Calls Tryd.prog 22 #[.string s, .int .u8 p, .int .u8 m] w (APost true (-(d * 3600 + mn * 60 + sc)) bb w) := by
  go_enter Tryd.func22, Tryd.ntmps22
  go_wp2_with fail
  refine (HD.out _).mono ?_
  rintro e v0 ⟨rfl, rfl⟩
  go_wp2_with fail
  refine (HM.out _).mono ?_
  rintro e v1 ⟨rfl, rfl⟩
  go_wp2_with fail
  refine (HS.out _).mono ?_
  rintro e v2 ⟨rfl, rfl⟩
  go_wp2_with fail
  refine bodyPost_ret (results_cell_tmp rfl _ _ _ _ _ _ _ rfl (heap_alloc_new _ _) Tryd.underlying39 rfl (by kernel_rfl)) rfl ⟨_, _, rfl, (fun _ => ⟨rfl, rfl⟩), (Q.refl _).alloc _⟩
set_option maxHeartbeats 2000000 in
theorem sread_i2tf (s : ByteArray) (p m d c : Int) (p0 : 0 ≤ p) (p1 : p ≤ 255) (m0 : 0 ≤ m) (m1 : m ≤ 255) (HD : Hid (∀ W, Calls Tryd.prog 31 #[.string s] W fun e w' => e = .returned (.tuple #[.int .i64 d, .int .i64 c]) ∧ W = w')) (d0 : 0 ≤ d) (dd : d ≤ 999) (hc : (c == 0) = false) (c0 : 0 ≤ c) (c1 : c ≤ 3) (hg : decide (1 < c) = true) (x : Int) (i0 : ∀ W, (Instr.index 9 (.string s) (.int .i64 0)).run Tryd.prog W = .ok (.int .u8 x) W) (hx : (x == 48) = false) (rest : ByteArray) (hs : ∀ W, (Instr.slice 9 (.string s) (some (.int .i64 c)) none none).run Tryd.prog W = .ok (.string rest) W) (hn : ((rest.size : Int) != 7) = false) (y0 : Int) (r0 : ∀ W, (Instr.index 9 (.string rest) (.int .i64 0)).run Tryd.prog W = .ok (.int .u8 y0) W) (h0 : (y0 != 45) = false) (y3 : Int) (r3 : ∀ W, (Instr.index 9 (.string rest) (.int .i64 3)).run Tryd.prog W = .ok (.int .u8 y3) W) (h3 : (y3 != 45) = false) (mi se : ByteArray) (mn mc sc cc : Int) (hmi : ∀ W, (Instr.slice 9 (.string rest) (some (.int .i64 1)) (some (.int .i64 3)) none).run Tryd.prog W = .ok (.string mi) W) (hse : ∀ W, (Instr.slice 9 (.string rest) (some (.int .i64 4)) (some (.int .i64 6)) none).run Tryd.prog W = .ok (.string se) W) (HM : Hid (∀ W, Calls Tryd.prog 31 #[.string mi] W fun e w' => e = .returned (.tuple #[.int .i64 mn, .int .i64 mc]) ∧ W = w')) (HS : Hid (∀ W, Calls Tryd.prog 31 #[.string se] W fun e w' => e = .returned (.tuple #[.int .i64 sc, .int .i64 cc]) ∧ W = w')) (n0 : 0 ≤ mn) (n1 : mn ≤ 999) (s0 : 0 ≤ sc) (s1 : sc ≤ 999) (hf : (mc != 2) = false) (hh : (cc != 2) = false) (y6 : Int) (r6 : ∀ W, (Instr.index 9 (.string rest) (.int .i64 6)).run Tryd.prog W = .ok (.int .u8 y6) W) (bb : Bool) (hb1 : decide (mn ≤ 59) = true) (hb2 : decide (sc ≤ 59) = bb) (hp : (y6 == p) = false) (hm : (y6 == m) = true) (hz : (-(d * 3600 + mn * 60 + sc) != 0) = false) (w : World) :
    Calls Tryd.prog 22 #[.string s, .int .u8 p, .int .u8 m] w (APost false (-(d * 3600 + mn * 60 + sc)) bb w) := by
  go_enter Tryd.func22, Tryd.ntmps22
  go_wp2_with fail
  refine (HD.out _).mono ?_
  rintro e v0 ⟨rfl, rfl⟩
  go_wp2_with fail
  refine (HM.out _).mono ?_
  rintro e v1 ⟨rfl, rfl⟩
  go_wp2_with fail
  refine (HS.out _).mono ?_
  rintro e v2 ⟨rfl, rfl⟩
  go_wp2_with fail
  refine bodyPost_ret (results_cell_tmp rfl _ _ _ _ _ _ _ rfl (heap_alloc_new _ _) Tryd.underlying39 rfl (by kernel_rfl)) rfl ⟨_, _, rfl, (fun h => by cases h), (Q.refl _).alloc _⟩
set_option maxHeartbeats 2000000 in
theorem sread_j2t (s : ByteArray) (p m d c : Int) (p0 : 0 ≤ p) (p1 : p ≤ 255) (m0 : 0 ≤ m) (m1 : m ≤ 255) (HD : Hid (∀ W, Calls Tryd.prog 31 #[.string s] W fun e w' => e = .returned (.tuple #[.int .i64 d, .int .i64 c]) ∧ W = w')) (d0 : 0 ≤ d) (dd : d ≤ 999) (hc : (c == 0) = false) (c0 : 0 ≤ c) (c1 : c ≤ 3) (hg : decide (1 < c) = true) (x : Int) (i0 : ∀ W, (Instr.index 9 (.string s) (.int .i64 0)).run Tryd.prog W = .ok (.int .u8 x) W) (hx : (x == 48) = false) (rest : ByteArray) (hs : ∀ W, (Instr.slice 9 (.string s) (some (.int .i64 c)) none none).run Tryd.prog W = .ok (.string rest) W) (hn : ((rest.size : Int) != 7) = false) (y0 : Int) (r0 : ∀ W, (Instr.index 9 (.string rest) (.int .i64 0)).run Tryd.prog W = .ok (.int .u8 y0) W) (h0 : (y0 != 45) = false) (y3 : Int) (r3 : ∀ W, (Instr.index 9 (.string rest) (.int .i64 3)).run Tryd.prog W = .ok (.int .u8 y3) W) (h3 : (y3 != 45) = false) (mi se : ByteArray) (mn mc sc cc : Int) (hmi : ∀ W, (Instr.slice 9 (.string rest) (some (.int .i64 1)) (some (.int .i64 3)) none).run Tryd.prog W = .ok (.string mi) W) (hse : ∀ W, (Instr.slice 9 (.string rest) (some (.int .i64 4)) (some (.int .i64 6)) none).run Tryd.prog W = .ok (.string se) W) (HM : Hid (∀ W, Calls Tryd.prog 31 #[.string mi] W fun e w' => e = .returned (.tuple #[.int .i64 mn, .int .i64 mc]) ∧ W = w')) (HS : Hid (∀ W, Calls Tryd.prog 31 #[.string se] W fun e w' => e = .returned (.tuple #[.int .i64 sc, .int .i64 cc]) ∧ W = w')) (n0 : 0 ≤ mn) (n1 : mn ≤ 999) (s0 : 0 ≤ sc) (s1 : sc ≤ 999) (hf : (mc != 2) = false) (hh : (cc != 2) = false) (y6 : Int) (r6 : ∀ W, (Instr.index 9 (.string rest) (.int .i64 6)).run Tryd.prog W = .ok (.int .u8 y6) W) (bb : Bool) (hb1 : decide (mn ≤ 59) = true) (hb2 : decide (sc ≤ 59) = bb) (hp : (y6 == p) = false) (hm : (y6 == m) = false) (w : World) :
    Calls Tryd.prog 22 #[.string s, .int .u8 p, .int .u8 m] w (APost false 0 false w) := by
  go_enter Tryd.func22, Tryd.ntmps22
  go_wp2_with fail
  refine (HD.out _).mono ?_
  rintro e v0 ⟨rfl, rfl⟩
  go_wp2_with fail
  refine (HM.out _).mono ?_
  rintro e v1 ⟨rfl, rfl⟩
  go_wp2_with fail
  refine (HS.out _).mono ?_
  rintro e v2 ⟨rfl, rfl⟩
  go_wp2_with fail
  refine bodyPost_ret (results_cell_tmp rfl _ _ _ _ _ _ _ rfl (heap_alloc_new _ _) Tryd.underlying39 rfl (by kernel_rfl)) rfl ⟨_, _, rfl, (fun h => by cases h), (Q.refl _).alloc _⟩
set_option maxHeartbeats 2000000 in
theorem sread_h2f (s : ByteArray) (p m d c : Int) (p0 : 0 ≤ p) (p1 : p ≤ 255) (m0 : 0 ≤ m) (m1 : m ≤ 255) (HD : Hid (∀ W, Calls Tryd.prog 31 #[.string s] W fun e w' => e = .returned (.tuple #[.int .i64 d, .int .i64 c]) ∧ W = w')) (d0 : 0 ≤ d) (dd : d ≤ 999) (hc : (c == 0) = false) (c0 : 0 ≤ c) (c1 : c ≤ 3) (hg : decide (1 < c) = true) (x : Int) (i0 : ∀ W, (Instr.index 9 (.string s) (.int .i64 0)).run Tryd.prog W = .ok (.int .u8 x) W) (hx : (x == 48) = false) (rest : ByteArray) (hs : ∀ W, (Instr.slice 9 (.string s) (some (.int .i64 c)) none none).run Tryd.prog W = .ok (.string rest) W) (hn : ((rest.size : Int) != 7) = false) (y0 : Int) (r0 : ∀ W, (Instr.index 9 (.string rest) (.int .i64 0)).run Tryd.prog W = .ok (.int .u8 y0) W) (h0 : (y0 != 45) = false) (y3 : Int) (r3 : ∀ W, (Instr.index 9 (.string rest) (.int .i64 3)).run Tryd.prog W = .ok (.int .u8 y3) W) (h3 : (y3 != 45) = false) (mi se : ByteArray) (mn mc sc cc : Int) (hmi : ∀ W, (Instr.slice 9 (.string rest) (some (.int .i64 1)) (some (.int .i64 3)) none).run Tryd.prog W = .ok (.string mi) W) (hse : ∀ W, (Instr.slice 9 (.string rest) (some (.int .i64 4)) (some (.int .i64 6)) none).run Tryd.prog W = .ok (.string se) W) (HM : Hid (∀ W, Calls Tryd.prog 31 #[.string mi] W fun e w' => e = .returned (.tuple #[.int .i64 mn, .int .i64 mc]) ∧ W = w')) (HS : Hid (∀ W, Calls Tryd.prog 31 #[.string se] W fun e w' => e = .returned (.tuple #[.int .i64 sc, .int .i64 cc]) ∧ W = w')) (n0 : 0 ≤ mn) (n1 : mn ≤ 999) (s0 : 0 ≤ sc) (s1 : sc ≤ 999) (hf : (mc != 2) = false) (hh : (cc != 2) = false) (y6 : Int) (r6 : ∀ W, (Instr.index 9 (.string rest) (.int .i64 6)).run Tryd.prog W = .ok (.int .u8 y6) W) (bb : Bool) (hb1 : decide (mn ≤ 59) = false) (hp : (y6 == p) = true) (w : World) :
    Calls Tryd.prog 22 #[.string s, .int .u8 p, .int .u8 m] w (APost true (d * 3600 + mn * 60 + sc) false w) := by
  go_enter Tryd.func22, Tryd.ntmps22
  go_wp2_with fail
  refine (HD.out _).mono ?_
  rintro e v0 ⟨rfl, rfl⟩
  go_wp2_with fail
  refine (HM.out _).mono ?_
  rintro e v1 ⟨rfl, rfl⟩
  go_wp2_with fail
  refine (HS.out _).mono ?_
  rintro e v2 ⟨rfl, rfl⟩
  go_wp2_with fail
  refine bodyPost_ret (results_cell_tmp rfl _ _ _ _ _ _ _ rfl (heap_alloc_new _ _) Tryd.underlying39 rfl (by kernel_rfl)) rfl ⟨_, _, rfl, (fun _ => ⟨rfl, rfl⟩), (Q.refl _).alloc _⟩
set_option maxHeartbeats 2000000 in
theorem sread_i2ft (s : ByteArray) (p m d c : Int) (p0 : 0 ≤ p) (p1 : p ≤ 255) (m0 : 0 ≤ m) (m1 : m ≤ 255) (HD : Hid (∀ W, Calls Tryd.prog 31 #[.string s] W fun e w' => e = .returned (.tuple #[.int .i64 d, .int .i64 c]) ∧ W = w')) (d0 : 0 ≤ d) (dd : d ≤ 999) (hc : (c == 0) = false) (c0 : 0 ≤ c) (c1 : c ≤ 3) (hg : decide (1 < c) = true) (x : Int) (i0 : ∀ W, (Instr.index 9 (.string s) (.int .i64 0)).run Tryd.prog W = .ok (.int .u8 x) W) (hx : (x == 48) = false) (rest : ByteArray) (hs : ∀ W, (Instr.slice 9 (.string s) (some (.int .i64 c)) none none).run Tryd.prog W = .ok (.string rest) W) (hn : ((rest.size : Int) != 7) = false) (y0 : Int) (r0 : ∀ W, (Instr.index 9 (.string rest) (.int .i64 0)).run Tryd.prog W = .ok (.int .u8 y0) W) (h0 : (y0 != 45) = false) (y3 : Int) (r3 : ∀ W, (Instr.index 9 (.string rest) (.int .i64 3)).run Tryd.prog W = .ok (.int .u8 y3) W) (h3 : (y3 != 45) = false) (mi se : ByteArray) (mn mc sc cc : Int) (hmi : ∀ W, (Instr.slice 9 (.string rest) (some (.int .i64 1)) (some (.int .i64 3)) none).run Tryd.prog W = .ok (.string mi) W) (hse : ∀ W, (Instr.slice 9 (.string rest) (some (.int .i64 4)) (some (.int .i64 6)) none).run Tryd.prog W = .ok (.string se) W) (HM : Hid (∀ W, Calls Tryd.prog 31 #[.string mi] W fun e w' => e = .returned (.tuple #[.int .i64 mn, .int .i64 mc]) ∧ W = w')) (HS : Hid (∀ W, Calls Tryd.prog 31 #[.string se] W fun e w' => e = .returned (.tuple #[.int .i64 sc, .int .i64 cc]) ∧ W = w')) (n0 : 0 ≤ mn) (n1 : mn ≤ 999) (s0 : 0 ≤ sc) (s1 : sc ≤ 999) (hf : (mc != 2) = false) (hh : (cc != 2) = false) (y6 : Int) (r6 : ∀ W, (Instr.index 9 (.string rest) (.int .i64 6)).run Tryd.prog W = .ok (.int .u8 y6) W) (bb : Bool) (hb1 : decide (mn ≤ 59) = false) (hp : (y6 == p) = false) (hm : (y6 == m) = true) (hz : (-(d * 3600 + mn * 60 + sc) != 0) = true) (w : World) :
    Calls Tryd.prog 22 #[.string s, .int .u8 p, .int .u8 m] w (APost true (-(d * 3600 + mn * 60 + sc)) false w) := by
  go_enter Tryd.func22, Tryd.ntmps22
  go_wp2_with fail
  refine (HD.out _).mono ?_
  rintro e v0 ⟨rfl, rfl⟩
  go_wp2_with fail
  refine (HM.out _).mono ?_
  rintro e v1 ⟨rfl, rfl⟩
  go_wp2_with fail
  refine (HS.out _).mono ?_
  rintro e v2 ⟨rfl, rfl⟩
  go_wp2_with fail
  refine bodyPost_ret (results_cell_tmp rfl _ _ _ _ _ _ _ rfl (heap_alloc_new _ _) Tryd.underlying39 rfl (by kernel_rfl)) rfl ⟨_, _, rfl, (fun _ => ⟨rfl, rfl⟩), (Q.refl _).alloc _⟩
set_option maxHeartbeats 2000000 in
theorem sread_i2ff (s : ByteArray) (p m d c : Int) (p0 : 0 ≤ p) (p1 : p ≤ 255) (m0 : 0 ≤ m) (m1 : m ≤ 255) (HD : Hid (∀ W, Calls Tryd.prog 31 #[.string s] W fun e w' => e = .returned (.tuple #[.int .i64 d, .int .i64 c]) ∧ W = w')) (d0 : 0 ≤ d) (dd : d ≤ 999) (hc : (c == 0) = false) (c0 : 0 ≤ c) (c1 : c ≤ 3) (hg : decide (1 < c) = true) (x : Int) (i0 : ∀ W, (Instr.index 9 (.string s) (.int .i64 0)).run Tryd.prog W = .ok (.int .u8 x) W) (hx : (x == 48) = false) (rest : ByteArray) (hs : ∀ W, (Instr.slice 9 (.string s) (some (.int .i64 c)) none none).run Tryd.prog W = .ok (.string rest) W) (hn : ((rest.size : Int) != 7) = false) (y0 : Int) (r0 : ∀ W, (Instr.index 9 (.string rest) (.int .i64 0)).run Tryd.prog W = .ok (.int .u8 y0) W) (h0 : (y0 != 45) = false) (y3 : Int) (r3 : ∀ W, (Instr.index 9 (.string rest) (.int .i64 3)).run Tryd.prog W = .ok (.int .u8 y3) W) (h3 : (y3 != 45) = false) (mi se : ByteArray) (mn mc sc cc : Int) (hmi : ∀ W, (Instr.slice 9 (.string rest) (some (.int .i64 1)) (some (.int .i64 3)) none).run Tryd.prog W = .ok (.string mi) W) (hse : ∀ W, (Instr.slice 9 (.string rest) (some (.int .i64 4)) (some (.int .i64 6)) none).run Tryd.prog W = .ok (.string se) W) (HM : Hid (∀ W, Calls Tryd.prog 31 #[.string mi] W fun e w' => e = .returned (.tuple #[.int .i64 mn, .int .i64 mc]) ∧ W = w')) (HS : Hid (∀ W, Calls Tryd.prog 31 #[.string se] W fun e w' => e = .returned (.tuple #[.int .i64 sc, .int .i64 cc]) ∧ W = w')) (n0 : 0 ≤ mn) (n1 : mn ≤ 999) (s0 : 0 ≤ sc) (s1 : sc ≤ 999) (hf : (mc != 2) = false) (hh : (cc != 2) = false) (y6 : Int) (r6 : ∀ W, (Instr.index 9 (.string rest) (.int .i64 6)).run Tryd.prog W = .ok (.int .u8 y6) W) (bb : Bool) (hb1 : decide (mn ≤ 59) = false) (hp : (y6 == p) = false) (hm : (y6 == m) = true) (hz : (-(d * 3600 + mn * 60 + sc) != 0) = false) (w : World) :
    Calls Tryd.prog 22 #[.string s, .int .u8 p, .int .u8 m] w (APost false (-(d * 3600 + mn * 60 + sc)) false w) := by
  go_enter Tryd.func22, Tryd.ntmps22
  go_wp2_with fail
  refine (HD.out _).mono ?_
  rintro e v0 ⟨rfl, rfl⟩
  go_wp2_with fail
  refine (HM.out _).mono ?_
  rintro e v1 ⟨rfl, rfl⟩
  go_wp2_with fail
  refine (HS.out _).mono ?_
  rintro e v2 ⟨rfl, rfl⟩
  go_wp2_with fail
  refine bodyPost_ret (results_cell_tmp rfl _ _ _ _ _ _ _ rfl (heap_alloc_new _ _) Tryd.underlying39 rfl (by kernel_rfl)) rfl ⟨_, _, rfl, (fun h => by cases h), (Q.refl _).alloc _⟩
set_option maxHeartbeats 2000000 in
theorem sread_j2f (s : ByteArray) (p m d c : Int) (p0 : 0 ≤ p) (p1 : p ≤ 255) (m0 : 0 ≤ m) (m1 : m ≤ 255) (HD : Hid (∀ W, Calls Tryd.prog 31 #[.string s] W fun e w' => e = .returned (.tuple #[.int .i64 d, .int .i64 c]) ∧ W = w')) (d0 : 0 ≤ d) (dd : d ≤ 999) (hc : (c == 0) = false) (c0 : 0 ≤ c) (c1 : c ≤ 3) (hg : decide (1 < c) = true) (x : Int) (i0 : ∀ W, (Instr.index 9 (.string s) (.int .i64 0)).run Tryd.prog W = .ok (.int .u8 x) W) (hx : (x == 48) = false) (rest : ByteArray) (hs : ∀ W, (Instr.slice 9 (.string s) (some (.int .i64 c)) none none).run Tryd.prog W = .ok (.string rest) W) (hn : ((rest.size : Int) != 7) = false) (y0 : Int) (r0 : ∀ W, (Instr.index 9 (.string rest) (.int .i64 0)).run Tryd.prog W = .ok (.int .u8 y0) W) (h0 : (y0 != 45) = false) (y3 : Int) (r3 : ∀ W, (Instr.index 9 (.string rest) (.int .i64 3)).run Tryd.prog W = .ok (.int .u8 y3) W) (h3 : (y3 != 45) = false) (mi se : ByteArray) (mn mc sc cc : Int) (hmi : ∀ W, (Instr.slice 9 (.string rest) (some (.int .i64 1)) (some (.int .i64 3)) none).run Tryd.prog W = .ok (.string mi) W) (hse : ∀ W, (Instr.slice 9 (.string rest) (some (.int .i64 4)) (some (.int .i64 6)) none).run Tryd.prog W = .ok (.string se) W) (HM : Hid (∀ W, Calls Tryd.prog 31 #[.string mi] W fun e w' => e = .returned (.tuple #[.int .i64 mn, .int .i64 mc]) ∧ W = w')) (HS : Hid (∀ W, Calls Tryd.prog 31 #[.string se] W fun e w' => e = .returned (.tuple #[.int .i64 sc, .int .i64 cc]) ∧ W = w')) (n0 : 0 ≤ mn) (n1 : mn ≤ 999) (s0 : 0 ≤ sc) (s1 : sc ≤ 999) (hf : (mc != 2) = false) (hh : (cc != 2) = false) (y6 : Int) (r6 : ∀ W, (Instr.index 9 (.string rest) (.int .i64 6)).run Tryd.prog W = .ok (.int .u8 y6) W) (bb : Bool) (hb1 : decide (mn ≤ 59) = false) (hp : (y6 == p) = false) (hm : (y6 == m) = false) (w : World) :
    Calls Tryd.prog 22 #[.string s, .int .u8 p, .int .u8 m] w (APost false 0 false w) := by
  go_enter Tryd.func22, Tryd.ntmps22
  go_wp2_with fail
  refine (HD.out _).mono ?_
  rintro e v0 ⟨rfl, rfl⟩
  go_wp2_with fail
  refine (HM.out _).mono ?_
  rintro e v1 ⟨rfl, rfl⟩
  go_wp2_with fail
  refine (HS.out _).mono ?_
  rintro e v2 ⟨rfl, rfl⟩
  go_wp2_with fail
  refine bodyPost_ret (results_cell_tmp rfl _ _ _ _ _ _ _ rfl (heap_alloc_new _ _) Tryd.underlying39 rfl (by kernel_rfl)) rfl ⟨_, _, rfl, (fun h => by cases h), (Q.refl _).alloc _⟩
end Go.Proofs.YtmcobpgdledkdaaDoor
