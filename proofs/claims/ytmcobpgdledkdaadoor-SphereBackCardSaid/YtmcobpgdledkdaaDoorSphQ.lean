
/- Contract of sphere.Parse, out of those of strings.Cut and read. -/
import Derived.Test.YtmcobpgdledkdaaDoorSphP
import Derived.Test.YtmcobpgdledkdaaDoorCellB
namespace Go.Proofs.YtmcobpgdledkdaaDoor
open Go.RowKit
set_option linter.unusedVariables false

set_option maxHeartbeats 4000000 in
theorem sparse_syn (s b h : ByteArray) (t ok1 ok2 f1 f2 : Bool) (a1 a2 : Int) (w : World)
    (HC : Hid (∀ W, Calls Tryd.prog 21 #[.string s, .string ⟨#[32]⟩] W fun e w' => e = .returned (.tuple #[.string b, .string h, .bool t]) ∧ Q W w'))
    (HA : Hid (∀ W, Calls Tryd.prog 22 #[.string b, .int .u8 78, .int .u8 83] W (APost ok1 a1 f1 W)))
    (HB : Hid (∀ W, Calls Tryd.prog 22 #[.string h, .int .u8 69, .int .u8 87] W (APost ok2 a2 f2 W))) (ho : ok1 = false ∨ ok2 = false) :
    Calls Tryd.prog 15 #[.string s] w fun e w' => e = .returned (.tuple #[.agg #[.int .i64 0, .int .i64 0], .int .i64 20]) ∧ Q w w' := by
  go_enter Tryd.func15, Tryd.ntmps15
  go_wp2_with fail
  refine (HC.out _).mono ?_
  rintro e w1 ⟨rfl, q1⟩
  go_wp2_with fail
  refine (HA.out _).mono ?_
  rintro e w2 ⟨x1, y1, rfl, g1, q2⟩
  go_wp2_with fail
  refine (HB.out _).mono ?_
  rintro e w3 ⟨x2, y2, rfl, g2, q3⟩
  have hb : w3.heap[w.heap.size]? = some (.cells #[.int .i64 0, .int .i64 0] 23 (0, 0)) := b_next q3 (b_next ((Q.refl _).alloc _) (b_next q2 (b_next q1 (heap_alloc_new _ _))))
  have hl : w3.heap[w2.heap.size]? = some (.cells #[.int .i64 x1, .bool y1] 39 (0, 0)) := b_next q3 (heap_alloc_new _ _)
  obtain ⟨m0, m1, p0, p1⟩ := row2 hb
  obtain ⟨m2, m3, p2, p3⟩ := row2 hl
  have z0 := block_lt_of_cell m0
  have z1 : w.heap.size < w2.heap.size := by have a := q1.sz; have b := q2.sz; rw [size_alloc] at a; omega
  have z2 := block_lt_of_cell m2
  have HP := Lib.hid hb
  have q13 := Lib.hid ((((q1.trans q2).trans ((q3.behind _))).behind _))
  clear hb hl q1 q2 q3
  cases ok1
  · go_wp2_with fail
    refine bodyPost_ret (results_cell_tmp rfl _ _ _ _ _ _ _ rfl (b_next ((Q.refl _).alloc _) (set2 HP.out)) Tryd.underlying23 rfl (by kernel_rfl)) rfl ⟨rfl, ?_⟩
    repeat first | (refine Q.setCell ?_ (by simp; try omega) _) | (refine Q.alloc ?_ _)
    exact q13.out
  · obtain rfl : ok2 = false := by simpa using ho
    go_wp2_with fail
    refine bodyPost_ret (results_cell_tmp rfl _ _ _ _ _ _ _ rfl (b_next ((Q.refl _).alloc _) (set2 HP.out)) Tryd.underlying23 rfl (by kernel_rfl)) rfl ⟨rfl, ?_⟩
    repeat first | (refine Q.setCell ?_ (by simp; try omega) _) | (refine Q.alloc ?_ _)
    exact q13.out
set_option maxHeartbeats 4000000 in
theorem sparse_rng (s b h : ByteArray) (t f1 f2 : Bool) (a1 a2 : Int) (w : World)
    (HC : Hid (∀ W, Calls Tryd.prog 21 #[.string s, .string ⟨#[32]⟩] W fun e w' => e = .returned (.tuple #[.string b, .string h, .bool t]) ∧ Q W w'))
    (HA : Hid (∀ W, Calls Tryd.prog 22 #[.string b, .int .u8 78, .int .u8 83] W (APost true a1 f1 W)))
    (HB : Hid (∀ W, Calls Tryd.prog 22 #[.string h, .int .u8 69, .int .u8 87] W (APost true a2 f2 W))) (ho : f1 = false ∨ f2 = false ∨ ¬ Sph.vld a2 a1) :
    Calls Tryd.prog 15 #[.string s] w fun e w' => e = .returned (.tuple #[.agg #[.int .i64 0, .int .i64 0], .int .i64 2]) ∧ Q w w' := by
  go_enter Tryd.func15, Tryd.ntmps15
  go_wp2_with fail
  refine (HC.out _).mono ?_
  rintro e w1 ⟨rfl, q1⟩
  go_wp2_with fail
  refine (HA.out _).mono ?_
  rintro e w2 ⟨x1, y1, rfl, g1, q2⟩
  obtain ⟨rfl, rfl⟩ := g1 rfl
  clear g1
  go_wp2_with fail
  refine (HB.out _).mono ?_
  rintro e w3 ⟨x2, y2, rfl, g2, q3⟩
  obtain ⟨rfl, rfl⟩ := g2 rfl
  clear g2
  have hb : w3.heap[w.heap.size]? = some (.cells #[.int .i64 0, .int .i64 0] 23 (0, 0)) := b_next q3 (b_next ((Q.refl _).alloc _) (b_next q2 (b_next q1 (heap_alloc_new _ _))))
  have hl : w3.heap[w2.heap.size]? = some (.cells #[.int .i64 x1, .bool y1] 39 (0, 0)) := b_next q3 (heap_alloc_new _ _)
  obtain ⟨m0, m1, p0, p1⟩ := row2 hb
  obtain ⟨m2, m3, p2, p3⟩ := row2 hl
  have z0 := block_lt_of_cell m0
  have z1 : w.heap.size < w2.heap.size := by have a := q1.sz; have b := q2.sz; rw [size_alloc] at a; omega
  have z2 := block_lt_of_cell m2
  have HP := Lib.hid hb
  have q13 := Lib.hid ((((q1.trans q2).trans ((q3.behind _))).behind _))
  clear hb hl q1 q2 q3
  cases y1
  · go_wp2_with fail
    refine bodyPost_ret (results_cell_tmp rfl _ _ _ _ _ _ _ rfl (b_next ((Q.refl _).alloc _) (set2 (set2 HP.out))) Tryd.underlying23 rfl (by kernel_rfl)) rfl ⟨rfl, ?_⟩
    repeat first | (refine Q.setCell ?_ (by simp; try omega) _) | (refine Q.alloc ?_ _)
    exact q13.out
  cases y2
  · go_wp2_with fail
    refine bodyPost_ret (results_cell_tmp rfl _ _ _ _ _ _ _ rfl (b_next ((Q.refl _).alloc _) (set2 (set2 HP.out))) Tryd.underlying23 rfl (by kernel_rfl)) rfl ⟨rfl, ?_⟩
    repeat first | (refine Q.setCell ?_ (by simp; try omega) _) | (refine Q.alloc ?_ _)
    exact q13.out
  · have HN := Lib.hid (show ¬ Sph.vld x2 x1 by simpa using ho)
    clear ho
    go_wp2_with fail
    refine (svalid_no _ _ _ HN.out).mono ?_
    rintro e w4 ⟨rfl, q4⟩
    have hb4 : w4.heap[w.heap.size]? = some (.cells #[.int .i64 x2, .int .i64 x1] 23 (0, 0)) := b_next q4 (b_next ((Q.refl _).alloc _) (set2 HP.out))
    obtain ⟨n0, n1, r0, r1⟩ := row2 hb4
    have q14 : Hid (Q w w4) := Lib.hid (((((q13.out.setCell (by simp) _).setCell (by simp) _).alloc _).trans q4))
    have HP4 := Lib.hid hb4
    clear hb4 m0 m1 p0 p1 m2 m3 p2 p3 q4
    go_wp2_with fail
    refine bodyPost_ret (results_cell_tmp rfl _ _ _ _ _ _ _ rfl (set2 HP4.out) Tryd.underlying23 rfl (by kernel_rfl)) rfl ⟨rfl, ?_⟩
    repeat first | (refine Q.setCell ?_ (by simp; try omega) _) | (refine Q.alloc ?_ _)
    exact q14.out
set_option maxHeartbeats 4000000 in
theorem sparse_ok (s b h : ByteArray) (t : Bool) (a1 a2 : Int) (w : World)
    (HC : Hid (∀ W, Calls Tryd.prog 21 #[.string s, .string ⟨#[32]⟩] W fun e w' => e = .returned (.tuple #[.string b, .string h, .bool t]) ∧ Q W w'))
    (HA : Hid (∀ W, Calls Tryd.prog 22 #[.string b, .int .u8 78, .int .u8 83] W (APost true a1 true W)))
    (HB : Hid (∀ W, Calls Tryd.prog 22 #[.string h, .int .u8 69, .int .u8 87] W (APost true a2 true W))) (ho : Sph.vld a2 a1) :
    Calls Tryd.prog 15 #[.string s] w fun e w' => e = .returned (.tuple #[.agg #[.int .i64 a2, .int .i64 a1], .int .i64 0]) ∧ Q w w' := by
  go_enter Tryd.func15, Tryd.ntmps15
  go_wp2_with fail
  refine (HC.out _).mono ?_
  rintro e w1 ⟨rfl, q1⟩
  go_wp2_with fail
  refine (HA.out _).mono ?_
  rintro e w2 ⟨x1, y1, rfl, g1, q2⟩
  obtain ⟨rfl, rfl⟩ := g1 rfl
  clear g1
  go_wp2_with fail
  refine (HB.out _).mono ?_
  rintro e w3 ⟨x2, y2, rfl, g2, q3⟩
  obtain ⟨rfl, rfl⟩ := g2 rfl
  clear g2
  have hb : w3.heap[w.heap.size]? = some (.cells #[.int .i64 0, .int .i64 0] 23 (0, 0)) := b_next q3 (b_next ((Q.refl _).alloc _) (b_next q2 (b_next q1 (heap_alloc_new _ _))))
  have hl : w3.heap[w2.heap.size]? = some (.cells #[.int .i64 x1, .bool true] 39 (0, 0)) := b_next q3 (heap_alloc_new _ _)
  obtain ⟨m0, m1, p0, p1⟩ := row2 hb
  obtain ⟨m2, m3, p2, p3⟩ := row2 hl
  have z0 := block_lt_of_cell m0
  have z1 : w.heap.size < w2.heap.size := by have a := q1.sz; have b := q2.sz; rw [size_alloc] at a; omega
  have z2 := block_lt_of_cell m2
  have HP := Lib.hid hb
  have q13 := Lib.hid ((((q1.trans q2).trans ((q3.behind _))).behind _))
  clear hb hl q1 q2 q3
  have HN := Lib.hid ho
  clear ho
  go_wp2_with fail
  refine (svalid_yes _ _ _ HN.out).mono ?_
  rintro e w4 ⟨rfl, q4⟩
  have hb4 : w4.heap[w.heap.size]? = some (.cells #[.int .i64 x2, .int .i64 x1] 23 (0, 0)) := b_next q4 (b_next ((Q.refl _).alloc _) (set2 HP.out))
  obtain ⟨n0, n1, r0, r1⟩ := row2 hb4
  have q14 : Hid (Q w w4) := Lib.hid (((((q13.out.setCell (by simp) _).setCell (by simp) _).alloc _).trans q4))
  have HP4 := Lib.hid hb4
  clear hb4 m0 m1 p0 p1 m2 m3 p2 p3 q4
  go_wp2_with fail
  refine bodyPost_ret (results_cell_tmp rfl _ _ _ _ _ _ _ rfl (set2 HP4.out) Tryd.underlying23 rfl (by kernel_rfl)) rfl ⟨rfl, ?_⟩
  repeat first | (refine Q.setCell ?_ (by simp; try omega) _) | (refine Q.alloc ?_ _)
  exact q14.out
end Go.Proofs.YtmcobpgdledkdaaDoor
