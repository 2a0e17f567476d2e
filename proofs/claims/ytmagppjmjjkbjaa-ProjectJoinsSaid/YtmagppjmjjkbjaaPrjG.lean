
/- Contracts of project.From and of the reference's From: the same positions and errors. -/
import Derived.Test.YtmagppjmjjkbjaaPrjF
import Derived.Test.YtmagppjmjjkbjaaPrjX
import Derived.Test.YtmagppjmjjkbjaaPrjL
namespace Go.Proofs.Ytmagppjmjjkbjaa
open Go.RowKit
set_option linter.unusedVariables false

namespace Prj
/-- The latitude and the longitude that are nearest. -/
def ny (K A S b : Int) : Int := near (north K A S) b (-306000) 306000
def nx (K L A S a b : Int) : Int := near (fun x => east K L S x (ny K A S b)) a (-648000) 648000
theorem pick_bd (F : Int → Int) (t lo hi r : Int) (h0 : lo ≤ r) (h1 : r ≤ hi) : lo ≤ pick F t lo r ∧ pick F t lo r ≤ hi := by
  unfold pick
  split
  · rename_i h; omega
  · omega
theorem near_bd (F : Int → Int) (t lo hi : Int) (h : lo ≤ hi) : lo ≤ near F t lo hi ∧ near F t lo hi ≤ hi := by
  have := bs_bd F t 21 lo hi h
  exact pick_bd F t lo hi _ this.1 this.2
theorem ny_bd (K A S b : Int) : -306000 ≤ ny K A S b ∧ ny K A S b ≤ 306000 := near_bd _ _ _ _ (by omega)
theorem nx_bd (K L A S a b : Int) : -648000 ≤ nx K L A S a b ∧ nx K L A S a b ≤ 648000 := near_bd _ _ _ _ (by omega)
/-- The position found is right within the resolution. -/
def hits (K L A S a b : Int) : Prop := good K L A S (nx K L A S a b) (ny K A S b) ∧ far (qx K L A S (nx K L A S a b) (ny K A S b)) a ≤ 1 ∧ far (qy K L A S (nx K L A S a b) (ny K A S b)) b ≤ 1
instance (K L A S a b : Int) : Decidable (hits K L A S a b) := by unfold hits; infer_instance
def fx (K L A S a b : Int) : Int := if pt a b ∧ hits K L A S a b then nx K L A S a b else 0
def fy (K L A S a b : Int) : Int := if pt a b ∧ hits K L A S a b then ny K A S b else 0
def fe (K L A S a b : Int) : Int := if pt a b then (if hits K L A S a b then 0 else 7) else 2
theorem qx_bd (K L A S x y : Int) : -1048576 ≤ qx K L A S x y ∧ qx K L A S x y ≤ 1048576 := by
  unfold qx
  split
  · rename_i h; exact ⟨h.2.1, h.2.2.1⟩
  · omega
theorem qy_bd (K L A S x y : Int) : -1048576 ≤ qy K L A S x y ∧ qy K L A S x y ≤ 1048576 := by
  unfold qy
  split
  · rename_i h; exact ⟨h.2.2.2.1, h.2.2.2.2⟩
  · omega
theorem north_bd (K L A S y : Int) (h : Ok K L A S) (h0 : -306000 ≤ y) (h1 : y ≤ 306000) : -62500000 ≤ north K A S y ∧ north K A S y ≤ 62500000 := by
  have := nv_bd K A y h.v.2.2.1 h.v.2.2.2 h0 h1
  exact scl_bd S _ h.s0 h.s1 this.1 this.2
theorem east_bd (K L A S x y : Int) (h : Ok K L A S) (h0 : -648000 ≤ x) (h1 : x ≤ 648000) : -62500000 ≤ east K L S x y ∧ east K L S x y ≤ 62500000 := by
  have := eu_bd K L x y (by have := h.v.2.1; omega) (by have := h.v.1; omega)
  exact scl_bd S _ h.s0 h.s1 (by omega) (by omega)
end Prj

set_option maxHeartbeats 4000000 in
theorem From_err (K L A S a b er : Int) (her : (er != 0) = true) (w : World) (HC : Hid (∀ w, Calls Try.prog 11 #[.agg #[.int .i64 K, .int .i64 L, .int .i64 A, .int .i64 S]] w fun e w' => e = .returned (.int .i64 er) ∧ Q w w')) :
    Calls Try.prog 15 #[.agg #[.int .i64 K, .int .i64 L, .int .i64 A, .int .i64 S], .agg #[.int .i64 a, .int .i64 b]] w fun e w' => e = .returned (.tuple #[.agg #[.int .i64 0, .int .i64 0], .int .i64 er]) ∧ Q w w' := by
  go_enter Try.func15, Try.ntmps15
  go_wp2_with fail
  refine (HC.out _).mono ?_
  rintro e w1 ⟨rfl, q1⟩
  have hb := t2_start K L A S a b w w1 q1
  have m0 : w1.cell? ⟨w.heap.size + 2, 0, none⟩ = some (.int .i64 0) := by rw [cell_of_row w1 _ 0 _ _ _ hb]; rfl
  have m1 : w1.cell? ⟨w.heap.size + 2, 1, none⟩ = some (.int .i64 0) := by rw [cell_of_row w1 _ 1 _ _ _ hb]; rfl
  have f0 := frozen_of_row w1 _ 0 _ _ hb
  have f1 := frozen_of_row w1 _ 1 _ _ hb
  have HB := Lib.hid hb
  clear hb
  go_wp2_with fail
  refine bodyPost_ret (results_cell_tmp rfl _ _ _ _ _ _ _ rfl (heap_setCell_same _ _ _ _ _ _ (heap_setCell_same _ _ _ _ _ _ HB.out)) Try.underlying29 rfl (by kernel_rfl)) rfl ⟨rfl, ?_⟩
  repeat (refine Q.setCell ?_ (by simp; try omega) _)
  exact ((q1.behind _).behind _).behind _
set_option maxHeartbeats 4000000 in
theorem From_out (K L A S a b : Int) (w : World) (h : Prj.Ok K L A S) (hp : ¬ Prj.pt a b) :
    Calls Try.prog 15 #[.agg #[.int .i64 K, .int .i64 L, .int .i64 A, .int .i64 S], .agg #[.int .i64 a, .int .i64 b]] w fun e w' => e = .returned (.tuple #[.agg #[.int .i64 0, .int .i64 0], .int .i64 2]) ∧ Q w w' := by
  have HC := Lib.hid (fun W => pcheck_yes K L A S W h)
  have HV := Lib.hid (fun W => pvalid_no a b W hp)
  clear h hp
  go_enter Try.func15, Try.ntmps15
  go_wp2_with fail
  refine (HC.out _).mono ?_
  rintro e w1 ⟨rfl, q1⟩
  have HK := Lib.hid (s6_start K L A S a b w w1 q1)
  obtain ⟨k0, k1, k2, k3, k4, k5, k6⟩ := HK.out
  clear k6
  go_wp2_with fail
  refine (HV.out _).mono ?_
  rintro e w2 ⟨rfl, q2⟩
  clear k0 k1 k2 k3 k4 k5
  have hb := b_next q2 (t2_start K L A S a b w w1 q1)
  have m0 : w2.cell? ⟨w.heap.size + 2, 0, none⟩ = some (.int .i64 0) := by rw [cell_of_row w2 _ 0 _ _ _ hb]; rfl
  have m1 : w2.cell? ⟨w.heap.size + 2, 1, none⟩ = some (.int .i64 0) := by rw [cell_of_row w2 _ 1 _ _ _ hb]; rfl
  have f0 := frozen_of_row w2 _ 0 _ _ hb
  have f1 := frozen_of_row w2 _ 1 _ _ hb
  have HB := Lib.hid hb
  clear hb
  go_wp2_with fail
  refine bodyPost_ret (results_cell_tmp rfl _ _ _ _ _ _ _ rfl (heap_setCell_same _ _ _ _ _ _ (heap_setCell_same _ _ _ _ _ _ HB.out)) Try.underlying29 rfl (by kernel_rfl)) rfl ⟨rfl, ?_⟩
  repeat (refine Q.setCell ?_ (by simp; try omega) _)
  exact (((q1.trans q2).behind _).behind _).behind _

set_option maxHeartbeats 4000000 in
theorem rFrom_err (K L A S a b er : Int) (her : (er != 0) = true) (w : World) (HC : Hid (∀ w, Calls Try.prog 12 #[.agg #[.int .i64 K, .int .i64 L, .int .i64 A, .int .i64 S]] w fun e w' => e = .returned (.int .i64 er) ∧ Q w w')) :
    Calls Try.prog 16 #[.agg #[.int .i64 K, .int .i64 L, .int .i64 A, .int .i64 S], .agg #[.int .i64 a, .int .i64 b]] w fun e w' => e = .returned (.tuple #[.agg #[.int .i64 0, .int .i64 0], .int .i64 er]) ∧ Q w w' := by
  go_enter Try.func16, Try.ntmps16
  go_wp2_with fail
  refine (HC.out _).mono ?_
  rintro e w1 ⟨rfl, q1⟩
  have hb := t2_start K L A S a b w w1 q1
  have m0 : w1.cell? ⟨w.heap.size + 2, 0, none⟩ = some (.int .i64 0) := by rw [cell_of_row w1 _ 0 _ _ _ hb]; rfl
  have m1 : w1.cell? ⟨w.heap.size + 2, 1, none⟩ = some (.int .i64 0) := by rw [cell_of_row w1 _ 1 _ _ _ hb]; rfl
  have f0 := frozen_of_row w1 _ 0 _ _ hb
  have f1 := frozen_of_row w1 _ 1 _ _ hb
  have HB := Lib.hid hb
  clear hb
  go_wp2_with fail
  refine bodyPost_ret (results_cell_tmp rfl _ _ _ _ _ _ _ rfl (heap_setCell_same _ _ _ _ _ _ (heap_setCell_same _ _ _ _ _ _ HB.out)) Try.underlying29 rfl (by kernel_rfl)) rfl ⟨rfl, ?_⟩
  repeat (refine Q.setCell ?_ (by simp; try omega) _)
  exact ((q1.behind _).behind _).behind _
set_option maxHeartbeats 4000000 in
theorem rFrom_out (K L A S a b : Int) (w : World) (h : Prj.Ok K L A S) (hp : ¬ Prj.pt a b) :
    Calls Try.prog 16 #[.agg #[.int .i64 K, .int .i64 L, .int .i64 A, .int .i64 S], .agg #[.int .i64 a, .int .i64 b]] w fun e w' => e = .returned (.tuple #[.agg #[.int .i64 0, .int .i64 0], .int .i64 2]) ∧ Q w w' := by
  have HC := Lib.hid (fun W => rpcheck_yes K L A S W h)
  have HV := Lib.hid (fun W => rpoint_no a b W hp)
  clear h hp
  go_enter Try.func16, Try.ntmps16
  go_wp2_with fail
  refine (HC.out _).mono ?_
  rintro e w1 ⟨rfl, q1⟩
  have HK := Lib.hid (s6_start K L A S a b w w1 q1)
  obtain ⟨k0, k1, k2, k3, k4, k5, k6⟩ := HK.out
  clear k6
  go_wp2_with fail
  refine (HV.out _).mono ?_
  rintro e w2 ⟨rfl, q2⟩
  clear k0 k1 k2 k3 k4 k5
  have hb := b_next q2 (t2_start K L A S a b w w1 q1)
  have m0 : w2.cell? ⟨w.heap.size + 2, 0, none⟩ = some (.int .i64 0) := by rw [cell_of_row w2 _ 0 _ _ _ hb]; rfl
  have m1 : w2.cell? ⟨w.heap.size + 2, 1, none⟩ = some (.int .i64 0) := by rw [cell_of_row w2 _ 1 _ _ _ hb]; rfl
  have f0 := frozen_of_row w2 _ 0 _ _ hb
  have f1 := frozen_of_row w2 _ 1 _ _ hb
  have HB := Lib.hid hb
  clear hb
  go_wp2_with fail
  refine bodyPost_ret (results_cell_tmp rfl _ _ _ _ _ _ _ rfl (heap_setCell_same _ _ _ _ _ _ (heap_setCell_same _ _ _ _ _ _ HB.out)) Try.underlying29 rfl (by kernel_rfl)) rfl ⟨rfl, ?_⟩
  repeat (refine Q.setCell ?_ (by simp; try omega) _)
  exact (((q1.trans q2).behind _).behind _).behind _

set_option maxRecDepth 100000 in
set_option maxHeartbeats 16000000 in
theorem rFrom_in (K L A S a b : Int) (w : World) (h : Prj.Ok K L A S) (hp : Prj.pt a b) :
    Calls Try.prog 16 #[.agg #[.int .i64 K, .int .i64 L, .int .i64 A, .int .i64 S], .agg #[.int .i64 a, .int .i64 b]] w fun e w' => e = .returned (.tuple #[.agg #[.int .i64 (if Prj.hits K L A S a b then Prj.nx K L A S a b else 0), .int .i64 (if Prj.hits K L A S a b then Prj.ny K A S b else 0)], .int .i64 (if Prj.hits K L A S a b then 0 else 7)]) ∧ Q w w' := by
  have HC := Lib.hid (fun W => rpcheck_yes K L A S W h)
  have HV := Lib.hid (fun W => rpoint_yes a b W hp)
  have HY := Lib.hid (fun W => rlatitude K L A S (Prj.north K A S) b W hp.2.2.1 hp.2.2.2 (fun m h0 h1 => Prj.north_bd K L A S m h h0 h1) (fun m h0 h1 W => rnorth_any K L A S m W h.s0 h.s1 h0 h1 h.v.2.2.1 h.v.2.2.2))
  have yb := Prj.ny_bd K A S b
  have HX := Lib.hid (fun W => rlongitude K L A S (Prj.ny K A S b) (fun x => Prj.east K L S x (Prj.ny K A S b)) a W hp.1 hp.2.1 (fun m h0 h1 => Prj.east_bd K L A S m _ h h0 h1) (fun m h0 h1 W => reast_any K L A S m _ W h.s0 h.s1 h0 h1 h.v.1 h.v.2.1 (by omega) (by omega)))
  have HT := Lib.hid (fun W => rTo_ok K L A S (Prj.nx K L A S a b) (Prj.ny K A S b) W h)
  have bx := Prj.qx_bd K L A S (Prj.nx K L A S a b) (Prj.ny K A S b)
  have by' := Prj.qy_bd K L A S (Prj.nx K L A S a b) (Prj.ny K A S b)
  have HD1 := Lib.hid (fun W => far_any (Prj.qx K L A S (Prj.nx K L A S a b) (Prj.ny K A S b)) a W (by have := hp.1; have := hp.2.1; omega) (by have := hp.1; have := hp.2.1; omega))
  have HD2 := Lib.hid (fun W => far_any (Prj.qy K L A S (Prj.nx K L A S a b) (Prj.ny K A S b)) b W (by have := hp.2.2.1; have := hp.2.2.2; omega) (by have := hp.2.2.1; have := hp.2.2.2; omega))
  have HH : Hid (Prj.hits K L A S a b ↔ (Prj.qe K L A S (Prj.nx K L A S a b) (Prj.ny K A S b) = 0 ∧ Prj.far (Prj.qx K L A S (Prj.nx K L A S a b) (Prj.ny K A S b)) a ≤ 1 ∧ Prj.far (Prj.qy K L A S (Prj.nx K L A S a b) (Prj.ny K A S b)) b ≤ 1)) := by
    unfold Prj.hits Prj.qe
    by_cases g : Prj.good K L A S (Prj.nx K L A S a b) (Prj.ny K A S b)
    · rw [if_pos g]
      exact ⟨fun h => ⟨rfl, h.2⟩, fun h => ⟨g, h.2⟩⟩
    · rw [if_neg g]
      exact ⟨fun h => absurd h.1 g, fun h => absurd h.1 (by decide)⟩
  rw [show Prj.near (Prj.north K A S) b (-306000) 306000 = Prj.ny K A S b from rfl] at HY
  rw [show Prj.near (fun x => Prj.east K L S x (Prj.ny K A S b)) a (-648000) 648000 = Prj.nx K L A S a b from rfl] at HX
  generalize Prj.qe K L A S (Prj.nx K L A S a b) (Prj.ny K A S b) = qe at *
  generalize Prj.qx K L A S (Prj.nx K L A S a b) (Prj.ny K A S b) = qx at *
  generalize Prj.qy K L A S (Prj.nx K L A S a b) (Prj.ny K A S b) = qy at *
  generalize Prj.far qx a = d1 at *
  generalize Prj.far qy b = d2 at *
  generalize Prj.nx K L A S a b = xx at *
  generalize Prj.ny K A S b = yy at *
  clear h hp yb bx by'
  by_cases c0 : qe = 0
  rotate_left
  · have dq : (qe != 0) = true := by simpa using c0
    rw [if_neg (fun h => c0 (HH.out.1 h).1), if_neg (fun h => c0 (HH.out.1 h).1), if_neg (fun h => c0 (HH.out.1 h).1)]
    clear c0 HH
    go_enter Try.func16, Try.ntmps16
    go_wp2_with fail
    refine (HC.out _).mono ?_
    rintro e w1 ⟨rfl, q1⟩
    have HK1 := Lib.hid (s6_start K L A S a b w w1 q1)
    have HB1 := Lib.hid (t2_start K L A S a b w w1 q1)
    obtain ⟨k0, k1, k2, k3, k4, k5, k6⟩ := HK1.out
    clear k6
    go_wp2_with fail
    refine (HV.out _).mono ?_
    rintro e w2 ⟨rfl, q2⟩
    clear k0 k1 k2 k3 k4 k5
    obtain ⟨k0, k1, k2, k3, k4, k5, k6⟩ := s6_next HK1.out q2
    clear k6
    go_wp2_with fail
    refine (HY.out _).mono ?_
    rintro e w3 ⟨rfl, q3⟩
    have q23 := q2.trans q3
    clear k0 k1 k2 k3 k4 k5
    obtain ⟨k0, k1, k2, k3, k4, k5, k6⟩ := s6_next HK1.out q23
    clear k6
    go_wp2_with fail
    refine (HX.out _).mono ?_
    rintro e w4 ⟨rfl, q4⟩
    have q24 := q23.trans q4
    have z4 := b_next q24 HB1.out
    have z4' : w.heap.size + 2 < w4.heap.size := (Array.getElem?_eq_some_iff.1 z4).1
    have z40 : w.heap.size + 1 < w4.heap.size := by omega
    have z41 : w.heap.size < w4.heap.size := by omega
    clear k0 k1 k2 k3 k4 k5 z4
    obtain ⟨k0, k1, k2, k3, k4, k5, k6⟩ := s6_next HK1.out q24
    clear k6
    have q4a := Q.alloc (Q.refl w4) (.cells #[.int .i64 xx, .int .i64 yy] 29)
    have HP8 := Lib.hid (heap_alloc_new w4 (.cells #[.int .i64 xx, .int .i64 yy] 29))
    go_wp2_with fail
    refine (HT.out _).mono ?_
    rintro e w5 ⟨rfl, q5⟩
    clear k0 k1 k2 k3 k4 k5
    have q25 := (q24.trans q4a).trans q5
    have z5 : w.heap.size + 2 < w5.heap.size := by have := (q4a.trans q5).sz; omega
    have z50 : w.heap.size + 1 < w5.heap.size := by omega
    have z51 : w4.heap.size < w5.heap.size := by have := q5.sz; simp at this; omega
    obtain ⟨k0, k1, k2, k3, k4, k5, k6⟩ := s6_next HK1.out q25
    have hb := b_next q25 HB1.out
    have hp8 := b_next q5 HP8.out
    have m0 : w5.cell? ⟨w.heap.size + 2, 0, none⟩ = some (.int .i64 0) := by rw [cell_of_row w5 _ 0 _ _ _ hb]; rfl
    have m1 : w5.cell? ⟨w.heap.size + 2, 1, none⟩ = some (.int .i64 0) := by rw [cell_of_row w5 _ 1 _ _ _ hb]; rfl
    have f0 := frozen_of_row w5 _ 0 _ _ hb
    have f1 := frozen_of_row w5 _ 1 _ _ hb
    have p0 : w5.cell? ⟨w4.heap.size, 0, none⟩ = some (.int .i64 xx) := by rw [cell_of_row w5 _ 0 _ _ _ hp8]; rfl
    have p1 : w5.cell? ⟨w4.heap.size, 1, none⟩ = some (.int .i64 yy) := by rw [cell_of_row w5 _ 1 _ _ _ hp8]; rfl
    have HB := Lib.hid (show (w5.alloc (.cells #[.int .i64 qx, .int .i64 qy] 29)).heap[w.heap.size + 2]? = some (.cells #[.int .i64 0, .int .i64 0] 29 (0, 0)) from b_next ((Q.refl _).alloc _) hb)
    have HB5 := Lib.hid hb
    have HQ5 := Lib.hid (show Q w w5 from (((q1.trans q25).behind _).behind _).behind _)
    have HQ := Lib.hid (show Q w (w5.alloc (.cells #[.int .i64 qx, .int .i64 qy] 29)) from ((((q1.trans q25).alloc _).behind _).behind _).behind _)
    clear k0 k1 k2 k3 k6 hb hp8 q1 q2 q3 q4 q5 q23 q24 q25 q4a
    go_wp2_with fail
    refine bodyPost_ret (results_cell_tmp rfl _ _ _ _ _ _ _ rfl (by first | exact heap_setCell_same _ _ _ _ _ _ (heap_setCell_same _ _ _ _ _ _ HB.out) | exact b_next ((Q.refl _).alloc _) (heap_setCell_same _ _ _ _ _ _ (heap_setCell_same _ _ _ _ _ _ HB5.out))) Try.underlying29 rfl (by kernel_rfl)) rfl ⟨rfl, ?_⟩
    first
      | ((repeat (refine Q.setCell ?_ (by simp; try omega) _)); exact HQ.out)
      | (refine Q.alloc ?_ _; (repeat (refine Q.setCell ?_ (by simp; try omega) _)); exact HQ5.out)
  have dq : (qe != 0) = false := by simpa using c0
  by_cases c1 : d1 ≤ 1
  rotate_left
  · have e1 : decide (1 < d1) = true := by simp; omega
    rw [if_neg (fun h => c1 (HH.out.1 h).2.1), if_neg (fun h => c1 (HH.out.1 h).2.1), if_neg (fun h => c1 (HH.out.1 h).2.1)]
    clear c0 c1 HH
    go_enter Try.func16, Try.ntmps16
    go_wp2_with fail
    refine (HC.out _).mono ?_
    rintro e w1 ⟨rfl, q1⟩
    have HK1 := Lib.hid (s6_start K L A S a b w w1 q1)
    have HB1 := Lib.hid (t2_start K L A S a b w w1 q1)
    obtain ⟨k0, k1, k2, k3, k4, k5, k6⟩ := HK1.out
    clear k6
    go_wp2_with fail
    refine (HV.out _).mono ?_
    rintro e w2 ⟨rfl, q2⟩
    clear k0 k1 k2 k3 k4 k5
    obtain ⟨k0, k1, k2, k3, k4, k5, k6⟩ := s6_next HK1.out q2
    clear k6
    go_wp2_with fail
    refine (HY.out _).mono ?_
    rintro e w3 ⟨rfl, q3⟩
    have q23 := q2.trans q3
    clear k0 k1 k2 k3 k4 k5
    obtain ⟨k0, k1, k2, k3, k4, k5, k6⟩ := s6_next HK1.out q23
    clear k6
    go_wp2_with fail
    refine (HX.out _).mono ?_
    rintro e w4 ⟨rfl, q4⟩
    have q24 := q23.trans q4
    have z4 := b_next q24 HB1.out
    have z4' : w.heap.size + 2 < w4.heap.size := (Array.getElem?_eq_some_iff.1 z4).1
    have z40 : w.heap.size + 1 < w4.heap.size := by omega
    have z41 : w.heap.size < w4.heap.size := by omega
    clear k0 k1 k2 k3 k4 k5 z4
    obtain ⟨k0, k1, k2, k3, k4, k5, k6⟩ := s6_next HK1.out q24
    clear k6
    have q4a := Q.alloc (Q.refl w4) (.cells #[.int .i64 xx, .int .i64 yy] 29)
    have HP8 := Lib.hid (heap_alloc_new w4 (.cells #[.int .i64 xx, .int .i64 yy] 29))
    go_wp2_with fail
    refine (HT.out _).mono ?_
    rintro e w5 ⟨rfl, q5⟩
    clear k0 k1 k2 k3 k4 k5
    have q25 := (q24.trans q4a).trans q5
    have z5 : w.heap.size + 2 < w5.heap.size := by have := (q4a.trans q5).sz; omega
    have z50 : w.heap.size + 1 < w5.heap.size := by omega
    have z51 : w4.heap.size < w5.heap.size := by have := q5.sz; simp at this; omega
    obtain ⟨k0, k1, k2, k3, k4, k5, k6⟩ := s6_next HK1.out q25
    have hb := b_next q25 HB1.out
    have hp8 := b_next q5 HP8.out
    have m0 : w5.cell? ⟨w.heap.size + 2, 0, none⟩ = some (.int .i64 0) := by rw [cell_of_row w5 _ 0 _ _ _ hb]; rfl
    have m1 : w5.cell? ⟨w.heap.size + 2, 1, none⟩ = some (.int .i64 0) := by rw [cell_of_row w5 _ 1 _ _ _ hb]; rfl
    have f0 := frozen_of_row w5 _ 0 _ _ hb
    have f1 := frozen_of_row w5 _ 1 _ _ hb
    have p0 : w5.cell? ⟨w4.heap.size, 0, none⟩ = some (.int .i64 xx) := by rw [cell_of_row w5 _ 0 _ _ _ hp8]; rfl
    have p1 : w5.cell? ⟨w4.heap.size, 1, none⟩ = some (.int .i64 yy) := by rw [cell_of_row w5 _ 1 _ _ _ hp8]; rfl
    have HB := Lib.hid (show (w5.alloc (.cells #[.int .i64 qx, .int .i64 qy] 29)).heap[w.heap.size + 2]? = some (.cells #[.int .i64 0, .int .i64 0] 29 (0, 0)) from b_next ((Q.refl _).alloc _) hb)
    have HB5 := Lib.hid hb
    have HQ5 := Lib.hid (show Q w w5 from (((q1.trans q25).behind _).behind _).behind _)
    have HQ := Lib.hid (show Q w (w5.alloc (.cells #[.int .i64 qx, .int .i64 qy] 29)) from ((((q1.trans q25).alloc _).behind _).behind _).behind _)
    clear k0 k1 k2 k3 k6 hb hp8 q1 q2 q3 q4 q5 q23 q24 q25 q4a
    go_wp2_with fail
    refine (HD1.out _).mono ?_
    rintro e w6 ⟨rfl, rfl⟩
    go_wp2_with fail
    refine bodyPost_ret (results_cell_tmp rfl _ _ _ _ _ _ _ rfl (by first | exact heap_setCell_same _ _ _ _ _ _ (heap_setCell_same _ _ _ _ _ _ HB.out) | exact b_next ((Q.refl _).alloc _) (heap_setCell_same _ _ _ _ _ _ (heap_setCell_same _ _ _ _ _ _ HB5.out))) Try.underlying29 rfl (by kernel_rfl)) rfl ⟨rfl, ?_⟩
    first
      | ((repeat (refine Q.setCell ?_ (by simp; try omega) _)); exact HQ.out)
      | (refine Q.alloc ?_ _; (repeat (refine Q.setCell ?_ (by simp; try omega) _)); exact HQ5.out)
  have e1 : decide (1 < d1) = false := by simp; omega
  by_cases c2 : d2 ≤ 1
  rotate_left
  · have e2 : decide (1 < d2) = true := by simp; omega
    rw [if_neg (fun h => c2 (HH.out.1 h).2.2), if_neg (fun h => c2 (HH.out.1 h).2.2), if_neg (fun h => c2 (HH.out.1 h).2.2)]
    clear c0 c1 c2 HH
    go_enter Try.func16, Try.ntmps16
    go_wp2_with fail
    refine (HC.out _).mono ?_
    rintro e w1 ⟨rfl, q1⟩
    have HK1 := Lib.hid (s6_start K L A S a b w w1 q1)
    have HB1 := Lib.hid (t2_start K L A S a b w w1 q1)
    obtain ⟨k0, k1, k2, k3, k4, k5, k6⟩ := HK1.out
    clear k6
    go_wp2_with fail
    refine (HV.out _).mono ?_
    rintro e w2 ⟨rfl, q2⟩
    clear k0 k1 k2 k3 k4 k5
    obtain ⟨k0, k1, k2, k3, k4, k5, k6⟩ := s6_next HK1.out q2
    clear k6
    go_wp2_with fail
    refine (HY.out _).mono ?_
    rintro e w3 ⟨rfl, q3⟩
    have q23 := q2.trans q3
    clear k0 k1 k2 k3 k4 k5
    obtain ⟨k0, k1, k2, k3, k4, k5, k6⟩ := s6_next HK1.out q23
    clear k6
    go_wp2_with fail
    refine (HX.out _).mono ?_
    rintro e w4 ⟨rfl, q4⟩
    have q24 := q23.trans q4
    have z4 := b_next q24 HB1.out
    have z4' : w.heap.size + 2 < w4.heap.size := (Array.getElem?_eq_some_iff.1 z4).1
    have z40 : w.heap.size + 1 < w4.heap.size := by omega
    have z41 : w.heap.size < w4.heap.size := by omega
    clear k0 k1 k2 k3 k4 k5 z4
    obtain ⟨k0, k1, k2, k3, k4, k5, k6⟩ := s6_next HK1.out q24
    clear k6
    have q4a := Q.alloc (Q.refl w4) (.cells #[.int .i64 xx, .int .i64 yy] 29)
    have HP8 := Lib.hid (heap_alloc_new w4 (.cells #[.int .i64 xx, .int .i64 yy] 29))
    go_wp2_with fail
    refine (HT.out _).mono ?_
    rintro e w5 ⟨rfl, q5⟩
    clear k0 k1 k2 k3 k4 k5
    have q25 := (q24.trans q4a).trans q5
    have z5 : w.heap.size + 2 < w5.heap.size := by have := (q4a.trans q5).sz; omega
    have z50 : w.heap.size + 1 < w5.heap.size := by omega
    have z51 : w4.heap.size < w5.heap.size := by have := q5.sz; simp at this; omega
    obtain ⟨k0, k1, k2, k3, k4, k5, k6⟩ := s6_next HK1.out q25
    have hb := b_next q25 HB1.out
    have hp8 := b_next q5 HP8.out
    have m0 : w5.cell? ⟨w.heap.size + 2, 0, none⟩ = some (.int .i64 0) := by rw [cell_of_row w5 _ 0 _ _ _ hb]; rfl
    have m1 : w5.cell? ⟨w.heap.size + 2, 1, none⟩ = some (.int .i64 0) := by rw [cell_of_row w5 _ 1 _ _ _ hb]; rfl
    have f0 := frozen_of_row w5 _ 0 _ _ hb
    have f1 := frozen_of_row w5 _ 1 _ _ hb
    have p0 : w5.cell? ⟨w4.heap.size, 0, none⟩ = some (.int .i64 xx) := by rw [cell_of_row w5 _ 0 _ _ _ hp8]; rfl
    have p1 : w5.cell? ⟨w4.heap.size, 1, none⟩ = some (.int .i64 yy) := by rw [cell_of_row w5 _ 1 _ _ _ hp8]; rfl
    have HB := Lib.hid (show (w5.alloc (.cells #[.int .i64 qx, .int .i64 qy] 29)).heap[w.heap.size + 2]? = some (.cells #[.int .i64 0, .int .i64 0] 29 (0, 0)) from b_next ((Q.refl _).alloc _) hb)
    have HB5 := Lib.hid hb
    have HQ5 := Lib.hid (show Q w w5 from (((q1.trans q25).behind _).behind _).behind _)
    have HQ := Lib.hid (show Q w (w5.alloc (.cells #[.int .i64 qx, .int .i64 qy] 29)) from ((((q1.trans q25).alloc _).behind _).behind _).behind _)
    clear k0 k1 k2 k3 k6 hb hp8 q1 q2 q3 q4 q5 q23 q24 q25 q4a
    go_wp2_with fail
    refine (HD1.out _).mono ?_
    rintro e w6 ⟨rfl, rfl⟩
    go_wp2_with fail
    refine (HD2.out _).mono ?_
    rintro e w7 ⟨rfl, rfl⟩
    go_wp2_with fail
    refine bodyPost_ret (results_cell_tmp rfl _ _ _ _ _ _ _ rfl (by first | exact heap_setCell_same _ _ _ _ _ _ (heap_setCell_same _ _ _ _ _ _ HB.out) | exact b_next ((Q.refl _).alloc _) (heap_setCell_same _ _ _ _ _ _ (heap_setCell_same _ _ _ _ _ _ HB5.out))) Try.underlying29 rfl (by kernel_rfl)) rfl ⟨rfl, ?_⟩
    first
      | ((repeat (refine Q.setCell ?_ (by simp; try omega) _)); exact HQ.out)
      | (refine Q.alloc ?_ _; (repeat (refine Q.setCell ?_ (by simp; try omega) _)); exact HQ5.out)
  have e2 : decide (1 < d2) = false := by simp; omega
  have hh := HH.out.2 ⟨c0, c1, c2⟩
  rw [if_pos hh, if_pos hh, if_pos hh]
  clear c0 c1 c2 HH hh
  go_enter Try.func16, Try.ntmps16
  go_wp2_with fail
  refine (HC.out _).mono ?_
  rintro e w1 ⟨rfl, q1⟩
  have HK1 := Lib.hid (s6_start K L A S a b w w1 q1)
  have HB1 := Lib.hid (t2_start K L A S a b w w1 q1)
  obtain ⟨k0, k1, k2, k3, k4, k5, k6⟩ := HK1.out
  clear k6
  go_wp2_with fail
  refine (HV.out _).mono ?_
  rintro e w2 ⟨rfl, q2⟩
  clear k0 k1 k2 k3 k4 k5
  obtain ⟨k0, k1, k2, k3, k4, k5, k6⟩ := s6_next HK1.out q2
  clear k6
  go_wp2_with fail
  refine (HY.out _).mono ?_
  rintro e w3 ⟨rfl, q3⟩
  have q23 := q2.trans q3
  clear k0 k1 k2 k3 k4 k5
  obtain ⟨k0, k1, k2, k3, k4, k5, k6⟩ := s6_next HK1.out q23
  clear k6
  go_wp2_with fail
  refine (HX.out _).mono ?_
  rintro e w4 ⟨rfl, q4⟩
  have q24 := q23.trans q4
  have z4 := b_next q24 HB1.out
  have z4' : w.heap.size + 2 < w4.heap.size := (Array.getElem?_eq_some_iff.1 z4).1
  have z40 : w.heap.size + 1 < w4.heap.size := by omega
  have z41 : w.heap.size < w4.heap.size := by omega
  clear k0 k1 k2 k3 k4 k5 z4
  obtain ⟨k0, k1, k2, k3, k4, k5, k6⟩ := s6_next HK1.out q24
  clear k6
  have q4a := Q.alloc (Q.refl w4) (.cells #[.int .i64 xx, .int .i64 yy] 29)
  have HP8 := Lib.hid (heap_alloc_new w4 (.cells #[.int .i64 xx, .int .i64 yy] 29))
  go_wp2_with fail
  refine (HT.out _).mono ?_
  rintro e w5 ⟨rfl, q5⟩
  clear k0 k1 k2 k3 k4 k5
  have q25 := (q24.trans q4a).trans q5
  have z5 : w.heap.size + 2 < w5.heap.size := by have := (q4a.trans q5).sz; omega
  have z50 : w.heap.size + 1 < w5.heap.size := by omega
  have z51 : w4.heap.size < w5.heap.size := by have := q5.sz; simp at this; omega
  obtain ⟨k0, k1, k2, k3, k4, k5, k6⟩ := s6_next HK1.out q25
  have hb := b_next q25 HB1.out
  have hp8 := b_next q5 HP8.out
  have m0 : w5.cell? ⟨w.heap.size + 2, 0, none⟩ = some (.int .i64 0) := by rw [cell_of_row w5 _ 0 _ _ _ hb]; rfl
  have m1 : w5.cell? ⟨w.heap.size + 2, 1, none⟩ = some (.int .i64 0) := by rw [cell_of_row w5 _ 1 _ _ _ hb]; rfl
  have f0 := frozen_of_row w5 _ 0 _ _ hb
  have f1 := frozen_of_row w5 _ 1 _ _ hb
  have p0 : w5.cell? ⟨w4.heap.size, 0, none⟩ = some (.int .i64 xx) := by rw [cell_of_row w5 _ 0 _ _ _ hp8]; rfl
  have p1 : w5.cell? ⟨w4.heap.size, 1, none⟩ = some (.int .i64 yy) := by rw [cell_of_row w5 _ 1 _ _ _ hp8]; rfl
  have HB := Lib.hid (show (w5.alloc (.cells #[.int .i64 qx, .int .i64 qy] 29)).heap[w.heap.size + 2]? = some (.cells #[.int .i64 0, .int .i64 0] 29 (0, 0)) from b_next ((Q.refl _).alloc _) hb)
  have HB5 := Lib.hid hb
  have HQ5 := Lib.hid (show Q w w5 from (((q1.trans q25).behind _).behind _).behind _)
  have HQ := Lib.hid (show Q w (w5.alloc (.cells #[.int .i64 qx, .int .i64 qy] 29)) from ((((q1.trans q25).alloc _).behind _).behind _).behind _)
  clear k0 k1 k2 k3 k6 hb hp8 q1 q2 q3 q4 q5 q23 q24 q25 q4a
  go_wp2_with fail
  refine (HD1.out _).mono ?_
  rintro e w6 ⟨rfl, rfl⟩
  go_wp2_with fail
  refine (HD2.out _).mono ?_
  rintro e w7 ⟨rfl, rfl⟩
  go_wp2_with fail
  refine bodyPost_ret (results_cell_tmp rfl _ _ _ _ _ _ _ rfl (by first | exact heap_setCell_same _ _ _ _ _ _ (heap_setCell_same _ _ _ _ _ _ HB.out) | exact b_next ((Q.refl _).alloc _) (heap_setCell_same _ _ _ _ _ _ (heap_setCell_same _ _ _ _ _ _ HB5.out))) Try.underlying29 rfl (by kernel_rfl)) rfl ⟨rfl, ?_⟩
  first
    | ((repeat (refine Q.setCell ?_ (by simp; try omega) _)); exact HQ.out)
    | (refine Q.alloc ?_ _; (repeat (refine Q.setCell ?_ (by simp; try omega) _)); exact HQ5.out)
end Go.Proofs.Ytmagppjmjjkbjaa
