
/- Contract of project.From for valid projections and points. -/
import Derived.Test.YtmagppjmjjkbjaaPrjG
namespace Go.Proofs.Ytmagppjmjjkbjaa
open Go.RowKit
set_option linter.unusedVariables false

theorem row_cell {w : World} {b i : Nat} {cs : Array Value} {T : TypeId} {fr : Nat × Nat} {v : Value} (h : w.heap[b]? = some (.cells cs T fr)) (hv : cs[i]? = some v) : w.cell? ⟨b, i, none⟩ = some v := by
  rw [cell_of_row w b i cs T fr h]
  exact hv

theorem east_store {base : Nat} {w0 : World} {E : Value} {K L : Int} (h : EastOk base w0 E K L) : ∀ (w : World) (a : Addr) (m : Mode), (store a E m).run Try.prog w = stored Try.prog w a E m := by
  obtain ⟨f, c, rfl, _⟩ := h
  intro w a m
  exact run_store _ w a _ m rfl
theorem north_store {base : Nat} {w0 : World} {N : Value} {K A : Int} (h : NorthOk base w0 N K A) : ∀ (w : World) (a : Addr) (m : Mode), (store a N m).run Try.prog w = stored Try.prog w a N m := by
  rcases h with ⟨f, c, rfl, _⟩ | ⟨f, c, d, rfl, _⟩
  · intro w a m
    exact run_store _ w a _ m rfl
  · intro w a m
    exact run_store _ w a _ m rfl

set_option maxRecDepth 100000 in
set_option maxHeartbeats 16000000 in
theorem From_in (K L A S a b : Int) (w : World) (h : Prj.Ok K L A S) (hp : Prj.pt a b) :
    Calls Try.prog 15 #[.agg #[.int .i64 K, .int .i64 L, .int .i64 A, .int .i64 S], .agg #[.int .i64 a, .int .i64 b]] w fun e w' => e = .returned (.tuple #[.agg #[.int .i64 (if Prj.hits K L A S a b then Prj.nx K L A S a b else 0), .int .i64 (if Prj.hits K L A S a b then Prj.ny K A S b else 0)], .int .i64 (if Prj.hits K L A S a b then 0 else 7)]) ∧ Q w w' := by
  have hmf : ∀ (fn : Fn) (first cap : Array Value) (w : World), (Instr.makeFunc fn first cap).run Try.prog w = .ok (.func fn first cap) w := fun _ _ _ _ => rfl
  have HC := Lib.hid (fun W => pcheck_yes K L A S W h)
  have HV := Lib.hid (fun W => pvalid_yes a b W hp)
  have HRU := Lib.hid (fun W => ruleOf_any K L A S W h)
  have HY := Lib.hid (fun (c1 c2 : Value) W HF => nearestY 29 c1 c2 (Prj.north K A S) b W hp.2.2.1 hp.2.2.2 (fun m h0 h1 => Prj.north_bd K L A S m h h0 h1) body_from1 HF)
  have yb := Prj.ny_bd K A S b
  have HX := Lib.hid (fun (c1 c2 c3 : Value) W HF => nearestX 31 c1 c2 c3 (fun x => Prj.east K L S x (Prj.ny K A S b)) a W hp.1 hp.2.1 (fun m h0 h1 => Prj.east_bd K L A S m _ h h0 h1) body_from2 HF)
  have HF1 := Lib.hid (fun B D N base w0 hN m h0 h1 W q0 c0 c1 c2 c3 d1 => from1_north K L A S h B D N base w0 hN m h0 h1 W q0 c0 c1 c2 c3 d1)
  have HF2 := Lib.hid (fun B D G E base w0 hE m h0 h1 W q0 c0 c1 c2 c3 d0 g1 => from2_east K L A S (Prj.ny K A S b) h B D G E base w0 hE m h0 h1 yb.1 yb.2 W q0 c0 c1 c2 c3 d0 g1)
  have HT := Lib.hid (fun E N base W hE hN => to_any K L A S (Prj.nx K L A S a b) (Prj.ny K A S b) E N base W h hE hN)
  have bx := Prj.qx_bd K L A S (Prj.nx K L A S a b) (Prj.ny K A S b)
  have by' := Prj.qy_bd K L A S (Prj.nx K L A S a b) (Prj.ny K A S b)
  have HD1 := Lib.hid (fun W => distance_any (Prj.qx K L A S (Prj.nx K L A S a b) (Prj.ny K A S b)) a W (by have := hp.1; have := hp.2.1; omega) (by have := hp.1; have := hp.2.1; omega))
  have HD2 := Lib.hid (fun W => distance_any (Prj.qy K L A S (Prj.nx K L A S a b) (Prj.ny K A S b)) b W (by have := hp.2.2.1; have := hp.2.2.2; omega) (by have := hp.2.2.1; have := hp.2.2.2; omega))
  have HH : Hid (Prj.hits K L A S a b ↔ (Prj.qe K L A S (Prj.nx K L A S a b) (Prj.ny K A S b) = 0 ∧ Prj.far (Prj.qx K L A S (Prj.nx K L A S a b) (Prj.ny K A S b)) a ≤ 1 ∧ Prj.far (Prj.qy K L A S (Prj.nx K L A S a b) (Prj.ny K A S b)) b ≤ 1)) := by
    unfold Prj.hits Prj.qe
    by_cases g : Prj.good K L A S (Prj.nx K L A S a b) (Prj.ny K A S b)
    · rw [if_pos g]
      exact ⟨fun h => ⟨rfl, h.2⟩, fun h => ⟨g, h.2⟩⟩
    · rw [if_neg g]
      exact ⟨fun h => absurd h.1 g, fun h => absurd h.1 (by decide)⟩
  rw [show Prj.near (Prj.north K A S) b (-306000) 306000 = Prj.ny K A S b from rfl] at HY
  rw [show Prj.near (fun x => Prj.east K L S x (Prj.ny K A S b)) a (-648000) 648000 = Prj.nx K L A S a b from rfl] at HX
  generalize Prj.qe K L A S (Prj.nx K L A S a b) (Prj.ny K A S b) = qe at *
  generalize Prj.qx K L A S (Prj.nx K L A S a b) (Prj.ny K A S b) = qx at *
  generalize Prj.qy K L A S (Prj.nx K L A S a b) (Prj.ny K A S b) = qy at *
  generalize Prj.far qx a = d1 at *
  generalize Prj.far qy b = d2 at *
  generalize Prj.nx K L A S a b = xx at *
  generalize Prj.ny K A S b = yy at *
  clear h hp yb bx by'
  by_cases c0 : qe = 0
  rotate_left
  · have dq : (qe != 0) = true := by simpa using c0
    rw [if_neg (fun h => c0 (HH.out.1 h).1), if_neg (fun h => c0 (HH.out.1 h).1), if_neg (fun h => c0 (HH.out.1 h).1)]
    clear c0 HH
    go_enter Try.func15, Try.ntmps15
    go_wp2_with fail
    refine (HC.out _).mono ?_
    rintro e w1 ⟨rfl, q1⟩
    have HK1 := Lib.hid (s6_start K L A S a b w w1 q1)
    have HB1 := Lib.hid (t2_start K L A S a b w w1 q1)
    obtain ⟨k0, k1, k2, k3, k4, k5, k6⟩ := HK1.out
    clear k6
    go_wp2_with fail
    refine (HV.out _).mono ?_
    rintro e w2 ⟨rfl, q2⟩
    clear k0 k1 k2 k3 k4 k5
    obtain ⟨k0, k1, k2, k3, k4, k5, k6⟩ := s6_next HK1.out q2
    clear k6
    go_wp2_with fail
    refine (HRU.out _).mono ?_
    rintro e w3 ⟨E, N, rfl, hE, hN, q3⟩
    have HE := Lib.hid hE
    have HN := Lib.hid hN
    have hsE := east_store hE
    have hsN := north_store hN
    have HBASE := Lib.hid (show w.heap.size + 2 < w2.heap.size from (Array.getElem?_eq_some_iff.1 (b_next q2 HB1.out)).1)
    clear k0 k1 k2 k3 k4 k5 hE hN
    have q3a := (q2.trans q3).alloc (.cells #[E, N] 45)
    have HR6 := Lib.hid (heap_alloc_new w3 (.cells #[E, N] 45))
    have z3 : w.heap.size + 2 < w3.heap.size := Nat.lt_of_lt_of_le HBASE.out q3.sz
    have z31 : w.heap.size + 1 < w3.heap.size := by omega
    have z30 : w.heap.size < w3.heap.size := by omega
    have HS3 := Lib.hid (s6_next HK1.out q3a)
    have HKE := Lib.hid (show Keep w2.heap.size w3 (w3.alloc (.cells #[E, N] 45)) from .of ((Q.refl _).alloc _))
    have HYC := Lib.hid (HY.out (.pointer (some ⟨w.heap.size, 0, none⟩)) (.pointer (some ⟨w3.heap.size, 0, none⟩)) (w3.alloc (.cells #[E, N] 45)) (fun m h0 h1 w' q => HF1.out w.heap.size w3.heap.size N w2.heap.size w3 HN.out m h0 h1 w' (HKE.out.trans (.of q)) (t_next q HS3.out.1) (t_next q HS3.out.2.1) (t_next q HS3.out.2.2.1) (t_next q HS3.out.2.2.2.1) (t_next q (row_cell HR6.out rfl))))
    obtain ⟨k0, k1, k2, k3, k4, k5, k6⟩ := s6_next HK1.out (q2.trans q3)
    clear k6
    go_wp2_with fail
    refine HYC.out.mono ?_
    rintro e w4 ⟨rfl, q4⟩
    clear k0 k1 k2 k3 k4 k5
    have HS4 := Lib.hid (s6_next HS3.out q4)
    have HB4 := Lib.hid (b_next q4 (b_next q3a HB1.out))
    have HR4 := Lib.hid (b_next q4 HR6.out)
    have y0 := row_cell (i := 1) HB4.out rfl
    have y1 := frozen_of_row w4 _ 1 _ _ HB4.out
    have HS5 := Lib.hid (show ToS6 K L A S a b w (w4.setCell ⟨w.heap.size + 2, 1, none⟩ (.int .i64 yy)) from s6_set HS4.out)
    have HB5 := Lib.hid (heap_setCell_same w4 _ 1 _ _ (.int .i64 yy) HB4.out)
    have HR5 := Lib.hid ((heap_setCell_other w4 ⟨w.heap.size + 2, 1, none⟩ w3.heap.size (.int .i64 yy) (show w3.heap.size ≠ w.heap.size + 2 by omega)).trans HR4.out)
    have HK5 := Lib.hid (show Keep w2.heap.size w3 (w4.setCell ⟨w.heap.size + 2, 1, none⟩ (.int .i64 yy)) from (HKE.out.trans (.of q4)).setCell HBASE.out _)
    have HXC := Lib.hid (HX.out (.pointer (some ⟨w.heap.size, 0, none⟩)) (.pointer (some ⟨w3.heap.size, 0, none⟩)) (.pointer (some ⟨w.heap.size + 2, 0, none⟩)) (w4.setCell ⟨w.heap.size + 2, 1, none⟩ (.int .i64 yy)) (fun m h0 h1 w' q => HF2.out w.heap.size w3.heap.size (w.heap.size + 2) E w2.heap.size w3 HE.out m h0 h1 w' (HK5.out.trans (.of q)) (t_next q HS5.out.1) (t_next q HS5.out.2.1) (t_next q HS5.out.2.2.1) (t_next q HS5.out.2.2.2.1) (t_next q (row_cell HR5.out rfl)) (t_next q (row_cell (i := 1) HB5.out rfl))))
    obtain ⟨k0, k1, k2, k3, k4, k5, k6⟩ := HS4.out
    clear k6
    go_wp2_with fail
    refine HXC.out.mono ?_
    rintro e w6 ⟨rfl, q6⟩
    clear k0 k1 k2 k3 k4 k5 y0 y1
    have HS6 := Lib.hid (s6_next HS5.out q6)
    have HB6 := Lib.hid (b_next q6 HB5.out)
    have HR6' := Lib.hid (b_next q6 HR5.out)
    have y0 := row_cell (i := 0) HB6.out rfl
    have y2 := row_cell (i := 1) HB6.out rfl
    have y1 := frozen_of_row w6 _ 0 _ _ HB6.out
    have r0 := row_cell (i := 0) HR6'.out rfl
    have r1 := row_cell (i := 1) HR6'.out rfl
    have HS7 := Lib.hid (show ToS6 K L A S a b w (w6.setCell ⟨w.heap.size + 2, 0, none⟩ (.int .i64 xx)) from s6_set HS6.out)
    have HB7 := Lib.hid (heap_setCell_same w6 _ 0 _ _ (.int .i64 xx) HB6.out)
    have HK7 := Lib.hid (show Keep w2.heap.size w3 (w6.setCell ⟨w.heap.size + 2, 0, none⟩ (.int .i64 xx)) from (HK5.out.trans (.of q6)).setCell HBASE.out _)
    have HTC := Lib.hid (HT.out E N w2.heap.size (w6.setCell ⟨w.heap.size + 2, 0, none⟩ (.int .i64 xx)) (HE.out.next HK7.out) (HN.out.next HK7.out))
    obtain ⟨k0, k1, k2, k3, k4, k5, k6⟩ := HS6.out
    clear k6
    have zr : w3.heap.size ≠ w.heap.size + 2 := by omega
    go_wp2_with fail
    refine HTC.out.mono ?_
    rintro e w5 ⟨rfl, q5⟩
    clear k0 k1 k2 k3 k4 k5 y0 y1 y2 r0 r1
    obtain ⟨k0, k1, k2, k3, k4, k5, k6⟩ := s6_next HS7.out q5
    have hb := b_next q5 HB7.out
    have m0 : w5.cell? ⟨w.heap.size + 2, 0, none⟩ = some (.int .i64 xx) := row_cell hb rfl
    have m1 : w5.cell? ⟨w.heap.size + 2, 1, none⟩ = some (.int .i64 yy) := row_cell hb rfl
    have f0 := frozen_of_row w5 _ 0 _ _ hb
    have f1 := frozen_of_row w5 _ 1 _ _ hb
    have z5 : w.heap.size + 2 < w5.heap.size := (Array.getElem?_eq_some_iff.1 hb).1
    have z50 : w.heap.size + 1 < w5.heap.size := by omega
    have HB := Lib.hid (b_next ((Q.refl w5).alloc (.cells #[.int .i64 qx, .int .i64 qy] 29)) hb)
    have HB5' := Lib.hid hb
    have HQ5 := Lib.hid k6
    have HQ := Lib.hid (k6.alloc (.cells #[.int .i64 qx, .int .i64 qy] 29))
    clear k0 k1 k2 k3 k6 hb q1 q2 q3 q3a q4 q6 q5 HYC HXC HTC zr z3 z31 z30 hsE hsN
    go_wp2_with fail
    refine bodyPost_ret (results_cell_tmp rfl _ _ _ _ _ _ _ rfl (by first | exact heap_setCell_same _ _ _ _ _ _ (heap_setCell_same _ _ _ _ _ _ HB.out) | exact b_next ((Q.refl _).alloc _) (heap_setCell_same _ _ _ _ _ _ (heap_setCell_same _ _ _ _ _ _ HB5'.out))) Try.underlying29 rfl (by kernel_rfl)) rfl ⟨rfl, ?_⟩
    first
      | ((repeat (refine Q.setCell ?_ (by simp; try omega) _)); exact HQ.out)
      | (refine Q.alloc ?_ _; (repeat (refine Q.setCell ?_ (by simp; try omega) _)); exact HQ5.out)
  have dq : (qe != 0) = false := by simpa using c0
  by_cases c1 : d1 ≤ 1
  rotate_left
  · have e1 : decide (1 < d1) = true := by simp; omega
    rw [if_neg (fun h => c1 (HH.out.1 h).2.1), if_neg (fun h => c1 (HH.out.1 h).2.1), if_neg (fun h => c1 (HH.out.1 h).2.1)]
    clear c0 c1 HH
    go_enter Try.func15, Try.ntmps15
    go_wp2_with fail
    refine (HC.out _).mono ?_
    rintro e w1 ⟨rfl, q1⟩
    have HK1 := Lib.hid (s6_start K L A S a b w w1 q1)
    have HB1 := Lib.hid (t2_start K L A S a b w w1 q1)
    obtain ⟨k0, k1, k2, k3, k4, k5, k6⟩ := HK1.out
    clear k6
    go_wp2_with fail
    refine (HV.out _).mono ?_
    rintro e w2 ⟨rfl, q2⟩
    clear k0 k1 k2 k3 k4 k5
    obtain ⟨k0, k1, k2, k3, k4, k5, k6⟩ := s6_next HK1.out q2
    clear k6
    go_wp2_with fail
    refine (HRU.out _).mono ?_
    rintro e w3 ⟨E, N, rfl, hE, hN, q3⟩
    have HE := Lib.hid hE
    have HN := Lib.hid hN
    have hsE := east_store hE
    have hsN := north_store hN
    have HBASE := Lib.hid (show w.heap.size + 2 < w2.heap.size from (Array.getElem?_eq_some_iff.1 (b_next q2 HB1.out)).1)
    clear k0 k1 k2 k3 k4 k5 hE hN
    have q3a := (q2.trans q3).alloc (.cells #[E, N] 45)
    have HR6 := Lib.hid (heap_alloc_new w3 (.cells #[E, N] 45))
    have z3 : w.heap.size + 2 < w3.heap.size := Nat.lt_of_lt_of_le HBASE.out q3.sz
    have z31 : w.heap.size + 1 < w3.heap.size := by omega
    have z30 : w.heap.size < w3.heap.size := by omega
    have HS3 := Lib.hid (s6_next HK1.out q3a)
    have HKE := Lib.hid (show Keep w2.heap.size w3 (w3.alloc (.cells #[E, N] 45)) from .of ((Q.refl _).alloc _))
    have HYC := Lib.hid (HY.out (.pointer (some ⟨w.heap.size, 0, none⟩)) (.pointer (some ⟨w3.heap.size, 0, none⟩)) (w3.alloc (.cells #[E, N] 45)) (fun m h0 h1 w' q => HF1.out w.heap.size w3.heap.size N w2.heap.size w3 HN.out m h0 h1 w' (HKE.out.trans (.of q)) (t_next q HS3.out.1) (t_next q HS3.out.2.1) (t_next q HS3.out.2.2.1) (t_next q HS3.out.2.2.2.1) (t_next q (row_cell HR6.out rfl))))
    obtain ⟨k0, k1, k2, k3, k4, k5, k6⟩ := s6_next HK1.out (q2.trans q3)
    clear k6
    go_wp2_with fail
    refine HYC.out.mono ?_
    rintro e w4 ⟨rfl, q4⟩
    clear k0 k1 k2 k3 k4 k5
    have HS4 := Lib.hid (s6_next HS3.out q4)
    have HB4 := Lib.hid (b_next q4 (b_next q3a HB1.out))
    have HR4 := Lib.hid (b_next q4 HR6.out)
    have y0 := row_cell (i := 1) HB4.out rfl
    have y1 := frozen_of_row w4 _ 1 _ _ HB4.out
    have HS5 := Lib.hid (show ToS6 K L A S a b w (w4.setCell ⟨w.heap.size + 2, 1, none⟩ (.int .i64 yy)) from s6_set HS4.out)
    have HB5 := Lib.hid (heap_setCell_same w4 _ 1 _ _ (.int .i64 yy) HB4.out)
    have HR5 := Lib.hid ((heap_setCell_other w4 ⟨w.heap.size + 2, 1, none⟩ w3.heap.size (.int .i64 yy) (show w3.heap.size ≠ w.heap.size + 2 by omega)).trans HR4.out)
    have HK5 := Lib.hid (show Keep w2.heap.size w3 (w4.setCell ⟨w.heap.size + 2, 1, none⟩ (.int .i64 yy)) from (HKE.out.trans (.of q4)).setCell HBASE.out _)
    have HXC := Lib.hid (HX.out (.pointer (some ⟨w.heap.size, 0, none⟩)) (.pointer (some ⟨w3.heap.size, 0, none⟩)) (.pointer (some ⟨w.heap.size + 2, 0, none⟩)) (w4.setCell ⟨w.heap.size + 2, 1, none⟩ (.int .i64 yy)) (fun m h0 h1 w' q => HF2.out w.heap.size w3.heap.size (w.heap.size + 2) E w2.heap.size w3 HE.out m h0 h1 w' (HK5.out.trans (.of q)) (t_next q HS5.out.1) (t_next q HS5.out.2.1) (t_next q HS5.out.2.2.1) (t_next q HS5.out.2.2.2.1) (t_next q (row_cell HR5.out rfl)) (t_next q (row_cell (i := 1) HB5.out rfl))))
    obtain ⟨k0, k1, k2, k3, k4, k5, k6⟩ := HS4.out
    clear k6
    go_wp2_with fail
    refine HXC.out.mono ?_
    rintro e w6 ⟨rfl, q6⟩
    clear k0 k1 k2 k3 k4 k5 y0 y1
    have HS6 := Lib.hid (s6_next HS5.out q6)
    have HB6 := Lib.hid (b_next q6 HB5.out)
    have HR6' := Lib.hid (b_next q6 HR5.out)
    have y0 := row_cell (i := 0) HB6.out rfl
    have y2 := row_cell (i := 1) HB6.out rfl
    have y1 := frozen_of_row w6 _ 0 _ _ HB6.out
    have r0 := row_cell (i := 0) HR6'.out rfl
    have r1 := row_cell (i := 1) HR6'.out rfl
    have HS7 := Lib.hid (show ToS6 K L A S a b w (w6.setCell ⟨w.heap.size + 2, 0, none⟩ (.int .i64 xx)) from s6_set HS6.out)
    have HB7 := Lib.hid (heap_setCell_same w6 _ 0 _ _ (.int .i64 xx) HB6.out)
    have HK7 := Lib.hid (show Keep w2.heap.size w3 (w6.setCell ⟨w.heap.size + 2, 0, none⟩ (.int .i64 xx)) from (HK5.out.trans (.of q6)).setCell HBASE.out _)
    have HTC := Lib.hid (HT.out E N w2.heap.size (w6.setCell ⟨w.heap.size + 2, 0, none⟩ (.int .i64 xx)) (HE.out.next HK7.out) (HN.out.next HK7.out))
    obtain ⟨k0, k1, k2, k3, k4, k5, k6⟩ := HS6.out
    clear k6
    have zr : w3.heap.size ≠ w.heap.size + 2 := by omega
    go_wp2_with fail
    refine HTC.out.mono ?_
    rintro e w5 ⟨rfl, q5⟩
    clear k0 k1 k2 k3 k4 k5 y0 y1 y2 r0 r1
    obtain ⟨k0, k1, k2, k3, k4, k5, k6⟩ := s6_next HS7.out q5
    have hb := b_next q5 HB7.out
    have m0 : w5.cell? ⟨w.heap.size + 2, 0, none⟩ = some (.int .i64 xx) := row_cell hb rfl
    have m1 : w5.cell? ⟨w.heap.size + 2, 1, none⟩ = some (.int .i64 yy) := row_cell hb rfl
    have f0 := frozen_of_row w5 _ 0 _ _ hb
    have f1 := frozen_of_row w5 _ 1 _ _ hb
    have z5 : w.heap.size + 2 < w5.heap.size := (Array.getElem?_eq_some_iff.1 hb).1
    have z50 : w.heap.size + 1 < w5.heap.size := by omega
    have HB := Lib.hid (b_next ((Q.refl w5).alloc (.cells #[.int .i64 qx, .int .i64 qy] 29)) hb)
    have HB5' := Lib.hid hb
    have HQ5 := Lib.hid k6
    have HQ := Lib.hid (k6.alloc (.cells #[.int .i64 qx, .int .i64 qy] 29))
    clear k0 k1 k2 k3 k6 hb q1 q2 q3 q3a q4 q6 q5 HYC HXC HTC zr z3 z31 z30 hsE hsN
    go_wp2_with fail
    refine (HD1.out _).mono ?_
    rintro e w9 ⟨rfl, rfl⟩
    go_wp2_with fail
    refine bodyPost_ret (results_cell_tmp rfl _ _ _ _ _ _ _ rfl (by first | exact heap_setCell_same _ _ _ _ _ _ (heap_setCell_same _ _ _ _ _ _ HB.out) | exact b_next ((Q.refl _).alloc _) (heap_setCell_same _ _ _ _ _ _ (heap_setCell_same _ _ _ _ _ _ HB5'.out))) Try.underlying29 rfl (by kernel_rfl)) rfl ⟨rfl, ?_⟩
    first
      | ((repeat (refine Q.setCell ?_ (by simp; try omega) _)); exact HQ.out)
      | (refine Q.alloc ?_ _; (repeat (refine Q.setCell ?_ (by simp; try omega) _)); exact HQ5.out)
  have e1 : decide (1 < d1) = false := by simp; omega
  by_cases c2 : d2 ≤ 1
  rotate_left
  · have e2 : decide (1 < d2) = true := by simp; omega
    rw [if_neg (fun h => c2 (HH.out.1 h).2.2), if_neg (fun h => c2 (HH.out.1 h).2.2), if_neg (fun h => c2 (HH.out.1 h).2.2)]
    clear c0 c1 c2 HH
    go_enter Try.func15, Try.ntmps15
    go_wp2_with fail
    refine (HC.out _).mono ?_
    rintro e w1 ⟨rfl, q1⟩
    have HK1 := Lib.hid (s6_start K L A S a b w w1 q1)
    have HB1 := Lib.hid (t2_start K L A S a b w w1 q1)
    obtain ⟨k0, k1, k2, k3, k4, k5, k6⟩ := HK1.out
    clear k6
    go_wp2_with fail
    refine (HV.out _).mono ?_
    rintro e w2 ⟨rfl, q2⟩
    clear k0 k1 k2 k3 k4 k5
    obtain ⟨k0, k1, k2, k3, k4, k5, k6⟩ := s6_next HK1.out q2
    clear k6
    go_wp2_with fail
    refine (HRU.out _).mono ?_
    rintro e w3 ⟨E, N, rfl, hE, hN, q3⟩
    have HE := Lib.hid hE
    have HN := Lib.hid hN
    have hsE := east_store hE
    have hsN := north_store hN
    have HBASE := Lib.hid (show w.heap.size + 2 < w2.heap.size from (Array.getElem?_eq_some_iff.1 (b_next q2 HB1.out)).1)
    clear k0 k1 k2 k3 k4 k5 hE hN
    have q3a := (q2.trans q3).alloc (.cells #[E, N] 45)
    have HR6 := Lib.hid (heap_alloc_new w3 (.cells #[E, N] 45))
    have z3 : w.heap.size + 2 < w3.heap.size := Nat.lt_of_lt_of_le HBASE.out q3.sz
    have z31 : w.heap.size + 1 < w3.heap.size := by omega
    have z30 : w.heap.size < w3.heap.size := by omega
    have HS3 := Lib.hid (s6_next HK1.out q3a)
    have HKE := Lib.hid (show Keep w2.heap.size w3 (w3.alloc (.cells #[E, N] 45)) from .of ((Q.refl _).alloc _))
    have HYC := Lib.hid (HY.out (.pointer (some ⟨w.heap.size, 0, none⟩)) (.pointer (some ⟨w3.heap.size, 0, none⟩)) (w3.alloc (.cells #[E, N] 45)) (fun m h0 h1 w' q => HF1.out w.heap.size w3.heap.size N w2.heap.size w3 HN.out m h0 h1 w' (HKE.out.trans (.of q)) (t_next q HS3.out.1) (t_next q HS3.out.2.1) (t_next q HS3.out.2.2.1) (t_next q HS3.out.2.2.2.1) (t_next q (row_cell HR6.out rfl))))
    obtain ⟨k0, k1, k2, k3, k4, k5, k6⟩ := s6_next HK1.out (q2.trans q3)
    clear k6
    go_wp2_with fail
    refine HYC.out.mono ?_
    rintro e w4 ⟨rfl, q4⟩
    clear k0 k1 k2 k3 k4 k5
    have HS4 := Lib.hid (s6_next HS3.out q4)
    have HB4 := Lib.hid (b_next q4 (b_next q3a HB1.out))
    have HR4 := Lib.hid (b_next q4 HR6.out)
    have y0 := row_cell (i := 1) HB4.out rfl
    have y1 := frozen_of_row w4 _ 1 _ _ HB4.out
    have HS5 := Lib.hid (show ToS6 K L A S a b w (w4.setCell ⟨w.heap.size + 2, 1, none⟩ (.int .i64 yy)) from s6_set HS4.out)
    have HB5 := Lib.hid (heap_setCell_same w4 _ 1 _ _ (.int .i64 yy) HB4.out)
    have HR5 := Lib.hid ((heap_setCell_other w4 ⟨w.heap.size + 2, 1, none⟩ w3.heap.size (.int .i64 yy) (show w3.heap.size ≠ w.heap.size + 2 by omega)).trans HR4.out)
    have HK5 := Lib.hid (show Keep w2.heap.size w3 (w4.setCell ⟨w.heap.size + 2, 1, none⟩ (.int .i64 yy)) from (HKE.out.trans (.of q4)).setCell HBASE.out _)
    have HXC := Lib.hid (HX.out (.pointer (some ⟨w.heap.size, 0, none⟩)) (.pointer (some ⟨w3.heap.size, 0, none⟩)) (.pointer (some ⟨w.heap.size + 2, 0, none⟩)) (w4.setCell ⟨w.heap.size + 2, 1, none⟩ (.int .i64 yy)) (fun m h0 h1 w' q => HF2.out w.heap.size w3.heap.size (w.heap.size + 2) E w2.heap.size w3 HE.out m h0 h1 w' (HK5.out.trans (.of q)) (t_next q HS5.out.1) (t_next q HS5.out.2.1) (t_next q HS5.out.2.2.1) (t_next q HS5.out.2.2.2.1) (t_next q (row_cell HR5.out rfl)) (t_next q (row_cell (i := 1) HB5.out rfl))))
    obtain ⟨k0, k1, k2, k3, k4, k5, k6⟩ := HS4.out
    clear k6
    go_wp2_with fail
    refine HXC.out.mono ?_
    rintro e w6 ⟨rfl, q6⟩
    clear k0 k1 k2 k3 k4 k5 y0 y1
    have HS6 := Lib.hid (s6_next HS5.out q6)
    have HB6 := Lib.hid (b_next q6 HB5.out)
    have HR6' := Lib.hid (b_next q6 HR5.out)
    have y0 := row_cell (i := 0) HB6.out rfl
    have y2 := row_cell (i := 1) HB6.out rfl
    have y1 := frozen_of_row w6 _ 0 _ _ HB6.out
    have r0 := row_cell (i := 0) HR6'.out rfl
    have r1 := row_cell (i := 1) HR6'.out rfl
    have HS7 := Lib.hid (show ToS6 K L A S a b w (w6.setCell ⟨w.heap.size + 2, 0, none⟩ (.int .i64 xx)) from s6_set HS6.out)
    have HB7 := Lib.hid (heap_setCell_same w6 _ 0 _ _ (.int .i64 xx) HB6.out)
    have HK7 := Lib.hid (show Keep w2.heap.size w3 (w6.setCell ⟨w.heap.size + 2, 0, none⟩ (.int .i64 xx)) from (HK5.out.trans (.of q6)).setCell HBASE.out _)
    have HTC := Lib.hid (HT.out E N w2.heap.size (w6.setCell ⟨w.heap.size + 2, 0, none⟩ (.int .i64 xx)) (HE.out.next HK7.out) (HN.out.next HK7.out))
    obtain ⟨k0, k1, k2, k3, k4, k5, k6⟩ := HS6.out
    clear k6
    have zr : w3.heap.size ≠ w.heap.size + 2 := by omega
    go_wp2_with fail
    refine HTC.out.mono ?_
    rintro e w5 ⟨rfl, q5⟩
    clear k0 k1 k2 k3 k4 k5 y0 y1 y2 r0 r1
    obtain ⟨k0, k1, k2, k3, k4, k5, k6⟩ := s6_next HS7.out q5
    have hb := b_next q5 HB7.out
    have m0 : w5.cell? ⟨w.heap.size + 2, 0, none⟩ = some (.int .i64 xx) := row_cell hb rfl
    have m1 : w5.cell? ⟨w.heap.size + 2, 1, none⟩ = some (.int .i64 yy) := row_cell hb rfl
    have f0 := frozen_of_row w5 _ 0 _ _ hb
    have f1 := frozen_of_row w5 _ 1 _ _ hb
    have z5 : w.heap.size + 2 < w5.heap.size := (Array.getElem?_eq_some_iff.1 hb).1
    have z50 : w.heap.size + 1 < w5.heap.size := by omega
    have HB := Lib.hid (b_next ((Q.refl w5).alloc (.cells #[.int .i64 qx, .int .i64 qy] 29)) hb)
    have HB5' := Lib.hid hb
    have HQ5 := Lib.hid k6
    have HQ := Lib.hid (k6.alloc (.cells #[.int .i64 qx, .int .i64 qy] 29))
    clear k0 k1 k2 k3 k6 hb q1 q2 q3 q3a q4 q6 q5 HYC HXC HTC zr z3 z31 z30 hsE hsN
    go_wp2_with fail
    refine (HD1.out _).mono ?_
    rintro e w9 ⟨rfl, rfl⟩
    go_wp2_with fail
    refine (HD2.out _).mono ?_
    rintro e w9 ⟨rfl, rfl⟩
    go_wp2_with fail
    refine bodyPost_ret (results_cell_tmp rfl _ _ _ _ _ _ _ rfl (by first | exact heap_setCell_same _ _ _ _ _ _ (heap_setCell_same _ _ _ _ _ _ HB.out) | exact b_next ((Q.refl _).alloc _) (heap_setCell_same _ _ _ _ _ _ (heap_setCell_same _ _ _ _ _ _ HB5'.out))) Try.underlying29 rfl (by kernel_rfl)) rfl ⟨rfl, ?_⟩
    first
      | ((repeat (refine Q.setCell ?_ (by simp; try omega) _)); exact HQ.out)
      | (refine Q.alloc ?_ _; (repeat (refine Q.setCell ?_ (by simp; try omega) _)); exact HQ5.out)
  have e2 : decide (1 < d2) = false := by simp; omega
  have hh := HH.out.2 ⟨c0, c1, c2⟩
  rw [if_pos hh, if_pos hh, if_pos hh]
  clear c0 c1 c2 HH hh
  go_enter Try.func15, Try.ntmps15
  go_wp2_with fail
  refine (HC.out _).mono ?_
  rintro e w1 ⟨rfl, q1⟩
  have HK1 := Lib.hid (s6_start K L A S a b w w1 q1)
  have HB1 := Lib.hid (t2_start K L A S a b w w1 q1)
  obtain ⟨k0, k1, k2, k3, k4, k5, k6⟩ := HK1.out
  clear k6
  go_wp2_with fail
  refine (HV.out _).mono ?_
  rintro e w2 ⟨rfl, q2⟩
  clear k0 k1 k2 k3 k4 k5
  obtain ⟨k0, k1, k2, k3, k4, k5, k6⟩ := s6_next HK1.out q2
  clear k6
  go_wp2_with fail
  refine (HRU.out _).mono ?_
  rintro e w3 ⟨E, N, rfl, hE, hN, q3⟩
  have HE := Lib.hid hE
  have HN := Lib.hid hN
  have hsE := east_store hE
  have hsN := north_store hN
  have HBASE := Lib.hid (show w.heap.size + 2 < w2.heap.size from (Array.getElem?_eq_some_iff.1 (b_next q2 HB1.out)).1)
  clear k0 k1 k2 k3 k4 k5 hE hN
  have q3a := (q2.trans q3).alloc (.cells #[E, N] 45)
  have HR6 := Lib.hid (heap_alloc_new w3 (.cells #[E, N] 45))
  have z3 : w.heap.size + 2 < w3.heap.size := Nat.lt_of_lt_of_le HBASE.out q3.sz
  have z31 : w.heap.size + 1 < w3.heap.size := by omega
  have z30 : w.heap.size < w3.heap.size := by omega
  have HS3 := Lib.hid (s6_next HK1.out q3a)
  have HKE := Lib.hid (show Keep w2.heap.size w3 (w3.alloc (.cells #[E, N] 45)) from .of ((Q.refl _).alloc _))
  have HYC := Lib.hid (HY.out (.pointer (some ⟨w.heap.size, 0, none⟩)) (.pointer (some ⟨w3.heap.size, 0, none⟩)) (w3.alloc (.cells #[E, N] 45)) (fun m h0 h1 w' q => HF1.out w.heap.size w3.heap.size N w2.heap.size w3 HN.out m h0 h1 w' (HKE.out.trans (.of q)) (t_next q HS3.out.1) (t_next q HS3.out.2.1) (t_next q HS3.out.2.2.1) (t_next q HS3.out.2.2.2.1) (t_next q (row_cell HR6.out rfl))))
  obtain ⟨k0, k1, k2, k3, k4, k5, k6⟩ := s6_next HK1.out (q2.trans q3)
  clear k6
  go_wp2_with fail
  refine HYC.out.mono ?_
  rintro e w4 ⟨rfl, q4⟩
  clear k0 k1 k2 k3 k4 k5
  have HS4 := Lib.hid (s6_next HS3.out q4)
  have HB4 := Lib.hid (b_next q4 (b_next q3a HB1.out))
  have HR4 := Lib.hid (b_next q4 HR6.out)
  have y0 := row_cell (i := 1) HB4.out rfl
  have y1 := frozen_of_row w4 _ 1 _ _ HB4.out
  have HS5 := Lib.hid (show ToS6 K L A S a b w (w4.setCell ⟨w.heap.size + 2, 1, none⟩ (.int .i64 yy)) from s6_set HS4.out)
  have HB5 := Lib.hid (heap_setCell_same w4 _ 1 _ _ (.int .i64 yy) HB4.out)
  have HR5 := Lib.hid ((heap_setCell_other w4 ⟨w.heap.size + 2, 1, none⟩ w3.heap.size (.int .i64 yy) (show w3.heap.size ≠ w.heap.size + 2 by omega)).trans HR4.out)
  have HK5 := Lib.hid (show Keep w2.heap.size w3 (w4.setCell ⟨w.heap.size + 2, 1, none⟩ (.int .i64 yy)) from (HKE.out.trans (.of q4)).setCell HBASE.out _)
  have HXC := Lib.hid (HX.out (.pointer (some ⟨w.heap.size, 0, none⟩)) (.pointer (some ⟨w3.heap.size, 0, none⟩)) (.pointer (some ⟨w.heap.size + 2, 0, none⟩)) (w4.setCell ⟨w.heap.size + 2, 1, none⟩ (.int .i64 yy)) (fun m h0 h1 w' q => HF2.out w.heap.size w3.heap.size (w.heap.size + 2) E w2.heap.size w3 HE.out m h0 h1 w' (HK5.out.trans (.of q)) (t_next q HS5.out.1) (t_next q HS5.out.2.1) (t_next q HS5.out.2.2.1) (t_next q HS5.out.2.2.2.1) (t_next q (row_cell HR5.out rfl)) (t_next q (row_cell (i := 1) HB5.out rfl))))
  obtain ⟨k0, k1, k2, k3, k4, k5, k6⟩ := HS4.out
  clear k6
  go_wp2_with fail
  refine HXC.out.mono ?_
  rintro e w6 ⟨rfl, q6⟩
  clear k0 k1 k2 k3 k4 k5 y0 y1
  have HS6 := Lib.hid (s6_next HS5.out q6)
  have HB6 := Lib.hid (b_next q6 HB5.out)
  have HR6' := Lib.hid (b_next q6 HR5.out)
  have y0 := row_cell (i := 0) HB6.out rfl
  have y2 := row_cell (i := 1) HB6.out rfl
  have y1 := frozen_of_row w6 _ 0 _ _ HB6.out
  have r0 := row_cell (i := 0) HR6'.out rfl
  have r1 := row_cell (i := 1) HR6'.out rfl
  have HS7 := Lib.hid (show ToS6 K L A S a b w (w6.setCell ⟨w.heap.size + 2, 0, none⟩ (.int .i64 xx)) from s6_set HS6.out)
  have HB7 := Lib.hid (heap_setCell_same w6 _ 0 _ _ (.int .i64 xx) HB6.out)
  have HK7 := Lib.hid (show Keep w2.heap.size w3 (w6.setCell ⟨w.heap.size + 2, 0, none⟩ (.int .i64 xx)) from (HK5.out.trans (.of q6)).setCell HBASE.out _)
  have HTC := Lib.hid (HT.out E N w2.heap.size (w6.setCell ⟨w.heap.size + 2, 0, none⟩ (.int .i64 xx)) (HE.out.next HK7.out) (HN.out.next HK7.out))
  obtain ⟨k0, k1, k2, k3, k4, k5, k6⟩ := HS6.out
  clear k6
  have zr : w3.heap.size ≠ w.heap.size + 2 := by omega
  go_wp2_with fail
  refine HTC.out.mono ?_
  rintro e w5 ⟨rfl, q5⟩
  clear k0 k1 k2 k3 k4 k5 y0 y1 y2 r0 r1
  obtain ⟨k0, k1, k2, k3, k4, k5, k6⟩ := s6_next HS7.out q5
  have hb := b_next q5 HB7.out
  have m0 : w5.cell? ⟨w.heap.size + 2, 0, none⟩ = some (.int .i64 xx) := row_cell hb rfl
  have m1 : w5.cell? ⟨w.heap.size + 2, 1, none⟩ = some (.int .i64 yy) := row_cell hb rfl
  have f0 := frozen_of_row w5 _ 0 _ _ hb
  have f1 := frozen_of_row w5 _ 1 _ _ hb
  have z5 : w.heap.size + 2 < w5.heap.size := (Array.getElem?_eq_some_iff.1 hb).1
  have z50 : w.heap.size + 1 < w5.heap.size := by omega
  have HB := Lib.hid (b_next ((Q.refl w5).alloc (.cells #[.int .i64 qx, .int .i64 qy] 29)) hb)
  have HB5' := Lib.hid hb
  have HQ5 := Lib.hid k6
  have HQ := Lib.hid (k6.alloc (.cells #[.int .i64 qx, .int .i64 qy] 29))
  clear k0 k1 k2 k3 k6 hb q1 q2 q3 q3a q4 q6 q5 HYC HXC HTC zr z3 z31 z30 hsE hsN
  go_wp2_with fail
  refine (HD1.out _).mono ?_
  rintro e w9 ⟨rfl, rfl⟩
  go_wp2_with fail
  refine (HD2.out _).mono ?_
  rintro e w9 ⟨rfl, rfl⟩
  go_wp2_with fail
  refine bodyPost_ret (results_cell_tmp rfl _ _ _ _ _ _ _ rfl (by first | exact heap_setCell_same _ _ _ _ _ _ (heap_setCell_same _ _ _ _ _ _ HB.out) | exact b_next ((Q.refl _).alloc _) (heap_setCell_same _ _ _ _ _ _ (heap_setCell_same _ _ _ _ _ _ HB5'.out))) Try.underlying29 rfl (by kernel_rfl)) rfl ⟨rfl, ?_⟩
  first
    | ((repeat (refine Q.setCell ?_ (by simp; try omega) _)); exact HQ.out)
    | (refine Q.alloc ?_ _; (repeat (refine Q.setCell ?_ (by simp; try omega) _)); exact HQ5.out)

theorem From_ok (K L A S a b : Int) (w : World) (h : Prj.Ok K L A S) :
    Calls Try.prog 15 #[.agg #[.int .i64 K, .int .i64 L, .int .i64 A, .int .i64 S], .agg #[.int .i64 a, .int .i64 b]] w fun e w' => e = .returned (.tuple #[.agg #[.int .i64 (Prj.fx K L A S a b), .int .i64 (Prj.fy K L A S a b)], .int .i64 (Prj.fe K L A S a b)]) ∧ Q w w' := by
  unfold Prj.fx Prj.fy Prj.fe
  by_cases hp : Prj.pt a b
  · rw [if_pos hp]
    have key := From_in K L A S a b w h hp
    by_cases g : Prj.hits K L A S a b
    · rw [if_pos ⟨hp, g⟩, if_pos ⟨hp, g⟩]
      rw [if_pos g, if_pos g, if_pos g] at key
      rw [if_pos g]
      exact key
    · rw [if_neg (fun x => g x.2), if_neg (fun x => g x.2)]
      rw [if_neg g, if_neg g, if_neg g] at key
      rw [if_neg g]
      exact key
  · rw [if_neg (fun x => hp x.1), if_neg (fun x => hp x.1), if_neg hp]
    exact From_out K L A S a b w h hp

theorem rFrom_ok (K L A S a b : Int) (w : World) (h : Prj.Ok K L A S) :
    Calls Try.prog 16 #[.agg #[.int .i64 K, .int .i64 L, .int .i64 A, .int .i64 S], .agg #[.int .i64 a, .int .i64 b]] w fun e w' => e = .returned (.tuple #[.agg #[.int .i64 (Prj.fx K L A S a b), .int .i64 (Prj.fy K L A S a b)], .int .i64 (Prj.fe K L A S a b)]) ∧ Q w w' := by
  unfold Prj.fx Prj.fy Prj.fe
  by_cases hp : Prj.pt a b
  · rw [if_pos hp]
    have key := rFrom_in K L A S a b w h hp
    by_cases g : Prj.hits K L A S a b
    · rw [if_pos ⟨hp, g⟩, if_pos ⟨hp, g⟩]
      rw [if_pos g, if_pos g, if_pos g] at key
      rw [if_pos g]
      exact key
    · rw [if_neg (fun x => g x.2), if_neg (fun x => g x.2)]
      rw [if_neg g, if_neg g, if_neg g] at key
      rw [if_neg g]
      exact key
  · rw [if_neg (fun x => hp x.1), if_neg (fun x => hp x.1), if_neg hp]
    exact rFrom_out K L A S a b w h hp

end Go.Proofs.Ytmagppjmjjkbjaa
