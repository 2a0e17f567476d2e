
/- Contract of sphere.Chord. -/
import Derived.Test.YtmcobpgdledkdaaDoorSphY
import Derived.BigQuiet
namespace Go.Proofs.YtmcobpgdledkdaaDoor
open Go.RowKit
set_option linter.unusedVariables false

theorem schord_bad (x y u v : Int) (w : World) (h : ¬ (Sph.vld x y ∧ Sph.vld u v)) :
    Calls Tryd.prog 19 #[.agg #[.int .i64 x, .int .i64 y], .agg #[.int .i64 u, .int .i64 v]] w fun e w' => e = .returned (.int .i64 0) ∧ Q w w' := by
  by_cases c : Sph.vld x y
  rotate_left
  · have HV := Lib.hid (fun W => svalid_no x y W c)
    clear h c
    go_enter Tryd.func19, Tryd.ntmps19
    go_wp2_with fail
    refine (HV.out _).mono ?_
    rintro e w1 ⟨rfl, q1⟩
    go_wp2_with fail
    go_ret
    exact ⟨rfl, (q1.behind _).behind _⟩
  · have HV := Lib.hid (fun W => svalid_yes x y W c)
    have HU := Lib.hid (fun W => svalid_no u v W (fun k => h ⟨c, k⟩))
    clear h c
    go_enter Tryd.func19, Tryd.ntmps19
    go_wp2_with fail
    refine (HV.out _).mono ?_
    rintro e w1 ⟨rfl, q1⟩
    have hb : w1.heap[w.heap.size + 1]? = some (.cells #[.int .i64 u, .int .i64 v] 23 (0, 0)) := b_next q1 (new1 _ _ _)
    obtain ⟨k0, k1, k2, k3⟩ := row2 hb
    clear hb
    go_wp2_with fail
    refine (HU.out _).mono ?_
    rintro e w2 ⟨rfl, q2⟩
    go_wp2_with fail
    go_ret
    exact ⟨rfl, ((q1.trans q2).behind _).behind _⟩
def C6 (f0 f1 f2 t0 t1 t2 : Int) (h5 h6 : Nat) (w2 v : World) : Prop := v.cell? ⟨h5, 0, none⟩ = some (.int .i64 f0) ∧ v.cell? ⟨h5, 1, none⟩ = some (.int .i64 f1) ∧ v.cell? ⟨h5, 2, none⟩ = some (.int .i64 f2) ∧ v.cell? ⟨h6, 0, none⟩ = some (.int .i64 t0) ∧ v.cell? ⟨h6, 1, none⟩ = some (.int .i64 t1) ∧ v.cell? ⟨h6, 2, none⟩ = some (.int .i64 t2) ∧ Q w2 v
theorem C6.next {f0 f1 f2 t0 t1 t2 : Int} {h5 h6 : Nat} {w2 v v' : World} (h : C6 f0 f1 f2 t0 t1 t2 h5 h6 w2 v) (q : Q v v') : C6 f0 f1 f2 t0 t1 t2 h5 h6 w2 v' :=
  ⟨t_next q h.1, t_next q h.2.1, t_next q h.2.2.1, t_next q h.2.2.2.1, t_next q h.2.2.2.2.1, t_next q h.2.2.2.2.2.1, h.2.2.2.2.2.2.trans q⟩
def C4 (x y u v : Int) (B : Nat) (w2 : World) : Prop := w2.cell? ⟨B, 0, none⟩ = some (.int .i64 x) ∧ w2.cell? ⟨B, 1, none⟩ = some (.int .i64 y) ∧ w2.cell? ⟨B + 1, 0, none⟩ = some (.int .i64 u) ∧ w2.cell? ⟨B + 1, 1, none⟩ = some (.int .i64 v)
theorem c4_of {x y u v : Int} {B : Nat} {w2 v' : World} (h : C4 x y u v B w2) (q : Q w2 v') : v'.cell? ⟨B, 0, none⟩ = some (.int .i64 x) ∧ v'.cell? ⟨B, 1, none⟩ = some (.int .i64 y) ∧ v'.cell? ⟨B + 1, 0, none⟩ = some (.int .i64 u) ∧ v'.cell? ⟨B + 1, 1, none⟩ = some (.int .i64 v) ∧ Q w2 v' :=
  ⟨t_next q h.1, t_next q h.2.1, t_next q h.2.2.1, t_next q h.2.2.2, q⟩
set_option maxRecDepth 100000 in
set_option maxHeartbeats 8000000 in
theorem schord_core (x y u v f0 f1 f2 t0 t1 t2 d0 d1 d2 e0 e1 e2 s2 s3 : Int) (w : World) (hv : Sph.vld x y) (hu : Sph.vld u v)
    (HA : Hid (∀ W, Calls Tryd.prog 26 #[.agg #[.int .i64 x, .int .i64 y]] W fun e w' => e = .returned (.agg #[.int .i64 f0, .int .i64 f1, .int .i64 f2]) ∧ Q W w'))
    (HB : Hid (∀ W, Calls Tryd.prog 26 #[.agg #[.int .i64 u, .int .i64 v]] W fun e w' => e = .returned (.agg #[.int .i64 t0, .int .i64 t1, .int .i64 t2]) ∧ Q W w'))
    (HS : Hid (∀ W, Calls Tryd.prog 27 #[.int .i64 s3] W fun e w' => (∃ r, e = .returned (.int .i64 r) ∧ IsSqrt s3 r) ∧ W = w'))
    (a0 : t0 - f0 = d0) (a1 : t1 - f1 = d1) (a2 : t2 - f2 = d2) (b0 : d0 * d0 = e0) (b1 : d1 * d1 = e1) (b2 : d2 * d2 = e2) (c1 : e0 + e1 = s2) (c2 : s2 + e2 = s3)
    (g0 : IntKind.i64.wrap d0 = d0) (g1 : IntKind.i64.wrap d1 = d1) (g2 : IntKind.i64.wrap d2 = d2) (g3 : IntKind.i64.wrap e0 = e0) (g4 : IntKind.i64.wrap e1 = e1) (g5 : IntKind.i64.wrap e2 = e2) (g6 : IntKind.i64.wrap s2 = s2) (g7 : IntKind.i64.wrap s3 = s3) (gw : wrap64 e0 = e0) :
    Calls Tryd.prog 19 #[.agg #[.int .i64 x, .int .i64 y], .agg #[.int .i64 u, .int .i64 v]] w fun e w' => (∃ r, e = .returned (.int .i64 r) ∧ IsSqrt s3 r) ∧ Q w w' := by
  have HV := Lib.hid (fun W => svalid_yes x y W hv)
  have HU := Lib.hid (fun W => svalid_yes u v W hu)
  clear hv hu
  go_enter Tryd.func19, Tryd.ntmps19
  go_wp2_with fail
  refine (HV.out _).mono ?_
  rintro e w1 ⟨rfl, q1⟩
  have HP := Lib.hid (show w1.heap[w.heap.size]? = some (.cells #[.int .i64 x, .int .i64 y] 23 (0, 0)) from b_next q1 (b_next ((Q.refl _).alloc _) (heap_alloc_new _ _)))
  have HR := Lib.hid (show w1.heap[w.heap.size + 1]? = some (.cells #[.int .i64 u, .int .i64 v] 23 (0, 0)) from b_next q1 (new1 _ _ _))
  obtain ⟨k0, k1, k2, k3⟩ := row2 HR.out
  go_wp2_with fail
  refine (HU.out _).mono ?_
  rintro e w2 ⟨rfl, q2⟩
  clear k0 k1 k2 k3
  have HP2 := Lib.hid (row2 (b_next q2 HP.out))
  have HR2 := Lib.hid (row2 (b_next q2 HR.out))
  have q02 := Lib.hid (((q1.trans q2).behind _).behind _)
  obtain ⟨k0, k1, k2, k3⟩ := HP2.out
  obtain ⟨m0, m1, m2, m3⟩ := HR2.out
  have z0 := block_lt_of_cell k0
  have z1 := block_lt_of_cell m0
  clear q1 q2 HP HR
  have HK4 : Hid (C4 x y u v w.heap.size w2) := Lib.hid ⟨k0, k1, m0, m1⟩
  clear k0 k1 k2 k3 m0 m1 m2 m3
  go_upto_region 3 with fail
  go_cut [5, 6] (fun p q wx => ∃ h5 h6 : Nat, p = .pointer (some ⟨h5, 0, none⟩) ∧ q = .pointer (some ⟨h6, 0, none⟩) ∧ wx.cell? ⟨h5, 0, none⟩ = some (.int .i64 f0) ∧ wx.cell? ⟨h5, 1, none⟩ = some (.int .i64 f1) ∧ wx.cell? ⟨h5, 2, none⟩ = some (.int .i64 f2) ∧ wx.cell? ⟨h6, 0, none⟩ = some (.int .i64 t0) ∧ wx.cell? ⟨h6, 1, none⟩ = some (.int .i64 t1) ∧ wx.cell? ⟨h6, 2, none⟩ = some (.int .i64 t2) ∧ Q w2 wx)
  case first =>
    go_region_held3 (fun v' => (v'.cell? ⟨w.heap.size, 0, none⟩ = some (.int .i64 x) ∧ v'.cell? ⟨w.heap.size, 1, none⟩ = some (.int .i64 y) ∧ v'.cell? ⟨w.heap.size + 1, 0, none⟩ = some (.int .i64 u) ∧ v'.cell? ⟨w.heap.size + 1, 1, none⟩ = some (.int .i64 v) ∧ Q w2 v')) ((exact c4_of HK4.out (by repeat first | (with_reducible exact K4.out) | (with_reducible exact K3.out) | (with_reducible exact Q.refl _) | (with_reducible refine Q.drew ?_) | (with_reducible refine Q.alloc ?_ _) | (with_reducible refine Q.setCell ?_ (by first | (exact Nat.le_refl _) | (exact Nat.le_of_lt (by assumption)) | (show _ ≤ _; simp; try omega)) _))))
      (first
        | (go_at_call_of 26 (Value.agg #[.int .i64 x, .int .i64 y]); refine (HA.out _).mono ?_; (rintro e w3 ⟨rfl, q3⟩; obtain ⟨y3, p3⟩ := bcell q3; have K3 : Hid (Q w2 w3) := Lib.hid (Q.trans (by repeat first | exact Q.refl _ | refine Q.alloc ?_ _ | refine Q.drew ?_) q3); have n2 : w.heap.size + 1 < w3.heap.size := (by have := K3.out.sz; omega); have n3 : w.heap.size < w3.heap.size := (by omega); (first | (have E3a := Lib.hid (show w3.heap[w2.heap.size]? = some (.cells #[.int .i64 0, .int .i64 0, .int .i64 0] 46 (0, 0)) from b_next q3 (heap_alloc_new w2.drew _))) | (have E3a := Lib.hid (show w3.heap[w2.heap.size]? = some (.cells #[.int .i64 0, .int .i64 0, .int .i64 0] 46 (0, 0)) from b_next q3 (b_next ((Q.refl _).alloc _) (heap_alloc_new w2.drew _)))) | (have E3a := Lib.hid (show w3.heap[w2.heap.size]? = some (.cells #[.int .i64 0, .int .i64 0, .int .i64 0] 46 (0, 0)) from b_next q3 (b_next ((Q.refl ((w2.alloc (.cells #[.int .i64 0, .int .i64 0, .int .i64 0] 46)).alloc (.cells #[.int .i64 0, .int .i64 0, .int .i64 0] 46))).drew) (b_next ((Q.refl _).alloc _) (heap_alloc_new w2 _))))) | skip); (first | (have E3b := Lib.hid (show w3.heap[w2.heap.size + 1]? = some (.cells #[.int .i64 0, .int .i64 0, .int .i64 0] 46 (0, 0)) from b_next q3 (new1 w2.drew _ _))) | (have E3b := Lib.hid (show w3.heap[w2.heap.size + 1]? = some (.cells #[.int .i64 0, .int .i64 0, .int .i64 0] 46 (0, 0)) from b_next q3 (b_next ((Q.refl _).drew) (new1 w2 _ _)))) | skip); have s3 := q3.sz; (try simp only [World.size_drew] at s3); (try simp only [size_alloc] at s3); (try simp only [World.size_drew] at s3); (try simp only [size_alloc] at s3); (try have s30 : w2.heap.size < w3.heap.size := (by omega)); (try have s31 : w2.heap.size + 1 < w3.heap.size := (by omega))))
        | (go_at_call_of 26 (Value.agg #[.int .i64 u, .int .i64 v]); refine (HB.out _).mono ?_; (rintro e w4 ⟨rfl, q4⟩; obtain ⟨y4, p4⟩ := bcell q4; have K4 : Hid (Q w2 w4) := Lib.hid (Q.trans (by repeat first | exact K3.out | refine Q.alloc ?_ _) q4); (first | (have A4 := Lib.hid (b_next q4 E3a.out); obtain ⟨aa1, aa2, aa3, aa4, aa5, aa6⟩ := row3 A4.out) | (have A4 := Lib.hid (b_next q4 (b_next ((Q.refl _).alloc _) E3a.out)); obtain ⟨aa1, aa2, aa3, aa4, aa5, aa6⟩ := row3 A4.out) | (have A4 := Lib.hid (b_next q4 (b_next ((Q.refl _).alloc _) (b_next ((Q.refl _).alloc _) E3a.out))); obtain ⟨aa1, aa2, aa3, aa4, aa5, aa6⟩ := row3 A4.out) | skip); (first | (have B4 := Lib.hid (b_next q4 E3b.out); obtain ⟨bb1, bb2, bb3, bb4, bb5, bb6⟩ := row3 B4.out) | (have B4 := Lib.hid (b_next q4 (b_next ((Q.refl _).alloc _) E3b.out)); obtain ⟨bb1, bb2, bb3, bb4, bb5, bb6⟩ := row3 B4.out) | (have B4 := Lib.hid (b_next q4 (b_next ((Q.refl _).alloc _) (b_next ((Q.refl _).alloc _) E3b.out))); obtain ⟨bb1, bb2, bb3, bb4, bb5, bb6⟩ := row3 B4.out) | skip); (first | (have R4 := Lib.hid (show w4.heap[w3.heap.size]? = some (.cells #[.int .i64 0, .int .i64 0, .int .i64 0] 46 (0, 0)) from b_next q4 (heap_alloc_new w3 _)); obtain ⟨rr1, rr2, rr3, rr4, rr5, rr6⟩ := row3 R4.out) | (have R4 := Lib.hid (show w4.heap[w3.heap.size]? = some (.cells #[.int .i64 0, .int .i64 0, .int .i64 0] 46 (0, 0)) from b_next q4 (b_next ((Q.refl _).alloc _) (heap_alloc_new w3 _))); obtain ⟨rr1, rr2, rr3, rr4, rr5, rr6⟩ := row3 R4.out) | skip); (first | (have L4 := Lib.hid (show w4.heap[w3.heap.size + 1]? = some (.cells #[.int .i64 0, .int .i64 0, .int .i64 0] 46 (0, 0)) from b_next q4 (new1 w3 _ _)); obtain ⟨ll1, ll2, ll3, ll4, ll5, ll6⟩ := row3 L4.out) | skip); have n4 : w.heap.size + 1 < w4.heap.size := (by have := K4.out.sz; omega); have n5 : w.heap.size < w4.heap.size := (by omega); have s4 := q4.sz; (try simp only [size_alloc] at s4); (try have s40 : w2.heap.size < w4.heap.size := (by omega)); (try have s41 : w2.heap.size + 1 < w4.heap.size := (by omega)); (try have s43 : w3.heap.size < w4.heap.size := (by omega)); (try have s44 : w3.heap.size + 1 < w4.heap.size := (by omega)))))
    all_goals (go_wp2_with fail; go_meet)
    all_goals (refine ⟨_, _, rfl, rfl, ?_, ?_, ?_, ?_, ?_, ?_, (by repeat first | (with_reducible exact K4.out) | (with_reducible refine Q.alloc ?_ _) | (with_reducible refine Q.setCell ?_ (by first | (exact Nat.le_refl _) | (exact Nat.le_of_lt (by assumption)) | (show _ ≤ _; simp; try omega)) _))⟩)
    all_goals first | (go_simp; done) | (with_reducible exact set_other (set_other (set_other (row3 (set3c (set3b (set3a A4.out)))).1 (by omega)) (by omega)) (by omega)) | (with_reducible exact (row3 (set3c (set3b (set3a (set_else (by omega) (set_else (by omega) (set_else (by omega) A4.out))))))).1) | (with_reducible exact set_other (set_other (set_other (row3 (set3c (set3b (set3a A4.out)))).2.1 (by omega)) (by omega)) (by omega)) | (with_reducible exact (row3 (set3c (set3b (set3a (set_else (by omega) (set_else (by omega) (set_else (by omega) A4.out))))))).2.1) | (with_reducible exact set_other (set_other (set_other (row3 (set3c (set3b (set3a A4.out)))).2.2.1 (by omega)) (by omega)) (by omega)) | (with_reducible exact (row3 (set3c (set3b (set3a (set_else (by omega) (set_else (by omega) (set_else (by omega) A4.out))))))).2.2.1)
  case rest =>
    obtain ⟨h5, h6, rfl, rfl, c50, c51, c52, c60, c61, c62, KX⟩ := hcut
    have HX := Lib.hid KX
    have GW := Lib.hid gw
    clear gw
    have cw1 : IntKind.i64.wrap (e0 + e1) = s2 := by rw [c1]; exact g6
    have cw2 : IntKind.i64.wrap (s2 + e2) = s3 := by rw [c2]; exact g7
    have cw0 : IntKind.i64.wrap (0 + e0) = e0 := by rw [Int.zero_add]; exact g3
    have dw0 : IntKind.i64.wrap (t0 - f0) = d0 := by rw [a0]; exact g0
    have dw1 : IntKind.i64.wrap (t1 - f1) = d1 := by rw [a1]; exact g1
    have dw2 : IntKind.i64.wrap (t2 - f2) = d2 := by rw [a2]; exact g2
    have ew0 : IntKind.i64.wrap (d0 * d0) = e0 := by rw [b0]; exact g3
    have ew1 : IntKind.i64.wrap (d1 * d1) = e1 := by rw [b1]; exact g4
    have ew2 : IntKind.i64.wrap (d2 * d2) = e2 := by rw [b2]; exact g5
    clear KX HA HB HV HU HK4 z0 z1 a0 a1 a2 b0 b1 b2 c1 c2 g0 g1 g2 g3 g4 g5 g6 g7
    have HC := Lib.hid (show C6 f0 f1 f2 t0 t1 t2 h5 h6 w2 _ from ⟨c50, c51, c52, c60, c61, c62, HX.out⟩)
    clear c50 c51 c52 c60 c61 c62 HX
    go_wp2_with fail
    go_loopw [7, 21] (fun a b wr => ((a = .int .i64 0 ∧ b = .int .i64 0) ∨ (a = .int .i64 e0 ∧ b = .int .i64 1) ∨ (a = .int .i64 s2 ∧ b = .int .i64 2) ∨ (a = .int .i64 s3 ∧ b = .int .i64 3)) ∧ Hid (C6 f0 f1 f2 t0 t1 t2 h5 h6 w2 wr)) (fun _ b _ => 3 - (intOf b).toNat)
    case atStart => exact ⟨.inl ⟨rfl, rfl⟩, HC⟩
    case round =>
      obtain ⟨hst, QR⟩ := hrel
      obtain ⟨k50, k51, k52, k60, k61, k62, k7⟩ := QR.out
      clear k7
      rcases hst with ⟨rfl, rfl⟩ | ⟨rfl, rfl⟩ | ⟨rfl, rfl⟩ | ⟨rfl, rfl⟩
      · go_wp2_with fail
        go_quiet (fail)
        go_wp2_with fail
        go_roundw
        case rel => exact ⟨.inr (.inl ⟨(by first | rfl | exact congrArg (Value.int IntKind.i64) GW.out), rfl⟩), Lib.hid (QR.out.next ((Q.refl _).drewN _))⟩
        case measure => simp [intOf]
      · go_wp2_with fail
        go_quiet (fail)
        go_wp2_with fail
        go_roundw
        case rel => exact ⟨.inr (.inr (.inl ⟨rfl, rfl⟩)), Lib.hid (QR.out.next ((Q.refl _).drewN _))⟩
        case measure => simp [intOf]
      · go_wp2_with fail
        go_quiet (fail)
        go_wp2_with fail
        go_roundw
        case rel => exact ⟨.inr (.inr (.inr ⟨rfl, rfl⟩)), Lib.hid (QR.out.next ((Q.refl _).drewN _))⟩
        case measure => simp [intOf]
      · go_wp2_with fail
        refine (HS.out _).mono ?_
        rintro e w9 ⟨⟨r, rfl, hr⟩, rfl⟩
        go_wp2_with fail
        go_ret
        exact ⟨⟨r, rfl, hr⟩, q02.out.trans QR.out.2.2.2.2.2.2⟩
theorem schord_ok (x y u v : Int) (w : World) (hv : Sph.vld x y) (hu : Sph.vld u v) :
    Calls Tryd.prog 19 #[.agg #[.int .i64 x, .int .i64 y], .agg #[.int .i64 u, .int .i64 v]] w fun e w' => (∃ r, e = .returned (.int .i64 r) ∧ IsSqrt (Sph.D x y u v) r) ∧ Q w w' := by
  have hD := Sph.D_bd x y u v hv.2.2.1 hv.2.2.2 hu.2.2.1 hu.2.2.2
  have hs := Sph.D_sym x y u v
  have b0 := Sph.vx_bd x y
  have b1 := Sph.vy_bd x y
  have b2 := Sph.vz_bd y
  have b3 := Sph.vx_bd u v
  have b4 := Sph.vy_bd u v
  have b5 := Sph.vz_bd v
  have n0 := Sph.sq_nn (Sph.vx u v - Sph.vx x y)
  have n1 := Sph.sq_nn (Sph.vy u v - Sph.vy x y)
  have n2 := Sph.sq_nn (Sph.vz v - Sph.vz y)
  have e : (Sph.vx u v - Sph.vx x y) * (Sph.vx u v - Sph.vx x y) + (Sph.vy u v - Sph.vy x y) * (Sph.vy u v - Sph.vy x y) + (Sph.vz v - Sph.vz y) * (Sph.vz v - Sph.vz y) = Sph.D x y u v := rfl
  rw [← e] at hD ⊢
  clear e hs
  refine schord_core x y u v (Sph.vx x y) (Sph.vy x y) (Sph.vz y) (Sph.vx u v) (Sph.vy u v) (Sph.vz v) _ _ _ _ _ _ _ _ w hv hu (fun W => svector_any x y hv.1 hv.2.1 hv.2.2.1 hv.2.2.2 W) (fun W => svector_any u v hu.1 hu.2.1 hu.2.2.1 hu.2.2.2 W) (fun W => sqrt_nn _ (by omega) (by omega) W) rfl rfl rfl rfl rfl rfl rfl rfl
    (IntWalk.i64_in _ (by omega)) (IntWalk.i64_in _ (by omega)) (IntWalk.i64_in _ (by omega)) (IntWalk.i64_in _ (by omega)) (IntWalk.i64_in _ (by omega)) (IntWalk.i64_in _ (by omega)) (IntWalk.i64_in _ (by omega)) (IntWalk.i64_in _ (by omega)) (wrap64_id _ (by omega) (by omega))
end Go.Proofs.YtmcobpgdledkdaaDoor
