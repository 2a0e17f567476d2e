
/- Contracts of sphere.vector and of the reference's vector. -/
import Derived.Test.YtmcobpgdledkdaaDoorSqrt
import Derived.Test.YtmcobpgdledkdaaDoorCellB
import Derived.Test.YtmcobpgdledkdaaDoorSphA
import Derived.Test.YtmcobpgdledkdaaDoorSin
import Derived.Test.YtmcobpgdledkdaaDoorRefS
import Derived.Test.YtmcobpgdledkdaaDoorRefN
import Derived.Test.YtmcobpgdledkdaaDoorCircle
import Derived.Deep.RegionHeld3
import Derived.Deep.DeepCutAuto
namespace Go.Proofs.YtmcobpgdledkdaaDoor
open Go.RowKit
set_option linter.unusedVariables false

namespace Sph
/-- The coordinates of a position's vector. -/
def vx (x y : Int) : Int := Num.rnd (Ser.cos y * Ser.cos x) 1073741824
def vy (x y : Int) : Int := Num.rnd (Ser.cos y * Ser.sin x) 1073741824
def vz (y : Int) : Int := Ser.sin y
theorem prod_bd (a b : Int) (a0 : -1073741824 ≤ a) (a1 : a ≤ 1073741824) (b0 : -1073741824 ≤ b) (b1 : b ≤ 1073741824) : -1152921504606846976 ≤ a * b ∧ a * b ≤ 1152921504606846976 := by
  have h := Int.natAbs_mul a b
  have h2 : a.natAbs * b.natAbs ≤ 1073741824 * 1073741824 := Nat.mul_le_mul (by omega) (by omega)
  omega
theorem rnd_bd (a : Int) (a0 : -1152921504606846976 ≤ a) (a1 : a ≤ 1152921504606846976) : -1073741824 ≤ Num.rnd a 1073741824 ∧ Num.rnd a 1073741824 ≤ 1073741824 := by
  unfold Num.rnd
  omega
theorem cos_in (y : Int) : -1073741824 ≤ Ser.cos y ∧ Ser.cos y ≤ 1073741824 := by unfold Ser.cos; exact Ser.sin_in _
theorem vx_bd (x y : Int) : -1073741824 ≤ vx x y ∧ vx x y ≤ 1073741824 := by
  have h := prod_bd _ _ (cos_in y).1 (cos_in y).2 (cos_in x).1 (cos_in x).2
  exact rnd_bd _ h.1 h.2
theorem vy_bd (x y : Int) : -1073741824 ≤ vy x y ∧ vy x y ≤ 1073741824 := by
  have h := prod_bd _ _ (cos_in y).1 (cos_in y).2 (Ser.sin_in x).1 (Ser.sin_in x).2
  exact rnd_bd _ h.1 h.2
theorem vz_bd (y : Int) : -1073741824 ≤ vz y ∧ vz y ≤ 1073741824 := Ser.sin_in y
end Sph
theorem set3a {w : World} {g : Nat} {a b c x : Value} {T : TypeId} (h : w.heap[g]? = some (.cells #[a, b, c] T (0, 0))) : (w.setCell ⟨g, 0, none⟩ x).heap[g]? = some (.cells #[x, b, c] T (0, 0)) := heap_setCell_same _ _ _ _ _ _ h
theorem set3b {w : World} {g : Nat} {a b c x : Value} {T : TypeId} (h : w.heap[g]? = some (.cells #[a, b, c] T (0, 0))) : (w.setCell ⟨g, 1, none⟩ x).heap[g]? = some (.cells #[a, x, c] T (0, 0)) := heap_setCell_same _ _ _ _ _ _ h
theorem set3c {w : World} {g : Nat} {a b c x : Value} {T : TypeId} (h : w.heap[g]? = some (.cells #[a, b, c] T (0, 0))) : (w.setCell ⟨g, 2, none⟩ x).heap[g]? = some (.cells #[a, b, x] T (0, 0)) := heap_setCell_same _ _ _ _ _ _ h

set_option maxHeartbeats 4000000 in
theorem svector_any (x y : Int) (hx0 : -648000 ≤ x) (hx1 : x ≤ 648000) (hy0 : -306000 ≤ y) (hy1 : y ≤ 306000) (w : World) :
    Calls Tryd.prog 26 #[.agg #[.int .i64 x, .int .i64 y]] w fun e w' => e = .returned (.agg #[.int .i64 (Sph.vx x y), .int .i64 (Sph.vy x y), .int .i64 (Sph.vz y)]) ∧ Q w w' := by
  have HCY := Lib.hid (fun W => cos_any y (by omega) (by omega) W)
  have HCX := Lib.hid (fun W => cos_any x (by omega) (by omega) W)
  have HSX := Lib.hid (fun W => sin_any x (by omega) (by omega) W)
  have HSY := Lib.hid (fun W => sin_any y (by omega) (by omega) W)
  have h1 := Sph.prod_bd _ _ (Sph.cos_in y).1 (Sph.cos_in y).2 (Sph.cos_in x).1 (Sph.cos_in x).2
  have h2 := Sph.prod_bd _ _ (Sph.cos_in y).1 (Sph.cos_in y).2 (Ser.sin_in x).1 (Ser.sin_in x).2
  have HR1 := Lib.hid (fun W => round_pos (Ser.cos y * Ser.cos x) 1073741824 (by omega) (by omega) (by omega) (by omega) W)
  have HR2 := Lib.hid (fun W => round_pos (Ser.cos y * Ser.sin x) 1073741824 (by omega) (by omega) (by omega) (by omega) W)
  rw [show Num.rnd (Ser.cos y * Ser.cos x) 1073741824 = Sph.vx x y from rfl] at HR1
  rw [show Num.rnd (Ser.cos y * Ser.sin x) 1073741824 = Sph.vy x y from rfl] at HR2
  rw [show Sph.vz y = Ser.sin y from rfl]
  generalize Sph.vx x y = v0 at *
  generalize Sph.vy x y = v1 at *
  obtain ⟨cy, ecy⟩ : ∃ z, Ser.cos y = z := ⟨_, rfl⟩
  obtain ⟨cx, ecx⟩ : ∃ z, Ser.cos x = z := ⟨_, rfl⟩
  obtain ⟨sx, esx⟩ : ∃ z, Ser.sin x = z := ⟨_, rfl⟩
  obtain ⟨sy, esy⟩ : ∃ z, Ser.sin y = z := ⟨_, rfl⟩
  rw [ecy] at HCY HR1 HR2 h1 h2
  rw [ecx] at HCX HR1 h1
  rw [esx] at HSX HR2 h2
  rw [esy] at HSY ⊢
  clear ecy ecx esx esy
  obtain ⟨p1, e1⟩ : ∃ z, cy * cx = z := ⟨_, rfl⟩
  obtain ⟨p2, e2⟩ : ∃ z, cy * sx = z := ⟨_, rfl⟩
  rw [e1] at HR1 h1
  rw [e2] at HR2 h2
  obtain ⟨h10, h11⟩ := h1
  obtain ⟨h20, h21⟩ := h2
  go_enter Tryd.func26, Tryd.ntmps26
  go_wp2_with fail
  refine (HCY.out _).mono ?_
  rintro e w1 ⟨rfl, q1⟩
  have HP : Hid (w1.heap[w.heap.size]? = some (.cells #[.int .i64 x, .int .i64 y] 23 (0, 0))) := Lib.hid (b_next q1 (b_next ((Q.refl _).alloc _) (heap_alloc_new _ _)))
  have HV : Hid (w1.heap[w.heap.size + 1]? = some (.cells #[.int .i64 0, .int .i64 0, .int .i64 0] 46 (0, 0))) := Lib.hid (b_next q1 (new1 _ _ _))
  have q01 := Lib.hid ((q1.behind _).behind _)
  clear q1
  obtain ⟨k0, k1, k2, k3⟩ := row2 HP.out
  go_wp2_with fail
  refine (HCX.out _).mono ?_
  rintro e w2 ⟨rfl, q2⟩
  clear k0 k1 k2 k3
  go_wp2_with fail
  refine (HR1.out _).mono ?_
  rintro e w2' ⟨rfl, rfl⟩
  have HV2 := Lib.hid (b_next q2 HV.out)
  have HP2 := Lib.hid (b_next q2 HP.out)
  obtain ⟨m0, m1, m2, m3, m4, m5⟩ := row3 HV2.out
  obtain ⟨k0, k1, k2, k3⟩ := row2 HP2.out
  have zz := block_lt_of_cell m0
  have q02 := Lib.hid (q01.out.trans q2)
  clear q2
  go_wp2_with fail
  refine (HSX.out _).mono ?_
  rintro e w3 ⟨rfl, q3⟩
  clear k0 k1 k2 k3 m0 m1 m2 m3 m4 m5 zz
  go_wp2_with fail
  refine (HR2.out _).mono ?_
  rintro e w3' ⟨rfl, rfl⟩
  have HV3 := Lib.hid (b_next q3 (set3a HV2.out))
  have HP3 := Lib.hid (b_next q3 (set_else (by omega) HP2.out))
  have q03 := Lib.hid ((q02.out.setCell (by simp) _).trans q3)
  obtain ⟨m0, m1, m2, m3, m4, m5⟩ := row3 HV3.out
  obtain ⟨k0, k1, k2, k3⟩ := row2 HP3.out
  have zz := block_lt_of_cell m0
  clear q3
  go_wp2_with fail
  refine (HSY.out _).mono ?_
  rintro e w4 ⟨rfl, q4⟩
  have HV4 := Lib.hid (b_next q4 (set3b HV3.out))
  have q04 := Lib.hid ((q03.out.setCell (by simp) _).trans q4)
  clear k0 k1 k2 k3 m0 m1 m2 m3 m4 m5 zz q4
  obtain ⟨m0, m1, m2, m3, m4, m5⟩ := row3 HV4.out
  have zz := block_lt_of_cell m0
  go_wp2_with fail
  refine bodyPost_ret (results_cell1 rfl _ _ _ _ _ _ _ rfl (set3c (set3b (set3a (set3c HV4.out)))) Tryd.underlying46 rfl (by kernel_rfl)) rfl ⟨rfl, ?_⟩
  repeat first | (refine Q.setCell ?_ (by simp) _)
  exact q04.out
end Go.Proofs.YtmcobpgdledkdaaDoor
