
/- Contract of the reference's vector (package mapsheetsref12). -/
import Derived.Test.YtmcobpgdledkdaaDoorSphX
import Derived.Test.YtmcobpgdledkdaaDoorSqrtR
import Derived.Deep.RegionHeld3
namespace Go.Proofs.YtmcobpgdledkdaaDoor
open Go.RowKit
set_option linter.unusedVariables false

def B2 (x y : Int) (B : Nat) (v : World) : Prop := v.heap[B]? = some (.cells #[.int .i64 x, .int .i64 y] 23 (0, 0)) ∧ v.heap[B + 1]? = some (.cells #[.int .i64 0, .int .i64 0, .int .i64 0] 46 (0, 0))
theorem b2_of {x y : Int} {B : Nat} {w v : World} (h : B2 x y B w) (q : Q w v) : v.cell? ⟨B, 0, none⟩ = some (.int .i64 x) ∧ v.cell? ⟨B, 1, none⟩ = some (.int .i64 y) ∧ Q w v := ⟨(row2 (b_next q h.1)).1, (row2 (b_next q h.1)).2.1, q⟩
theorem B2.next {x y : Int} {B : Nat} {w v : World} (h : B2 x y B w) (q : Q w v) : B2 x y B v := ⟨b_next q h.1, b_next q h.2⟩

set_option maxHeartbeats 8000000 in
theorem rvector_core (x y v0 v1 cy cx sx sy p1 p2 : Int) (w : World)
    (HCY : Hid (∀ w, Calls Tryd.prog 40 #[.int .i64 y] w fun e w' => e = .returned (.int .i64 cy) ∧ Q w w')) (HCX : Hid (∀ w, Calls Tryd.prog 40 #[.int .i64 x] w fun e w' => e = .returned (.int .i64 cx) ∧ Q w w'))
    (HSX : Hid (∀ w, Calls Tryd.prog 41 #[.int .i64 x] w fun e w' => e = .returned (.int .i64 sx) ∧ Q w w')) (HSY : Hid (∀ w, Calls Tryd.prog 41 #[.int .i64 y] w fun e w' => e = .returned (.int .i64 sy) ∧ Q w w'))
    (HR1 : Hid (∀ w, Calls Tryd.prog 39 #[.int .i64 p1, .int .i64 1073741824] w fun e w' => e = .returned (.tuple #[.int .i64 v0, .int .i64 0]) ∧ Q w w')) (HR2 : Hid (∀ w, Calls Tryd.prog 39 #[.int .i64 p2, .int .i64 1073741824] w fun e w' => e = .returned (.tuple #[.int .i64 v1, .int .i64 0]) ∧ Q w w'))
    (e1 : cy * cx = p1) (e2 : cy * sx = p2) (g1 : IntKind.i64.wrap (cy * cx) = p1) (g2 : IntKind.i64.wrap (cy * sx) = p2) (h10 : -1152921504606846976 ≤ p1) (h11 : p1 ≤ 1152921504606846976) (h20 : -1152921504606846976 ≤ p2) (h21 : p2 ≤ 1152921504606846976) :
    Calls Tryd.prog 28 #[.agg #[.int .i64 x, .int .i64 y]] w fun e w' => e = .returned (.agg #[.int .i64 v0, .int .i64 v1, .int .i64 sy]) ∧ Q w w' := by
  have HK : Hid (B2 x y w.heap.size ((w.alloc (.cells #[.int .i64 x, .int .i64 y] 23)).alloc (.cells #[.int .i64 0, .int .i64 0, .int .i64 0] 46))) := Lib.hid ⟨b_next ((Q.refl _).alloc _) (heap_alloc_new _ _), new1 _ _ _⟩
  clear e1 e2
  go_enter Tryd.func28, Tryd.ntmps28
  go_wp2_with fail
  go_region_held3 (fun v' => (v'.cell? ⟨w.heap.size, 0, none⟩ = some (.int .i64 x) ∧ v'.cell? ⟨w.heap.size, 1, none⟩ = some (.int .i64 y) ∧ Q ((w.alloc (.cells #[.int .i64 x, .int .i64 y] 23)).alloc (.cells #[.int .i64 0, .int .i64 0, .int .i64 0] 46)) v')) ((first | (exact b2_of HK.out ((Q.refl _).drew)) | (with_reducible exact b2_of HK.out K3.out) | (with_reducible exact b2_of HK.out K2.out) | (with_reducible exact b2_of HK.out K1.out)))
    (first
      | (go_at_call_of 40 (Value.int .i64 y); refine (HCY.out _).mono ?_; (rintro e w1 ⟨rfl, q1⟩; have K1 : Hid (Q ((w.alloc (.cells #[.int .i64 x, .int .i64 y] 23)).alloc (.cells #[.int .i64 0, .int .i64 0, .int .i64 0] 46)) w1) := Lib.hid (((Q.refl _).drew).trans q1)))
      | (go_at_call_of 40 (Value.int .i64 x); refine (HCX.out _).mono ?_; (rintro e w2 ⟨rfl, q2⟩; have K2 : Hid (Q ((w.alloc (.cells #[.int .i64 x, .int .i64 y] 23)).alloc (.cells #[.int .i64 0, .int .i64 0, .int .i64 0] 46)) w2) := Lib.hid (K1.out.trans q2)))
      | (go_at_call 39; refine (HR1.out _).mono ?_; (rintro e w3 ⟨rfl, q3⟩; have K3 : Hid (Q ((w.alloc (.cells #[.int .i64 x, .int .i64 y] 23)).alloc (.cells #[.int .i64 0, .int .i64 0, .int .i64 0] 46)) w3) := Lib.hid (K2.out.trans q3))))
  all_goals
    have HK3 := Lib.hid (HK.out.next K3.out)
    clear HK
    go_wp2_with fail
    go_region_held3 (fun v' => (v'.cell? ⟨w.heap.size, 0, none⟩ = some (.int .i64 x) ∧ v'.cell? ⟨w.heap.size, 1, none⟩ = some (.int .i64 y) ∧ Q w3 v')) ((first | (exact b2_of HK3.out ((Q.refl _).drew)) | (with_reducible exact b2_of HK3.out K6.out) | (with_reducible exact b2_of HK3.out K5.out) | (with_reducible exact b2_of HK3.out K4.out)))
      (first
        | (go_at_call 40; refine (HCY.out _).mono ?_; (rintro e w4 ⟨rfl, q4⟩; have K4 : Hid (Q w3 w4) := Lib.hid (((Q.refl _).drew).trans q4)))
        | (go_at_call 41; refine (HSX.out _).mono ?_; (rintro e w5 ⟨rfl, q5⟩; have K5 : Hid (Q w3 w5) := Lib.hid (K4.out.trans q5)))
        | (go_at_call 39; refine (HR2.out _).mono ?_; (rintro e w6 ⟨rfl, q6⟩; have K6 : Hid (Q w3 w6) := Lib.hid (K5.out.trans q6))))
    all_goals
      have HK6 := Lib.hid (HK3.out.next K6.out)
      obtain ⟨k0, k1, k2, k3⟩ := row2 HK6.out.1
      go_wp2_with fail
      refine (HSY.out _).mono ?_
      rintro e w7 ⟨rfl, q7⟩
      have HK7 := Lib.hid (HK6.out.next q7)
      have q07 := Lib.hid (((K3.out.trans (K6.out.trans q7)).behind _).behind _)
      clear k0 k1 k2 k3
      obtain ⟨m0, m1, m2, m3, m4, m5⟩ := row3 HK7.out.2
      go_wp2_with fail
      refine bodyPost_ret (results_cell1 rfl _ _ _ _ _ _ _ rfl (set3c (set3b (set3a HK7.out.2))) Tryd.underlying46 rfl (by kernel_rfl)) rfl ⟨rfl, ?_⟩
      repeat first | (refine Q.setCell ?_ (by simp) _)
      exact q07.out
theorem rvector_any (x y : Int) (hx0 : -648000 ≤ x) (hx1 : x ≤ 648000) (hy0 : -306000 ≤ y) (hy1 : y ≤ 306000) (w : World) :
    Calls Tryd.prog 28 #[.agg #[.int .i64 x, .int .i64 y]] w fun e w' => e = .returned (.agg #[.int .i64 (Sph.vx x y), .int .i64 (Sph.vy x y), .int .i64 (Sph.vz y)]) ∧ Q w w' := by
  have h1 := Sph.prod_bd _ _ (Sph.cos_in y).1 (Sph.cos_in y).2 (Sph.cos_in x).1 (Sph.cos_in x).2
  have h2 := Sph.prod_bd _ _ (Sph.cos_in y).1 (Sph.cos_in y).2 (Ser.sin_in x).1 (Ser.sin_in x).2
  exact rvector_core x y _ _ (Ser.cos y) (Ser.cos x) (Ser.sin x) _ _ _ w (fun W => rcos_any y (by omega) (by omega) W) (fun W => rcos_any x (by omega) (by omega) W) (fun W => rsin_any x (by omega) (by omega) W) (fun W => rsin_any y (by omega) (by omega) W)
    (fun W => rround_pos (Ser.cos y * Ser.cos x) 1073741824 (by omega) (by omega) (by omega) (by omega) W) (fun W => rround_pos (Ser.cos y * Ser.sin x) 1073741824 (by omega) (by omega) (by omega) (by omega) W) rfl rfl (IntWalk.i64_in _ (by omega)) (IntWalk.i64_in _ (by omega)) h1.1 h1.2 h2.1 h2.2
end Go.Proofs.YtmcobpgdledkdaaDoor
