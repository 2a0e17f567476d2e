
/- Contracts of sphere.Print and of the reference's Print. -/
import Derived.Test.YtmcobpgdledkdaaDoorSphU
namespace Go.Proofs.YtmcobpgdledkdaaDoor
open Go.RowKit
set_option linter.unusedVariables false

namespace Sph
/-- The text of a position. -/
def prt (x y : Int) : List UInt8 := if vld x y then wr y 78 83 ++ ([32] ++ wr x 69 87) else []
theorem wr_len (n : Int) (p m : UInt8) : (wr n p m).length ≤ 10 := by
  have := ang_len n.natAbs
  unfold wr
  simp
  omega
end Sph
def PS (x y : Int) (B : Nat) (wk v : World) : Prop := v.cell? ⟨B, 0, none⟩ = some (.int .i64 x) ∧ v.cell? ⟨B, 1, none⟩ = some (.int .i64 y) ∧ Q wk v
theorem ps_next {x y : Int} {B : Nat} {wk u v : World} (h : PS x y B wk u) (q : Q u v) : v.cell? ⟨B, 0, none⟩ = some (.int .i64 x) ∧ v.cell? ⟨B, 1, none⟩ = some (.int .i64 y) ∧ Q wk v := ⟨t_next q h.1, t_next q h.2.1, h.2.2.trans q⟩
theorem sprint_no (x y : Int) (w : World) (h : ¬ Sph.vld x y) :
    Calls Tryd.prog 17 #[.agg #[.int .i64 x, .int .i64 y]] w fun e w' => e = .returned (.string ⟨#[]⟩) ∧ Q w w' := by
  have HV := Lib.hid (fun W => svalid_no x y W h)
  clear h
  go_enter Tryd.func17, Tryd.ntmps17
  go_wp2_with fail
  refine (HV.out _).mono ?_
  rintro e w1 ⟨rfl, q1⟩
  go_wp2_with fail
  go_ret
  exact ⟨rfl, q1.behind _⟩
theorem rprint_no (x y : Int) (w : World) (h : ¬ Sph.vld x y) :
    Calls Tryd.prog 18 #[.agg #[.int .i64 x, .int .i64 y]] w fun e w' => e = .returned (.string ⟨#[]⟩) ∧ Q w w' := by
  have HV := Lib.hid (fun W => rvalid_no x y W h)
  clear h
  go_enter Tryd.func18, Tryd.ntmps18
  go_wp2_with fail
  refine (HV.out _).mono ?_
  rintro e w1 ⟨rfl, q1⟩
  go_wp2_with fail
  go_ret
  exact ⟨rfl, q1.behind _⟩
set_option maxHeartbeats 4000000 in
theorem sprint_yes (x y : Int) (w : World) (h : Sph.vld x y) (ht : Ten (x.natAbs / 3600) w) :
    Calls Tryd.prog 17 #[.agg #[.int .i64 x, .int .i64 y]] w fun e w' => e = .returned (.string ⟨(Sph.wr y 78 83 ++ ([32] ++ Sph.wr x 69 87)).toArray⟩) ∧ Q w w' := by
  have HV := Lib.hid (fun W => svalid_yes x y W h)
  unfold Sph.vld at h
  have HY := Lib.hid (fun W => swrite_any y 78 83 (by omega) W (.inl (by omega)))
  have HX := Lib.hid (fun W (q : Q w W) => swrite_any x 69 87 (by omega) W (ht.next q))
  have zy := Sph.wr_len y 78 83
  have zx := Sph.wr_len x 69 87
  obtain ⟨A, hA⟩ : ∃ t : ByteArray, (⟨(Sph.wr y 78 83).toArray⟩ : ByteArray) = t := ⟨_, rfl⟩
  obtain ⟨B, hB⟩ : ∃ t : ByteArray, (⟨(Sph.wr x 69 87).toArray⟩ : ByteArray) = t := ⟨_, rfl⟩
  have HR : Hid ((A ++ ⟨#[32]⟩) ++ B = ⟨(Sph.wr y 78 83 ++ ([32] ++ Sph.wr x 69 87)).toArray⟩) := Lib.hid (by
    rw [← hA, ← hB, show (⟨#[32]⟩ : ByteArray) = ⟨([32] : List UInt8).toArray⟩ from rfl]
    simp only [cat_mk, List.append_assoc])
  have zA : A.size ≤ 10 := by rw [← hA, size_mk]; exact zy
  have zB : B.size ≤ 10 := by rw [← hB, size_mk]; exact zx
  have n1 : A.size + 1 ≤ 9223372036854775807 := by omega
  have n2 : A.size + 1 + B.size ≤ 9223372036854775807 := by omega
  have n3 : A.size + (1 + B.size) ≤ 9223372036854775807 := by omega
  have n4 : (A ++ ⟨#[32]⟩).size + B.size ≤ 9223372036854775807 := by rw [ByteArray.size_append]; exact n2
  have n5 : A.size + (⟨#[32]⟩ : ByteArray).size ≤ 9223372036854775807 := n1
  rw [hA] at HY
  rw [hB] at HX
  clear h ht hA hB zx zy
  go_enter Tryd.func17, Tryd.ntmps17
  go_wp2_with fail
  refine (HV.out _).mono ?_
  rintro e w1 ⟨rfl, q1⟩
  have HK : Hid (PS x y w.heap.size w1 w1) := Lib.hid ⟨t_next q1 (row2 (heap_alloc_new _ _)).1, t_next q1 (row2 (heap_alloc_new _ _)).2.1, Q.refl _⟩
  have q01 := Lib.hid (q1.behind _)
  obtain ⟨k0, k1, k2⟩ := HK.out
  have z1 := block_lt_of_cell k0
  clear q1 k2
  go_wp2_with fail
  go_region_with (first
      | (go_at_call_of 24 (Value.int .i64 y); refine (HY.out _).mono ?_; (rintro e w2 ⟨rfl, q2⟩; have k20 : w2.cell? ⟨w.heap.size, 0, none⟩ = some (.int .i64 x) := t_next q2 HK.out.1))
      | (go_at_call_of 24 (Value.int .i64 x); refine (HX.out _ (q01.out.trans (((Q.refl _).drew).trans (by first | exact Q.refl _ | assumption)))).mono ?_; (rintro e w3 ⟨rfl, q3⟩)))
  all_goals
    go_wp2_with fail
    go_ret
    exact ⟨ret_str HR.out, q01.out.trans ((((Q.refl _).drew).trans q2).trans q3)⟩
set_option maxHeartbeats 4000000 in
theorem rprint_yes (x y : Int) (w : World) (h : Sph.vld x y) :
    Calls Tryd.prog 18 #[.agg #[.int .i64 x, .int .i64 y]] w fun e w' => e = .returned (.string ⟨(Sph.wr y 78 83 ++ ([32] ++ Sph.wr x 69 87)).toArray⟩) ∧ Q w w' := by
  have HV := Lib.hid (fun W => rvalid_yes x y W h)
  unfold Sph.vld at h
  have HY := Lib.hid (fun W => rwrite_any y 78 83 (by omega) W)
  have HX := Lib.hid (fun W => rwrite_any x 69 87 (by omega) W)
  have zy := Sph.wr_len y 78 83
  have zx := Sph.wr_len x 69 87
  obtain ⟨A, hA⟩ : ∃ t : ByteArray, (⟨(Sph.wr y 78 83).toArray⟩ : ByteArray) = t := ⟨_, rfl⟩
  obtain ⟨B, hB⟩ : ∃ t : ByteArray, (⟨(Sph.wr x 69 87).toArray⟩ : ByteArray) = t := ⟨_, rfl⟩
  have HR : Hid ((A ++ ⟨#[32]⟩) ++ B = ⟨(Sph.wr y 78 83 ++ ([32] ++ Sph.wr x 69 87)).toArray⟩) := Lib.hid (by
    rw [← hA, ← hB, show (⟨#[32]⟩ : ByteArray) = ⟨([32] : List UInt8).toArray⟩ from rfl]
    simp only [cat_mk, List.append_assoc])
  have zA : A.size ≤ 10 := by rw [← hA, size_mk]; exact zy
  have zB : B.size ≤ 10 := by rw [← hB, size_mk]; exact zx
  have n1 : A.size + 1 ≤ 9223372036854775807 := by omega
  have n2 : A.size + 1 + B.size ≤ 9223372036854775807 := by omega
  have n3 : A.size + (1 + B.size) ≤ 9223372036854775807 := by omega
  have n4 : (A ++ ⟨#[32]⟩).size + B.size ≤ 9223372036854775807 := by rw [ByteArray.size_append]; exact n2
  have n5 : A.size + (⟨#[32]⟩ : ByteArray).size ≤ 9223372036854775807 := n1
  rw [hA] at HY
  rw [hB] at HX
  clear h hA hB zx zy
  go_enter Tryd.func18, Tryd.ntmps18
  go_wp2_with fail
  refine (HV.out _).mono ?_
  rintro e w1 ⟨rfl, q1⟩
  have HK : Hid (PS x y w.heap.size w1 w1) := Lib.hid ⟨t_next q1 (row2 (heap_alloc_new _ _)).1, t_next q1 (row2 (heap_alloc_new _ _)).2.1, Q.refl _⟩
  have q01 := Lib.hid (q1.behind _)
  obtain ⟨k0, k1, k2⟩ := HK.out
  have z1 := block_lt_of_cell k0
  clear q1 k2
  go_wp2_with fail
  go_region_with (first
      | (go_at_call_of 25 (Value.int .i64 y); refine (HY.out _).mono ?_; (rintro e w2 ⟨rfl, q2⟩; have k20 : w2.cell? ⟨w.heap.size, 0, none⟩ = some (.int .i64 x) := t_next q2 HK.out.1))
      | (go_at_call_of 25 (Value.int .i64 x); refine (HX.out _).mono ?_; (rintro e w3 ⟨rfl, q3⟩)))
  all_goals
    go_wp2_with fail
    go_ret
    exact ⟨ret_str HR.out, q01.out.trans ((((Q.refl _).drew).trans q2).trans q3)⟩
theorem sprint_any (x y : Int) (w : World) (ht : Ten (x.natAbs / 3600) w) :
    Calls Tryd.prog 17 #[.agg #[.int .i64 x, .int .i64 y]] w fun e w' => e = .returned (.string ⟨(Sph.prt x y).toArray⟩) ∧ Q w w' := by
  unfold Sph.prt
  by_cases h : Sph.vld x y
  · rw [if_pos h]
    exact sprint_yes x y w h ht
  · rw [if_neg h]
    exact sprint_no x y w h
theorem rprint_any (x y : Int) (w : World) :
    Calls Tryd.prog 18 #[.agg #[.int .i64 x, .int .i64 y]] w fun e w' => e = .returned (.string ⟨(Sph.prt x y).toArray⟩) ∧ Q w w' := by
  unfold Sph.prt
  by_cases h : Sph.vld x y
  · rw [if_pos h]
    exact rprint_yes x y w h
  · rw [if_neg h]
    exact rprint_no x y w h
end Go.Proofs.YtmcobpgdledkdaaDoor
