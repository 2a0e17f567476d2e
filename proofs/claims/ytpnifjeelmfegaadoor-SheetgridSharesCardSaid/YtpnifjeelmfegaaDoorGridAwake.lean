
/- The examples of chapter 40 hold (mapsheetslaw40.awake), in a world whose table of moves is as laid. -/
import Derived.Test.YtpnifjeelmfegaaDoorGridCov
import Derived.Test.YtpnifjeelmfegaaDoorGridNb
import Derived.Test.YtpnifjeelmfegaaDoorGridRP
import Derived.Test.YtpnifjeelmfegaaDoorIdset
namespace Go.Proofs.YtpnifjeelmfegaaDoor
open Go.RowKit
set_option linter.unusedVariables false

theorem ok0 : Grid.Ok 0 0 100 50 3 2 := by decide

theorem Ints.row {w : World} {B : Nat} {T : TypeId} {fr : Nat × Nat} (l : List Int) (h : w.heap[B]? = some (.cells (l.map (Value.int .i64)).toArray T fr)) (hl : l ≠ []) : Ints w (.slice (some ⟨B, 0, none⟩) l.length l.length) l := by
  refine ⟨_, _, rfl, Nat.le_refl _, by simp, fun hn => ⟨_, rfl, (Array.getElem?_eq_some_iff.1 h).1, fun j u hu => ?_⟩⟩
  have e : (⟨B, 0, none⟩ : Addr).add j = ⟨B, j, none⟩ := by
    unfold Addr.add
    split
    · rename_i h0; rw [h0]
    · simp
  rw [e, cell_of_row w B j _ _ _ h]
  simpa using hu

set_option maxRecDepth 100000 in
set_option maxHeartbeats 4000000 in
theorem awake_true (w : World) (hM : Mv w) :
    Calls Tryd.prog 12 #[] w fun e w' => e = .returned (.bool true) ∧ Q w w' := by
  have HB := Lib.hid (fun W' => box_there 0 0 100 50 3 2 5 W' ok0 (by omega) (by omega))
  rw [show Grid.bx 0 100 3 5 = 100 by decide, show Grid.by' 0 50 3 5 = 50 by decide] at HB
  have HN := Lib.hid (fun W' => name_nm 0 0 100 50 3 2 5 W' ok0 (by omega) (by omega))
  rw [show Grid.nm 3 5 = [66, 50] by decide] at HN
  have HA := Lib.hid (fun W' => at_any 0 0 100 50 3 2 100 50 W' ok0)
  rw [show Grid.cov 0 0 100 50 3 100 50 100 50 (GridN 3 2) = [1, 2, 4, 5] by decide +kernel] at HA
  have HE1 := Lib.hid (fun W' (h : Mv W') => nb_there 0 0 100 50 3 2 2 4 W' h ok0 (by omega) (by omega) (by omega) (by omega))
  rw [show Grid.nbv 3 2 2 4 = .tuple #[.int .i64 5, .bool true] by rfl] at HE1
  have HE2 := Lib.hid (fun W' (h : Mv W') => nb_there 0 0 100 50 3 2 2 2 W' h ok0 (by omega) (by omega) (by omega) (by omega))
  rw [show Grid.nbv 3 2 2 2 = .tuple #[.int .i64 0, .bool false] by rfl] at HE2
  have HP1 := Lib.hid (fun W' => parse_any 0 0 100 50 3 2 ⟨#[68, 49]⟩ W' ok0 (by decide))
  rw [show Grid.prs 3 2 ⟨#[68, 49]⟩ = .tuple #[.int .i64 0, .int .i64 7] by rfl] at HP1
  have HP2 := Lib.hid (fun W' => parse_any 0 0 100 50 3 2 ⟨#[66, 48, 50]⟩ W' ok0 (by decide))
  rw [show Grid.prs 3 2 ⟨#[66, 48, 50]⟩ = .tuple #[.int .i64 0, .int .i64 20] by rfl] at HP2
  have HM := Lib.hid hM
  have HS := Lib.hid (SeAt.fresh w 0 0 100 50 3 2)
  clear hM
  go_enter Tryd.func12, Tryd.ntmps12
  go_wp2_with fail
  refine (HB.out _).mono ?_
  rintro e w1 ⟨rfl, q1⟩
  obtain ⟨k0, k1, k2, k3, k4, k5, k6⟩ := HS.out.next q1; clear k6
  have z1 : w.heap.size < w1.heap.size := by have := q1.sz; simp at this; omega
  have q1' : Q (w.alloc (.cells #[.int .i64 0, .int .i64 0, .int .i64 100, .int .i64 50, .int .i64 3, .int .i64 2] 25)) (w1.alloc (.cells #[.int .i64 100, .int .i64 50, .int .i64 200, .int .i64 100] 27)) := q1.alloc _
  have HBX := Lib.hid (BoxAt.fresh w1 100 50 200 100)
  go_wp2_with fail
  refine (HN.out _).mono ?_
  rintro e w2 ⟨rfl, q2⟩
  clear k0 k1 k2 k3 k4 k5
  obtain ⟨k0, k1, k2, k3, k4, k5, k6⟩ := (HS.out.next q1').next q2; clear k6
  go_wp2_with fail
  refine (HA.out _).mono ?_
  rintro e w3 ⟨v, rfl, hi, q3⟩
  have q23 := q2.trans q3
  have HI := Lib.hid hi
  clear hi
  clear k0 k1 k2 k3 k4 k5
  obtain ⟨k0, k1, k2, k3, k4, k5, k6⟩ := (HS.out.next q1').next q23; clear k6
  have HM3 := Lib.hid (((HM.out.alloc _).next q1').next q23)
  go_wp2_with fail
  refine (HE1.out _ HM3.out).mono ?_
  rintro e w4 ⟨rfl, q4⟩
  clear k0 k1 k2 k3 k4 k5
  have q24 := q23.trans q4
  obtain ⟨k0, k1, k2, k3, k4, k5, k6⟩ := (HS.out.next q1').next q24; clear k6
  go_wp2_with fail
  refine (HE2.out _ (HM3.out.next q4)).mono ?_
  rintro e w5 ⟨rfl, q5⟩
  clear k0 k1 k2 k3 k4 k5
  have q25 := q24.trans q5
  obtain ⟨k0, k1, k2, k3, k4, k5, k6⟩ := (HS.out.next q1').next q25; clear k6
  go_wp2_with fail
  refine (HP1.out _).mono ?_
  rintro e w6 ⟨rfl, q6⟩
  clear k0 k1 k2 k3 k4 k5
  have q26 := q25.trans q6
  obtain ⟨k0, k1, k2, k3, k4, k5, k6⟩ := (HS.out.next q1').next q26; clear k6
  go_wp2_with fail
  refine (HP2.out _).mono ?_
  rintro e w7 ⟨rfl, q7⟩
  clear k0 k1 k2 k3 k4 k5
  have q27 := q26.trans q7
  obtain ⟨b0, b1, b2, b3, b4⟩ := HBX.out.next q27
  clear b4
  go_wp2_with fail
  refine (same_true _ _ [1, 2, 4, 5] _ ((HI.out.next (q4.trans (q5.trans (q6.trans q7)))).next ((Q.refl _).alloc _)) (Ints.row [1, 2, 4, 5] (heap_alloc_new _ _) (by simp)) (by decide)).mono ?_
  rintro e w8 ⟨rfl, q8⟩
  go_wp2_with fail
  go_ret
  exact ⟨rfl, ((q1'.behind _).trans q27).trans (q8.behind _)⟩
end Go.Proofs.YtpnifjeelmfegaaDoor
