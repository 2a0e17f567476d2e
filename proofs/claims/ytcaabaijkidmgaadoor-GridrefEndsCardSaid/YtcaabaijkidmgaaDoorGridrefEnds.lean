
/- For every projection and line, GridrefEnds returns true: a line of the graticule begins and ends with the projected points of its first and its last position.
   Its listed tables are as the program's text lays them (the card ties them); no other condition. -/
import Derived.Test.YtcaabaijkidmgaaDoorGrfQ
import Derived.Test.YtcaabaijkidmgaaDoorPP
import Derived.Test.YtcaabaijkidmgaaDoorPrjJ
import Derived.Test.YtcaabaijkidmgaaDoorFlat
import Derived.Test.YtcaabaijkidmgaaDoorCards
import Derived.Test.YtcaabaijkidmgaaDoorTie
import Derived.Deep.DeepHandedRow
import Derived.Lib.LaidTab
import Derived.Deep.RegionHeld3
import Derived.ProofKit
import Derived.OpenShut
import Derived.JoinedOf
import Derived.JoinedAt
import Derived.SevenTiedAt
namespace Go.Proofs.YtcaabaijkidmgaaDoor.gridrefEnds
open Go.ChangeShapes Go.WideShapes Go.ChangeAt Go.RowKit
set_option linter.unusedVariables false

theorem last_push (l : List (Int × Int)) (q : Int × Int) : (Prj.push l q).getLast? = some q := by
  by_cases h : l.getLast? = some q
  · rw [Prj.push_same l q h]; exact h
  · rw [Prj.push_other l q h]; simp
/-- Where the path of a list begins and ends. -/
theorem pl_ends (K L A S : Int) (P : List (Int × Int)) (hg : Prj.allGood K L A S P) (f e : Int × Int) (hf : P.head? = some f) (he : P.getLast? = some e) :
    ∃ m, (Prj.pl K L A S P).length = m + 1 ∧ (Prj.pl K L A S P)[0]? = some (Prj.qp K L A S f) ∧ (Prj.pl K L A S P)[m]? = some (Prj.qp K L A S e) := by
  have e0 : Prj.pl K L A S P = (P.map (Prj.qp K L A S)).foldl Prj.push [] := by
    unfold Prj.pl
    rw [if_pos hg, Prj.pth_all]
  have hlast : (Prj.pl K L A S P).getLast? = some (Prj.qp K L A S e) := by
    have hne : P ≠ [] := by intro h; rw [h] at hf; cases hf
    have hP : P = P.dropLast ++ [e] := by
      have := List.dropLast_concat_getLast hne
      rw [List.getLast?_eq_some_getLast hne] at he
      rw [← Option.some.inj he]
      exact this.symm
    rw [e0, hP, List.map_append, List.foldl_append]
    exact last_push _ _
  cases P with
  | nil => cases hf
  | cons f' P' =>
    have : f' = f := by simpa using hf
    subst this
    obtain ⟨t, ht⟩ := Prj.fold_head (P'.map (Prj.qp K L A S)) (Prj.qp K L A S f')
    have e1 : Prj.pl K L A S (f' :: P') = Prj.qp K L A S f' :: t := by
      rw [e0, List.map_cons, List.foldl_cons, Prj.push_nil, ht]
    refine ⟨t.length, by rw [e1]; rfl, by rw [e1]; rfl, ?_⟩
    rw [List.getLast?_eq_getElem?, e1] at hlast
    rw [e1]
    exact hlast
set_option maxRecDepth 100000 in
set_option maxHeartbeats 8000000 in
theorem coreTT (K L A S c a b st : Int) (l1 l2 : List (Int × Int)) (w : World) (m1 : Nat) (x1 y1 xx1 yy1 : Int) (hl1 : l1.length = m1 + 1) (hm1 : m1 ≤ 4096) (hf1 : l1[0]'(by omega) = (x1, y1)) (hg1 : l1[m1]'(by omega) = (xx1, yy1))
    (HM1 : Hid (∀ w, Calls Tryd.prog 20 #[.agg #[.int .i64 K, .int .i64 L, .int .i64 A, .int .i64 S], .int .i64 c, .int .i64 a, .int .i64 b, .int .i64 st] w (PathPost l1 0 w))) (HT1 : Hid (∀ w, Calls Tryd.prog 25 #[.agg #[.int .i64 K, .int .i64 L, .int .i64 A, .int .i64 S], .agg #[.int .i64 c, .int .i64 a]] w fun e w' => e = .returned (.tuple #[.agg #[.int .i64 x1, .int .i64 y1], .int .i64 0]) ∧ Q w w')) (HU1 : Hid (∀ w, Calls Tryd.prog 25 #[.agg #[.int .i64 K, .int .i64 L, .int .i64 A, .int .i64 S], .agg #[.int .i64 c, .int .i64 b]] w fun e w' => e = .returned (.tuple #[.agg #[.int .i64 xx1, .int .i64 yy1], .int .i64 0]) ∧ Q w w'))
    (m2 : Nat) (x2 y2 xx2 yy2 : Int) (hl2 : l2.length = m2 + 1) (hm2 : m2 ≤ 4096) (hf2 : l2[0]'(by omega) = (x2, y2)) (hg2 : l2[m2]'(by omega) = (xx2, yy2))
    (HM2 : Hid (∀ w, Calls Tryd.prog 23 #[.agg #[.int .i64 K, .int .i64 L, .int .i64 A, .int .i64 S], .int .i64 c, .int .i64 a, .int .i64 b, .int .i64 st] w (PathPost l2 0 w))) (HT2 : Hid (∀ w, Calls Tryd.prog 25 #[.agg #[.int .i64 K, .int .i64 L, .int .i64 A, .int .i64 S], .agg #[.int .i64 a, .int .i64 c]] w fun e w' => e = .returned (.tuple #[.agg #[.int .i64 x2, .int .i64 y2], .int .i64 0]) ∧ Q w w')) (HU2 : Hid (∀ w, Calls Tryd.prog 25 #[.agg #[.int .i64 K, .int .i64 L, .int .i64 A, .int .i64 S], .agg #[.int .i64 b, .int .i64 c]] w fun e w' => e = .returned (.tuple #[.agg #[.int .i64 xx2, .int .i64 yy2], .int .i64 0]) ∧ Q w w')) :
    Calls Tryd.prog 8 #[.agg #[.int .i64 K, .int .i64 L, .int .i64 A, .int .i64 S], .agg #[.int .i64 c, .int .i64 a, .int .i64 b, .int .i64 st]] w fun e w' => e = .returned (.bool true) ∧ Q w w' := by
  have H5 := Lib.hid gawake_true
  have HP := Lib.hid (b_next ((Q.refl _).alloc (.cells #[.int .i64 c, .int .i64 a, .int .i64 b, .int .i64 st] 47)) (heap_alloc_new w (.cells #[.int .i64 K, .int .i64 L, .int .i64 A, .int .i64 S] 45)))
  have HL := Lib.hid (new1 w (.cells #[.int .i64 K, .int .i64 L, .int .i64 A, .int .i64 S] 45) (.cells #[.int .i64 c, .int .i64 a, .int .i64 b, .int .i64 st] 47))
  go_enter Tryd.func8, Tryd.ntmps8
  go_wp2_with fail
  refine (HM1.out _).mono ?_
  rintro e wa1 ⟨v1, rfl, i1, qa1⟩
  have r1 := Lib.hid (qa1)
  obtain ⟨A1, kap1, rfl, hc1, hr1⟩ := i1
  have HR1 := Lib.hid hr1
  have HX1 := Lib.hid (show ∃ ad, A1 = some ad from (hr1.2 (by rw [hl1]; omega)).imp fun _ h => h.1)
  obtain ⟨ad1, rfl⟩ := HX1.out
  rw [hl1] at hc1 ⊢
  clear hr1 HX1
  obtain ⟨p0, p1, p2, p3⟩ := pr4 (b_next (r1.out) HP.out); obtain ⟨l0, l1, l2, l3⟩ := pr4 (b_next (r1.out) HL.out); have z0 := block_lt_of_cell p0; have z1 := block_lt_of_cell l0
  go_wp2_with fail
  refine (HT1.out _).mono ?_
  rintro e wb1 ⟨rfl, qb1⟩
  clear p0 p1 p2 p3 l0 l1 l2 l3 z0 z1
  have s1 := Lib.hid ((r1.out.trans qb1).alloc (.cells #[.int .i64 x1, .int .i64 y1] 23))
  have HB1 := Lib.hid (heap_alloc_new wb1 (.cells #[.int .i64 x1, .int .i64 y1] 23))
  obtain ⟨p0, p1, p2, p3⟩ := pr4 (b_next (r1.out.trans qb1) HP.out); obtain ⟨l0, l1, l2, l3⟩ := pr4 (b_next (r1.out.trans qb1) HL.out); have z0 := block_lt_of_cell p0; have z1 := block_lt_of_cell l0
  go_wp2_with fail
  refine (HU1.out _).mono ?_
  rintro e wc1 ⟨rfl, qc1⟩
  clear p0 p1 p2 p3 l0 l1 l2 l3 z0 z1
  have u1 := Lib.hid ((s1.out.trans qc1).alloc (.cells #[.int .i64 xx1, .int .i64 yy1] 23))
  have v1 := Lib.hid (((qb1.alloc (.cells #[.int .i64 x1, .int .i64 y1] 23)).trans qc1).alloc (.cells #[.int .i64 xx1, .int .i64 yy1] 23))
  have HC1 := Lib.hid (heap_alloc_new wc1 (.cells #[.int .i64 xx1, .int .i64 yy1] 23))
  have HD1 := Lib.hid (b_next ((qc1).alloc (.cells #[.int .i64 xx1, .int .i64 yy1] 23)) HB1.out)
  clear qb1 qc1
  go_wp2_with fail
  obtain ⟨wd1, hwd⟩ : ∃ wd, wc1.alloc (.cells #[.int .i64 xx1, .int .i64 yy1] 23) = wd := ⟨_, rfl⟩
  rw [hwd] at u1 v1 HC1 HD1 ⊢
  clear hwd
  have gg1 := (HR1.out.below v1.out).more v1.out.sz
  obtain ⟨d0, e0, _, g0, g1⟩ := Pts.at_ gg1 0 (by rw [hl1]; omega)
  obtain ⟨d1, e1, _, g2, g3⟩ := Pts.at_ gg1 m1 (by rw [hl1]; omega)
  obtain rfl : ad1 = d0 := by injection e0
  obtain rfl : ad1 = d1 := by injection e1
  rw [hf1] at g0 g1
  rw [hg1] at g2 g3
  simp only [Nat.zero_mul] at g0 g1
  have h0 := g0
  have h1 := g1
  rw [show ad1.add 0 = ad1 by simp [Addr.add]] at h0 h1
  have c0 := row_cell (i := 0) HD1.out rfl
  have c1 := row_cell (i := 1) HD1.out rfl
  have c2 := row_cell (i := 0) HC1.out rfl
  have c3 := row_cell (i := 1) HC1.out rfl
  have dl : (((m1 : Int) + 1) == 0) = false := by simp; omega
  have el : IntKind.i64.wrap ((m1 : Int) + 1 - 1) = m1 := by rw [show (m1 : Int) + 1 - 1 = m1 by omega]; exact IntWalk.i64_in _ (by omega)
  have el2 : IntKind.i64.wrap (m1 : Int) = m1 := IntWalk.i64_in _ (by omega)
  have el3 : (m1 : Int) < (m1 : Int) + 1 := by omega
  clear e0 e1 gg1
  go_quiet (fail)
  clear h0 h1 g0 g1 g2 g3 c0 c1 c2 c3 dl el el2 el3
  have t1 := Lib.hid (u1.out.drewN nq)
  obtain ⟨p0, p1, p2, p3⟩ := pr4 (b_next (t1.out) HP.out); obtain ⟨l0, l1, l2, l3⟩ := pr4 (b_next (t1.out) HL.out); have z0 := block_lt_of_cell p0; have z1 := block_lt_of_cell l0
  go_wp2_with fail
  refine (HM2.out _).mono ?_
  rintro e wa2 ⟨v2, rfl, i2, qa2⟩
  have r2 := Lib.hid ((t1.out).trans qa2)
  clear p0 p1 p2 p3 l0 l1 l2 l3 z0 z1
  obtain ⟨A2, kap2, rfl, hc2, hr2⟩ := i2
  have HR2 := Lib.hid hr2
  have HX2 := Lib.hid (show ∃ ad, A2 = some ad from (hr2.2 (by rw [hl2]; omega)).imp fun _ h => h.1)
  obtain ⟨ad2, rfl⟩ := HX2.out
  rw [hl2] at hc2 ⊢
  clear hr2 HX2
  obtain ⟨p0, p1, p2, p3⟩ := pr4 (b_next (r2.out) HP.out); obtain ⟨l0, l1, l2, l3⟩ := pr4 (b_next (r2.out) HL.out); have z0 := block_lt_of_cell p0; have z1 := block_lt_of_cell l0
  go_wp2_with fail
  refine (HT2.out _).mono ?_
  rintro e wb2 ⟨rfl, qb2⟩
  clear p0 p1 p2 p3 l0 l1 l2 l3 z0 z1
  have s2 := Lib.hid ((r2.out.trans qb2).alloc (.cells #[.int .i64 x2, .int .i64 y2] 23))
  have HB2 := Lib.hid (heap_alloc_new wb2 (.cells #[.int .i64 x2, .int .i64 y2] 23))
  obtain ⟨p0, p1, p2, p3⟩ := pr4 (b_next (r2.out.trans qb2) HP.out); obtain ⟨l0, l1, l2, l3⟩ := pr4 (b_next (r2.out.trans qb2) HL.out); have z0 := block_lt_of_cell p0; have z1 := block_lt_of_cell l0
  go_wp2_with fail
  refine (HU2.out _).mono ?_
  rintro e wc2 ⟨rfl, qc2⟩
  clear p0 p1 p2 p3 l0 l1 l2 l3 z0 z1
  have u2 := Lib.hid ((s2.out.trans qc2).alloc (.cells #[.int .i64 xx2, .int .i64 yy2] 23))
  have v2 := Lib.hid (((qb2.alloc (.cells #[.int .i64 x2, .int .i64 y2] 23)).trans qc2).alloc (.cells #[.int .i64 xx2, .int .i64 yy2] 23))
  have HC2 := Lib.hid (heap_alloc_new wc2 (.cells #[.int .i64 xx2, .int .i64 yy2] 23))
  have HD2 := Lib.hid (b_next ((qc2).alloc (.cells #[.int .i64 xx2, .int .i64 yy2] 23)) HB2.out)
  clear qb2 qc2
  go_wp2_with fail
  obtain ⟨wd2, hwd⟩ : ∃ wd, wc2.alloc (.cells #[.int .i64 xx2, .int .i64 yy2] 23) = wd := ⟨_, rfl⟩
  rw [hwd] at u2 v2 HC2 HD2 ⊢
  clear hwd
  have gg2 := (HR2.out.below v2.out).more v2.out.sz
  obtain ⟨d0, e0, _, g0, g1⟩ := Pts.at_ gg2 0 (by rw [hl2]; omega)
  obtain ⟨d1, e1, _, g2, g3⟩ := Pts.at_ gg2 m2 (by rw [hl2]; omega)
  obtain rfl : ad2 = d0 := by injection e0
  obtain rfl : ad2 = d1 := by injection e1
  rw [hf2] at g0 g1
  rw [hg2] at g2 g3
  simp only [Nat.zero_mul] at g0 g1
  have h0 := g0
  have h1 := g1
  rw [show ad2.add 0 = ad2 by simp [Addr.add]] at h0 h1
  have c0 := row_cell (i := 0) HD2.out rfl
  have c1 := row_cell (i := 1) HD2.out rfl
  have c2 := row_cell (i := 0) HC2.out rfl
  have c3 := row_cell (i := 1) HC2.out rfl
  have dl : (((m2 : Int) + 1) == 0) = false := by simp; omega
  have el : IntKind.i64.wrap ((m2 : Int) + 1 - 1) = m2 := by rw [show (m2 : Int) + 1 - 1 = m2 by omega]; exact IntWalk.i64_in _ (by omega)
  have el2 : IntKind.i64.wrap (m2 : Int) = m2 := IntWalk.i64_in _ (by omega)
  have el3 : (m2 : Int) < (m2 : Int) + 1 := by omega
  clear e0 e1 gg2
  go_quiet (fail)
  clear h0 h1 g0 g1 g2 g3 c0 c1 c2 c3 dl el el2 el3
  have t2 := Lib.hid (u2.out.drewN nq)
  go_wp2_with fail
  refine (H5.out _).mono ?_
  rintro e wz ⟨rfl, qz⟩
  go_wp2_with fail
  go_ret
  exact ⟨rfl, (((t2.out).trans qz).behind _).behind _⟩
set_option maxRecDepth 100000 in
set_option maxHeartbeats 8000000 in
theorem coreTF (K L A S c a b st : Int) (l1 l2 : List (Int × Int)) (w : World) (m1 : Nat) (x1 y1 xx1 yy1 : Int) (hl1 : l1.length = m1 + 1) (hm1 : m1 ≤ 4096) (hf1 : l1[0]'(by omega) = (x1, y1)) (hg1 : l1[m1]'(by omega) = (xx1, yy1))
    (HM1 : Hid (∀ w, Calls Tryd.prog 20 #[.agg #[.int .i64 K, .int .i64 L, .int .i64 A, .int .i64 S], .int .i64 c, .int .i64 a, .int .i64 b, .int .i64 st] w (PathPost l1 0 w))) (HT1 : Hid (∀ w, Calls Tryd.prog 25 #[.agg #[.int .i64 K, .int .i64 L, .int .i64 A, .int .i64 S], .agg #[.int .i64 c, .int .i64 a]] w fun e w' => e = .returned (.tuple #[.agg #[.int .i64 x1, .int .i64 y1], .int .i64 0]) ∧ Q w w')) (HU1 : Hid (∀ w, Calls Tryd.prog 25 #[.agg #[.int .i64 K, .int .i64 L, .int .i64 A, .int .i64 S], .agg #[.int .i64 c, .int .i64 b]] w fun e w' => e = .returned (.tuple #[.agg #[.int .i64 xx1, .int .i64 yy1], .int .i64 0]) ∧ Q w w'))
    (e2 : Int) (he2 : (e2 == 0) = false) (HM2 : Hid (∀ w, Calls Tryd.prog 23 #[.agg #[.int .i64 K, .int .i64 L, .int .i64 A, .int .i64 S], .int .i64 c, .int .i64 a, .int .i64 b, .int .i64 st] w (PathPost l2 e2 w))) :
    Calls Tryd.prog 8 #[.agg #[.int .i64 K, .int .i64 L, .int .i64 A, .int .i64 S], .agg #[.int .i64 c, .int .i64 a, .int .i64 b, .int .i64 st]] w fun e w' => e = .returned (.bool true) ∧ Q w w' := by
  have H5 := Lib.hid gawake_true
  have HP := Lib.hid (b_next ((Q.refl _).alloc (.cells #[.int .i64 c, .int .i64 a, .int .i64 b, .int .i64 st] 47)) (heap_alloc_new w (.cells #[.int .i64 K, .int .i64 L, .int .i64 A, .int .i64 S] 45)))
  have HL := Lib.hid (new1 w (.cells #[.int .i64 K, .int .i64 L, .int .i64 A, .int .i64 S] 45) (.cells #[.int .i64 c, .int .i64 a, .int .i64 b, .int .i64 st] 47))
  go_enter Tryd.func8, Tryd.ntmps8
  go_wp2_with fail
  refine (HM1.out _).mono ?_
  rintro e wa1 ⟨v1, rfl, i1, qa1⟩
  have r1 := Lib.hid (qa1)
  obtain ⟨A1, kap1, rfl, hc1, hr1⟩ := i1
  have HR1 := Lib.hid hr1
  have HX1 := Lib.hid (show ∃ ad, A1 = some ad from (hr1.2 (by rw [hl1]; omega)).imp fun _ h => h.1)
  obtain ⟨ad1, rfl⟩ := HX1.out
  rw [hl1] at hc1 ⊢
  clear hr1 HX1
  obtain ⟨p0, p1, p2, p3⟩ := pr4 (b_next (r1.out) HP.out); obtain ⟨l0, l1, l2, l3⟩ := pr4 (b_next (r1.out) HL.out); have z0 := block_lt_of_cell p0; have z1 := block_lt_of_cell l0
  go_wp2_with fail
  refine (HT1.out _).mono ?_
  rintro e wb1 ⟨rfl, qb1⟩
  clear p0 p1 p2 p3 l0 l1 l2 l3 z0 z1
  have s1 := Lib.hid ((r1.out.trans qb1).alloc (.cells #[.int .i64 x1, .int .i64 y1] 23))
  have HB1 := Lib.hid (heap_alloc_new wb1 (.cells #[.int .i64 x1, .int .i64 y1] 23))
  obtain ⟨p0, p1, p2, p3⟩ := pr4 (b_next (r1.out.trans qb1) HP.out); obtain ⟨l0, l1, l2, l3⟩ := pr4 (b_next (r1.out.trans qb1) HL.out); have z0 := block_lt_of_cell p0; have z1 := block_lt_of_cell l0
  go_wp2_with fail
  refine (HU1.out _).mono ?_
  rintro e wc1 ⟨rfl, qc1⟩
  clear p0 p1 p2 p3 l0 l1 l2 l3 z0 z1
  have u1 := Lib.hid ((s1.out.trans qc1).alloc (.cells #[.int .i64 xx1, .int .i64 yy1] 23))
  have v1 := Lib.hid (((qb1.alloc (.cells #[.int .i64 x1, .int .i64 y1] 23)).trans qc1).alloc (.cells #[.int .i64 xx1, .int .i64 yy1] 23))
  have HC1 := Lib.hid (heap_alloc_new wc1 (.cells #[.int .i64 xx1, .int .i64 yy1] 23))
  have HD1 := Lib.hid (b_next ((qc1).alloc (.cells #[.int .i64 xx1, .int .i64 yy1] 23)) HB1.out)
  clear qb1 qc1
  go_wp2_with fail
  obtain ⟨wd1, hwd⟩ : ∃ wd, wc1.alloc (.cells #[.int .i64 xx1, .int .i64 yy1] 23) = wd := ⟨_, rfl⟩
  rw [hwd] at u1 v1 HC1 HD1 ⊢
  clear hwd
  have gg1 := (HR1.out.below v1.out).more v1.out.sz
  obtain ⟨d0, e0, _, g0, g1⟩ := Pts.at_ gg1 0 (by rw [hl1]; omega)
  obtain ⟨d1, e1, _, g2, g3⟩ := Pts.at_ gg1 m1 (by rw [hl1]; omega)
  obtain rfl : ad1 = d0 := by injection e0
  obtain rfl : ad1 = d1 := by injection e1
  rw [hf1] at g0 g1
  rw [hg1] at g2 g3
  simp only [Nat.zero_mul] at g0 g1
  have h0 := g0
  have h1 := g1
  rw [show ad1.add 0 = ad1 by simp [Addr.add]] at h0 h1
  have c0 := row_cell (i := 0) HD1.out rfl
  have c1 := row_cell (i := 1) HD1.out rfl
  have c2 := row_cell (i := 0) HC1.out rfl
  have c3 := row_cell (i := 1) HC1.out rfl
  have dl : (((m1 : Int) + 1) == 0) = false := by simp; omega
  have el : IntKind.i64.wrap ((m1 : Int) + 1 - 1) = m1 := by rw [show (m1 : Int) + 1 - 1 = m1 by omega]; exact IntWalk.i64_in _ (by omega)
  have el2 : IntKind.i64.wrap (m1 : Int) = m1 := IntWalk.i64_in _ (by omega)
  have el3 : (m1 : Int) < (m1 : Int) + 1 := by omega
  clear e0 e1 gg1
  go_quiet (fail)
  clear h0 h1 g0 g1 g2 g3 c0 c1 c2 c3 dl el el2 el3
  have t1 := Lib.hid (u1.out.drewN nq)
  obtain ⟨p0, p1, p2, p3⟩ := pr4 (b_next (t1.out) HP.out); obtain ⟨l0, l1, l2, l3⟩ := pr4 (b_next (t1.out) HL.out); have z0 := block_lt_of_cell p0; have z1 := block_lt_of_cell l0
  go_wp2_with fail
  refine (HM2.out _).mono ?_
  rintro e wa2 ⟨v2, rfl, i2, qa2⟩
  have r2 := Lib.hid ((t1.out).trans qa2)
  clear p0 p1 p2 p3 l0 l1 l2 l3 z0 z1
  clear i2
  go_wp2_with fail
  refine (H5.out _).mono ?_
  rintro e wz ⟨rfl, qz⟩
  go_wp2_with fail
  go_ret
  exact ⟨rfl, (((r2.out).trans qz).behind _).behind _⟩
set_option maxRecDepth 100000 in
set_option maxHeartbeats 8000000 in
theorem coreFT (K L A S c a b st : Int) (l1 l2 : List (Int × Int)) (w : World) (e1 : Int) (he1 : (e1 == 0) = false) (HM1 : Hid (∀ w, Calls Tryd.prog 20 #[.agg #[.int .i64 K, .int .i64 L, .int .i64 A, .int .i64 S], .int .i64 c, .int .i64 a, .int .i64 b, .int .i64 st] w (PathPost l1 e1 w)))
    (m2 : Nat) (x2 y2 xx2 yy2 : Int) (hl2 : l2.length = m2 + 1) (hm2 : m2 ≤ 4096) (hf2 : l2[0]'(by omega) = (x2, y2)) (hg2 : l2[m2]'(by omega) = (xx2, yy2))
    (HM2 : Hid (∀ w, Calls Tryd.prog 23 #[.agg #[.int .i64 K, .int .i64 L, .int .i64 A, .int .i64 S], .int .i64 c, .int .i64 a, .int .i64 b, .int .i64 st] w (PathPost l2 0 w))) (HT2 : Hid (∀ w, Calls Tryd.prog 25 #[.agg #[.int .i64 K, .int .i64 L, .int .i64 A, .int .i64 S], .agg #[.int .i64 a, .int .i64 c]] w fun e w' => e = .returned (.tuple #[.agg #[.int .i64 x2, .int .i64 y2], .int .i64 0]) ∧ Q w w')) (HU2 : Hid (∀ w, Calls Tryd.prog 25 #[.agg #[.int .i64 K, .int .i64 L, .int .i64 A, .int .i64 S], .agg #[.int .i64 b, .int .i64 c]] w fun e w' => e = .returned (.tuple #[.agg #[.int .i64 xx2, .int .i64 yy2], .int .i64 0]) ∧ Q w w')) :
    Calls Tryd.prog 8 #[.agg #[.int .i64 K, .int .i64 L, .int .i64 A, .int .i64 S], .agg #[.int .i64 c, .int .i64 a, .int .i64 b, .int .i64 st]] w fun e w' => e = .returned (.bool true) ∧ Q w w' := by
  have H5 := Lib.hid gawake_true
  have HP := Lib.hid (b_next ((Q.refl _).alloc (.cells #[.int .i64 c, .int .i64 a, .int .i64 b, .int .i64 st] 47)) (heap_alloc_new w (.cells #[.int .i64 K, .int .i64 L, .int .i64 A, .int .i64 S] 45)))
  have HL := Lib.hid (new1 w (.cells #[.int .i64 K, .int .i64 L, .int .i64 A, .int .i64 S] 45) (.cells #[.int .i64 c, .int .i64 a, .int .i64 b, .int .i64 st] 47))
  go_enter Tryd.func8, Tryd.ntmps8
  go_wp2_with fail
  refine (HM1.out _).mono ?_
  rintro e wa1 ⟨v1, rfl, i1, qa1⟩
  have r1 := Lib.hid (qa1)
  clear i1
  obtain ⟨p0, p1, p2, p3⟩ := pr4 (b_next (r1.out) HP.out); obtain ⟨l0, l1, l2, l3⟩ := pr4 (b_next (r1.out) HL.out); have z0 := block_lt_of_cell p0; have z1 := block_lt_of_cell l0
  go_wp2_with fail
  refine (HM2.out _).mono ?_
  rintro e wa2 ⟨v2, rfl, i2, qa2⟩
  have r2 := Lib.hid ((r1.out).trans qa2)
  clear p0 p1 p2 p3 l0 l1 l2 l3 z0 z1
  obtain ⟨A2, kap2, rfl, hc2, hr2⟩ := i2
  have HR2 := Lib.hid hr2
  have HX2 := Lib.hid (show ∃ ad, A2 = some ad from (hr2.2 (by rw [hl2]; omega)).imp fun _ h => h.1)
  obtain ⟨ad2, rfl⟩ := HX2.out
  rw [hl2] at hc2 ⊢
  clear hr2 HX2
  obtain ⟨p0, p1, p2, p3⟩ := pr4 (b_next (r2.out) HP.out); obtain ⟨l0, l1, l2, l3⟩ := pr4 (b_next (r2.out) HL.out); have z0 := block_lt_of_cell p0; have z1 := block_lt_of_cell l0
  go_wp2_with fail
  refine (HT2.out _).mono ?_
  rintro e wb2 ⟨rfl, qb2⟩
  clear p0 p1 p2 p3 l0 l1 l2 l3 z0 z1
  have s2 := Lib.hid ((r2.out.trans qb2).alloc (.cells #[.int .i64 x2, .int .i64 y2] 23))
  have HB2 := Lib.hid (heap_alloc_new wb2 (.cells #[.int .i64 x2, .int .i64 y2] 23))
  obtain ⟨p0, p1, p2, p3⟩ := pr4 (b_next (r2.out.trans qb2) HP.out); obtain ⟨l0, l1, l2, l3⟩ := pr4 (b_next (r2.out.trans qb2) HL.out); have z0 := block_lt_of_cell p0; have z1 := block_lt_of_cell l0
  go_wp2_with fail
  refine (HU2.out _).mono ?_
  rintro e wc2 ⟨rfl, qc2⟩
  clear p0 p1 p2 p3 l0 l1 l2 l3 z0 z1
  have u2 := Lib.hid ((s2.out.trans qc2).alloc (.cells #[.int .i64 xx2, .int .i64 yy2] 23))
  have v2 := Lib.hid (((qb2.alloc (.cells #[.int .i64 x2, .int .i64 y2] 23)).trans qc2).alloc (.cells #[.int .i64 xx2, .int .i64 yy2] 23))
  have HC2 := Lib.hid (heap_alloc_new wc2 (.cells #[.int .i64 xx2, .int .i64 yy2] 23))
  have HD2 := Lib.hid (b_next ((qc2).alloc (.cells #[.int .i64 xx2, .int .i64 yy2] 23)) HB2.out)
  clear qb2 qc2
  go_wp2_with fail
  obtain ⟨wd2, hwd⟩ : ∃ wd, wc2.alloc (.cells #[.int .i64 xx2, .int .i64 yy2] 23) = wd := ⟨_, rfl⟩
  rw [hwd] at u2 v2 HC2 HD2 ⊢
  clear hwd
  have gg2 := (HR2.out.below v2.out).more v2.out.sz
  obtain ⟨d0, e0, _, g0, g1⟩ := Pts.at_ gg2 0 (by rw [hl2]; omega)
  obtain ⟨d1, e1, _, g2, g3⟩ := Pts.at_ gg2 m2 (by rw [hl2]; omega)
  obtain rfl : ad2 = d0 := by injection e0
  obtain rfl : ad2 = d1 := by injection e1
  rw [hf2] at g0 g1
  rw [hg2] at g2 g3
  simp only [Nat.zero_mul] at g0 g1
  have h0 := g0
  have h1 := g1
  rw [show ad2.add 0 = ad2 by simp [Addr.add]] at h0 h1
  have c0 := row_cell (i := 0) HD2.out rfl
  have c1 := row_cell (i := 1) HD2.out rfl
  have c2 := row_cell (i := 0) HC2.out rfl
  have c3 := row_cell (i := 1) HC2.out rfl
  have dl : (((m2 : Int) + 1) == 0) = false := by simp; omega
  have el : IntKind.i64.wrap ((m2 : Int) + 1 - 1) = m2 := by rw [show (m2 : Int) + 1 - 1 = m2 by omega]; exact IntWalk.i64_in _ (by omega)
  have el2 : IntKind.i64.wrap (m2 : Int) = m2 := IntWalk.i64_in _ (by omega)
  have el3 : (m2 : Int) < (m2 : Int) + 1 := by omega
  clear e0 e1 gg2
  go_quiet (fail)
  clear h0 h1 g0 g1 g2 g3 c0 c1 c2 c3 dl el el2 el3
  have t2 := Lib.hid (u2.out.drewN nq)
  go_wp2_with fail
  refine (H5.out _).mono ?_
  rintro e wz ⟨rfl, qz⟩
  go_wp2_with fail
  go_ret
  exact ⟨rfl, (((t2.out).trans qz).behind _).behind _⟩
set_option maxRecDepth 100000 in
set_option maxHeartbeats 8000000 in
theorem coreFF (K L A S c a b st : Int) (l1 l2 : List (Int × Int)) (w : World) (e1 : Int) (he1 : (e1 == 0) = false) (HM1 : Hid (∀ w, Calls Tryd.prog 20 #[.agg #[.int .i64 K, .int .i64 L, .int .i64 A, .int .i64 S], .int .i64 c, .int .i64 a, .int .i64 b, .int .i64 st] w (PathPost l1 e1 w)))
    (e2 : Int) (he2 : (e2 == 0) = false) (HM2 : Hid (∀ w, Calls Tryd.prog 23 #[.agg #[.int .i64 K, .int .i64 L, .int .i64 A, .int .i64 S], .int .i64 c, .int .i64 a, .int .i64 b, .int .i64 st] w (PathPost l2 e2 w))) :
    Calls Tryd.prog 8 #[.agg #[.int .i64 K, .int .i64 L, .int .i64 A, .int .i64 S], .agg #[.int .i64 c, .int .i64 a, .int .i64 b, .int .i64 st]] w fun e w' => e = .returned (.bool true) ∧ Q w w' := by
  have H5 := Lib.hid gawake_true
  have HP := Lib.hid (b_next ((Q.refl _).alloc (.cells #[.int .i64 c, .int .i64 a, .int .i64 b, .int .i64 st] 47)) (heap_alloc_new w (.cells #[.int .i64 K, .int .i64 L, .int .i64 A, .int .i64 S] 45)))
  have HL := Lib.hid (new1 w (.cells #[.int .i64 K, .int .i64 L, .int .i64 A, .int .i64 S] 45) (.cells #[.int .i64 c, .int .i64 a, .int .i64 b, .int .i64 st] 47))
  go_enter Tryd.func8, Tryd.ntmps8
  go_wp2_with fail
  refine (HM1.out _).mono ?_
  rintro e wa1 ⟨v1, rfl, i1, qa1⟩
  have r1 := Lib.hid (qa1)
  clear i1
  obtain ⟨p0, p1, p2, p3⟩ := pr4 (b_next (r1.out) HP.out); obtain ⟨l0, l1, l2, l3⟩ := pr4 (b_next (r1.out) HL.out); have z0 := block_lt_of_cell p0; have z1 := block_lt_of_cell l0
  go_wp2_with fail
  refine (HM2.out _).mono ?_
  rintro e wa2 ⟨v2, rfl, i2, qa2⟩
  have r2 := Lib.hid ((r1.out).trans qa2)
  clear p0 p1 p2 p3 l0 l1 l2 l3 z0 z1
  clear i2
  go_wp2_with fail
  refine (H5.out _).mono ?_
  rintro e wz ⟨rfl, qz⟩
  go_wp2_with fail
  go_ret
  exact ⟨rfl, (((r2.out).trans qz).behind _).behind _⟩
theorem rto_good (K L A S x y : Int) (h : Prj.Ok K L A S) (hg : Prj.good K L A S x y) (w : World) : Calls Tryd.prog 25 #[.agg #[.int .i64 K, .int .i64 L, .int .i64 A, .int .i64 S], .agg #[.int .i64 x, .int .i64 y]] w fun e w' => e = .returned (.tuple #[.agg #[.int .i64 (Prj.qx K L A S x y), .int .i64 (Prj.qy K L A S x y)], .int .i64 0]) ∧ Q w w' := by
  have := rTo_ok K L A S x y w h
  rw [show Prj.qe K L A S x y = 0 from if_pos hg] at this
  exact this
theorem num_head (a st : Int) (n : Nat) : (Grf.num a st (n + 1)).head? = some a := by
  induction n with
  | zero => simp [Grf.num]
  | succ n ih => rw [Grf.num, List.head?_append, ih]; rfl
theorem head_num (a b st : Int) (n : Nat) (h : n = 0 → a = b) : (Grf.num a st n ++ [b]).head? = some a := by
  cases n with
  | zero => simp [Grf.num, h]
  | succ n => rw [List.head?_append, num_head]; rfl
theorem walk (K L A S c a b st : Int) (_ : I64 K) (_ : I64 L) (_ : I64 A) (_ : I64 S) (_ : I64 c) (_ : I64 a) (_ : I64 b) (hst : I64 st) (w : World) : Calls Tryd.prog 8 #[.agg #[.int .i64 K, .int .i64 L, .int .i64 A, .int .i64 S], .agg #[.int .i64 c, .int .i64 a, .int .i64 b, .int .i64 st]] w fun e w' => e = .returned (.bool true) ∧ Q w w' := by
  have key : ∀ er : Int, (er != 0) = true → (∀ w, Calls Tryd.prog 41 #[.agg #[.int .i64 K, .int .i64 L, .int .i64 A, .int .i64 S], .int .i64 a, .int .i64 b, .int .i64 st] w (StepPost [] er w)) → Calls Tryd.prog 8 #[.agg #[.int .i64 K, .int .i64 L, .int .i64 A, .int .i64 S], .agg #[.int .i64 c, .int .i64 a, .int .i64 b, .int .i64 st]] w fun e w' => e = .returned (.bool true) ∧ Q w w' := fun er her h1 =>
    coreFF K L A S c a b st [] [] w er (by simpa using her) (fun w => mer_err K L A S c a b st er her w h1) er (by simpa using her) (fun w => par_err K L A S c a b st er her w h1)
  by_cases h : Prj.Ok K L A S
  rotate_left
  · by_cases hk : K < 1 ∨ 4 < K
    · exact key 9 rfl (fun w => steps_err K L A S a b st 9 rfl w (fun W => pcheck_kind K L A S W hk))
    · exact key 2 rfl (fun w => steps_err K L A S a b st 2 rfl w (fun W => pcheck_range K L A S W (by omega) (by omega) h))
  have s1 : st ≤ 9223372036854775807 := hst.2
  by_cases hr : Grf.inr a b st
  rotate_left
  · exact key 1 rfl (fun w => steps_arg K L A S a b st w h hr)
  have c0 := Grf.cl_nn (b - a) st (by have := hr.2.1; omega) hr.1
  by_cases hn : 4096 ≤ Grf.cl (b - a) st
  · exact key 3 rfl (fun w => steps_limit K L A S a b st w h hr s1 hn)
  obtain ⟨n, hcn⟩ : ∃ n : Nat, Grf.cl (b - a) st = (n : Int) := ⟨(Grf.cl (b - a) st).toNat, by omega⟩
  have hll : (Grf.num a st n ++ [b]).length ≤ 4096 := by rw [List.length_append, Grf.num_len]; simp; omega
  have hst' := fun w => steps_in K L A S a b st n w h hr s1 hcn (by omega)
  have hab : n = 0 → a = b := fun hz => by
    subst hz
    have := (Grf.cl_iff (b - a) st 0 (by have := hr.2.1; omega) hr.1).2
    have := hr.2.1
    omega
  have hh := head_num a b st n hab
  have hlst : (Grf.num a st n ++ [b]).getLast? = some b := by simp
  have lm : (Grf.mer c (Grf.num a st n ++ [b])).length ≤ 4096 := by unfold Grf.mer; rw [List.length_map]; exact hll
  have lp : (Grf.par c (Grf.num a st n ++ [b])).length ≤ 4096 := by unfold Grf.par; rw [List.length_map]; exact hll
  have hm1 : (Grf.mer c (Grf.num a st n ++ [b])).head? = some (c, a) := by unfold Grf.mer; rw [List.head?_map, hh]; rfl
  have hm2 : (Grf.mer c (Grf.num a st n ++ [b])).getLast? = some (c, b) := by unfold Grf.mer; rw [List.getLast?_map, hlst]; rfl
  have hp1 : (Grf.par c (Grf.num a st n ++ [b])).head? = some (a, c) := by unfold Grf.par; rw [List.head?_map, hh]; rfl
  have hp2 : (Grf.par c (Grf.num a st n ++ [b])).getLast? = some (b, c) := by unfold Grf.par; rw [List.getLast?_map, hlst]; rfl
  have HM := fun w => mer_in K L A S c a b st _ w h hll hst'
  have HP := fun w => par_in K L A S c a b st _ w h hll hst'
  generalize Grf.mer c (Grf.num a st n ++ [b]) = M at *
  generalize Grf.par c (Grf.num a st n ++ [b]) = P at *
  have at0 : ∀ {l : List (Int × Int)} {j : Nat} {p : Int × Int} (hj : j < l.length), l[j]? = some p → l[j] = p := fun hj e => by rw [List.getElem?_eq_getElem hj] at e; exact Option.some.inj e
  have pll : ∀ l : List (Int × Int), l.length ≤ 4096 → (Prj.pl K L A S l).length ≤ 4096 := fun l hl => by
    unfold Prj.pl
    split
    · have := Prj.pth_len K L A S l l.length
      omega
    · simp
  have l1 := pll M lm
  have l2 := pll P lp
  by_cases gm : Prj.allGood K L A S M
  · have e1 : Prj.pe K L A S M = 0 := if_pos gm
    rw [e1] at HM
    obtain ⟨m1, a1, a2, a3⟩ := pl_ends K L A S M gm _ _ hm1 hm2
    have g1 := gm _ (List.mem_of_head? hm1)
    have g2 := gm _ (List.mem_of_getLast? hm2)
    by_cases gp : Prj.allGood K L A S P
    · have e2 : Prj.pe K L A S P = 0 := if_pos gp
      rw [e2] at HP
      obtain ⟨m2, b1, b2, b3⟩ := pl_ends K L A S P gp _ _ hp1 hp2
      have g3 := gp _ (List.mem_of_head? hp1)
      have g4 := gp _ (List.mem_of_getLast? hp2)
      exact coreTT K L A S c a b st _ _ w m1 _ _ _ _ a1 (by omega) (at0 (by omega) a2) (at0 (by omega) a3) HM (rto_good K L A S _ _ h g1) (rto_good K L A S _ _ h g2) m2 _ _ _ _ b1 (by omega) (at0 (by omega) b2) (at0 (by omega) b3) HP (rto_good K L A S _ _ h g3) (rto_good K L A S _ _ h g4)
    · have e2 : Prj.pe K L A S P = 2 := if_neg gp
      rw [e2] at HP
      exact coreTF K L A S c a b st _ _ w m1 _ _ _ _ a1 (by omega) (at0 (by omega) a2) (at0 (by omega) a3) HM (rto_good K L A S _ _ h g1) (rto_good K L A S _ _ h g2) 2 rfl HP
  · have e1 : Prj.pe K L A S M = 2 := if_neg gm
    rw [e1] at HM
    by_cases gp : Prj.allGood K L A S P
    · have e2 : Prj.pe K L A S P = 0 := if_pos gp
      rw [e2] at HP
      obtain ⟨m2, b1, b2, b3⟩ := pl_ends K L A S P gp _ _ hp1 hp2
      have g3 := gp _ (List.mem_of_head? hp1)
      have g4 := gp _ (List.mem_of_getLast? hp2)
      exact coreFT K L A S c a b st _ _ w 2 rfl HM m2 _ _ _ _ b1 (by omega) (at0 (by omega) b2) (at0 (by omega) b3) HP (rto_good K L A S _ _ h g3) (rto_good K L A S _ _ h g4)
    · have e2 : Prj.pe K L A S P = 2 := if_neg gp
      rw [e2] at HP
      exact coreFF K L A S c a b st _ _ w 2 rfl HM 2 rfl HP

theorem own : ownKnob Tryd.prog.godebug = none := by kernel_rfl

set_option maxRecDepth 100000 in
theorem contract (H : Type) (enc : TypeId × Value → H) (W : World) (base : Nat) (args : Array Value) (ds gs : List (DataW H)) (before : List MemPlace)
    (hval : ∀ (j : Nat) t v, Tryd.f8.params[j]? = some t → args[j]? = some v → Value.okWide Tryd.prog W .any base t v)
    (hW : DataW.Whole enc Tryd.prog Tryd.f8.params.toList Rows.gridrefEndsSpec.vars false W args.toList ds gs before) (hL : laidMetH Tryd.prog Rows.gridrefEndsRow.laid W) :
    Calls Tryd.prog 8 args W fun e W' => ∃ v, e = .returned v ∧ Rows.gridrefEndsSpec.post enc Tryd.prog Tryd.f8 false true false false W args v W' := by
  have hW' := hW
  obtain ⟨p, q, hA0, hV, rfl, hfz, hnd⟩ := hW
  have hA : DataW.TrodAll enc Tryd.prog W 0 (fun _ => true) true Tryd.f8.params.toList args.toList ds p := hA0
  rw [Tryd.params8] at hA hval
  obtain ⟨v0, vs0, d0, ds0, p0, q0, hargs, rfl, rfl, h0, r0⟩ := trodAll_cons hA
  obtain ⟨v1, vs1, d1, ds1, p1, q1, rfl, rfl, rfl, h1, r1⟩ := trodAll_cons r0
  obtain ⟨rfl, rfl, rfl⟩ := trodAll_nil r1
  obtain rfl : args = #[v0, v1] := by cases args; simp_all
  obtain ⟨rfl, rfl⟩ := trodVars_none hV
  obtain ⟨rfl, cs0, rfl, hs0, hz0⟩ := flat_open 4 (by kernel_rfl) Tryd.underlying45 (hval 0 45 v0 rfl rfl) h0
  obtain ⟨x00, x01, x02, x03, rfl, b00, b01, b02, b03⟩ := agg4_of (hs0.trans (show Tryd.prog.cellsOf 45 = 4 by kernel_rfl)) hz0
  obtain ⟨rfl, cs1, rfl, hs1, hz1⟩ := flat_open 4 (by kernel_rfl) Tryd.underlying47 (hval 1 47 v1 rfl rfl) h1
  obtain ⟨x10, x11, x12, x13, rfl, b10, b11, b12, b13⟩ := agg4_of (hs1.trans (show Tryd.prog.cellsOf 47 = 4 by kernel_rfl)) hz1
  clear hA0
  simp only [List.append_nil] at hW'
  refine (walk x00 x01 x02 x03 x10 x11 x12 x13 b00 b01 b02 b03 b10 b11 b12 b13 W).mono fun e W' ⟨he, bel⟩ => ?_
  subst he
  exact ⟨_, rfl, _, _, _, [], [], [], hW', trodAll_mk1 (shut_bool Tryd.underlying4 _), (trodAll_cons_mk (Below.trod laidOut (by kernel_rfl) (by decide +kernel) h0 bel (fun x hx => by cases hx)) (trodAll_cons_mk (Below.trod laidOut (by kernel_rfl) (by decide +kernel) h1 bel (fun x hx => by cases hx)) trodAll_mk0)), rfl, Below.frame bel _, fun h => by cases h⟩

def setRow (h : Array Obj) (g : Nat) (cs : Array Value) : Array Obj := h.modify g fun
  | .cells _ t frozen => .cells cs t frozen
  | o => o
/-- A world for the witness: the settled one, the listed tables as their initialisers lay them. -/
noncomputable def laidWorld (os : Os) : World :=
  { World.holding Tryd.prog os ⟨#[], #[], []⟩ with heap := (setRow (setRow (setRow (World.holding Tryd.prog os ⟨#[], #[], []⟩).heap 3 #[.int .u8 0, .int .u8 1, .int .u8 28, .int .u8 2, .int .u8 29, .int .u8 14, .int .u8 24, .int .u8 3, .int .u8 30, .int .u8 22, .int .u8 20, .int .u8 15, .int .u8 25, .int .u8 17, .int .u8 4, .int .u8 8, .int .u8 31, .int .u8 27, .int .u8 13, .int .u8 23, .int .u8 21, .int .u8 19, .int .u8 16, .int .u8 7, .int .u8 26, .int .u8 12, .int .u8 18, .int .u8 6, .int .u8 11, .int .u8 5, .int .u8 10, .int .u8 9]) 4 #[.int .u8 0, .int .u8 1, .int .u8 56, .int .u8 2, .int .u8 57, .int .u8 49, .int .u8 28, .int .u8 3, .int .u8 61, .int .u8 58, .int .u8 42, .int .u8 50, .int .u8 38, .int .u8 29, .int .u8 17, .int .u8 4, .int .u8 62, .int .u8 47, .int .u8 59, .int .u8 36, .int .u8 45, .int .u8 43, .int .u8 51, .int .u8 22, .int .u8 53, .int .u8 39, .int .u8 33, .int .u8 30, .int .u8 24, .int .u8 18, .int .u8 12, .int .u8 5, .int .u8 63, .int .u8 55, .int .u8 48, .int .u8 27, .int .u8 60, .int .u8 41, .int .u8 37, .int .u8 16, .int .u8 46, .int .u8 35, .int .u8 44, .int .u8 21, .int .u8 52, .int .u8 32, .int .u8 23, .int .u8 11, .int .u8 54, .int .u8 26, .int .u8 40, .int .u8 15, .int .u8 34, .int .u8 20, .int .u8 31, .int .u8 10, .int .u8 25, .int .u8 14, .int .u8 19, .int .u8 9, .int .u8 13, .int .u8 8, .int .u8 7, .int .u8 6]) 0 #[.int .u64 1, .int .u64 10, .int .u64 100, .int .u64 1000, .int .u64 10000, .int .u64 100000, .int .u64 1000000, .int .u64 10000000, .int .u64 100000000, .int .u64 1000000000, .int .u64 10000000000, .int .u64 100000000000, .int .u64 1000000000000, .int .u64 10000000000000, .int .u64 100000000000000, .int .u64 1000000000000000, .int .u64 10000000000000000, .int .u64 100000000000000000, .int .u64 1000000000000000000, .int .u64 10000000000000000000]) }
set_option maxRecDepth 100000 in
theorem laid_met (os : Os) : laidMet Tryd.prog Rows.gridrefEndsRow.laid ((laidWorld os).forCall (fun _ _ => 0) ⟨#[], #[.agg #[.int .i64 0, .int .i64 0, .int .i64 0, .int .i64 0], .agg #[.int .i64 0, .int .i64 0, .int .i64 0, .int .i64 0]], []⟩).memory :=
  laidMet_of_run' 8 (by kernel_rfl) (by kernel_rfl)
theorem reads (os : Os) {H : Type} (enc : TypeId × Value → H) : ∃ places, DataW.whole enc Tryd.prog ((laidWorld os).forCall (fun _ _ => 0) ⟨#[], #[.agg #[.int .i64 0, .int .i64 0, .int .i64 0, .int .i64 0], .agg #[.int .i64 0, .int .i64 0, .int .i64 0, .int .i64 0]], []⟩).memory Tryd.f8.params.toList Rows.gridrefEndsSpec.vars false #[Value.agg #[.int .i64 0, .int .i64 0, .int .i64 0, .int .i64 0], .agg #[.int .i64 0, .int .i64 0, .int .i64 0, .int .i64 0]].toList 8 = some ([.agg [.lit (.int .i64 0), .lit (.int .i64 0), .lit (.int .i64 0), .lit (.int .i64 0)], .agg [.lit (.int .i64 0), .lit (.int .i64 0), .lit (.int .i64 0), .lit (.int .i64 0)]], [], places) :=
  ⟨[], by kernel_rfl⟩

set_option maxRecDepth 100000 in
theorem lifted (os : Os) (started : os.Started) (H : Type) (enc : TypeId × Value → H) (F : Stop.Interp) :
    ReturnsInHanded {} Tryd.checked os 8 .any ((OpenSpec.ofChange Rows.gridrefEndsSpec).preRow enc Tryd.prog Tryd.f8 Rows.gridrefEndsRow.domain false Rows.gridrefEndsRow.laid) (((OpenSpec.ofChange Rows.gridrefEndsSpec).at F).post enc Tryd.prog Tryd.f8 false true false false) := by
  obtain ⟨places, hx⟩ := reads os enc
  refine returnsInHanded_of_row (C := Tryd.checked) (s := OpenSpec.ofChange Rows.gridrefEndsSpec) own started (by kernel_rfl) Tryd.func8
    (witness_row_at (enc := enc) (C := Tryd.checked) false (laidWorld os) #[.agg #[.int .i64 0, .int .i64 0, .int .i64 0, .int .i64 0], .agg #[.int .i64 0, .int .i64 0, .int .i64 0, .int .i64 0]] rfl (by kernel_rfl) (by kernel_rfl) (by kernel_rfl)
      (OpenSpec.preRow_of_cond 8 hx (by kernel_rfl) (fun k hk => by cases hk) (by kernel_rfl) (laid_met os))) ?_
  intro W base args ds gs before hval hW _ _ _ hL _ _
  exact contract H enc W base args ds gs before hval hW hL

theorem said : Rows.GridrefEndsSaid :=
  OpenClaim.holds_of_cond 8 Tryd.f8 rfl rfl rfl rfl rfl rfl rfl ⟨rfl, rfl, rfl, rfl, rfl⟩ rfl rfl rfl rfl rfl (by kernel_rfl) Tryd.func8 (by kernel_rfl)
    (of_decide_eq_true (by kernel_rfl)) (by unfold Func.isWrapper; first | (rw [if_pos (by decide +kernel)]; kernel_rfl) | (rw [if_neg (by decide +kernel)]; exact ⟨rfl, rfl⟩))
    (fun os started H enc _ F => by rw [OpenClaim.pre_eq_preRow]; exact lifted os started H enc F)

theorem plain (f : FuncId) (fn : Func) (hf : Tryd.pinned.checked.prog.funcNamed "mapsheets/mapsheetslaw51.GridrefEnds" = some f) (hfn : Tryd.pinned.checked.prog.funcs[f]? = some fn) :
    false = Tryd.pinned.checked.prog.looks [] ∧ ∀ (j : Nat) t, fn.params[j]? = some t → Tryd.pinned.checked.prog.wantsStandIn t = false := by
  obtain rfl : f = 8 := Option.some.inj ((show Tryd.prog.funcNamed "mapsheets/mapsheetslaw51.GridrefEnds" = some 8 by kernel_rfl).symm.trans hf) |>.symm
  obtain rfl : fn = Tryd.f8 := (Option.some.inj (Tryd.func8.symm.trans hfn)).symm
  refine ⟨by kernel_rfl, fun j t ht => ?_⟩
  rw [Tryd.params8] at ht
  have all : ∀ t ∈ Tryd.f8.params, Tryd.prog.wantsStandIn t = false := by rw [Tryd.params8]; decide +kernel
  exact all t (by rw [Tryd.params8]; exact Array.mem_of_getElem? ht)

theorem card : Rows.GridrefEndsCardSaid :=
  Claim7.holds_tied_plain_at .later [] _ _ _ _ said (fun _ h => by cases h) (by kernel_rfl) (fun _ h => by cases h) gridrefEnds_row_tie rfl ⟨rfl, rfl⟩ (by kernel_rfl) rfl plain (by kernel_rfl)
end Go.Proofs.YtcaabaijkidmgaaDoor.gridrefEnds
namespace Go.Proofs.YtcaabaijkidmgaaDoor
theorem gridrefEnds_holds : Rows.GridrefEndsCardSaid := gridrefEnds.card
#print axioms gridrefEnds_holds
end Go.Proofs.YtcaabaijkidmgaaDoor
