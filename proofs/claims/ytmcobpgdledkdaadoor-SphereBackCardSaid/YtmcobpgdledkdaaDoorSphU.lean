
/- Contracts of sphere.write and Print, and of the reference's. -/
import Derived.Test.YtmcobpgdledkdaaDoorSphT
import Derived.Deep.RegionHeld3
namespace Go.Proofs.YtmcobpgdledkdaaDoor
open Go.RowKit
set_option linter.unusedVariables false

namespace Sph
/-- The text of an angle of so many seconds, without its letter. -/
def ang (a : Nat) : List UInt8 := num (a / 3600) ++ ([45] ++ (tw (a / 60 % 60) ++ ([45] ++ tw (a % 60))))
/-- The text of an angle. -/
def wr (n : Int) (p m : UInt8) : List UInt8 := ang n.natAbs ++ [if n < 0 then m else p]
theorem num_len (n : Nat) : (num n).length ≤ 3 := by
  unfold num
  repeat' split
  all_goals rw [low_len]
  all_goals omega
theorem ang_len (n : Nat) : (ang n).length ≤ 9 := by
  have := num_len (n / 3600)
  unfold ang tw
  simp [low_len]
  omega
end Sph
theorem cat5 (a b c : List UInt8) (s : UInt8) : ((((((⟨a.toArray⟩ : ByteArray) ++ ⟨#[45]⟩) ++ ⟨b.toArray⟩) ++ ⟨#[45]⟩) ++ ⟨c.toArray⟩) ++ ⟨#[s]⟩) = ⟨((a ++ ([45] ++ (b ++ ([45] ++ c)))) ++ [s]).toArray⟩ := by
  rw [show (⟨#[45]⟩ : ByteArray) = ⟨([45] : List UInt8).toArray⟩ from rfl, show (⟨#[s]⟩ : ByteArray) = ⟨([s] : List UInt8).toArray⟩ from rfl]
  simp only [cat_mk, List.append_assoc]

set_option maxHeartbeats 2000000 in
theorem two_tw (n : Nat) (hn : n < 100) (w : World) :
    Calls Tryd.prog 33 #[.int .i64 (n : Int)] w fun e w' => e = .returned (.string ⟨(Sph.tw n).toArray⟩) ∧ Q w w' := by
  have HI := Lib.hid (fun W => itoa_num n (by omega) W (.inl hn))
  have HE := Lib.hid (Sph.tw_num n hn)
  obtain ⟨t, ht⟩ : ∃ t : ByteArray, (⟨(Sph.num n).toArray⟩ : ByteArray) = t := ⟨_, rfl⟩
  have HT := Lib.hid ht
  have hz : t.size ≤ 3 := by rw [← ht, size_mk]; exact Sph.num_len n
  rw [ht] at HI
  clear ht
  obtain ⟨nn, hnn⟩ : ∃ z : Int, (n : Int) = z := ⟨_, rfl⟩
  rw [hnn] at HI ⊢
  have n0 : 0 ≤ nn := by omega
  by_cases c : n < 10
  · have d : decide (nn < 10) = true := by simp; omega
    rw [if_pos c] at HE
    go_enter Tryd.func33, Tryd.ntmps33
    go_wp2_with fail
    refine (HI.out _).mono ?_
    rintro e w1 ⟨rfl, q1⟩
    go_wp2_with fail
    go_ret
    exact ⟨ret_str (by rw [← HT.out, ← HE.out]; exact cat_mk [48] (Sph.num n)), q1⟩
  · have d : decide (nn < 10) = false := by simp; omega
    rw [if_neg c] at HE
    go_enter Tryd.func33, Tryd.ntmps33
    go_wp2_with fail
    refine (HI.out _).mono ?_
    rintro e w1 ⟨rfl, q1⟩
    go_wp2_with fail
    go_ret
    exact ⟨ret_str (by rw [← HT.out, ← HE.out]), q1⟩
set_option maxHeartbeats 4000000 in
theorem swrite_neg (n : Int) (a : Nat) (ha : n.natAbs = a) (p m : UInt8) (h : a ≤ 648000) (hs : n < 0) (w : World) (ht : Ten (a / 3600) w) :
    Calls Tryd.prog 24 #[.int .i64 n, .string ⟨#[p]⟩, .string ⟨#[m]⟩] w fun e w' => e = .returned (.string ⟨(Sph.ang a ++ [m]).toArray⟩) ∧ Q w w' := by
  have H1 := Lib.hid (fun W (hq : Q w W) => itoa_num (a / 3600) (by omega) W (ht.next hq))
  have H2 := Lib.hid (fun W => two_tw (a / 60 % 60) (by omega) W)
  have H3 := Lib.hid (fun W => two_tw (a % 60) (by omega) W)
  obtain ⟨A, hA⟩ : ∃ t : ByteArray, (⟨(Sph.num (a / 3600)).toArray⟩ : ByteArray) = t := ⟨_, rfl⟩
  obtain ⟨B, hB⟩ : ∃ t : ByteArray, (⟨(Sph.tw (a / 60 % 60)).toArray⟩ : ByteArray) = t := ⟨_, rfl⟩
  obtain ⟨C, hC⟩ : ∃ t : ByteArray, (⟨(Sph.tw (a % 60)).toArray⟩ : ByteArray) = t := ⟨_, rfl⟩
  have zA : A.size ≤ 3 := by rw [← hA, size_mk]; exact Sph.num_len _
  have zB : B.size = 2 := by rw [← hB, size_mk]; exact Sph.low_len _ 2
  have zC : C.size = 2 := by rw [← hC, size_mk]; exact Sph.low_len _ 2
  have HR := Lib.hid (cat5 (Sph.num (a / 3600)) (Sph.tw (a / 60 % 60)) (Sph.tw (a % 60)) m)
  rw [hA, hB, hC] at HR
  rw [hA] at H1
  rw [hB] at H2
  rw [hC] at H3
  obtain ⟨z, hz⟩ : ∃ z : Int, (a : Int) = z := ⟨_, rfl⟩
  obtain ⟨x1, hx1⟩ : ∃ z : Int, ((a / 3600 : Nat) : Int) = z := ⟨_, rfl⟩
  obtain ⟨x2, hx2⟩ : ∃ z : Int, ((a / 60 % 60 : Nat) : Int) = z := ⟨_, rfl⟩
  obtain ⟨x3, hx3⟩ : ∃ z : Int, ((a % 60 : Nat) : Int) = z := ⟨_, rfl⟩
  obtain ⟨x4, hx4⟩ : ∃ z : Int, ((a / 60 : Nat) : Int) = z := ⟨_, rfl⟩
  rw [hx1] at H1
  rw [hx2] at H2
  rw [hx3] at H3
  have e1 : z.tdiv 3600 = x1 := by rw [Int.tdiv_eq_ediv_of_nonneg (by omega)]; omega
  have e4 : z.tdiv 60 = x4 := by rw [Int.tdiv_eq_ediv_of_nonneg (by omega)]; omega
  have e2 : x4.tmod 60 = x2 := by rw [Int.tmod_eq_emod_of_nonneg (by omega)]; omega
  have e3 : z.tmod 60 = x3 := by rw [Int.tmod_eq_emod_of_nonneg (by omega)]; omega
  have g1 : z / 3600 = x1 := by omega
  have g4 : z / 60 = x4 := by omega
  have g2 : x4 % 60 = x2 := by omega
  have g3 : z % 60 = x3 := by omega
  have z0 : 0 ≤ z := by omega
  have z1 : z ≤ 648000 := by omega
  have y4 : 0 ≤ x4 := by omega
  have y5 : x4 ≤ 10800 := by omega
  obtain rfl : n = -z := by omega
  have zp : 0 < z := by omega
  have d : decide (-z < 0) = true := by simp; omega
  have d2 : decide (0 < z) = true := by simpa using zp
  clear ht ha hz hx1 hx2 hx3 hx4 hA hB hC hs h
  go_enter Tryd.func24, Tryd.ntmps24
  go_wp2_with fail
  refine (H1.out _ (Q.refl _)).mono ?_
  rintro e w1 ⟨rfl, q1⟩
  go_wp2_with fail
  refine (H2.out _).mono ?_
  rintro e w2 ⟨rfl, q2⟩
  go_wp2_with fail
  refine (H3.out _).mono ?_
  rintro e w3 ⟨rfl, q3⟩
  go_wp2_with fail
  go_ret
  exact ⟨ret_str HR.out, (q1.trans q2).trans q3⟩
set_option maxHeartbeats 4000000 in
theorem swrite_pos (n : Int) (a : Nat) (ha : n.natAbs = a) (p m : UInt8) (h : a ≤ 648000) (hs : 0 ≤ n) (w : World) (ht : Ten (a / 3600) w) :
    Calls Tryd.prog 24 #[.int .i64 n, .string ⟨#[p]⟩, .string ⟨#[m]⟩] w fun e w' => e = .returned (.string ⟨(Sph.ang a ++ [p]).toArray⟩) ∧ Q w w' := by
  have H1 := Lib.hid (fun W (hq : Q w W) => itoa_num (a / 3600) (by omega) W (ht.next hq))
  have H2 := Lib.hid (fun W => two_tw (a / 60 % 60) (by omega) W)
  have H3 := Lib.hid (fun W => two_tw (a % 60) (by omega) W)
  obtain ⟨A, hA⟩ : ∃ t : ByteArray, (⟨(Sph.num (a / 3600)).toArray⟩ : ByteArray) = t := ⟨_, rfl⟩
  obtain ⟨B, hB⟩ : ∃ t : ByteArray, (⟨(Sph.tw (a / 60 % 60)).toArray⟩ : ByteArray) = t := ⟨_, rfl⟩
  obtain ⟨C, hC⟩ : ∃ t : ByteArray, (⟨(Sph.tw (a % 60)).toArray⟩ : ByteArray) = t := ⟨_, rfl⟩
  have zA : A.size ≤ 3 := by rw [← hA, size_mk]; exact Sph.num_len _
  have zB : B.size = 2 := by rw [← hB, size_mk]; exact Sph.low_len _ 2
  have zC : C.size = 2 := by rw [← hC, size_mk]; exact Sph.low_len _ 2
  have HR := Lib.hid (cat5 (Sph.num (a / 3600)) (Sph.tw (a / 60 % 60)) (Sph.tw (a % 60)) p)
  rw [hA, hB, hC] at HR
  rw [hA] at H1
  rw [hB] at H2
  rw [hC] at H3
  obtain ⟨z, hz⟩ : ∃ z : Int, (a : Int) = z := ⟨_, rfl⟩
  obtain ⟨x1, hx1⟩ : ∃ z : Int, ((a / 3600 : Nat) : Int) = z := ⟨_, rfl⟩
  obtain ⟨x2, hx2⟩ : ∃ z : Int, ((a / 60 % 60 : Nat) : Int) = z := ⟨_, rfl⟩
  obtain ⟨x3, hx3⟩ : ∃ z : Int, ((a % 60 : Nat) : Int) = z := ⟨_, rfl⟩
  obtain ⟨x4, hx4⟩ : ∃ z : Int, ((a / 60 : Nat) : Int) = z := ⟨_, rfl⟩
  rw [hx1] at H1
  rw [hx2] at H2
  rw [hx3] at H3
  have e1 : z.tdiv 3600 = x1 := by rw [Int.tdiv_eq_ediv_of_nonneg (by omega)]; omega
  have e4 : z.tdiv 60 = x4 := by rw [Int.tdiv_eq_ediv_of_nonneg (by omega)]; omega
  have e2 : x4.tmod 60 = x2 := by rw [Int.tmod_eq_emod_of_nonneg (by omega)]; omega
  have e3 : z.tmod 60 = x3 := by rw [Int.tmod_eq_emod_of_nonneg (by omega)]; omega
  have g1 : z / 3600 = x1 := by omega
  have g4 : z / 60 = x4 := by omega
  have g2 : x4 % 60 = x2 := by omega
  have g3 : z % 60 = x3 := by omega
  have z0 : 0 ≤ z := by omega
  have z1 : z ≤ 648000 := by omega
  have y4 : 0 ≤ x4 := by omega
  have y5 : x4 ≤ 10800 := by omega
  obtain rfl : n = z := by omega
  have d : decide (n < 0) = false := by simp; omega
  clear ht ha hz hx1 hx2 hx3 hx4 hA hB hC hs h
  go_enter Tryd.func24, Tryd.ntmps24
  go_wp2_with fail
  refine (H1.out _ (Q.refl _)).mono ?_
  rintro e w1 ⟨rfl, q1⟩
  go_wp2_with fail
  refine (H2.out _).mono ?_
  rintro e w2 ⟨rfl, q2⟩
  go_wp2_with fail
  refine (H3.out _).mono ?_
  rintro e w3 ⟨rfl, q3⟩
  go_wp2_with fail
  go_ret
  exact ⟨ret_str HR.out, (q1.trans q2).trans q3⟩
set_option maxHeartbeats 4000000 in
theorem rwrite_neg (n : Int) (a : Nat) (ha : n.natAbs = a) (p m : UInt8) (h : a ≤ 648000) (hs : n < 0) (w : World) :
    Calls Tryd.prog 25 #[.int .i64 n, .string ⟨#[p]⟩, .string ⟨#[m]⟩] w fun e w' => e = .returned (.string ⟨(Sph.ang a ++ [m]).toArray⟩) ∧ Q w w' := by
  have H1 := Lib.hid (fun W => rtext_num (a / 3600) (by omega) W)
  have H2 := Lib.hid (fun W => rtext_tw (a / 60 % 60) (by omega) W)
  have H3 := Lib.hid (fun W => rtext_tw (a % 60) (by omega) W)
  obtain ⟨A, hA⟩ : ∃ t : ByteArray, (⟨(Sph.num (a / 3600)).toArray⟩ : ByteArray) = t := ⟨_, rfl⟩
  obtain ⟨B, hB⟩ : ∃ t : ByteArray, (⟨(Sph.tw (a / 60 % 60)).toArray⟩ : ByteArray) = t := ⟨_, rfl⟩
  obtain ⟨C, hC⟩ : ∃ t : ByteArray, (⟨(Sph.tw (a % 60)).toArray⟩ : ByteArray) = t := ⟨_, rfl⟩
  have zA : A.size ≤ 3 := by rw [← hA, size_mk]; exact Sph.num_len _
  have zB : B.size = 2 := by rw [← hB, size_mk]; exact Sph.low_len _ 2
  have zC : C.size = 2 := by rw [← hC, size_mk]; exact Sph.low_len _ 2
  have HR := Lib.hid (cat5 (Sph.num (a / 3600)) (Sph.tw (a / 60 % 60)) (Sph.tw (a % 60)) m)
  rw [hA, hB, hC] at HR
  rw [hA] at H1
  rw [hB] at H2
  rw [hC] at H3
  obtain ⟨z, hz⟩ : ∃ z : Int, (a : Int) = z := ⟨_, rfl⟩
  obtain ⟨x1, hx1⟩ : ∃ z : Int, ((a / 3600 : Nat) : Int) = z := ⟨_, rfl⟩
  obtain ⟨x2, hx2⟩ : ∃ z : Int, ((a / 60 % 60 : Nat) : Int) = z := ⟨_, rfl⟩
  obtain ⟨x3, hx3⟩ : ∃ z : Int, ((a % 60 : Nat) : Int) = z := ⟨_, rfl⟩
  obtain ⟨x4, hx4⟩ : ∃ z : Int, ((a / 60 : Nat) : Int) = z := ⟨_, rfl⟩
  rw [hx1] at H1
  rw [hx2] at H2
  rw [hx3] at H3
  have e1 : z.tdiv 3600 = x1 := by rw [Int.tdiv_eq_ediv_of_nonneg (by omega)]; omega
  have e4 : z.tdiv 60 = x4 := by rw [Int.tdiv_eq_ediv_of_nonneg (by omega)]; omega
  have e2 : x4.tmod 60 = x2 := by rw [Int.tmod_eq_emod_of_nonneg (by omega)]; omega
  have e3 : z.tmod 60 = x3 := by rw [Int.tmod_eq_emod_of_nonneg (by omega)]; omega
  have g1 : z / 3600 = x1 := by omega
  have g4 : z / 60 = x4 := by omega
  have g2 : x4 % 60 = x2 := by omega
  have g3 : z % 60 = x3 := by omega
  have z0 : 0 ≤ z := by omega
  have z1 : z ≤ 648000 := by omega
  have y4 : 0 ≤ x4 := by omega
  have y5 : x4 ≤ 10800 := by omega
  obtain rfl : n = -z := by omega
  have zp : 0 < z := by omega
  have d : decide (-z < 0) = true := by simp; omega
  have d2 : decide (0 < z) = true := by simpa using zp
  clear ha hz hx1 hx2 hx3 hx4 hA hB hC hs h
  go_enter Tryd.func25, Tryd.ntmps25
  go_wp2_with fail
  refine (H1.out _).mono ?_
  rintro e w1 ⟨rfl, q1⟩
  go_wp2_with fail
  refine (H2.out _).mono ?_
  rintro e w2 ⟨rfl, q2⟩
  go_wp2_with fail
  refine (H3.out _).mono ?_
  rintro e w3 ⟨rfl, q3⟩
  go_wp2_with fail
  go_ret
  exact ⟨ret_str HR.out, (q1.trans q2).trans q3⟩
set_option maxHeartbeats 4000000 in
theorem rwrite_pos (n : Int) (a : Nat) (ha : n.natAbs = a) (p m : UInt8) (h : a ≤ 648000) (hs : 0 ≤ n) (w : World) :
    Calls Tryd.prog 25 #[.int .i64 n, .string ⟨#[p]⟩, .string ⟨#[m]⟩] w fun e w' => e = .returned (.string ⟨(Sph.ang a ++ [p]).toArray⟩) ∧ Q w w' := by
  have H1 := Lib.hid (fun W => rtext_num (a / 3600) (by omega) W)
  have H2 := Lib.hid (fun W => rtext_tw (a / 60 % 60) (by omega) W)
  have H3 := Lib.hid (fun W => rtext_tw (a % 60) (by omega) W)
  obtain ⟨A, hA⟩ : ∃ t : ByteArray, (⟨(Sph.num (a / 3600)).toArray⟩ : ByteArray) = t := ⟨_, rfl⟩
  obtain ⟨B, hB⟩ : ∃ t : ByteArray, (⟨(Sph.tw (a / 60 % 60)).toArray⟩ : ByteArray) = t := ⟨_, rfl⟩
  obtain ⟨C, hC⟩ : ∃ t : ByteArray, (⟨(Sph.tw (a % 60)).toArray⟩ : ByteArray) = t := ⟨_, rfl⟩
  have zA : A.size ≤ 3 := by rw [← hA, size_mk]; exact Sph.num_len _
  have zB : B.size = 2 := by rw [← hB, size_mk]; exact Sph.low_len _ 2
  have zC : C.size = 2 := by rw [← hC, size_mk]; exact Sph.low_len _ 2
  have HR := Lib.hid (cat5 (Sph.num (a / 3600)) (Sph.tw (a / 60 % 60)) (Sph.tw (a % 60)) p)
  rw [hA, hB, hC] at HR
  rw [hA] at H1
  rw [hB] at H2
  rw [hC] at H3
  obtain ⟨z, hz⟩ : ∃ z : Int, (a : Int) = z := ⟨_, rfl⟩
  obtain ⟨x1, hx1⟩ : ∃ z : Int, ((a / 3600 : Nat) : Int) = z := ⟨_, rfl⟩
  obtain ⟨x2, hx2⟩ : ∃ z : Int, ((a / 60 % 60 : Nat) : Int) = z := ⟨_, rfl⟩
  obtain ⟨x3, hx3⟩ : ∃ z : Int, ((a % 60 : Nat) : Int) = z := ⟨_, rfl⟩
  obtain ⟨x4, hx4⟩ : ∃ z : Int, ((a / 60 : Nat) : Int) = z := ⟨_, rfl⟩
  rw [hx1] at H1
  rw [hx2] at H2
  rw [hx3] at H3
  have e1 : z.tdiv 3600 = x1 := by rw [Int.tdiv_eq_ediv_of_nonneg (by omega)]; omega
  have e4 : z.tdiv 60 = x4 := by rw [Int.tdiv_eq_ediv_of_nonneg (by omega)]; omega
  have e2 : x4.tmod 60 = x2 := by rw [Int.tmod_eq_emod_of_nonneg (by omega)]; omega
  have e3 : z.tmod 60 = x3 := by rw [Int.tmod_eq_emod_of_nonneg (by omega)]; omega
  have g1 : z / 3600 = x1 := by omega
  have g4 : z / 60 = x4 := by omega
  have g2 : x4 % 60 = x2 := by omega
  have g3 : z % 60 = x3 := by omega
  have z0 : 0 ≤ z := by omega
  have z1 : z ≤ 648000 := by omega
  have y4 : 0 ≤ x4 := by omega
  have y5 : x4 ≤ 10800 := by omega
  obtain rfl : n = z := by omega
  have d : decide (n < 0) = false := by simp; omega
  clear ha hz hx1 hx2 hx3 hx4 hA hB hC hs h
  go_enter Tryd.func25, Tryd.ntmps25
  go_wp2_with fail
  refine (H1.out _).mono ?_
  rintro e w1 ⟨rfl, q1⟩
  go_wp2_with fail
  refine (H2.out _).mono ?_
  rintro e w2 ⟨rfl, q2⟩
  go_wp2_with fail
  refine (H3.out _).mono ?_
  rintro e w3 ⟨rfl, q3⟩
  go_wp2_with fail
  go_ret
  exact ⟨ret_str HR.out, (q1.trans q2).trans q3⟩
theorem swrite_any (n : Int) (p m : UInt8) (h : n.natAbs ≤ 648000) (w : World) (ht : Ten (n.natAbs / 3600) w) :
    Calls Tryd.prog 24 #[.int .i64 n, .string ⟨#[p]⟩, .string ⟨#[m]⟩] w fun e w' => e = .returned (.string ⟨(Sph.wr n p m).toArray⟩) ∧ Q w w' := by
  unfold Sph.wr
  by_cases c : n < 0
  · rw [if_pos c]
    exact swrite_neg n _ rfl p m h c w ht
  · rw [if_neg c]
    exact swrite_pos n _ rfl p m h (by omega) w ht
theorem rwrite_any (n : Int) (p m : UInt8) (h : n.natAbs ≤ 648000) (w : World) :
    Calls Tryd.prog 25 #[.int .i64 n, .string ⟨#[p]⟩, .string ⟨#[m]⟩] w fun e w' => e = .returned (.string ⟨(Sph.wr n p m).toArray⟩) ∧ Q w w' := by
  unfold Sph.wr
  by_cases c : n < 0
  · rw [if_pos c]
    exact rwrite_neg n _ rfl p m h c w
  · rw [if_neg c]
    exact rwrite_pos n _ rfl p m h (by omega) w
end Go.Proofs.YtmcobpgdledkdaaDoor
