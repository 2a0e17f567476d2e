/- The examples that the statements of chapter 11 check first (awake): they hold. -/
import Derived.Test.YtnneejodkdopnaaAsin
import Derived.Test.YtnneejodkdopnaaLog
namespace Go.Proofs.Ytnneejodkdopnaa
open Go.RowKit
set_option linter.unusedVariables false

theorem c_asin : Ser.asin 1073741824 = 323994 := by decide +kernel
theorem c_log2 : Ser.log 2147483648 = 744261118 := by decide +kernel
theorem c_log1 : Ser.log 1073741824 = 0 := by decide +kernel
theorem c_art : Ser.artanh 0 = 0 := by decide +kernel
theorem c_rad1 : Ser.rad 1 = 5206 := by decide +kernel
theorem c_rad2 : Ser.rad 648000 = 3373259426 := by decide +kernel
theorem c_sin1 : Ser.sin 1 = 5206 := by decide +kernel
theorem c_sin2 : Ser.sin 108000 = 536870912 := by decide +kernel
theorem c_sin3 : Ser.sin 324000 = 1073741824 := by decide +kernel
theorem c_sin4 : Ser.sin (-324000) = -1073741824 := by decide +kernel
theorem c_cos1 : Ser.cos 0 = 1073741824 := by decide +kernel
theorem c_cos2 : Ser.cos 324000 = 0 := by decide +kernel

set_option maxRecDepth 100000 in
set_option maxHeartbeats 4000000 in
theorem awake_any (w : World) :
    Calls Try.prog 18 #[] w fun e w' => e = .returned (.bool true) ∧ Q w w' := by
  have H1 := Lib.hid (fun W => asin_any 1073741824 (by omega) (by omega) W)
  have H2 := Lib.hid (fun W => log_any 2147483648 (by omega) (by omega) W)
  have H3 := Lib.hid (fun W => log_any 1073741824 (by omega) (by omega) W)
  have H4 := Lib.hid (fun W => asin_out 1073741825 (by omega) W)
  have H5 := Lib.hid (fun W => log_out 0 (by omega) W)
  have H6 := Lib.hid (fun W => artanh_out 1073741824 (by omega) W)
  have H7 := Lib.hid (fun W => artanh_any 0 (by omega) (by omega) W)
  have H8 := Lib.hid (fun W => rad_any 1 (by omega) (by omega) W)
  have H9 := Lib.hid (fun W => rad_any 648000 (by omega) (by omega) W)
  have H10 := Lib.hid (fun W => sin_any 1 (by omega) (by omega) W)
  have H11 := Lib.hid (fun W => sin_any 108000 (by omega) (by omega) W)
  have H12 := Lib.hid (fun W => sin_any 324000 (by omega) (by omega) W)
  have H13 := Lib.hid (fun W => sin_any (-324000) (by omega) (by omega) W)
  have H14 := Lib.hid (fun W => cos_any 0 (by omega) (by omega) W)
  have H15 := Lib.hid (fun W => cos_any 324000 (by omega) (by omega) W)
  rw [c_asin] at H1
  rw [c_log2] at H2
  rw [c_log1] at H3
  rw [c_art] at H7
  rw [c_rad1] at H8
  rw [c_rad2] at H9
  rw [c_sin1] at H10
  rw [c_sin2] at H11
  rw [c_sin3] at H12
  rw [c_sin4] at H13
  rw [c_cos1] at H14
  rw [c_cos2] at H15
  go_enter Try.func18, Try.ntmps18
  go_wp2_with fail
  refine (H1.out _).mono ?_
  rintro e w1 ⟨rfl, q1⟩
  go_wp2_with fail
  refine (H2.out _).mono ?_
  rintro e w2 ⟨rfl, q2⟩
  go_wp2_with fail
  refine (H3.out _).mono ?_
  rintro e w3 ⟨rfl, q3⟩
  go_wp2_with fail
  refine (H4.out _).mono ?_
  rintro e w4 ⟨rfl, q4⟩
  go_wp2_with fail
  refine (H5.out _).mono ?_
  rintro e w5 ⟨rfl, q5⟩
  go_wp2_with fail
  refine (H6.out _).mono ?_
  rintro e w6 ⟨rfl, q6⟩
  go_wp2_with fail
  refine (H7.out _).mono ?_
  rintro e w7 ⟨rfl, q7⟩
  go_wp2_with fail
  refine (H8.out _).mono ?_
  rintro e w' ⟨rfl, rfl⟩
  go_wp2_with fail
  refine (H9.out _).mono ?_
  rintro e w' ⟨rfl, rfl⟩
  go_wp2_with fail
  refine (H10.out _).mono ?_
  rintro e w10 ⟨rfl, q10⟩
  go_wp2_with fail
  refine (H11.out _).mono ?_
  rintro e w11 ⟨rfl, q11⟩
  go_wp2_with fail
  refine (H12.out _).mono ?_
  rintro e w12 ⟨rfl, q12⟩
  go_wp2_with fail
  refine (H13.out _).mono ?_
  rintro e w13 ⟨rfl, q13⟩
  go_wp2_with fail
  refine (H14.out _).mono ?_
  rintro e w14 ⟨rfl, q14⟩
  go_wp2_with fail
  refine (H15.out _).mono ?_
  rintro e w15 ⟨rfl, q15⟩
  go_wp2_with fail
  go_ret
  exact ⟨rfl, q1.trans (q2.trans (q3.trans (q4.trans (q5.trans (q6.trans (q7.trans (q10.trans (q11.trans (q12.trans (q13.trans (q14.trans q15)))))))))))⟩
end Go.Proofs.Ytnneejodkdopnaa
