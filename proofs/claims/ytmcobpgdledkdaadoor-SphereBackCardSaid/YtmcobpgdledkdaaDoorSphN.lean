
/- Contract of awake (package mapsheetslaw12): it returns true. -/
import Derived.Test.YtmcobpgdledkdaaDoorSphM
namespace Go.Proofs.YtmcobpgdledkdaaDoor
open Go.RowKit
set_option linter.unusedVariables false

set_option maxRecDepth 100000 in
set_option maxHeartbeats 4000000 in
theorem awake_true (w : World) : Calls Tryd.prog 14 #[] w fun e w' => e = .returned (.bool true) ∧ Q w w' := by
  have P1 := Lib.hid aw1
  have P2 := Lib.hid aw2
  have P3 := Lib.hid aw3
  have P4 := Lib.hid aw4
  have P5 := Lib.hid aw5
  have P6 := Lib.hid aw6
  have P7 := Lib.hid aw7
  have P8 := Lib.hid aw8
  have P9 := Lib.hid aw9
  go_enter Tryd.func14, Tryd.ntmps14
  go_wp2_with fail
  refine (P1.out _).mono ?_
  rintro e w1 ⟨rfl, q1⟩
  have HP1 := Lib.hid (heap_alloc_new w1 (.cells #[.int .i64 58920, .int .i64 173550] 23))
  go_wp2_with fail
  refine (P2.out _).mono ?_
  rintro e w2 ⟨rfl, q2⟩
  have HP2 := Lib.hid (b_next q2 HP1.out)
  go_wp2_with fail
  refine (P3.out _).mono ?_
  rintro e w3 ⟨rfl, q3⟩
  have HP3 := Lib.hid (b_next q3 (b_next ((Q.refl _).alloc _) HP2.out))
  obtain ⟨k0, k1, k2, k3⟩ := row2 HP3.out
  have z0 := block_lt_of_cell k0
  go_wp2_with fail
  refine (P4.out _).mono ?_
  rintro e w4 ⟨rfl, q4⟩
  clear k0 k1 k2 k3
  go_wp2_with fail
  refine (P5.out _).mono ?_
  rintro e w5 ⟨rfl, q5⟩
  go_wp2_with fail
  refine (P6.out _).mono ?_
  rintro e w6 ⟨rfl, q6⟩
  go_wp2_with fail
  refine (P7.out _).mono ?_
  rintro e w7 ⟨rfl, q7⟩
  go_wp2_with fail
  refine (P8.out _).mono ?_
  rintro e w8 ⟨rfl, q8⟩
  go_wp2_with fail
  refine (P9.out _).mono ?_
  rintro e w9 ⟨rfl, q9⟩
  go_wp2_with fail
  go_ret
  exact ⟨rfl, (((((((q1.trans (q2.behind _)).trans (q3.behind _)).trans (q4.behind _)).trans q5).trans q6).trans q7).trans q8).trans q9⟩
end Go.Proofs.YtmcobpgdledkdaaDoor
