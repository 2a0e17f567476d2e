
/- Contracts of the reference's form and Parse (package mapsheetsref40). -/
import Derived.Test.YtcaabaijkidmgaaDoorGridRN
import Derived.Deep.LoopGhost
namespace Go.Proofs.YtcaabaijkidmgaaDoor
open Go.RowKit
set_option linter.unusedVariables false

namespace Grid
/-- Has a string the form of a name? -/
def frm (s : ByteArray) : Prop := 2 ≤ s.size ∧ s.size ≤ 3 ∧ 65 ≤ byt s 0 ∧ byt s 0 ≤ 80 ∧ byt s 1 ≠ 48 ∧ 48 ≤ byt s 1 ∧ byt s 1 ≤ 57 ∧ (s.size = 3 → 48 ≤ byt s 2 ∧ byt s 2 ≤ 57)
instance (s : ByteArray) : Decidable (frm s) := by unfold frm; infer_instance
end Grid
theorem ret_bool {a b : Bool} (h : a = b) : Ending.returned (.bool a) = .returned (.bool b) := by rw [h]

set_option maxRecDepth 100000 in
set_option maxHeartbeats 4000000 in
theorem form_core (n : Nat) (s : ByteArray) (x y z : Int) (fr : Bool) (w : World) (hn : s.size = n) (hn2 : n = 2 ∨ n = 3)
    (i0 : ∀ W, (Instr.index 9 (.string s) (.int .i64 0)).run Tryd.prog W = .ok (.int .u8 x) W) (i1 : ∀ W, (Instr.index 9 (.string s) (.int .i64 1)).run Tryd.prog W = .ok (.int .u8 y) W)
    (i2 : n = 3 → ∀ W, (Instr.index 9 (.string s) (.int .i64 2)).run Tryd.prog W = .ok (.int .u8 z) W)
    (hfr : fr = decide (65 ≤ x ∧ x ≤ 80 ∧ y ≠ 48 ∧ 48 ≤ y ∧ y ≤ 57 ∧ (n = 3 → 48 ≤ z ∧ z ≤ 57))) :
    Calls Tryd.prog 39 #[.string s] w fun e w' => e = .returned (.bool fr) ∧ w = w' := by
  have HF := Lib.hid hfr
  clear hfr
  have dx : decide (x < 65) = false ∨ decide (x < 65) = true := by cases decide (x < 65) <;> simp
  have dx2 : decide (80 < x) = false ∨ decide (80 < x) = true := by cases decide (80 < x) <;> simp
  have dy : (y == 48) = false ∨ (y == 48) = true := by cases (y == 48) <;> simp
  have dy1 : decide (y < 48) = false ∨ decide (y < 48) = true := by cases decide (y < 48) <;> simp
  have dy2 : decide (57 < y) = false ∨ decide (57 < y) = true := by cases decide (57 < y) <;> simp
  have dz1 : decide (z < 48) = false ∨ decide (z < 48) = true := by cases decide (z < 48) <;> simp
  have dz2 : decide (57 < z) = false ∨ decide (57 < z) = true := by cases decide (57 < z) <;> simp
  rcases hn2 with rfl | rfl
  · clear i2 dz1 dz2
    rcases dx with dx | dx
    rotate_left
    · go_enter Tryd.func39, Tryd.ntmps39
      go_wp2_with fail
      go_ret
      exact ⟨ret_bool (by rw [HF.out]; simp at *; omega), rfl⟩
    rcases dx2 with dx2 | dx2
    rotate_left
    · go_enter Tryd.func39, Tryd.ntmps39
      go_wp2_with fail
      go_ret
      exact ⟨ret_bool (by rw [HF.out]; simp at *; omega), rfl⟩
    rcases dy with dy | dy
    rotate_left
    · go_enter Tryd.func39, Tryd.ntmps39
      go_wp2_with fail
      go_ret
      exact ⟨ret_bool (by rw [HF.out]; simp at *; omega), rfl⟩
    go_enter Tryd.func39, Tryd.ntmps39
    go_wp2_with fail
    go_loop [3] (fun i => i = .int .i64 1 ∨ (i = .int .i64 2 ∧ Hid (48 ≤ y ∧ y ≤ 57))) (fun i => 3 - (intOf i).toNat)
    case atStart => exact .inl rfl
    case round =>
      rcases hrel with rfl | ⟨rfl, hy⟩
      · rcases dy1 with dy1 | dy1
        rotate_left
        · go_wp2_with fail
          go_ret
          exact ⟨ret_bool (by rw [HF.out]; simp at *; omega), rfl⟩
        rcases dy2 with dy2 | dy2
        rotate_left
        · go_wp2_with fail
          go_ret
          exact ⟨ret_bool (by rw [HF.out]; simp at *; omega), rfl⟩
        go_wp2_with fail
        go_round
        case rel => exact .inr ⟨rfl, Lib.hid (by simp at *; omega)⟩
        case measure => simp [intOf]
      · go_wp2_with fail
        go_ret
        exact ⟨ret_bool (HF.out.trans (decide_eq_true (by have hy1 := hy.out; clear HF; simp at dx dx2 dy; omega))).symm, rfl⟩
  · have i3 := i2 rfl
    clear i2
    rcases dx with dx | dx
    rotate_left
    · go_enter Tryd.func39, Tryd.ntmps39
      go_wp2_with fail
      go_ret
      exact ⟨ret_bool (by rw [HF.out]; simp at *; omega), rfl⟩
    rcases dx2 with dx2 | dx2
    rotate_left
    · go_enter Tryd.func39, Tryd.ntmps39
      go_wp2_with fail
      go_ret
      exact ⟨ret_bool (by rw [HF.out]; simp at *; omega), rfl⟩
    rcases dy with dy | dy
    rotate_left
    · go_enter Tryd.func39, Tryd.ntmps39
      go_wp2_with fail
      go_ret
      exact ⟨ret_bool (by rw [HF.out]; simp at *; omega), rfl⟩
    go_enter Tryd.func39, Tryd.ntmps39
    go_wp2_with fail
    go_loop [3] (fun i => i = .int .i64 1 ∨ (i = .int .i64 2 ∧ Hid (48 ≤ y ∧ y ≤ 57)) ∨ (i = .int .i64 3 ∧ Hid (48 ≤ y ∧ y ≤ 57 ∧ 48 ≤ z ∧ z ≤ 57))) (fun i => 4 - (intOf i).toNat)
    case atStart => exact .inl rfl
    case round =>
      rcases hrel with rfl | ⟨rfl, hy⟩ | ⟨rfl, hy⟩
      · rcases dy1 with dy1 | dy1
        rotate_left
        · go_wp2_with fail
          go_ret
          exact ⟨ret_bool (by rw [HF.out]; simp at *; omega), rfl⟩
        rcases dy2 with dy2 | dy2
        rotate_left
        · go_wp2_with fail
          go_ret
          exact ⟨ret_bool (by rw [HF.out]; simp at *; omega), rfl⟩
        go_wp2_with fail
        go_round
        case rel => exact .inr (.inl ⟨rfl, Lib.hid (by simp at *; omega)⟩)
        case measure => simp [intOf]
      · rcases dz1 with dz1 | dz1
        rotate_left
        · go_wp2_with fail
          go_ret
          exact ⟨ret_bool (HF.out.trans (decide_eq_false (by clear HF; simp at *; omega))).symm, rfl⟩
        rcases dz2 with dz2 | dz2
        rotate_left
        · go_wp2_with fail
          go_ret
          exact ⟨ret_bool (HF.out.trans (decide_eq_false (by clear HF; simp at *; omega))).symm, rfl⟩
        go_wp2_with fail
        go_round
        case rel => exact .inr (.inr ⟨rfl, Lib.hid (by have hy1 := hy.out; simp at *; omega)⟩)
        case measure => simp [intOf]
      · go_wp2_with fail
        go_ret
        exact ⟨ret_bool (HF.out.trans (decide_eq_true (by have hy1 := hy.out; clear HF; simp at dx dx2 dy; omega))).symm, rfl⟩

theorem form_short (s : ByteArray) (w : World) (hs : s.size < 2 ∨ 3 < s.size) (hm : s.size ≤ 9223372036854775807) :
    Calls Tryd.prog 39 #[.string s] w fun e w' => e = .returned (.bool false) ∧ w = w' := by
  by_cases c : s.size < 2
  · have d0 : decide ((s.size : Int) < 2) = true := by simp; omega
    go_enter Tryd.func39, Tryd.ntmps39
    go_wp2_with fail
    go_ret
    exact ⟨rfl, rfl⟩
  · have d0 : decide ((s.size : Int) < 2) = false := by simp; omega
    have d1 : decide (3 < (s.size : Int)) = true := by simp; omega
    go_enter Tryd.func39, Tryd.ntmps39
    go_wp2_with fail
    go_ret
    exact ⟨rfl, rfl⟩
theorem form_any (s : ByteArray) (w : World) (hm : s.size ≤ 9223372036854775807) :
    Calls Tryd.prog 39 #[.string s] w fun e w' => e = .returned (.bool (decide (Grid.frm s))) ∧ w = w' := by
  by_cases c : s.size < 2 ∨ 3 < s.size
  · have e : decide (Grid.frm s) = false := decide_eq_false (fun h => by unfold Grid.frm at h; omega)
    rw [e]
    exact form_short s w c hm
  · refine form_core s.size s _ _ (Grid.byt s 2) _ w rfl (by omega) (byt_run s 0 (by omega)) (byt_run s 1 (by omega)) (fun h => byt_run s 2 (by omega)) ?_
    exact decide_eq_decide.2 (by unfold Grid.frm; omega)

theorem rparse_bad (X Y W H C R : Int) (s : ByteArray) (w : World) (h : ¬ Grid.Ok X Y W H C R) :
    Calls Tryd.prog 18 #[.agg #[.int .i64 X, .int .i64 Y, .int .i64 W, .int .i64 H, .int .i64 C, .int .i64 R], .string s] w fun e w' => e = .returned (.tuple #[.int .i64 0, .int .i64 2]) ∧ Q w w' := by
  go_enter Tryd.func18, Tryd.ntmps18
  go_wp2_with fail
  refine (rcheck_no X Y W H C R _ h).mono ?_
  rintro e w1 ⟨rfl, q1⟩
  go_wp2_with fail
  go_ret2
  exact ⟨rfl, q1.behind _⟩
theorem rparse_form (X Y W H C R : Int) (s : ByteArray) (w : World) (h : Grid.Ok X Y W H C R) (hm : s.size ≤ 9223372036854775807) (hf : ¬ Grid.frm s) :
    Calls Tryd.prog 18 #[.agg #[.int .i64 X, .int .i64 Y, .int .i64 W, .int .i64 H, .int .i64 C, .int .i64 R], .string s] w fun e w' => e = .returned (.tuple #[.int .i64 0, .int .i64 20]) ∧ Q w w' := by
  have HF := Lib.hid (fun W' => form_any s W' hm)
  rw [show decide (Grid.frm s) = false by simpa using hf] at HF
  have HK := Lib.hid h
  clear h hf
  go_enter Tryd.func18, Tryd.ntmps18
  go_wp2_with fail
  refine (rcheck_yes X Y W H C R _ HK.out).mono ?_
  rintro e w1 ⟨rfl, q1⟩
  go_wp2_with fail
  refine (HF.out _).mono ?_
  rintro e w2 ⟨rfl, rfl⟩
  go_wp2_with fail
  go_ret2
  exact ⟨rfl, q1.behind _⟩

/-- The name of a sheet that is there, in the words of nm. -/
theorem rname_nm (X Y W H C R s : Int) (w : World) (h : Grid.Ok X Y W H C R) (hs0 : 1 ≤ s) (hs1 : s ≤ C * R) :
    Calls Tryd.prog 32 #[.agg #[.int .i64 X, .int .i64 Y, .int .i64 W, .int .i64 H, .int .i64 C, .int .i64 R], .int .i64 s] w fun e w' => e = .returned (.tuple #[.string ⟨(Grid.nm C s).toArray⟩, .int .i64 0]) ∧ Q w w' := by
  obtain ⟨p0, p1, p2, p3⟩ := Grid.place C R s h.c0 hs0 hs1
  have := h.c1
  have := h.r1
  exact rname_yes X Y W H C R s w h hs0 hs1 _ _ (by omega) (by omega) (by omega) (by omega)
theorem name_nm (X Y W H C R s : Int) (w : World) (h : Grid.Ok X Y W H C R) (hs0 : 1 ≤ s) (hs1 : s ≤ C * R) :
    Calls Tryd.prog 28 #[.agg #[.int .i64 X, .int .i64 Y, .int .i64 W, .int .i64 H, .int .i64 C, .int .i64 R], .int .i64 s] w fun e w' => e = .returned (.tuple #[.string ⟨(Grid.nm C s).toArray⟩, .int .i64 0]) ∧ Q w w' := by
  obtain ⟨p0, p1, p2, p3⟩ := Grid.place C R s h.c0 hs0 hs1
  have := h.c1
  have := h.r1
  exact name_yes X Y W H C R s w h hs0 hs1 _ _ (by omega) (by omega) (by omega) (by omega)

theorem str_ne {a b : ByteArray} (h : a ≠ b) : (a.toList == b.toList) = false := by
  rw [beq_eq_false_iff_ne]
  intro e
  rw [ByteArray.toList_eq, ByteArray.toList_eq] at e
  exact h (WideShapes.bytes_inj e)
theorem str_eq {a b : ByteArray} (h : a = b) : (a.toList == b.toList) = true := by rw [h]; simp

set_option maxHeartbeats 4000000 in
theorem rparse_find (X Y W H C R : Int) (s : ByteArray) (w : World) (h : Grid.Ok X Y W H C R) (hm : s.size ≤ 9223372036854775807) (hf : Grid.frm s) (m : Nat) (hm1 : ((m : Int) + 1) ≤ C * R) (hmn : (⟨(Grid.nm C ((m : Int) + 1)).toArray⟩ : ByteArray) = s) (hno : ∀ j : Nat, j < m → (⟨(Grid.nm C ((j : Int) + 1)).toArray⟩ : ByteArray) ≠ s) :
    Calls Tryd.prog 18 #[.agg #[.int .i64 X, .int .i64 Y, .int .i64 W, .int .i64 H, .int .i64 C, .int .i64 R], .string s] w fun e w' => e = .returned (.tuple #[.int .i64 ((m : Int) + 1), .int .i64 0]) ∧ Q w w' := by
  have hp := Grid.prod_bd C R 16 16 h.c0 h.c1 h.r0 h.r1
  have HF := Lib.hid (fun W' => form_any s W' hm)
  rw [show decide (Grid.frm s) = true by simpa using hf] at HF
  have HNM := Lib.hid (fun (s : Int) (W' : World) (a : 1 ≤ s) (b : s ≤ C * R) => rname_nm X Y W H C R s W' h a b)
  have HTY := Lib.hid (fun (s : Int) (W' : World) (a : 1 ≤ s) (b : s ≤ C * R) => there_yes X Y W H C R s W' h a b)
  have HK := Lib.hid h
  have HNO := Lib.hid hno
  have HMN := Lib.hid hmn
  have HM1 := Lib.hid hm1
  have hmb : m ≤ 256 := by omega
  clear h hf hno hmn hm1 hp
  go_enter Tryd.func18, Tryd.ntmps18
  go_wp2_with fail
  refine (rcheck_yes X Y W H C R _ HK.out).mono ?_
  rintro e w1 ⟨rfl, q1⟩
  go_wp2_with fail
  refine (HF.out _).mono ?_
  rintro e w2 ⟨rfl, rfl⟩
  go_wp2_with fail
  go_loopw [7] (fun i wr => ∃ k : Nat, k ≤ m ∧ i = .int .i64 ((k : Int) + 1) ∧ Q w1 wr) (fun i _ => m + 1 - (intOf i).toNat)
  case atStart => exact ⟨0, by omega, rfl, Q.refl _⟩
  case round =>
    obtain ⟨k, hk, rfl, hq⟩ := hrel
    have HT := Lib.hid (fun W' => HTY.out ((k : Int) + 1) W' (by omega) (by have := HM1.out; omega))
    have HN := Lib.hid (fun W' => HNM.out ((k : Int) + 1) W' (by omega) (by have := HM1.out; omega))
    have HSE := Lib.hid (((SeAt.fresh w X Y W H C R).next q1).next hq)
    obtain ⟨k0, k1, k2, k3, k4, k5, k6⟩ := HSE.out
    clear k6
    go_wp2_with fail
    refine (HT.out _).mono ?_
    rintro e w4 ⟨rfl, q4⟩
    clear k0 k1 k2 k3 k4 k5
    obtain ⟨k0, k1, k2, k3, k4, k5, k6⟩ := HSE.out.next q4
    clear k6
    by_cases hkm : k = m
    · subst hkm
      rw [HMN.out] at HN
      go_wp2_with fail
      refine (HN.out _).mono ?_
      rintro e w5 ⟨rfl, q5⟩
      clear k0 k1 k2 k3 k4 k5
      go_wp2_with fail
      go_ret2
      exact ⟨rfl, (q1.behind _).trans (hq.trans (q4.trans q5))⟩
    · have hne' := HNO.out k (by omega)
      obtain ⟨t, ht⟩ : ∃ t : ByteArray, (⟨(Grid.nm C ((k : Int) + 1)).toArray⟩ : ByteArray) = t := ⟨_, rfl⟩
      rw [ht] at HN hne'
      have hne := str_ne hne'
      clear ht hne'
      go_wp2_with fail
      refine (HN.out _).mono ?_
      rintro e w5 ⟨rfl, q5⟩
      clear k0 k1 k2 k3 k4 k5
      go_wp2_with fail
      go_roundw
      case rel => exact ⟨k + 1, by omega, by go_num, hq.trans (q4.trans q5)⟩
      case measure => simp [intOf]; omega

set_option maxHeartbeats 4000000 in
theorem rparse_lost (X Y W H C R : Int) (s : ByteArray) (w : World) (h : Grid.Ok X Y W H C R) (hm : s.size ≤ 9223372036854775807) (hf : Grid.frm s) (m : Nat) (hm1 : (m : Int) = C * R) (hno : ∀ j : Nat, j < m → (⟨(Grid.nm C ((j : Int) + 1)).toArray⟩ : ByteArray) ≠ s) :
    Calls Tryd.prog 18 #[.agg #[.int .i64 X, .int .i64 Y, .int .i64 W, .int .i64 H, .int .i64 C, .int .i64 R], .string s] w fun e w' => e = .returned (.tuple #[.int .i64 0, .int .i64 7]) ∧ Q w w' := by
  have hp := Grid.prod_bd C R 16 16 h.c0 h.c1 h.r0 h.r1
  have HF := Lib.hid (fun W' => form_any s W' hm)
  rw [show decide (Grid.frm s) = true by simpa using hf] at HF
  have HNM := Lib.hid (fun (s : Int) (W' : World) (a : 1 ≤ s) (b : s ≤ C * R) => rname_nm X Y W H C R s W' h a b)
  have HTY := Lib.hid (fun (s : Int) (W' : World) (a : 1 ≤ s) (b : s ≤ C * R) => there_yes X Y W H C R s W' h a b)
  have HTN := Lib.hid (fun (s : Int) (W' : World) (b : C * R < s) => there_no X Y W H C R s W' h (.inr b))
  have HK := Lib.hid h
  have HNO := Lib.hid hno
  have HM1 := Lib.hid hm1
  have hmb : m ≤ 256 := by omega
  clear h hf hno hm1 hp
  go_enter Tryd.func18, Tryd.ntmps18
  go_wp2_with fail
  refine (rcheck_yes X Y W H C R _ HK.out).mono ?_
  rintro e w1 ⟨rfl, q1⟩
  go_wp2_with fail
  refine (HF.out _).mono ?_
  rintro e w2 ⟨rfl, rfl⟩
  go_wp2_with fail
  go_loopw [7] (fun i wr => ∃ k : Nat, k ≤ m ∧ i = .int .i64 ((k : Int) + 1) ∧ Q w1 wr) (fun i _ => m + 1 - (intOf i).toNat)
  case atStart => exact ⟨0, by omega, rfl, Q.refl _⟩
  case round =>
    obtain ⟨k, hk, rfl, hq⟩ := hrel
    have HSE := Lib.hid (((SeAt.fresh w X Y W H C R).next q1).next hq)
    obtain ⟨k0, k1, k2, k3, k4, k5, k6⟩ := HSE.out
    clear k6
    by_cases hkm : k = m
    · have HT := Lib.hid (fun W' => HTN.out ((k : Int) + 1) W' (by have := HM1.out; omega))
      clear hkm
      go_wp2_with fail
      refine (HT.out _).mono ?_
      rintro e w4 ⟨rfl, q4⟩
      clear k0 k1 k2 k3 k4 k5
      go_wp2_with fail
      go_ret2
      exact ⟨rfl, (q1.behind _).trans (hq.trans q4)⟩
    · have HT := Lib.hid (fun W' => HTY.out ((k : Int) + 1) W' (by omega) (by have := HM1.out; omega))
      have HN := Lib.hid (fun W' => HNM.out ((k : Int) + 1) W' (by omega) (by have := HM1.out; omega))
      have hne' := HNO.out k (by omega)
      go_wp2_with fail
      refine (HT.out _).mono ?_
      rintro e w4 ⟨rfl, q4⟩
      clear k0 k1 k2 k3 k4 k5
      obtain ⟨k0, k1, k2, k3, k4, k5, k6⟩ := HSE.out.next q4
      clear k6
      obtain ⟨t, ht⟩ : ∃ t : ByteArray, (⟨(Grid.nm C ((k : Int) + 1)).toArray⟩ : ByteArray) = t := ⟨_, rfl⟩
      rw [ht] at HN hne'
      have hne := str_ne hne'
      clear ht hne'
      go_wp2_with fail
      refine (HN.out _).mono ?_
      rintro e w5 ⟨rfl, q5⟩
      clear k0 k1 k2 k3 k4 k5
      go_wp2_with fail
      go_roundw
      case rel => exact ⟨k + 1, by omega, by go_num, hq.trans (q4.trans q5)⟩
      case measure => simp [intOf]; omega
end Go.Proofs.YtcaabaijkidmgaaDoor
