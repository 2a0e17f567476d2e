/- Contracts of series.first and series.Asin: they return the number of the plain Lean function, or ErrRange. -/
import Derived.Test.YtnneejodkdopnaaSin
namespace Go.Proofs.Ytnneejodkdopnaa
open Go.RowKit
set_option linter.unusedVariables false

set_option maxHeartbeats 1000000 in
theorem first_any (y : Int) (hy0 : -9223372036854775808 ≤ y) (hy1 : y ≤ 9223372036854775807) (w : World) :
    Calls Try.prog 33 #[.int .i64 y] w fun e w' => e = .returned (.int .i64 (Ser.fst y)) ∧ Q w w' := by
  go_enter Try.func33, Try.ntmps33
  go_wp2_with fail
  go_loopw [3, 4] (fun a b wr => ∃ (f : Nat) (lo hi : Int), 0 ≤ lo ∧ lo ≤ hi ∧ hi ≤ 324000 ∧ Hid (hi - lo < 2 ^ f ∧ Ser.bs y f lo hi = Ser.fst y) ∧ a = .int .i64 lo ∧ b = .int .i64 hi ∧ Q w wr) (fun a b _ => (intOf b - intOf a).toNat)
  case atStart => exact ⟨19, 0, 324000, by omega, by omega, by omega, ⟨by decide, rfl⟩, rfl, rfl, Q.refl _⟩
  case round =>
    obtain ⟨f, lo, hi, h0, h1, h2, HB, rfl, rfl, hq⟩ := hrel
    by_cases hlt : lo < hi
    · obtain ⟨g, rfl⟩ : ∃ g, f = g + 1 := by
        cases f with
        | zero => have := HB.out.1; omega
        | succ g => exact ⟨g, rfl⟩
      have HC := Lib.hid (fun W => sin_any ((lo + hi) / 2) (by omega) (by omega) W)
      have hbs := HB.out.2
      have hbl := HB.out.1
      rw [Ser.bs, if_pos hlt] at hbs
      rw [Int.pow_succ] at hbl
      obtain ⟨s, hs⟩ : ∃ s, Ser.sin ((lo + hi) / 2) = s := ⟨_, rfl⟩
      rw [hs] at HC hbs
      clear hs
      obtain ⟨m, hm⟩ : ∃ m, (lo + hi) / 2 = m := ⟨_, rfl⟩
      have hm0 : lo ≤ m := by omega
      have hm1 : m < hi := by omega
      have HM := Lib.hid (show (m - lo < 2 ^ g ∧ hi - (m + 1) < 2 ^ g) by constructor <;> omega)
      rw [hm] at HC hbs
      have HS := Lib.hid hbs
      clear hbs hbl HB
      by_cases c : s < y
      · have HN := Lib.hid (show (hi - (m + 1) < 2 ^ g ∧ Ser.bs y g (m + 1) hi = Ser.fst y) from ⟨HM.out.2, by have := HS.out; rwa [if_pos c] at this⟩)
        go_wp2_with (go_at_call 14; refine (HC.out _).mono ?_; rintro e w1 ⟨rfl, hq1⟩)
        go_roundw
        case rel => exact ⟨g, m + 1, hi, by omega, by omega, h2, HN, rfl, rfl, hq.trans hq1⟩
        case measure => simp [intOf]; omega
      · have HN := Lib.hid (show (m - lo < 2 ^ g ∧ Ser.bs y g lo m = Ser.fst y) from ⟨HM.out.1, by have := HS.out; rwa [if_neg c] at this⟩)
        go_wp2_with (go_at_call 14; refine (HC.out _).mono ?_; rintro e w1 ⟨rfl, hq1⟩)
        go_roundw
        case rel => exact ⟨g, lo, m, h0, by omega, by omega, HN, rfl, rfl, hq.trans hq1⟩
        case measure => simp [intOf]; omega
    · have HF := Lib.hid (show Ser.fst y = lo by
        rw [← HB.out.2, show hi = lo by omega]
        exact Ser.bs_same y f lo)
      go_wp2_with fail
      go_ret
      exact ⟨by rw [HF.out]; rfl, hq⟩

set_option maxHeartbeats 1000000 in
theorem asin_nn (y : Int) (hy0 : 0 ≤ y) (hy1 : y ≤ 1073741824) (w : World) :
    Calls Try.prog 19 #[.int .i64 y] w fun e w' => e = .returned (.tuple #[.int .i64 (Ser.asin0 y), .int .i64 0]) ∧ Q w w' := by
  have HF := Lib.hid (fun W => first_any y (by omega) (by omega) W)
  have hf := Ser.fst_bd y
  have HA := Lib.hid (show Ser.asin0 y = if 0 < Ser.fst y ∧ y - Ser.sin (Ser.fst y - 1) ≤ Ser.sin (Ser.fst y) - y then Ser.fst (Ser.sin (Ser.fst y - 1)) else Ser.fst y from rfl)
  obtain ⟨x, hx⟩ : ∃ x, Ser.fst y = x := ⟨_, rfl⟩
  rw [hx] at HF hf HA
  obtain ⟨hx0, hx1⟩ := hf
  clear hx
  have d1 : decide (y < -1073741824) = false := by simp; omega
  by_cases c : 0 < x
  · have HS1 := Lib.hid (fun W => sin_any (x - 1) (by omega) (by omega) W)
    have HS0 := Lib.hid (fun W => sin_any x (by omega) (by omega) W)
    have b1 := Ser.sin_bd (x - 1)
    have b0 := Ser.sin_bd x
    obtain ⟨s1, hs1⟩ : ∃ s, Ser.sin (x - 1) = s := ⟨_, rfl⟩
    obtain ⟨s0, hs0⟩ : ∃ s, Ser.sin x = s := ⟨_, rfl⟩
    rw [hs1] at HS1 HA b1
    rw [hs0] at HS0 HA b0
    obtain ⟨b10, b11⟩ := b1
    obtain ⟨b00, b01⟩ := b0
    clear hs1 hs0
    by_cases c2 : y - s1 ≤ s0 - y
    · have HG := Lib.hid (fun W => first_any s1 (by omega) (by omega) W)
      have HR := Lib.hid (show Ser.asin0 y = Ser.fst s1 by rw [HA.out, if_pos ⟨c, c2⟩])
      go_enter Try.func19, Try.ntmps19
      go_wp2_with fail
      refine (HF.out _).mono ?_
      rintro e w1 ⟨rfl, hq1⟩
      go_wp2_with fail
      refine (HS1.out _).mono ?_
      rintro e w2 ⟨rfl, hq2⟩
      go_wp2_with fail
      refine (HS0.out _).mono ?_
      rintro e w3 ⟨rfl, hq3⟩
      go_wp2_with fail
      refine (HG.out _).mono ?_
      rintro e w4 ⟨rfl, hq4⟩
      go_wp2_with fail
      go_ret2
      exact ⟨by rw [HR.out]; rfl, hq1.trans (hq2.trans (hq3.trans hq4))⟩
    · have HR := Lib.hid (show Ser.asin0 y = x by rw [HA.out, if_neg (by omega)])
      go_enter Try.func19, Try.ntmps19
      go_wp2_with fail
      refine (HF.out _).mono ?_
      rintro e w1 ⟨rfl, hq1⟩
      go_wp2_with fail
      refine (HS1.out _).mono ?_
      rintro e w2 ⟨rfl, hq2⟩
      go_wp2_with fail
      refine (HS0.out _).mono ?_
      rintro e w3 ⟨rfl, hq3⟩
      go_wp2_with fail
      go_ret2
      exact ⟨by rw [HR.out]; rfl, hq1.trans (hq2.trans hq3)⟩
  · have HR := Lib.hid (show Ser.asin0 y = x by rw [HA.out, if_neg (by omega)])
    go_enter Try.func19, Try.ntmps19
    go_wp2_with fail
    refine (HF.out _).mono ?_
    rintro e w1 ⟨rfl, hq1⟩
    go_wp2_with fail
    go_ret2
    exact ⟨by rw [HR.out]; rfl, hq1⟩

theorem asin_any (y : Int) (hy0 : -1073741824 ≤ y) (hy1 : y ≤ 1073741824) (w : World) :
    Calls Try.prog 19 #[.int .i64 y] w fun e w' => e = .returned (.tuple #[.int .i64 (Ser.asin y), .int .i64 0]) ∧ Q w w' := by
  by_cases c : y < 0
  · have HN := Lib.hid (fun W => asin_nn (-y) (by omega) (by omega) W)
    have HA := Lib.hid (show Ser.asin y = -Ser.asin0 (-y) by unfold Ser.asin; rw [if_pos c])
    have hb := Ser.asin0_bd (-y)
    obtain ⟨x, hx⟩ : ∃ x, Ser.asin0 (-y) = x := ⟨_, rfl⟩
    rw [hx] at HN HA hb
    obtain ⟨hb0, hb1⟩ := hb
    clear hx
    have d1 : decide (y < -1073741824) = false := by simp; omega
    go_enter Try.func19, Try.ntmps19
    go_wp2_with fail
    refine (HN.out _).mono ?_
    rintro e w1 ⟨rfl, hq1⟩
    go_wp2_with fail
    go_ret2
    exact ⟨by rw [HA.out]; rfl, hq1⟩
  · have h := asin_nn y (by omega) hy1 w
    have e : Ser.asin y = Ser.asin0 y := by unfold Ser.asin; rw [if_neg c]
    rw [e]
    exact h

theorem asin_out (y : Int) (h : y < -1073741824 ∨ 1073741824 < y) (w : World) :
    Calls Try.prog 19 #[.int .i64 y] w fun e w' => e = .returned (.tuple #[.int .i64 0, .int .i64 2]) ∧ Q w w' := by
  by_cases c : y < -1073741824
  · have d1 : decide (y < -1073741824) = true := by simpa using c
    go_enter Try.func19, Try.ntmps19
    go_wp2_with fail
    go_ret2
    exact ⟨rfl, Q.refl _⟩
  · have d1 : decide (y < -1073741824) = false := by simpa using c
    have d2 : decide (1073741824 < y) = true := by simp; omega
    go_enter Try.func19, Try.ntmps19
    go_wp2_with fail
    go_ret2
    exact ⟨rfl, Q.refl _⟩
end Go.Proofs.Ytnneejodkdopnaa
