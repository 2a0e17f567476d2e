/- Contracts of the reference's fine, Sin, Cos and Rad (package mapsheetsref11): each returns the number of the same plain Lean function as the program's. -/
import Derived.Test.YtmagppjmjjkbjaaRefA
namespace Go.Proofs.Ytmagppjmjjkbjaa
open Go.RowKit
set_option linter.unusedVariables false

theorem rhalf60 (x a : Int) (hx0 : 0 ≤ x) (ha0 : 0 ≤ a) (hx1 : x ≤ 4611686018427387904) (ha1 : a ≤ 1811004864519280710) (hr : x * a / 1152921504606846976 ≤ 9223372036854775807) (w : World) :
    Calls Try.prog 71 #[.int .i64 x, .int .i64 a, .int .i64 1073741824] w fun e w' => e = .returned (.int .i64 (x * a / 1152921504606846976)) ∧ Q w w' :=
  rhalf_q x a 1073741824 hx0 ha0 (by omega) (by omega) (by omega) (by omega) (by omega) (by omega) hr w

set_option maxRecDepth 100000 in
set_option maxHeartbeats 4000000 in
theorem rfine_any (t : Int) (h0 : 0 ≤ t) (h1 : t ≤ 324000) (w : World) :
    Calls Try.prog 65 #[.int .i64 t] w fun e w' => e = .returned (.int .i64 (Ser.fine t)) ∧ Q w w' := by
  have hab := Ser.ang_bd t h0 h1
  have hav : t * 5589521186787 + t * 585421 / 648000 = Ser.ang t := by unfold Ser.ang; omega
  have HF := Lib.hid (show Ser.fine t = Ser.part (Ser.ang t) 14 from rfl)
  obtain ⟨a, ha⟩ : ∃ a : Int, Ser.ang t = a := ⟨_, rfl⟩
  rw [ha] at hab hav HF
  obtain ⟨ha0, ha1⟩ := hab
  clear ha
  go_enter Try.func65, Try.ntmps65
  go_wp2_with fail
  clear hav
  go_loopw [4, 5, 6] (fun s p i wr => ∃ k : Nat, k ≤ 13 ∧ i = .int .i64 (k + 1) ∧ p = .int .i64 (Ser.term a k) ∧ s = .int .i64 (Ser.part a (k + 1)) ∧ Q w wr) (fun _ _ i _ => 14 - (intOf i).toNat)
  case atStart => exact ⟨0, by omega, rfl, rfl, by simp [Ser.part, Ser.term], Q.refl _⟩
  case round =>
    obtain ⟨k, hk, rfl, rfl, rfl, hq⟩ := hrel
    by_cases hlt : k < 13
    · have hd1 := Ser.den_pos k
      have hd2 := den_le k hlt
      have htd := Ser.term_down a ha0 (by omega) k
      have HT := Lib.hid (show Ser.term a (k + 1) = Ser.term a k * a / 1152921504606846976 * a / 1152921504606846976 / (2 * ((k : Int) + 1) * (2 * ((k : Int) + 1) + 1)) from rfl)
      obtain ⟨d, hd⟩ : ∃ d : Int, 2 * ((k : Int) + 1) * (2 * ((k : Int) + 1) + 1) = d := ⟨_, rfl⟩
      rw [hd] at HT hd1 hd2
      obtain ⟨x, hx⟩ : ∃ x : Int, Ser.term a k = x := ⟨_, rfl⟩
      rw [hx] at HT htd
      obtain ⟨hx0, hx1, ht0, ht1⟩ := htd
      have hy := Ser.mul_bd x a hx0 ha0 (by omega)
      have HY := Lib.hid (fun W => rhalf60 x a hx0 ha0 (by omega) (by omega) (by omega) W)
      obtain ⟨y, hye⟩ : ∃ y : Int, x * a / 1152921504606846976 = y := ⟨_, rfl⟩
      rw [hye] at HY HT hy
      obtain ⟨hy0, hy1⟩ := hy
      have hz := Ser.mul_bd y a hy0 ha0 (by omega)
      have HZ := Lib.hid (fun W => rhalf60 y a hy0 ha0 (by omega) (by omega) (by omega) W)
      obtain ⟨z, hze⟩ : ∃ z : Int, y * a / 1152921504606846976 = z := ⟨_, rfl⟩
      rw [hze] at HZ HT hz
      obtain ⟨hz0, hz1⟩ := hz
      clear hye hze
      have hp := Ser.part_in a ha0 (by omega) (k + 1)
      have hp1 := Ser.part_in a ha0 (by omega) (k + 1 + 1)
      have HP := Lib.hid (show Ser.part a (k + 1 + 1) = if (k + 1) % 2 = 0 then Ser.part a (k + 1) + Ser.term a (k + 1) else Ser.part a (k + 1) - Ser.term a (k + 1) from rfl)
      obtain ⟨s, hs⟩ : ∃ s : Int, Ser.part a (k + 1) = s := ⟨_, rfl⟩
      rw [HT.out] at ht0 ht1
      rw [hs, HT.out] at HP
      rw [hs] at hp
      obtain ⟨hp0, hpl⟩ := hp
      obtain ⟨u, hu⟩ : ∃ u : Int, z / d = u := ⟨_, rfl⟩
      rw [hu] at HT HP ht0 ht1
      by_cases hev : (k + 1) % 2 = 0
      · have he : (((k : Int) + 1) % 2 == 1) = false := by simp; omega
        rw [if_pos hev] at HP
        rw [HP.out] at hp1
        go_wp2_with fail
        refine (HY.out _).mono ?_
        rintro e w2 ⟨rfl, hq2⟩
        go_wp2_with fail
        refine (HZ.out _).mono ?_
        rintro e w3 ⟨rfl, hq3⟩
        go_wp2_with fail
        go_roundw
        case rel => exact ⟨k + 1, by omega, by go_num, by rw [HT.out, ← hu], by rw [HP.out], hq.trans (hq2.trans hq3)⟩
        case measure => simp [intOf]; omega
      · have he : (((k : Int) + 1) % 2 == 1) = true := by simp; omega
        rw [if_neg hev] at HP
        rw [HP.out] at hp1
        go_wp2_with fail
        refine (HY.out _).mono ?_
        rintro e w2 ⟨rfl, hq2⟩
        go_wp2_with fail
        refine (HZ.out _).mono ?_
        rintro e w3 ⟨rfl, hq3⟩
        go_wp2_with fail
        go_roundw
        case rel => exact ⟨k + 1, by omega, by go_num, by rw [HT.out, ← hu], by rw [HP.out], hq.trans (hq2.trans hq3)⟩
        case measure => simp [intOf]; omega
    · obtain rfl : k = 13 := by omega
      go_wp2_with fail
      go_ret
      exact ⟨by rw [HF.out]; rfl, hq⟩

/-- The reference's sine of an angle from 0 to half a turn. -/
theorem rsin_half (x : Int) (h0 : 0 ≤ x) (h1 : x ≤ 648000) (w : World) :
    Calls Try.prog 52 #[.int .i64 x] w fun e w' => e = .returned (.int .i64 (Ser.sin0 x)) ∧ Q w w' := by
  have HT := Lib.hid (fun W => modulo_any x (by omega) (by omega) W)
  have e : x % 1296000 = x := by omega
  rw [e] at HT
  clear e
  by_cases c : 324000 < x
  · have hmin : min x (648000 - x) = 648000 - x := by omega
    have HF := Lib.hid (fun W => rfine_any (648000 - x) (by omega) (by omega) W)
    have HS := Lib.hid (show Ser.sin0 x = Ser.rnd (Ser.fine (648000 - x)) 1073741824 by unfold Ser.sin0; rw [if_pos c])
    have hb := Ser.fine_bd (648000 - x) (by omega) (by omega)
    obtain ⟨f, hf⟩ : ∃ f, Ser.fine (648000 - x) = f := ⟨_, rfl⟩
    rw [hf] at HF HS hb
    obtain ⟨hb0, hb1⟩ := hb
    clear hf
    go_enter Try.func52, Try.ntmps52
    go_wp2_with (first | (go_at_call 63; refine (HT.out _).mono ?_; rintro e w' ⟨rfl, rfl⟩) | (go_at_call 65; refine (HF.out _).mono ?_; rintro e w1 ⟨rfl, hq1⟩) | (go_at_call 59; refine (rounded_any _ 536870912 (by omega) (by omega) (by omega) (by omega) _ rfl _).mono ?_; rintro e w' ⟨rfl, rfl⟩))
    go_ret
    exact ⟨by rw [HS.out]; rfl, hq1⟩
  · have hmin : min x (648000 - x) = x := by omega
    have HF := Lib.hid (fun W => rfine_any x (by omega) (by omega) W)
    have HS := Lib.hid (show Ser.sin0 x = Ser.rnd (Ser.fine x) 1073741824 by unfold Ser.sin0; rw [if_neg c])
    have hb := Ser.fine_bd x (by omega) (by omega)
    obtain ⟨f, hf⟩ : ∃ f, Ser.fine x = f := ⟨_, rfl⟩
    rw [hf] at HF HS hb
    obtain ⟨hb0, hb1⟩ := hb
    clear hf
    go_enter Try.func52, Try.ntmps52
    go_wp2_with (first | (go_at_call 63; refine (HT.out _).mono ?_; rintro e w' ⟨rfl, rfl⟩) | (go_at_call 65; refine (HF.out _).mono ?_; rintro e w1 ⟨rfl, hq1⟩) | (go_at_call 59; refine (rounded_any _ 536870912 (by omega) (by omega) (by omega) (by omega) _ rfl _).mono ?_; rintro e w' ⟨rfl, rfl⟩))
    go_ret
    exact ⟨by rw [HS.out]; rfl, hq1⟩

theorem rsin_any (x : Int) (h0 : -9223372036854775808 ≤ x) (h1 : x ≤ 9223372036854775807) (w : World) :
    Calls Try.prog 52 #[.int .i64 x] w fun e w' => e = .returned (.int .i64 (Ser.sin x)) ∧ Q w w' := by
  have HT := Lib.hid (fun W => modulo_any x h0 h1 W)
  obtain ⟨r, hr⟩ : ∃ r, x % 1296000 = r := ⟨_, rfl⟩
  have hr0 : 0 ≤ r := by omega
  have hr1 : r ≤ 1295999 := by omega
  rw [hr] at HT
  by_cases c : 648000 < r
  · have HS := Lib.hid (show Ser.sin x = -Ser.sin0 (1296000 - r) by unfold Ser.sin; rw [hr, if_pos c])
    have HC := Lib.hid (fun W => rsin_half (1296000 - r) (by omega) (by omega) W)
    have hb := Ser.sin0_bd (1296000 - r) (by omega) (by omega)
    obtain ⟨s, hs⟩ : ∃ s, Ser.sin0 (1296000 - r) = s := ⟨_, rfl⟩
    rw [hs] at HS HC hb
    obtain ⟨hb0, hb1⟩ := hb
    clear hs hr
    go_enter Try.func52, Try.ntmps52
    go_wp2_with (first | (go_at_call 63; refine (HT.out _).mono ?_; rintro e w' ⟨rfl, rfl⟩) | (go_at_call 52; refine (HC.out _).mono ?_; rintro e w1 ⟨rfl, hq1⟩))
    go_ret
    exact ⟨by rw [HS.out]; rfl, hq1⟩
  · have HS := Lib.hid (show Ser.sin x = Ser.sin0 r by unfold Ser.sin; rw [hr, if_neg c])
    by_cases c2 : 324000 < r
    · have hmin : min r (648000 - r) = 648000 - r := by omega
      have HF := Lib.hid (fun W => rfine_any (648000 - r) (by omega) (by omega) W)
      have HS2 := Lib.hid (show Ser.sin0 r = Ser.rnd (Ser.fine (648000 - r)) 1073741824 by unfold Ser.sin0; rw [if_pos c2])
      have hb := Ser.fine_bd (648000 - r) (by omega) (by omega)
      obtain ⟨f, hf⟩ : ∃ f, Ser.fine (648000 - r) = f := ⟨_, rfl⟩
      rw [hf] at HF HS2 hb
      obtain ⟨hb0, hb1⟩ := hb
      clear hf hr
      go_enter Try.func52, Try.ntmps52
      go_wp2_with (first | (go_at_call 63; refine (HT.out _).mono ?_; rintro e w' ⟨rfl, rfl⟩) | (go_at_call 65; refine (HF.out _).mono ?_; rintro e w1 ⟨rfl, hq1⟩) | (go_at_call 59; refine (rounded_any _ 536870912 (by omega) (by omega) (by omega) (by omega) _ rfl _).mono ?_; rintro e w' ⟨rfl, rfl⟩))
      go_ret
      exact ⟨by rw [HS.out, HS2.out]; rfl, hq1⟩
    · have hmin : min r (648000 - r) = r := by omega
      have HF := Lib.hid (fun W => rfine_any r (by omega) (by omega) W)
      have HS2 := Lib.hid (show Ser.sin0 r = Ser.rnd (Ser.fine r) 1073741824 by unfold Ser.sin0; rw [if_neg c2])
      have hb := Ser.fine_bd r (by omega) (by omega)
      obtain ⟨f, hf⟩ : ∃ f, Ser.fine r = f := ⟨_, rfl⟩
      rw [hf] at HF HS2 hb
      obtain ⟨hb0, hb1⟩ := hb
      clear hf hr
      go_enter Try.func52, Try.ntmps52
      go_wp2_with (first | (go_at_call 63; refine (HT.out _).mono ?_; rintro e w' ⟨rfl, rfl⟩) | (go_at_call 65; refine (HF.out _).mono ?_; rintro e w1 ⟨rfl, hq1⟩) | (go_at_call 59; refine (rounded_any _ 536870912 (by omega) (by omega) (by omega) (by omega) _ rfl _).mono ?_; rintro e w' ⟨rfl, rfl⟩))
      go_ret
      exact ⟨by rw [HS.out, HS2.out]; rfl, hq1⟩

theorem rcos_any (x : Int) (h0 : -9223372036854775808 ≤ x) (h1 : x ≤ 9223372036854775807) (w : World) :
    Calls Try.prog 49 #[.int .i64 x] w fun e w' => e = .returned (.int .i64 (Ser.cos x)) ∧ Q w w' := by
  have HT := Lib.hid (fun W => modulo_any x h0 h1 W)
  have HS := Lib.hid (fun W => rsin_any (324000 - x % 1296000) (by omega) (by omega) W)
  have HC := Lib.hid (show Ser.cos x = Ser.sin (324000 - x % 1296000) from rfl)
  obtain ⟨r, hr⟩ : ∃ r, x % 1296000 = r := ⟨_, rfl⟩
  have hr0 : 0 ≤ r := by omega
  have hr1 : r ≤ 1295999 := by omega
  rw [hr] at HT HS HC
  clear hr
  go_enter Try.func49, Try.ntmps49
  go_wp2_with (first | (go_at_call 63; refine (HT.out _).mono ?_; rintro e w' ⟨rfl, rfl⟩) | (go_at_call 52; refine (HS.out _).mono ?_; rintro e w1 ⟨rfl, hq1⟩))
  go_ret
  exact ⟨by rw [HC.out]; rfl, hq1⟩

theorem rrad_any (x : Int) (h0 : -9223372036854775808 ≤ x) (h1 : x ≤ 9223372036854775807) (w : World) :
    Calls Try.prog 47 #[.int .i64 x] w fun e w' => e = .returned (.int .i64 (Ser.rad x)) ∧ w = w' := by
  by_cases c1 : x < -2147483648
  · have HR := Lib.hid (show Ser.rad x = 0 by unfold Ser.rad; rw [if_pos (.inl c1)])
    have d : decide (x < -2147483648) = true := by simpa using c1
    go_enter Try.func47, Try.ntmps47
    go_wp2_with fail
    go_ret
    exact ⟨by rw [HR.out]; rfl, rfl⟩
  · have d : decide (x < -2147483648) = false := by simpa using c1
    by_cases c2 : 2147483648 < x
    · have HR := Lib.hid (show Ser.rad x = 0 by unfold Ser.rad; rw [if_pos (.inr c2)])
      have d2 : decide (2147483648 < x) = true := by simpa using c2
      go_enter Try.func47, Try.ntmps47
      go_wp2_with fail
      go_ret
      exact ⟨by rw [HR.out]; rfl, rfl⟩
    · have HR := Lib.hid (show Ser.rad x = Ser.rnd (x * 3373259426) 648000 by unfold Ser.rad; rw [if_neg (by omega)])
      have d2 : decide (2147483648 < x) = false := by simpa using c2
      go_enter Try.func47, Try.ntmps47
      go_wp2_with (first | (go_at_call 59; refine (rounded_any _ 324000 (by omega) (by omega) (by omega) (by omega) _ rfl _).mono ?_; rintro e w' ⟨rfl, rfl⟩))
      go_ret
      exact ⟨by rw [HR.out]; rfl, rfl⟩
end Go.Proofs.Ytmagppjmjjkbjaa
