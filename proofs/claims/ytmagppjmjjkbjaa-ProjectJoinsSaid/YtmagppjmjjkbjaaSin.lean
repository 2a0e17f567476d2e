/- The contracts of series.fineSine, turn, Sin, Cos and Rad over this translation: each returns the number that the plain Lean function defines. -/
import Derived.Test.YtmagppjmjjkbjaaNum
import Derived.Test.YtmagppjmjjkbjaaSer
import Derived.Test.YtmagppjmjjkbjaaRow
import Derived.Deep.LoopGhost
namespace Go.Proofs.Ytmagppjmjjkbjaa
open Go.RowKit
set_option linter.unusedVariables false

theorem den_le (k : Nat) (hk : k < 13) : 2 * ((k : Int) + 1) * (2 * ((k : Int) + 1) + 1) ≤ 702 := by
  have h : 2 * ((k : Int) + 1) * (2 * ((k : Int) + 1) + 1) ≤ 26 * 27 := Int.mul_le_mul (by omega) (by omega) (by omega) (by omega)
  omega

set_option maxRecDepth 100000 in
set_option maxHeartbeats 4000000 in
theorem fineSine_any (t : Int) (h0 : 0 ≤ t) (h1 : t ≤ 324000) (w : World) :
    Calls Try.prog 58 #[.int .i64 t] w fun e w' => e = .returned (.int .i64 (Ser.fine t)) ∧ Q w w' := by
  have hab := Ser.ang_bd t h0 h1
  have HM := Lib.hid (fun W => muldiv_q t 3622009729038561421 648000 h0 (by omega) (by omega) (by omega) (by omega) (by omega) (by have := hab.2; unfold Ser.ang at this; omega) W)
  obtain ⟨a, ha⟩ : ∃ a : Int, t * 3622009729038561421 / 648000 = a := ⟨_, rfl⟩
  have HA := Lib.hid (show Ser.ang t = a from ha)
  rw [ha] at HM
  rw [HA.out] at hab
  obtain ⟨ha0, ha1⟩ := hab
  clear ha
  go_enter Try.func58, Try.ntmps58
  go_wp2_with (first | (go_at_call 68; refine (HM.out _).mono ?_; rintro e w1 ⟨rfl, hq1⟩))
  go_loopw [18] (fun i wr => ∃ k : Nat, k ≤ 13 ∧ i = .int .i64 k ∧ Row wr w1.heap.size 62 14 (k + 1) (Ser.term a) ∧ Q w1 wr) (fun i _ => 13 - (intOf i).toNat)
  case atStart =>
    refine ⟨0, by omega, rfl, ⟨_, heap_alloc_new w1 _, rfl, fun i hi => ?_⟩, (Q.refl w1).alloc _⟩
    obtain rfl : i = 0 := by omega
    rfl
  case round =>
    obtain ⟨k, hk, rfl, hrow, hq⟩ := hrel
    by_cases hlt : k < 13
    · have hcell := hrow.cell (i := k) (by omega)
      have hd1 := Ser.den_pos k
      have hd2 := den_le k hlt
      have htd := Ser.term_down a ha0 (by omega) k
      have HT := Lib.hid (show Ser.term a (k + 1) = Ser.term a k * a / 1152921504606846976 * a / 1152921504606846976 / (2 * ((k : Int) + 1) * (2 * ((k : Int) + 1) + 1)) from rfl)
      obtain ⟨d, hd⟩ : ∃ d : Int, 2 * ((k : Int) + 1) * (2 * ((k : Int) + 1) + 1) = d := ⟨_, rfl⟩
      rw [hd] at HT hd1 hd2
      obtain ⟨x, hx⟩ : ∃ x : Int, Ser.term a k = x := ⟨_, rfl⟩
      rw [hx] at HT htd hcell
      obtain ⟨hx0, hx1, _, _⟩ := htd
      have hy := Ser.mul_bd x a hx0 ha0 (by omega)
      have HY := Lib.hid (fun W => muldiv_q x a 1152921504606846976 hx0 (by omega) ha0 (by omega) (by omega) (by omega) (by omega) W)
      obtain ⟨y, hye⟩ : ∃ y : Int, x * a / 1152921504606846976 = y := ⟨_, rfl⟩
      rw [hye] at HY HT hy
      obtain ⟨hy0, hy1⟩ := hy
      have hz := Ser.mul_bd y a hy0 ha0 (by omega)
      have HZ := Lib.hid (fun W => muldiv_q y a 1152921504606846976 hy0 (by omega) ha0 (by omega) (by omega) (by omega) (by omega) W)
      obtain ⟨z, hze⟩ : ∃ z : Int, y * a / 1152921504606846976 = z := ⟨_, rfl⟩
      rw [hze] at HZ HT hz
      obtain ⟨hz0, hz1⟩ := hz
      clear hye hze hx
      have hzd0 : 0 ≤ z / d := Int.ediv_nonneg hz0 (by omega)
      have hzd1 : z / d ≤ z := Int.ediv_le_self _ hz0
      go_wp2_with fail
      refine (HY.out _).mono ?_
      rintro e w2 ⟨rfl, hq2⟩
      go_wp2_with fail
      refine (HZ.out _).mono ?_
      rintro e w3 ⟨rfl, hq3⟩
      have hrow3 := (hrow.below hq2).below hq3
      have hfr := hrow3.frozen (k + 1)
      obtain ⟨v, hc3⟩ := hrow3.any (i := k + 1) (by omega)
      go_wp2_with fail
      go_roundw
      case rel =>
        refine ⟨k + 1, by omega, by go_num, ?_, ?_⟩
        · rw [← HT.out]
          exact hrow3.set (by omega)
        · exact (hq.trans (hq2.trans hq3)).setNew (Nat.le_refl _) _
      case measure => simp [intOf]; omega
    · obtain rfl : k = 13 := by omega
      obtain ⟨cs, hg, hsz, hall⟩ := hrow.whole
      have HG := Lib.hid hg
      have HC := Lib.hid hall
      have hI : (Try.prog.info? 62).map (·.size) = some cs.size := by rw [hsz]; kernel_rfl
      have HI := Lib.hid hI
      clear hI
      clear hg hall hsz hrow
      obtain ⟨i0, hi0, _, hi1, _⟩ := info_parts infoInt
      have hix : ∀ (j : Nat) (W : World), j < 14 → (Instr.index 62 (.agg cs) (.int .i64 (j : Int))).run Try.prog W = .ok (.int .i64 (Ser.term a j)) W := fun j W hj =>
        run_index_agg W Try.underlying62 Try.underlying3 i0 hi0 hi1 cs j (by omega) (by omega) _ (HC.out j hj)
      have HX := Lib.hid hix
      clear hix hi0 hi1
      go_wp2_with (refine wpList_load_row rfl 62 _ rfl w1.heap.size rfl 62 cs (0, 0) _ HG.out Try.underlying62 rfl HI.out ?_)
      go_loop [2, 50] (fun s i => ∃ j : Nat, j ≤ 14 ∧ i = .int .i64 j ∧ s = .int .i64 (Ser.part a j)) (fun _ i => 14 - (intOf i).toNat)
      case atStart => exact ⟨0, by omega, rfl, rfl⟩
      case round =>
        obtain ⟨j, hj, rfl, rfl⟩ := hrel
        by_cases hlj : j < 14
        · have hi := fun W => HX.out j W hlj
          have hp := Ser.part_in a ha0 (by omega) j
          have hp1 := Ser.part_in a ha0 (by omega) (j + 1)
          have HP := Lib.hid (show Ser.part a (j + 1) = if j % 2 = 0 then Ser.part a j + Ser.term a j else Ser.part a j - Ser.term a j from rfl)
          by_cases hev : j % 2 = 0
          · have he : ((j : Int) % 2 == 0) = true := by simp; omega
            rw [if_pos hev] at HP
            rw [HP.out] at hp1
            go_wp2_with fail
            go_round
            case rel => exact ⟨j + 1, by omega, by go_num, by rw [HP.out]⟩
            case measure => simp [intOf]; omega
          · have he : ((j : Int) % 2 == 0) = false := by simp; omega
            rw [if_neg hev] at HP
            rw [HP.out] at hp1
            go_wp2_with fail
            go_round
            case rel => exact ⟨j + 1, by omega, by go_num, by rw [HP.out]⟩
            case measure => simp [intOf]; omega
        · obtain rfl : j = 14 := by omega
          go_wp2_with fail
          go_ret
          exact ⟨by unfold Ser.fine; rw [HA.out]; rfl, hq1.trans hq⟩
theorem rnd_same (a b : Int) : Num.rnd a b = Ser.rnd a b := rfl

theorem turn_any (x : Int) (h0 : -9223372036854775808 ≤ x) (h1 : x ≤ 9223372036854775807) (w : World) :
    Calls Try.prog 56 #[.int .i64 x] w fun e w' => e = .returned (.int .i64 (x % 1296000)) ∧ w = w' := by
  by_cases h : 0 ≤ x
  · go_enter Try.func56, Try.ntmps56
    go_wp2
    go_ret
    exact ⟨rfl, rfl⟩
  · obtain ⟨m, hm⟩ : ∃ m, x.tmod 1296000 = m := ⟨_, rfl⟩
    obtain ⟨e1, e2, e3, _, _⟩ := Num.tdiv_pos x 1296000 (by omega)
    have e4 : x.tmod 1296000 ≤ 0 := by
      have e : x = -(-x) := by omega
      rw [e, Int.neg_tmod]
      have := Int.tmod_nonneg 1296000 (show 0 ≤ -x by omega)
      omega
    rw [hm] at e1 e2 e3 e4
    have HE := Lib.hid e1
    clear e1
    by_cases c : m < 0
    · have HF : x % 1296000 = m + 1296000 := by have := HE.out; omega
      have HF' := Lib.hid HF
      clear HF
      go_enter Try.func56, Try.ntmps56
      go_wp2
      go_ret
      exact ⟨by rw [HF'.out]; rfl, rfl⟩
    · have HF : x % 1296000 = m := by have := HE.out; omega
      have HF' := Lib.hid HF
      clear HF
      go_enter Try.func56, Try.ntmps56
      go_wp2
      go_ret
      exact ⟨by rw [HF'.out]; rfl, rfl⟩

/-- The sine of an angle from 0 to half a turn. -/
theorem sin_half (x : Int) (h0 : 0 ≤ x) (h1 : x ≤ 648000) (w : World) :
    Calls Try.prog 44 #[.int .i64 x] w fun e w' => e = .returned (.int .i64 (Ser.sin0 x)) ∧ Q w w' := by
  have HT := Lib.hid (fun W => turn_any x (by omega) (by omega) W)
  have e : x % 1296000 = x := by omega
  rw [e] at HT
  clear e
  by_cases c : 324000 < x
  · have HF := Lib.hid (fun W => fineSine_any (648000 - x) (by omega) (by omega) W)
    have HS := Lib.hid (show Ser.sin0 x = Num.rnd (Ser.fine (648000 - x)) 1073741824 by unfold Ser.sin0; rw [if_pos c]; rfl)
    have hb := Ser.fine_bd (648000 - x) (by omega) (by omega)
    obtain ⟨f, hf⟩ : ∃ f, Ser.fine (648000 - x) = f := ⟨_, rfl⟩
    rw [hf] at HF HS hb
    obtain ⟨hb0, hb1⟩ := hb
    clear hf
    go_enter Try.func44, Try.ntmps44
    go_wp2_with (first | (go_at_call 56; refine (HT.out _).mono ?_; rintro e w' ⟨rfl, rfl⟩) | (go_at_call 58; refine (HF.out _).mono ?_; rintro e w1 ⟨rfl, hq1⟩) | (go_at_call 40; refine (round_pos _ _ (by omega) (by omega) (by omega) (by omega) _).mono ?_; rintro e w' ⟨rfl, rfl⟩))
    go_ret
    exact ⟨by rw [HS.out]; rfl, hq1⟩
  · have HF := Lib.hid (fun W => fineSine_any x (by omega) (by omega) W)
    have HS := Lib.hid (show Ser.sin0 x = Num.rnd (Ser.fine x) 1073741824 by unfold Ser.sin0; rw [if_neg c]; rfl)
    have hb := Ser.fine_bd x (by omega) (by omega)
    obtain ⟨f, hf⟩ : ∃ f, Ser.fine x = f := ⟨_, rfl⟩
    rw [hf] at HF HS hb
    obtain ⟨hb0, hb1⟩ := hb
    clear hf
    go_enter Try.func44, Try.ntmps44
    go_wp2_with (first | (go_at_call 56; refine (HT.out _).mono ?_; rintro e w' ⟨rfl, rfl⟩) | (go_at_call 58; refine (HF.out _).mono ?_; rintro e w1 ⟨rfl, hq1⟩) | (go_at_call 40; refine (round_pos _ _ (by omega) (by omega) (by omega) (by omega) _).mono ?_; rintro e w' ⟨rfl, rfl⟩))
    go_ret
    exact ⟨by rw [HS.out]; rfl, hq1⟩

theorem sin_any (x : Int) (h0 : -9223372036854775808 ≤ x) (h1 : x ≤ 9223372036854775807) (w : World) :
    Calls Try.prog 44 #[.int .i64 x] w fun e w' => e = .returned (.int .i64 (Ser.sin x)) ∧ Q w w' := by
  have HT := Lib.hid (fun W => turn_any x h0 h1 W)
  obtain ⟨r, hr⟩ : ∃ r, x % 1296000 = r := ⟨_, rfl⟩
  have hr0 : 0 ≤ r := by omega
  have hr1 : r ≤ 1295999 := by omega
  rw [hr] at HT
  by_cases c : 648000 < r
  · have HS := Lib.hid (show Ser.sin x = -Ser.sin0 (1296000 - r) by unfold Ser.sin; rw [hr, if_pos c])
    have HC := Lib.hid (fun W => sin_half (1296000 - r) (by omega) (by omega) W)
    have hb := Ser.sin0_bd (1296000 - r) (by omega) (by omega)
    obtain ⟨s, hs⟩ : ∃ s, Ser.sin0 (1296000 - r) = s := ⟨_, rfl⟩
    rw [hs] at HS HC hb
    obtain ⟨hb0, hb1⟩ := hb
    clear hs hr
    go_enter Try.func44, Try.ntmps44
    go_wp2_with (first | (go_at_call 56; refine (HT.out _).mono ?_; rintro e w' ⟨rfl, rfl⟩) | (go_at_call 44; refine (HC.out _).mono ?_; rintro e w1 ⟨rfl, hq1⟩))
    go_ret
    exact ⟨by rw [HS.out]; rfl, hq1⟩
  · have HS := Lib.hid (show Ser.sin x = Ser.sin0 r by unfold Ser.sin; rw [hr, if_neg c])
    by_cases c2 : 324000 < r
    · have HF := Lib.hid (fun W => fineSine_any (648000 - r) (by omega) (by omega) W)
      have HS2 := Lib.hid (show Ser.sin0 r = Num.rnd (Ser.fine (648000 - r)) 1073741824 by unfold Ser.sin0; rw [if_pos c2]; rfl)
      have hb := Ser.fine_bd (648000 - r) (by omega) (by omega)
      obtain ⟨f, hf⟩ : ∃ f, Ser.fine (648000 - r) = f := ⟨_, rfl⟩
      rw [hf] at HF HS2 hb
      obtain ⟨hb0, hb1⟩ := hb
      clear hf hr
      go_enter Try.func44, Try.ntmps44
      go_wp2_with (first | (go_at_call 56; refine (HT.out _).mono ?_; rintro e w' ⟨rfl, rfl⟩) | (go_at_call 58; refine (HF.out _).mono ?_; rintro e w1 ⟨rfl, hq1⟩) | (go_at_call 40; refine (round_pos _ _ (by omega) (by omega) (by omega) (by omega) _).mono ?_; rintro e w' ⟨rfl, rfl⟩))
      go_ret
      exact ⟨by rw [HS.out, HS2.out]; rfl, hq1⟩
    · have HF := Lib.hid (fun W => fineSine_any r (by omega) (by omega) W)
      have HS2 := Lib.hid (show Ser.sin0 r = Num.rnd (Ser.fine r) 1073741824 by unfold Ser.sin0; rw [if_neg c2]; rfl)
      have hb := Ser.fine_bd r (by omega) (by omega)
      obtain ⟨f, hf⟩ : ∃ f, Ser.fine r = f := ⟨_, rfl⟩
      rw [hf] at HF HS2 hb
      obtain ⟨hb0, hb1⟩ := hb
      clear hf hr
      go_enter Try.func44, Try.ntmps44
      go_wp2_with (first | (go_at_call 56; refine (HT.out _).mono ?_; rintro e w' ⟨rfl, rfl⟩) | (go_at_call 58; refine (HF.out _).mono ?_; rintro e w1 ⟨rfl, hq1⟩) | (go_at_call 40; refine (round_pos _ _ (by omega) (by omega) (by omega) (by omega) _).mono ?_; rintro e w' ⟨rfl, rfl⟩))
      go_ret
      exact ⟨by rw [HS.out, HS2.out]; rfl, hq1⟩

theorem cos_any (x : Int) (h0 : -9223372036854775808 ≤ x) (h1 : x ≤ 9223372036854775807) (w : World) :
    Calls Try.prog 41 #[.int .i64 x] w fun e w' => e = .returned (.int .i64 (Ser.cos x)) ∧ Q w w' := by
  have HT := Lib.hid (fun W => turn_any x h0 h1 W)
  have HS := Lib.hid (fun W => sin_any (324000 - x % 1296000) (by omega) (by omega) W)
  have HC := Lib.hid (show Ser.cos x = Ser.sin (324000 - x % 1296000) from rfl)
  obtain ⟨r, hr⟩ : ∃ r, x % 1296000 = r := ⟨_, rfl⟩
  have hr0 : 0 ≤ r := by omega
  have hr1 : r ≤ 1295999 := by omega
  rw [hr] at HT HS HC
  clear hr
  go_enter Try.func41, Try.ntmps41
  go_wp2_with (first | (go_at_call 56; refine (HT.out _).mono ?_; rintro e w' ⟨rfl, rfl⟩) | (go_at_call 44; refine (HS.out _).mono ?_; rintro e w1 ⟨rfl, hq1⟩))
  go_ret
  exact ⟨by rw [HC.out]; rfl, hq1⟩

theorem rad_any (x : Int) (h0 : -9223372036854775808 ≤ x) (h1 : x ≤ 9223372036854775807) (w : World) :
    Calls Try.prog 37 #[.int .i64 x] w fun e w' => e = .returned (.int .i64 (Ser.rad x)) ∧ w = w' := by
  by_cases c1 : x < -2147483648
  · have HR := Lib.hid (show Ser.rad x = 0 by unfold Ser.rad; rw [if_pos (.inl c1)])
    have d : decide (x < -2147483648) = true := by simpa using c1
    go_enter Try.func37, Try.ntmps37
    go_wp2_with fail
    go_ret
    exact ⟨by rw [HR.out]; rfl, rfl⟩
  · have d : decide (x < -2147483648) = false := by simpa using c1
    by_cases c2 : 2147483648 < x
    · have HR := Lib.hid (show Ser.rad x = 0 by unfold Ser.rad; rw [if_pos (.inr c2)])
      have d2 : decide (2147483648 < x) = true := by simpa using c2
      go_enter Try.func37, Try.ntmps37
      go_wp2_with fail
      go_ret
      exact ⟨by rw [HR.out]; rfl, rfl⟩
    · have HR := Lib.hid (show Ser.rad x = Num.rnd (x * 3373259426) 648000 by unfold Ser.rad; rw [if_neg (by omega)]; rfl)
      have d2 : decide (2147483648 < x) = false := by simpa using c2
      go_enter Try.func37, Try.ntmps37
      go_wp2_with (first | (go_at_call 40; refine (round_pos _ _ (by omega) (by omega) (by omega) (by omega) _).mono ?_; rintro e w' ⟨rfl, rfl⟩))
      go_ret
      exact ⟨by rw [HR.out]; rfl, rfl⟩
end Go.Proofs.Ytmagppjmjjkbjaa
