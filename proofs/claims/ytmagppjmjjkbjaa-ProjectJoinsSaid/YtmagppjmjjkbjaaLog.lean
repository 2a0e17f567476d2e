/- Contracts of series.fineLog, Log and Artanh: they return the numbers of the plain Lean functions, or ErrRange. -/
import Derived.Test.YtmagppjmjjkbjaaSin
import Derived.Test.YtmagppjmjjkbjaaLogA
namespace Go.Proofs.Ytmagppjmjjkbjaa
open Go.RowKit
set_option linter.unusedVariables false

set_option maxRecDepth 100000 in
set_option maxHeartbeats 4000000 in
theorem fineLog_core (x b m z v L : Int) (h0 : 1 ≤ x) (h1 : x ≤ 4611686018427387904) (hb0 : 1 ≤ b) (hb1 : b ≤ 63) (HB : Hid ((Lib.bitLen x.toNat : Int) = b))
    (hm0 : 72057594037927936 ≤ m) (hm1 : m ≤ 144115188075855871) (hs : (b ≤ 57 ∧ wrap64 (x * 2 ^ (26 - (b - 31)).toNat) = m) ∨ (57 < b ∧ x / 2 ^ (b - 31 - 26).toNat = m))
    (hz0 : 0 ≤ z) (hz1 : z ≤ 24019198012642646) (HZ : Hid ((m - 72057594037927936) * 72057594037927936 / (m + 72057594037927936) = z)) (hv0 : 0 ≤ v) (hv1 : v ≤ 24019198012642646) (HV : Hid (z * z / 72057594037927936 = v))
    (HL : Hid (L = Ser.lsum z v 21)) (w : World) :
    Calls Try.prog 57 #[.int .i64 x] w fun e w' => e = .returned (.int .i64 ((b - 31) * 49946518145322873 + 2 * L)) ∧ Q w w' := by
  have HMZ := Lib.hid (fun W => muldiv_q (m - 72057594037927936) 72057594037927936 (m + 72057594037927936) (by omega) (by omega) (by omega) (by omega) (by omega) (by omega) (by rw [HZ.out]; omega) W)
  rw [HZ.out] at HMZ
  have HMV := Lib.hid (fun W => muldiv_q z z 72057594037927936 (by omega) (by omega) (by omega) (by omega) (by omega) (by omega) (by rw [HV.out]; omega) W)
  rw [HV.out] at HMV
  rcases hs with ⟨c, hs⟩ | ⟨c, hs⟩
  all_goals
    go_enter Try.func57, Try.ntmps57
    go_wp2_with (first | (go_at_call 67; refine (len64_any _ _ (by omega) (by omega)).mono ?_; rintro e w' ⟨rfl, rfl⟩; rw [HB.out]))
    refine (HMZ.out _).mono ?_
    rintro e w2 ⟨rfl, hq2⟩
    go_wp2_with fail
    refine (HMV.out _).mono ?_
    rintro e w1 ⟨rfl, hq3⟩
    have hq1 := hq2.trans hq3
    clear hs hq2 hq3
    go_wp2_with fail
    go_loopw [44] (fun i wr => ∃ k : Nat, k ≤ 20 ∧ i = .int .i64 k ∧ Row wr w1.heap.size 61 21 (k + 1) (Ser.pw z v) ∧ Q w1 wr) (fun i _ => 20 - (intOf i).toNat)
    case atStart =>
      refine ⟨0, by omega, rfl, ⟨_, heap_alloc_new w1 _, rfl, fun i hi => ?_⟩, (Q.refl w1).alloc _⟩
      obtain rfl : i = 0 := by omega
      rfl
    case round =>
      obtain ⟨k, hk, rfl, hrow, hq⟩ := hrel
      by_cases hlt : k < 20
      · have hcell := hrow.cell (i := k) (by omega)
        have hp := Ser.pw_bd z v hz0 hz1 hv0 hv1 k
        have HT := Lib.hid (show Ser.pw z v (k + 1) = Ser.pw z v k * v / 72057594037927936 from rfl)
        obtain ⟨p, hpe⟩ : ∃ p : Int, Ser.pw z v k = p := ⟨_, rfl⟩
        rw [hpe] at HT hp hcell
        obtain ⟨hp0, hp1⟩ := hp
        have hy := Ser.sq_bd p v hp0 hv0 (by omega)
        have HY := Lib.hid (fun W => muldiv_q p v 72057594037927936 hp0 (by omega) hv0 (by omega) (by omega) (by omega) (by omega) W)
        obtain ⟨y, hye⟩ : ∃ y : Int, p * v / 72057594037927936 = y := ⟨_, rfl⟩
        rw [hye] at HY HT hy
        obtain ⟨hy0, hy1⟩ := hy
        clear hye hpe
        go_wp2_with fail
        refine (HY.out _).mono ?_
        rintro e w3 ⟨rfl, hq3⟩
        have hrow3 := hrow.below hq3
        have hfr := hrow3.frozen (k + 1)
        obtain ⟨u, hc3⟩ := hrow3.any (i := k + 1) (by omega)
        go_wp2_with fail
        go_roundw
        case rel =>
          refine ⟨k + 1, by omega, by go_num, ?_, ?_⟩
          · rw [← HT.out]
            exact hrow3.set (by omega)
          · exact (hq.trans hq3).setNew (Nat.le_refl _) _
        case measure => simp [intOf]; omega
      · obtain rfl : k = 20 := by omega
        obtain ⟨cs, hg, hsz, hall⟩ := hrow.whole
        have HG := Lib.hid hg
        have HC := Lib.hid hall
        have hI : (Try.prog.info? 61).map (·.size) = some cs.size := by rw [hsz]; kernel_rfl
        have HI := Lib.hid hI
        clear hI
        clear hg hall hsz hrow
        obtain ⟨i0, hi0, _, hi1, _⟩ := info_parts infoInt
        have hix : ∀ (j : Nat) (W : World), j < 21 → (Instr.index 61 (.agg cs) (.int .i64 (j : Int))).run Try.prog W = .ok (.int .i64 (Ser.pw z v j)) W := fun j W hj =>
          run_index_agg W Try.underlying61 Try.underlying3 i0 hi0 hi1 cs j (by omega) (by omega) _ (HC.out j hj)
        have HX := Lib.hid hix
        clear hix hi0 hi1
        go_wp2_with (refine wpList_load_row rfl 61 _ rfl w1.heap.size rfl 61 cs (0, 0) _ HG.out Try.underlying61 rfl HI.out ?_)
        go_loop [2, 60] (fun s i => ∃ j : Nat, j ≤ 21 ∧ i = .int .i64 j ∧ s = .int .i64 (Ser.lsum z v j)) (fun _ i => 21 - (intOf i).toNat)
        case atStart => exact ⟨0, by omega, rfl, rfl⟩
        case round =>
          obtain ⟨j, hj, rfl, rfl⟩ := hrel
          have hp := Ser.lsum_bd z v hz0 hz1 hv0 hv1 j
          by_cases hlj : j < 21
          · have hi := fun W => HX.out j W hlj
            have hw := Ser.pw_bd z v hz0 hz1 hv0 hv1 j
            have hd0 := Int.ediv_nonneg hw.1 (show 0 ≤ 2 * (j : Int) + 1 by omega)
            have hd1 := Int.ediv_le_self (2 * (j : Int) + 1) hw.1
            have HP := Lib.hid (show Ser.lsum z v (j + 1) = Ser.lsum z v j + Ser.pw z v j / (2 * (j : Int) + 1) from rfl)
            obtain ⟨p, hpe⟩ : ∃ p : Int, Ser.pw z v j = p := ⟨_, rfl⟩
            rw [hpe] at HP hi hw hd0 hd1
            obtain ⟨hw0, hw1⟩ := hw
            obtain ⟨d, hd⟩ : ∃ d : Int, p / (2 * (j : Int) + 1) = d := ⟨_, rfl⟩
            rw [hd] at HP hd0 hd1
            obtain ⟨s, hse⟩ : ∃ s : Int, Ser.lsum z v j = s := ⟨_, rfl⟩
            rw [hse] at HP hp
            obtain ⟨hp0, hp1⟩ := hp
            clear hpe
            go_wp2_with fail
            go_round
            case rel => exact ⟨j + 1, by omega, by go_num, by rw [HP.out, ← hd]⟩
            case measure => simp [intOf]; omega
          · obtain rfl : j = 21 := by omega
            have HL2 := Lib.hid (show Ser.lsum z v 21 = L from HL.out.symm)
            rw [HL2.out] at hp
            obtain ⟨hp0, hp1⟩ := hp
            clear hz0 hz1 hv0 hv1
            have hlr : Ser.lsum z v 21 = L := HL2.out
            go_wp2_with fail
            go_ret
            exact ⟨rfl, hq1.trans hq⟩

theorem fineLog_any (x : Int) (h0 : 1 ≤ x) (h1 : x ≤ 4611686018427387904) (w : World) :
    Calls Try.prog 57 #[.int .i64 x] w fun e w' => e = .returned (.int .i64 (Ser.fineLog x)) ∧ Q w w' := by
  have hl := Ser.lex_bd x h0 h1
  have hm := Ser.man_bd x h0 h1
  have hz := Ser.zed_bd (Ser.man x) hm.1 (by omega)
  have hv := Ser.wed_bd _ hz.1 hz.2
  have he : Ser.lex x = (Lib.bitLen x.toNat : Int) - 31 := rfl
  refine (fineLog_core x (Ser.lex x + 31) (Ser.man x) (Ser.zed (Ser.man x)) (Ser.wed (Ser.zed (Ser.man x))) (Ser.msum (Ser.man x)) h0 h1 (by omega) (by omega) ?_ hm.1 (by omega) ?_ hz.1 hz.2 rfl hv.1 hv.2 rfl rfl w).mono ?_
  · show (Lib.bitLen x.toNat : Int) = Ser.lex x + 31
    omega
  · by_cases c : Ser.lex x ≤ 26
    · left
      refine ⟨by omega, ?_⟩
      have e : Ser.man x = x * 2 ^ (26 - Ser.lex x).toNat := by unfold Ser.man; rw [if_pos c]
      rw [show 26 - (Ser.lex x + 31 - 31) = 26 - Ser.lex x by omega, ← e]
      exact IntWalk.wrap64_in _ ⟨by omega, by omega⟩
    · right
      refine ⟨by omega, ?_⟩
      have e : Ser.man x = x / 2 ^ (Ser.lex x - 26).toNat := by unfold Ser.man; rw [if_neg c]
      rw [show Ser.lex x + 31 - 31 - 26 = Ser.lex x - 26 by omega, ← e]
  · rintro e w' ⟨rfl, hq⟩
    refine ⟨?_, hq⟩
    rw [show Ser.lex x + 31 - 31 = Ser.lex x by omega]
    rfl



theorem artanh0_bd (s : Int) (h0 : 0 ≤ s) (h1 : s ≤ 1073725440) : -9223372036854775807 ≤ Ser.artanh0 s ∧ Ser.artanh0 s ≤ 9223372036854775807 := by
  have a := Ser.fineLog_bd (1073741824 + s) (by omega) (by omega)
  have b := Ser.fineLog_bd (1073741824 - s) (by omega) (by omega)
  unfold Ser.artanh0 Ser.rnd
  omega

theorem artanh_nn (s : Int) (h0 : 0 ≤ s) (h1 : s ≤ 1073725440) (w : World) :
    Calls Try.prog 43 #[.int .i64 s] w fun e w' => e = .returned (.tuple #[.int .i64 (Ser.artanh0 s), .int .i64 0]) ∧ Q w w' := by
  have HP := Lib.hid (fun W => fineLog_any (1073741824 + s) (by omega) (by omega) W)
  have HM := Lib.hid (fun W => fineLog_any (1073741824 - s) (by omega) (by omega) W)
  have hp := Ser.fineLog_bd (1073741824 + s) (by omega) (by omega)
  have hm := Ser.fineLog_bd (1073741824 - s) (by omega) (by omega)
  have HL := Lib.hid (show Ser.artanh0 s = Num.rnd (Ser.fineLog (1073741824 + s) - Ser.fineLog (1073741824 - s)) 134217728 from rfl)
  obtain ⟨f, hf⟩ : ∃ f, Ser.fineLog (1073741824 + s) = f := ⟨_, rfl⟩
  obtain ⟨g, hg⟩ : ∃ g, Ser.fineLog (1073741824 - s) = g := ⟨_, rfl⟩
  rw [hf] at HP hp HL
  rw [hg] at HM hm HL
  obtain ⟨hp0, hp1⟩ := hp
  obtain ⟨hm0, hm1⟩ := hm
  clear hf hg
  have d1 : decide (s < -1073725440) = false := by simp; omega
  go_enter Try.func43, Try.ntmps43
  go_wp2_with fail
  refine (HP.out _).mono ?_
  rintro e w1 ⟨rfl, hq1⟩
  go_wp2_with fail
  refine (HM.out _).mono ?_
  rintro e w2 ⟨rfl, hq2⟩
  go_wp2_with fail
  refine (round_pos _ _ (by omega) (by omega) (by omega) (by omega) _).mono ?_
  rintro e w' ⟨rfl, rfl⟩
  go_wp2_with fail
  go_ret2
  exact ⟨by rw [HL.out]; rfl, hq1.trans hq2⟩

theorem artanh_any (s : Int) (h0 : -1073725440 ≤ s) (h1 : s ≤ 1073725440) (w : World) :
    Calls Try.prog 43 #[.int .i64 s] w fun e w' => e = .returned (.tuple #[.int .i64 (Ser.artanh s), .int .i64 0]) ∧ Q w w' := by
  by_cases c : s < 0
  · have HN := Lib.hid (fun W => artanh_nn (-s) (by omega) (by omega) W)
    have HA := Lib.hid (show Ser.artanh s = -Ser.artanh0 (-s) by unfold Ser.artanh; rw [if_pos c])
    have hb := artanh0_bd (-s) (by omega) (by omega)
    obtain ⟨x, hx⟩ : ∃ x, Ser.artanh0 (-s) = x := ⟨_, rfl⟩
    rw [hx] at HN HA hb
    obtain ⟨hb0, hb1⟩ := hb
    clear hx
    have d1 : decide (s < -1073725440) = false := by simp; omega
    go_enter Try.func43, Try.ntmps43
    go_wp2_with fail
    refine (HN.out _).mono ?_
    rintro e w1 ⟨rfl, hq1⟩
    go_wp2_with fail
    go_ret2
    exact ⟨by rw [HA.out]; rfl, hq1⟩
  · have h := artanh_nn s (by omega) h1 w
    have e : Ser.artanh s = Ser.artanh0 s := by unfold Ser.artanh; rw [if_neg c]
    rw [e]
    exact h

theorem artanh_out (s : Int) (h : s < -1073725440 ∨ 1073725440 < s) (w : World) :
    Calls Try.prog 43 #[.int .i64 s] w fun e w' => e = .returned (.tuple #[.int .i64 0, .int .i64 2]) ∧ Q w w' := by
  by_cases c : s < -1073725440
  · have d1 : decide (s < -1073725440) = true := by simpa using c
    go_enter Try.func43, Try.ntmps43
    go_wp2_with fail
    go_ret2
    exact ⟨rfl, Q.refl _⟩
  · have d1 : decide (s < -1073725440) = false := by simpa using c
    have d2 : decide (1073725440 < s) = true := by simp; omega
    go_enter Try.func43, Try.ntmps43
    go_wp2_with fail
    go_ret2
    exact ⟨rfl, Q.refl _⟩
end Go.Proofs.Ytmagppjmjjkbjaa
