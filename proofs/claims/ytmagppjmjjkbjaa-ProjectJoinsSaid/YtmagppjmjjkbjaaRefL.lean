/- Contracts of the reference's power, fineLog, Log and Artanh: they return the numbers of the same plain Lean functions as the program's, or ErrRange. -/
import Derived.Test.YtmagppjmjjkbjaaRefA
import Derived.Test.YtmagppjmjjkbjaaLog
import Derived.Deep.DeepCutAuto
import Derived.Deep.CutBlock
namespace Go.Proofs.Ytmagppjmjjkbjaa
open Go.RowKit
set_option linter.unusedVariables false

theorem pow_bd (k : Nat) (h : k ≤ 62) : 1 ≤ (2 : Int) ^ k ∧ (2 : Int) ^ k ≤ 4611686018427387904 := by
  have h1 : (2 : Nat) ^ k ≤ 2 ^ 62 := Nat.pow_le_pow_right (by omega) h
  have h0 : 0 < (2 : Nat) ^ k := Nat.two_pow_pos k
  have e : (2 : Int) ^ k = ((2 ^ k : Nat) : Int) := by simp
  rw [e]
  omega

theorem power_any (n : Int) (h0 : 0 ≤ n) (h1 : n ≤ 62) (w : World) :
    Calls Try.prog 75 #[.int .i64 n] w fun e w' => e = .returned (.int .i64 (2 ^ n.toNat)) ∧ w = w' := by
  go_enter Try.func75, Try.ntmps75
  go_wp2_with fail
  go_loop [3, 4] (fun p i => ∃ k : Nat, (k : Int) ≤ n ∧ i = .int .i64 k ∧ p = .int .i64 (2 ^ k)) (fun _ i => (n - intOf i).toNat)
  case atStart => exact ⟨0, by omega, rfl, rfl⟩
  case round =>
    obtain ⟨k, hk, rfl, rfl⟩ := hrel
    have hb := pow_bd k (by omega)
    have HP := Lib.hid (show (2 : Int) ^ (k + 1) = 2 * 2 ^ k by rw [Int.pow_succ, Int.mul_comm])
    by_cases c : (k : Int) < n
    · have hb1 := pow_bd (k + 1) (by omega)
      rw [HP.out] at hb1
      obtain ⟨p, hp⟩ : ∃ p : Int, (2 : Int) ^ k = p := ⟨_, rfl⟩
      rw [hp] at HP hb hb1
      obtain ⟨hb0, hb2⟩ := hb
      obtain ⟨hb3, hb4⟩ := hb1
      go_wp2_with fail
      go_round
      case rel => exact ⟨k + 1, by omega, by go_num, by rw [HP.out]⟩
      case measure => simp [intOf]; omega
    · have HN := Lib.hid (show n.toNat = k by omega)
      go_wp2_with fail
      go_ret
      exact ⟨by rw [HN.out]; rfl, rfl⟩

/-- One step of the long division by 2. -/
theorem long_step (A D : Int) (hA : 0 ≤ A) (hD : 1 ≤ D) (i : Nat) :
    (D ≤ 2 * (A * 2 ^ i % D) → A * 2 ^ (i + 1) / D = 2 * (A * 2 ^ i / D) + 1 ∧ A * 2 ^ (i + 1) % D = 2 * (A * 2 ^ i % D) - D) ∧
    (2 * (A * 2 ^ i % D) < D → A * 2 ^ (i + 1) / D = 2 * (A * 2 ^ i / D) ∧ A * 2 ^ (i + 1) % D = 2 * (A * 2 ^ i % D)) := by
  have e : A * 2 ^ (i + 1) = 2 * (A * 2 ^ i) := by rw [Int.pow_succ, ← Int.mul_assoc, Int.mul_comm]
  rw [e]
  have h1 := Int.mul_ediv_add_emod (A * 2 ^ i) D
  have h2 := Int.emod_nonneg (A * 2 ^ i) (show D ≠ 0 by omega)
  have h3 := Int.emod_lt_of_pos (A * 2 ^ i) (show 0 < D by omega)
  generalize A * 2 ^ i = n at *
  constructor
  · intro h
    refine (Int.ediv_emod_unique (by omega)).2 ⟨?_, by omega, by omega⟩
    rw [Int.mul_add, Int.mul_left_comm]
    omega
  · intro h
    refine (Int.ediv_emod_unique (by omega)).2 ⟨?_, by omega, by omega⟩
    rw [Int.mul_left_comm]
    omega

theorem rhalf56 (x a : Int) (hx0 : 0 ≤ x) (ha0 : 0 ≤ a) (hx1 : x ≤ 24019198012642646) (ha1 : a ≤ 24019198012642646) (w : World) :
    Calls Try.prog 71 #[.int .i64 x, .int .i64 a, .int .i64 268435456] w fun e w' => e = .returned (.int .i64 (x * a / 72057594037927936)) ∧ Q w w' :=
  rhalf_q x a 268435456 hx0 ha0 (by omega) (by omega) (by omega) (by omega) (by omega) (by omega) (by have := Ser.sq_bd x a hx0 ha0 (by omega); show x * a / 72057594037927936 ≤ _; omega) w

set_option maxRecDepth 100000 in
set_option maxHeartbeats 4000000 in
theorem rfineLog_core (x b m z v L : Int) (h0 : 1 ≤ x) (h1 : x ≤ 4611686018427387904) (hb0 : 1 ≤ b) (hb1 : b ≤ 63)
    (HX : Hid (∀ k : Int, -30 ≤ k → k ≤ 31 → (k < b - 31 → (2 : Int) ^ (31 + k).toNat ≤ x) ∧ (b - 31 ≤ k → x < (2 : Int) ^ (31 + k).toNat)))
    (hm0 : 72057594037927936 ≤ m) (hm1 : m ≤ 144115188075855871) (HS : Hid ((b ≤ 57 → x * 2 ^ (26 - (b - 31)).toNat = m) ∧ (57 < b → x / 2 ^ (b - 31 - 26).toNat = m)))
    (hz0 : 0 ≤ z) (hz1 : z ≤ 24019198012642646) (HZ : Hid ((m - 72057594037927936) * 2 ^ 56 / (m + 72057594037927936) = z)) (hv0 : 0 ≤ v) (hv1 : v ≤ 24019198012642646) (HV : Hid (z * z / 72057594037927936 = v))
    (HL : Hid (L = Ser.lsum z v 21)) (w : World) :
    Calls Try.prog 70 #[.int .i64 x] w fun e w' => e = .returned (.int .i64 ((b - 31) * 49946518145322873 + 2 * L)) ∧ Q w w' := by
  have HW := Lib.hid (fun W => rhalf56 z z hz0 hz0 hz1 hz1 W)
  rw [HV.out] at HW
  go_enter Try.func70, Try.ntmps70
  go_upto_block 0 with fail
  go_cut [3] (fun e wx => w = wx ∧ e = .int .i64 (b - 31))
  case first =>
    go_wp2_with fail
    go_loop [3] (fun e => ∃ k : Int, -30 ≤ k ∧ k ≤ b - 31 ∧ e = .int .i64 k) (fun e => (32 - intOf e).toNat)
    case atStart => exact ⟨-30, by omega, by omega, rfl⟩
    case round =>
      obtain ⟨k, hk0, hk1, rfl⟩ := hrel
      by_cases c : k < b - 31
      · have HC := Lib.hid (fun W => power_any (31 + k) (by omega) (by omega) W)
        have hp := (HX.out k hk0 (by omega)).1 c
        obtain ⟨p, hpe⟩ : ∃ p : Int, (2 : Int) ^ (31 + k).toNat = p := ⟨_, rfl⟩
        rw [hpe] at HC hp
        clear hpe
        have d1 : decide (k < 32) = true := by simp; omega
        have d2 : decide (p ≤ x) = true := by simpa using hp
        go_wp2_with (go_at_call 75; refine (HC.out _).mono ?_; rintro e w' ⟨rfl, rfl⟩)
        go_round
        case rel => exact ⟨k + 1, by omega, by omega, rfl⟩
        case measure => simp [intOf]; omega
      · have HK := Lib.hid (show k = b - 31 by omega)
        by_cases c3 : k = 32
        · have d1 : decide (k < 32) = false := by simp; omega
          clear c3 c
          go_wp2_with fail
          go_meet
          case rel => exact ⟨rfl, by rw [HK.out]⟩
        · have HC := Lib.hid (fun W => power_any (31 + k) (by omega) (by omega) W)
          have hp := (HX.out k hk0 (by omega)).2 (by omega)
          obtain ⟨p, hpe⟩ : ∃ p : Int, (2 : Int) ^ (31 + k).toNat = p := ⟨_, rfl⟩
          rw [hpe] at HC hp
          clear hpe
          have d1 : decide (k < 32) = true := by simp; omega
          have d2 : decide (p ≤ x) = false := by simp; omega
          clear c3 c
          go_wp2_with (go_at_call 75; refine (HC.out _).mono ?_; rintro e w' ⟨rfl, rfl⟩)
          go_meet
          case rel => exact ⟨rfl, by rw [HK.out]⟩
  case rest =>
    obtain ⟨rfl, rfl⟩ := hcut
    go_upto_if 25 with fail
    go_cut [4] (fun s wx => w = wx ∧ s = .int .i64 m)
    case first =>
      by_cases c : b ≤ 57
      · have HC := Lib.hid (fun W => power_any (26 - (b - 31)) (by omega) (by omega) W)
        have hs := HS.out.1 c
        have hb := pow_bd (26 - (b - 31)).toNat (by omega)
        obtain ⟨u, hu⟩ : ∃ u : Int, (2 : Int) ^ (26 - (b - 31)).toNat = u := ⟨_, rfl⟩
        rw [hu] at HC hs hb
        obtain ⟨hu0, hu1⟩ := hb
        have HM := Lib.hid hs
        have d1 : decide (b - 31 ≤ 26) = true := by simp; omega
        clear hu
        go_wp2_with (go_at_call 75; refine (HC.out _).mono ?_; rintro e w' ⟨rfl, rfl⟩)
        go_meet
        case rel => exact ⟨rfl, by rw [← HM.out]⟩
      · have HC := Lib.hid (fun W => power_any (b - 31 - 26) (by omega) (by omega) W)
        have hs := HS.out.2 (by omega)
        have hb := pow_bd (b - 31 - 26).toNat (by omega)
        obtain ⟨u, hu⟩ : ∃ u : Int, (2 : Int) ^ (b - 31 - 26).toNat = u := ⟨_, rfl⟩
        rw [hu] at HC hs hb
        obtain ⟨hu0, hu1⟩ := hb
        have HM := Lib.hid hs
        have d1 : decide (b - 31 ≤ 26) = false := by simp; omega
        clear hu
        go_wp2_with (go_at_call 75; refine (HC.out _).mono ?_; rintro e w' ⟨rfl, rfl⟩)
        go_meet
        case rel => exact ⟨rfl, by rw [← HM.out]⟩
    case rest =>
      obtain ⟨rfl, rfl⟩ := hcut
      clear HX HS
      go_wp2_with fail
      go_loop [5, 6, 7] (fun q r i => ∃ k : Nat, k ≤ 56 ∧ i = .int .i64 k ∧ q = .int .i64 ((m - 72057594037927936) * 2 ^ k / (m + 72057594037927936)) ∧ r = .int .i64 ((m - 72057594037927936) * 2 ^ k % (m + 72057594037927936))) (fun _ _ i => 56 - (intOf i).toNat)
      case atStart =>
        refine ⟨0, by omega, rfl, ?_, ?_⟩
        · rw [Int.pow_zero, Int.mul_one, Int.ediv_eq_zero_of_lt (by omega) (by omega)]
        · rw [Int.pow_zero, Int.mul_one, Int.emod_eq_of_lt (by omega) (by omega)]
      case round =>
        obtain ⟨k, hk, rfl, rfl, rfl⟩ := hrel
        by_cases c : k < 56
        · have hstep := long_step (m - 72057594037927936) (m + 72057594037927936) (by omega) (by omega) k
          have hqb : 0 ≤ (m - 72057594037927936) * 2 ^ k / (m + 72057594037927936) ∧ (m - 72057594037927936) * 2 ^ k / (m + 72057594037927936) ≤ 72057594037927936 := by
            have hpk : (1 : Int) ≤ 2 ^ k ∧ (2 : Int) ^ k ≤ 72057594037927936 := by
              have e : (2 : Int) ^ k = ((2 ^ k : Nat) : Int) := by simp
              have h1 : (2 : Nat) ^ k ≤ 2 ^ 56 := Nat.pow_le_pow_right (by omega) hk
              have h2 : 0 < (2 : Nat) ^ k := Nat.two_pow_pos k
              rw [e]
              omega
            constructor
            · exact Int.ediv_nonneg (Int.mul_nonneg (by omega) (by omega)) (by omega)
            · refine Int.ediv_le_of_le_mul (by omega) ?_
              have h3 : (m - 72057594037927936) * 2 ^ k ≤ (m + 72057594037927936) * 72057594037927936 := Int.mul_le_mul (by omega) hpk.2 (by omega) (by omega)
              rw [Int.mul_comm 72057594037927936]
              exact h3
          have hr0 := Int.emod_nonneg ((m - 72057594037927936) * 2 ^ k) (show m + 72057594037927936 ≠ 0 by omega)
          have hr1 := Int.emod_lt_of_pos ((m - 72057594037927936) * 2 ^ k) (show 0 < m + 72057594037927936 by omega)
          have HST := Lib.hid hstep
          clear hstep
          obtain ⟨q, hqe⟩ : ∃ q : Int, (m - 72057594037927936) * 2 ^ k / (m + 72057594037927936) = q := ⟨_, rfl⟩
          obtain ⟨r, hre⟩ : ∃ r : Int, (m - 72057594037927936) * 2 ^ k % (m + 72057594037927936) = r := ⟨_, rfl⟩
          rw [hqe, hre] at HST
          rw [hqe] at hqb
          rw [hre] at hr0 hr1
          obtain ⟨hq0, hq1⟩ := hqb
          by_cases d : m + 72057594037927936 ≤ 2 * r
          · have HN := Lib.hid (HST.out.1 d)
            go_wp2_with fail
            go_round
            case rel => exact ⟨k + 1, by omega, by go_num, by rw [HN.out.1], by rw [HN.out.2]⟩
            case measure => simp [intOf]; omega
          · have HN := Lib.hid (HST.out.2 (by omega))
            go_wp2_with fail
            go_round
            case rel => exact ⟨k + 1, by omega, by go_num, by rw [HN.out.1], by rw [HN.out.2]⟩
            case measure => simp [intOf]; omega
        · obtain rfl : k = 56 := by omega
          rw [HZ.out]
          go_wp2_with fail
          refine (HW.out _).mono ?_
          rintro e w1 ⟨rfl, hq1⟩
          go_wp2_with fail
          go_loopw [9, 10, 11] (fun p s i wr => ∃ k : Nat, k ≤ 21 ∧ i = .int .i64 k ∧ p = .int .i64 (Ser.pw z v k) ∧ s = .int .i64 (Ser.lsum z v k) ∧ Q w1 wr) (fun _ _ i _ => 21 - (intOf i).toNat)
          case atStart => exact ⟨0, by omega, rfl, rfl, rfl, Q.refl _⟩
          case round =>
            obtain ⟨k, hk, rfl, rfl, rfl, hq⟩ := hrel
            have hp := Ser.lsum_bd z v hz0 hz1 hv0 hv1 k
            by_cases hlk : k < 21
            · have hw := Ser.pw_bd z v hz0 hz1 hv0 hv1 k
              have hd0 := Int.ediv_nonneg hw.1 (show 0 ≤ 2 * (k : Int) + 1 by omega)
              have hd1 := Int.ediv_le_self (2 * (k : Int) + 1) hw.1
              have HP := Lib.hid (show Ser.lsum z v (k + 1) = Ser.lsum z v k + Ser.pw z v k / (2 * (k : Int) + 1) from rfl)
              have HQ := Lib.hid (show Ser.pw z v (k + 1) = Ser.pw z v k * v / 72057594037927936 from rfl)
              obtain ⟨p, hpe⟩ : ∃ p : Int, Ser.pw z v k = p := ⟨_, rfl⟩
              rw [hpe] at HP HQ hw hd0 hd1
              obtain ⟨hw0, hw1⟩ := hw
              have HY := Lib.hid (fun W => rhalf56 p v hw0 hv0 (by omega) hv1 W)
              rw [← HQ.out] at HY
              obtain ⟨y, hye⟩ : ∃ y : Int, Ser.pw z v (k + 1) = y := ⟨_, rfl⟩
              have HYE := Lib.hid hye
              rw [hye] at HY
              clear hye
              obtain ⟨d, hd⟩ : ∃ d : Int, p / (2 * (k : Int) + 1) = d := ⟨_, rfl⟩
              rw [hd] at HP hd0 hd1
              obtain ⟨s, hse⟩ : ∃ s : Int, Ser.lsum z v k = s := ⟨_, rfl⟩
              rw [hse] at HP hp
              obtain ⟨hp0, hp1⟩ := hp
              go_wp2_with fail
              refine (HY.out _).mono ?_
              rintro e w2 ⟨rfl, hq2⟩
              go_wp2_with fail
              go_roundw
              case rel => exact ⟨k + 1, by omega, by go_num, by rw [HYE.out], by rw [HP.out, ← hd], hq.trans hq2⟩
              case measure => simp [intOf]; omega
            · obtain rfl : k = 21 := by omega
              have HL2 := Lib.hid (show Ser.lsum z v 21 = L from HL.out.symm)
              rw [HL2.out] at hp
              obtain ⟨hp0, hp1⟩ := hp
              clear hz0 hz1 hv0 hv1
              have hlr : Ser.lsum z v 21 = L := HL2.out
              go_wp2_with fail
              go_ret
              exact ⟨rfl, hq1.trans hq⟩

theorem rfineLog_any (x : Int) (h0 : 1 ≤ x) (h1 : x ≤ 4611686018427387904) (w : World) :
    Calls Try.prog 70 #[.int .i64 x] w fun e w' => e = .returned (.int .i64 (Ser.fineLog x)) ∧ Q w w' := by
  have hl := Ser.lex_bd x h0 h1
  have hm := Ser.man_bd x h0 h1
  have hz := Ser.zed_bd (Ser.man x) hm.1 (by omega)
  have hv := Ser.wed_bd _ hz.1 hz.2
  refine (rfineLog_core x (Ser.lex x + 31) (Ser.man x) (Ser.zed (Ser.man x)) (Ser.wed (Ser.zed (Ser.man x))) (Ser.msum (Ser.man x)) h0 h1 (by omega) (by omega) ?_ hm.1 (by omega) ?_ hz.1 hz.2 rfl hv.1 hv.2 rfl rfl w).mono ?_
  · intro k hk0 hk1
    obtain ⟨n, rfl⟩ := Int.eq_ofNat_of_zero_le (show 0 ≤ x by omega)
    have h := Ser.bitLen_pow n _ (by omega) (by omega) rfl
    have hx : Ser.lex (n : Int) = (Lib.bitLen n : Int) - 31 := by unfold Ser.lex; rw [Int.toNat_natCast]
    obtain ⟨ha, hb, hc, hd⟩ := h
    have e : (2 : Int) ^ (31 + k).toNat = ((2 ^ (31 + k).toNat : Nat) : Int) := by simp
    rw [e]
    constructor
    · intro hlt
      have : (2 : Nat) ^ (31 + k).toNat ≤ 2 ^ (Lib.bitLen n - 1) := Nat.pow_le_pow_right (by omega) (by omega)
      exact Int.ofNat_le.2 (Nat.le_trans this ha)
    · intro hge
      have : (2 : Nat) ^ (Lib.bitLen n) ≤ 2 ^ (31 + k).toNat := Nat.pow_le_pow_right (by omega) (by omega)
      exact Int.ofNat_lt.2 (Nat.lt_of_lt_of_le hb this)
  · constructor
    · intro c
      have e : Ser.man x = x * 2 ^ (26 - Ser.lex x).toNat := by unfold Ser.man; rw [if_pos (by omega)]
      rw [show 26 - (Ser.lex x + 31 - 31) = 26 - Ser.lex x by omega, ← e]
    · intro c
      have e : Ser.man x = x / 2 ^ (Ser.lex x - 26).toNat := by unfold Ser.man; rw [if_neg (by omega)]
      rw [show Ser.lex x + 31 - 31 - 26 = Ser.lex x - 26 by omega, ← e]
  · rintro e w' ⟨rfl, hq⟩
    refine ⟨?_, hq⟩
    rw [show Ser.lex x + 31 - 31 = Ser.lex x by omega]
    rfl



theorem rartanh_any (s : Int) (h0 : -1073725440 ≤ s) (h1 : s ≤ 1073725440) (w : World) :
    Calls Try.prog 64 #[.int .i64 s] w fun e w' => e = .returned (.tuple #[.int .i64 (Ser.artanh s), .int .i64 0]) ∧ Q w w' := by
  have HP := Lib.hid (fun W => rfineLog_any (1073741824 + s) (by omega) (by omega) W)
  have HM := Lib.hid (fun W => rfineLog_any (1073741824 - s) (by omega) (by omega) W)
  have hp := Ser.fineLog_bd (1073741824 + s) (by omega) (by omega)
  have hm := Ser.fineLog_bd (1073741824 - s) (by omega) (by omega)
  by_cases c : s < 0
  · have HL := Lib.hid (show Ser.artanh s = -Ser.rnd (Ser.fineLog (1073741824 - s) - Ser.fineLog (1073741824 + s)) 134217728 by
      unfold Ser.artanh Ser.artanh0
      rw [if_pos c, show 1073741824 + -s = 1073741824 - s by omega, show 1073741824 - -s = 1073741824 + s by omega])
    obtain ⟨f, hf⟩ : ∃ f, Ser.fineLog (1073741824 + s) = f := ⟨_, rfl⟩
    obtain ⟨g, hg⟩ : ∃ g, Ser.fineLog (1073741824 - s) = g := ⟨_, rfl⟩
    rw [hf] at HP hp HL
    rw [hg] at HM hm HL
    obtain ⟨hp0, hp1⟩ := hp
    obtain ⟨hm0, hm1⟩ := hm
    clear hf hg
    have hr : -9223372036854775807 ≤ Ser.rnd (g - f) 134217728 ∧ Ser.rnd (g - f) 134217728 ≤ 9223372036854775807 := by unfold Ser.rnd; omega
    obtain ⟨r, hre⟩ : ∃ r, Ser.rnd (g - f) 134217728 = r := ⟨_, rfl⟩
    have HR := Lib.hid (fun W => rounded_any (g - f) 67108864 (by omega) (by omega) (by omega) (by omega) 134217728 rfl W)
    rw [hre] at HR HL hr
    obtain ⟨hr0, hr1⟩ := hr
    clear hre
    have d1 : decide (s < -1073725440) = false := by simp; omega
    go_enter Try.func64, Try.ntmps64
    go_wp2_with fail
    refine (HM.out _).mono ?_
    rintro e w1 ⟨rfl, hq1⟩
    go_wp2_with fail
    refine (HP.out _).mono ?_
    rintro e w2 ⟨rfl, hq2⟩
    go_wp2_with fail
    refine (HR.out _).mono ?_
    rintro e w' ⟨rfl, rfl⟩
    go_wp2_with fail
    go_ret2
    exact ⟨by rw [HL.out]; rfl, hq1.trans hq2⟩
  · have HL := Lib.hid (show Ser.artanh s = Ser.rnd (Ser.fineLog (1073741824 + s) - Ser.fineLog (1073741824 - s)) 134217728 by
      unfold Ser.artanh Ser.artanh0
      rw [if_neg c])
    obtain ⟨f, hf⟩ : ∃ f, Ser.fineLog (1073741824 + s) = f := ⟨_, rfl⟩
    obtain ⟨g, hg⟩ : ∃ g, Ser.fineLog (1073741824 - s) = g := ⟨_, rfl⟩
    rw [hf] at HP hp HL
    rw [hg] at HM hm HL
    obtain ⟨hp0, hp1⟩ := hp
    obtain ⟨hm0, hm1⟩ := hm
    clear hf hg
    have d1 : decide (s < -1073725440) = false := by simp; omega
    go_enter Try.func64, Try.ntmps64
    go_wp2_with fail
    refine (HP.out _).mono ?_
    rintro e w1 ⟨rfl, hq1⟩
    go_wp2_with fail
    refine (HM.out _).mono ?_
    rintro e w2 ⟨rfl, hq2⟩
    go_wp2_with fail
    refine (rounded_any _ 67108864 (by omega) (by omega) (by omega) (by omega) _ rfl _).mono ?_
    rintro e w' ⟨rfl, rfl⟩
    go_wp2_with fail
    go_ret2
    exact ⟨by rw [HL.out]; rfl, hq1.trans hq2⟩

theorem rartanh_out (s : Int) (h : s < -1073725440 ∨ 1073725440 < s) (w : World) :
    Calls Try.prog 64 #[.int .i64 s] w fun e w' => e = .returned (.tuple #[.int .i64 0, .int .i64 2]) ∧ Q w w' := by
  by_cases c : s < -1073725440
  · have d1 : decide (s < -1073725440) = true := by simpa using c
    go_enter Try.func64, Try.ntmps64
    go_wp2_with fail
    go_ret2
    exact ⟨rfl, Q.refl _⟩
  · have d1 : decide (s < -1073725440) = false := by simpa using c
    have d2 : decide (1073725440 < s) = true := by simp; omega
    go_enter Try.func64, Try.ntmps64
    go_wp2_with fail
    go_ret2
    exact ⟨rfl, Q.refl _⟩
end Go.Proofs.Ytmagppjmjjkbjaa
