/- The contract of math/bits.Div64 over this translation: where hi < y it returns the quotient and the remainder of hi * 2^64 + lo by y; what was there before the call is unchanged. -/
import Derived.Test.YtmagppjmjjkbjaaBits
import Derived.Test.YtmagppjmjjkbjaaDivA
import Derived.Outline
import Derived.Deep.DeepCutAuto
import Derived.LoopTactic
import Derived.Deep.CutBlock
import Derived.RegionTactic
namespace Go.Proofs.Ytmagppjmjjkbjaa
open Go.RowKit
set_option linter.unusedVariables false

theorem div64_arg (hi lo y s Y u t t1 t0 q1 q0 v : Nat) (h63 : 9223372036854775808 ≤ Y) (hYe : Y = y * 2 ^ s) (hyp : 0 < y)
    (hue : (hi * 18446744073709551616 + lo) * 2 ^ s = u * 18446744073709551616 + (t1 * 4294967296 + t0))
    (e1 : q1 = (u * 4294967296 + t1) / Y) (ev : v = (u * 4294967296 + t1) % Y) (e0 : q0 = (v * 4294967296 + t0) / Y) :
    q1 * 4294967296 + q0 = (hi * 18446744073709551616 + lo) / y ∧ (v * 4294967296 + t0) % Y / 2 ^ s = (hi * 18446744073709551616 + lo) % y := by
  have hw := Div.whole ((hi * 18446744073709551616 + lo) * 2 ^ s) Y t1 t0 u q1 q0 v hue (by omega) e1 ev e0
  have hs := Div.unshift (hi * 18446744073709551616 + lo) y (2 ^ s) (Nat.two_pow_pos _)
  rw [hw.1, hw.2, hYe]
  exact hs

theorem prodl (q y0 : Nat) (hq : q < 4294967296) (hy : y0 < 4294967296) : q * y0 < 18446744073709551616 :=
  Nat.lt_of_le_of_lt (Nat.mul_le_mul (show q ≤ 4294967295 by omega) (show y0 ≤ 4294967295 by omega)) (by omega)

theorem div64_fin (hi lo y s Y u t1 t0 v : Nat) (q1 q0 : Int) (hq1 : 0 ≤ q1) (hq0 : 0 ≤ q0) (h63 : 9223372036854775808 ≤ Y) (hYl : Y < 18446744073709551616) (hYe : Y = y * 2 ^ s) (hyp : 0 < y) (hlo : lo < 18446744073709551616) (hhi : hi < y)
    (hue : (hi * 18446744073709551616 + lo) * 2 ^ s = u * 18446744073709551616 + (t1 * 4294967296 + t0))
    (e1 : q1.toNat = (u * 4294967296 + t1) / Y) (ev : v = (u * 4294967296 + t1) % Y) (e0 : q0.toNat = (v * 4294967296 + t0) / Y) :
    IntKind.u64.wrap (IntKind.u64.wrap (q1 * 4294967296) + q0) = (((hi * 18446744073709551616 + lo) / y : Nat) : Int) ∧
    IntKind.u64.wrap (IntKind.u64.wrap (IntKind.u64.wrap ((v : Int) * 4294967296) + (t0 : Int)) - IntKind.u64.wrap (q0 * (Y : Int))) / 2 ^ s = (((hi * 18446744073709551616 + lo) % y : Nat) : Int) := by
  have h := div64_arg hi lo y s Y u t1 t1 t0 q1.toNat q0.toNat v h63 hYe hyp hue e1 ev e0
  have hl := Div.left v t0 Y q0.toNat (by omega) hYl e0
  rw [Int.toNat_of_nonneg hq0] at hl
  have hlt : (hi * 18446744073709551616 + lo) / y < 18446744073709551616 := by
    refine (Nat.div_lt_iff_lt_mul hyp).2 ?_
    omega
  constructor
  · rw [← h.1] at hlt ⊢
    obtain ⟨a, rfl⟩ := Int.eq_ofNat_of_zero_le hq1
    obtain ⟨b, rfl⟩ := Int.eq_ofNat_of_zero_le hq0
    simp only [Int.toNat_natCast] at hlt ⊢
    simp only [IntKind.wrap_u64]
    omega
  · rw [hl, ← h.2, Div.shr_eq]

set_option maxRecDepth 100000 in
set_option maxHeartbeats 4000000 in
theorem div64_core (hi lo y s Y y1 y0 u t t1 t0 : Nat) (iY iy1 iy0 iu it it1 it0 q p r : Int) (hy : y < 18446744073709551616) (hlo : lo < 18446744073709551616) (hhi : hi < y) (h0 : 0 < hi) (w : World) (hs : s < 64)
    (H1 : Hid ((64 : Int) - (Lib.bitLen ((y : Int).toNat) : Int) = (s : Int)))
    (HE : Hid (iY = Y ∧ iy1 = y1 ∧ iy0 = y0 ∧ iu = u ∧ it = t ∧ it1 = t1 ∧ it0 = t0))
    (hY : IntKind.u64.wrap ((y:Int) * 2^s) = iY) (hY0 : 0 ≤ iY) (hYl : iY ≤ 18446744073709551615)
    (hy1 : iY / 4294967296 = iy1) (hyn1p : 2147483648 ≤ iy1) (hy1l : iy1 ≤ 4294967295) (hy0 : bits .and .u64 iY 4294967295 = iy0) (hy00 : 0 ≤ iy0) (hy0l : iy0 ≤ 4294967295)
    (HY : Hid (Y = y1 * 4294967296 + y0)) (HYs : Hid (Y = y * 2 ^ s)) (HY63 : Hid (9223372036854775808 ≤ Y))
    (hu : bits .or .u64 (IntKind.u64.wrap (↑hi * 2 ^ s)) (↑lo / 2 ^ (64 - s)) = iu) (hu0 : 0 ≤ iu) (hul : iu ≤ 18446744073709551615) (HUY : Hid (u < y1 * 4294967296 + y0))
    (ht : IntKind.u64.wrap (↑lo * 2 ^ s) = it) (hti0 : 0 ≤ it) (htl : it ≤ 18446744073709551615)
    (ht1 : it / 4294967296 = it1) (ht0 : bits .and .u64 it 4294967295 = it0) (ht10 : 0 ≤ it1) (ht1l : it1 ≤ 4294967295) (ht00 : 0 ≤ it0) (ht0l : it0 ≤ 4294967295)
    (HU : Hid ((hi * 18446744073709551616 + lo) * 2 ^ s = u * 18446744073709551616 + (t1 * 4294967296 + t0)))
    (hq : iu / iy1 = q) (hq0 : 0 ≤ q) (hql : q ≤ 4294967297) (hp : q * iy1 = p) (hp0 : 0 ≤ p) (hpu : p ≤ iu) (hr : iu - p = r) (hr0 : 0 ≤ r) (hrl : r ≤ 4294967295) (HH : Hid (Div.Half u t1 y1 y0 q.toNat r.toNat)) :
    Calls Try.prog 73 #[.int .u64 hi, .int .u64 lo, .int .u64 y] w fun e w' => e = .returned (.tuple #[.int .u64 (((hi * 18446744073709551616 + lo) / y : Nat) : Int), .int .u64 (((hi * 18446744073709551616 + lo) % y : Nat) : Int)]) ∧ w = w' := by
  have d1 : ((y : Int) == 0) = false := by simp; omega
  have d2 : decide (y ≤ hi) = false := by simp; omega
  have d3 : ((hi : Int) == 0) = false := by simp; omega
  go_enter Try.func73, Try.ntmps73
  go_upto_block 0 with (go_at_call 76; refine (lz64_any _ _ (by omega) (by omega)).mono ?_; rintro e w' ⟨rfl, rfl⟩; rw [H1.out])
  have HQ := Lib.hid hq
  clear hY hy1 hy0 hu ht ht1 ht0 hq hp hr d1 d2 d3
  go_cut [15, 16] (fun a b wx => w = wx ∧ ∃ q r : Int, 0 ≤ q ∧ q ≤ 4294967296 ∧ a = .int .u64 q ∧ b = .int .u64 r ∧ Hid (q.toNat = (u * 4294967296 + t1) / (y1 * 4294967296 + y0)))
  case first =>
    go_wp2
    go_loop [15, 16] (fun a b => ∃ q r : Int, 0 ≤ q ∧ q ≤ 4294967297 ∧ 0 ≤ r ∧ r ≤ 4294967295 ∧ Hid (Div.Half u t1 y1 y0 q.toNat r.toNat) ∧ a = .int .u64 q ∧ b = .int .u64 r) (fun a _ => (intOf a).toNat)
    case atStart => exact ⟨q, r, hq0, hql, hr0, hrl, HH, by rw [HQ.out], rfl⟩
    case round =>
      obtain ⟨k, z, hk0, hkl, hz0, hzl, HK, rfl, rfl⟩ := hrel
      clear HH hq0 hql hr0 hrl hpu hp0
      by_cases c1 : 4294967296 ≤ k
      · by_cases c2 : 4294967296 ≤ z + iy1
        · have hb := Div.int_break u t1 y1 y0 k z iy1 iy0 it1 HE.out.2.1 HE.out.2.2.1 HE.out.2.2.2.2.2.1 hk0 hz0 HK.out hyn1p hy0l HUY.out ht1l (.inl c1) c2
          have HB := Lib.hid hb.1
          have hkp := hb.2
          clear hb
          go_wp2
          go_meet
          case rel => exact ⟨rfl, k - 1, z + iy1, by omega, by omega, rfl, rfl, HB⟩
        · have hb := Div.int_down u t1 y1 y0 k z iy1 iy0 it1 HE.out.2.1 HE.out.2.2.1 HE.out.2.2.2.2.2.1 hk0 hz0 HK.out hyn1p HUY.out ht1l (.inl c1) (by omega)
          have HB := Lib.hid hb.1
          have hkp := hb.2
          clear hb
          go_wp2
          go_round
          case rel => exact ⟨k - 1, z + iy1, by omega, by omega, by omega, by omega, HB, rfl, rfl⟩
          case measure => simp [intOf]; omega
      · obtain ⟨m, eqm⟩ : ∃ m : Int, k * iy0 = m := ⟨_, rfl⟩
        have hm0 : 0 ≤ m := by rw [← eqm]; exact Int.mul_nonneg hk0 hy00
        have hml : m ≤ 18446744073709551615 := by
          rw [← eqm]
          have := Int.mul_le_mul (show k ≤ 4294967295 by omega) hy0l hy00 (by omega)
          omega
        by_cases c3 : 4294967296 * z + it1 < m
        · by_cases c2 : 4294967296 ≤ z + iy1
          · have hb := Div.int_break u t1 y1 y0 k z iy1 iy0 it1 HE.out.2.1 HE.out.2.2.1 HE.out.2.2.2.2.2.1 hk0 hz0 HK.out hyn1p hy0l HUY.out ht1l (.inr (by rw [eqm]; exact c3)) c2
            have HB := Lib.hid hb.1
            have hkp := hb.2
            clear hb
            go_wp2
            go_meet
            case rel => exact ⟨rfl, k - 1, z + iy1, by omega, by omega, rfl, rfl, HB⟩
          · have hb := Div.int_down u t1 y1 y0 k z iy1 iy0 it1 HE.out.2.1 HE.out.2.2.1 HE.out.2.2.2.2.2.1 hk0 hz0 HK.out hyn1p HUY.out ht1l (.inr (by rw [eqm]; exact c3)) (by omega)
            have HB := Lib.hid hb.1
            have hkp := hb.2
            clear hb
            go_wp2
            go_round
            case rel => exact ⟨k - 1, z + iy1, by omega, by omega, by omega, by omega, HB, rfl, rfl⟩
            case measure => simp [intOf]; omega
        · have HB := Lib.hid (Div.int_end u t1 y1 y0 k z iy1 iy0 it1 HE.out.2.1 HE.out.2.2.1 HE.out.2.2.2.2.2.1 hk0 hz0 HK.out hyn1p (by rw [eqm]; omega))
          go_wp2
          go_meet
          case rel => exact ⟨rfl, k, z, hk0, by omega, rfl, rfl, HB⟩
  case rest =>
    clear HH hq0 hql hr0 hrl hpu hp0
    obtain ⟨rfl, q1, r1, hq10, hq1l, rfl, rfl, HB⟩ := hcut
    have HYY := Lib.hid (show y1 * 4294967296 + y0 = Y from HY.out.symm)
    obtain ⟨v, HV⟩ : ∃ v : Nat, Hid (v = (u * 4294967296 + t1) % Y) := ⟨_, rfl⟩
    have hvY : v < Y := by rw [HV.out]; exact Nat.mod_lt _ (by have := HY63.out; omega)
    have HVY := Lib.hid (show v < y1 * 4294967296 + y0 by rw [HYY.out]; exact hvY)
    obtain ⟨q, p, r, hq, hq0, hql, hp, hp0, hpu, hr, hr0, hrl, hH⟩ := Div.int_start v t0 y1 y0 (by have := HE.out.2.2.2.2.2.2; omega) (by have := HE.out.2.1; omega) (by have := HE.out.2.1; omega) (by have := HE.out.2.2.1; omega) HVY.out
    have HH := Lib.hid hH
    have hw := Div.left u t1 Y q1.toNat (by have := HY63.out; omega) (by have := HE.out.1; omega) (by rw [HB.out, HYY.out])
    rw [← HV.out, Int.toNat_of_nonneg hq10, ← HE.out.1, ← HE.out.2.2.2.1, ← HE.out.2.2.2.2.2.1] at hw
    rw [← HE.out.2.1] at hq hp
    obtain ⟨iv, HIV⟩ : ∃ iv : Int, Hid (iv = (v : Int)) := ⟨_, rfl⟩
    have hv0 : 0 ≤ iv := by rw [HIV.out]; omega
    have hvl : iv ≤ 18446744073709551615 := by rw [HIV.out]; have := HE.out.1; omega
    rw [← HIV.out] at hw hq hpu hr
    clear hH hvY
    go_upto_block 2 with fail
    have HQ := Lib.hid hq
    clear hw hq hp hr
    go_cut [16, 18] (fun b a wx => w = wx ∧ ∃ q r : Int, 0 ≤ q ∧ q ≤ 4294967296 ∧ a = .int .u64 q ∧ b = .int .u64 r ∧ Hid (q.toNat = (v * 4294967296 + t0) / (y1 * 4294967296 + y0)))
    case first =>
      go_wp2
      go_loop [16, 18] (fun b a => ∃ q r : Int, 0 ≤ q ∧ q ≤ 4294967297 ∧ 0 ≤ r ∧ r ≤ 4294967295 ∧ Hid (Div.Half v t0 y1 y0 q.toNat r.toNat) ∧ a = .int .u64 q ∧ b = .int .u64 r) (fun _ a => (intOf a).toNat)
      case atStart => exact ⟨q, r, hq0, hql, hr0, hrl, HH, by rw [HQ.out], rfl⟩
      case round =>
        obtain ⟨k, z, hk0, hkl, hz0, hzl, HK, rfl, rfl⟩ := hrel
        clear HH hq0 hql hr0 hrl hpu hp0
        by_cases c1 : 4294967296 ≤ k
        · by_cases c2 : 4294967296 ≤ z + iy1
          · have hb := Div.int_break v t0 y1 y0 k z iy1 iy0 it0 HE.out.2.1 HE.out.2.2.1 HE.out.2.2.2.2.2.2 hk0 hz0 HK.out hyn1p hy0l HVY.out ht0l (.inl c1) c2
            have HB := Lib.hid hb.1
            have hkp := hb.2
            clear hb
            go_wp2
            go_meet
            case rel => exact ⟨rfl, k - 1, z + iy1, by omega, by omega, rfl, rfl, HB⟩
          · have hb := Div.int_down v t0 y1 y0 k z iy1 iy0 it0 HE.out.2.1 HE.out.2.2.1 HE.out.2.2.2.2.2.2 hk0 hz0 HK.out hyn1p HVY.out ht0l (.inl c1) (by omega)
            have HB := Lib.hid hb.1
            have hkp := hb.2
            clear hb
            go_wp2
            go_round
            case rel => exact ⟨k - 1, z + iy1, by omega, by omega, by omega, by omega, HB, rfl, rfl⟩
            case measure => simp [intOf]; omega
        · obtain ⟨m, eqm⟩ : ∃ m : Int, k * iy0 = m := ⟨_, rfl⟩
          have hm0 : 0 ≤ m := by rw [← eqm]; exact Int.mul_nonneg hk0 hy00
          have hml : m ≤ 18446744073709551615 := by
            rw [← eqm]
            have := Int.mul_le_mul (show k ≤ 4294967295 by omega) hy0l hy00 (by omega)
            omega
          by_cases c3 : 4294967296 * z + it0 < m
          · by_cases c2 : 4294967296 ≤ z + iy1
            · have hb := Div.int_break v t0 y1 y0 k z iy1 iy0 it0 HE.out.2.1 HE.out.2.2.1 HE.out.2.2.2.2.2.2 hk0 hz0 HK.out hyn1p hy0l HVY.out ht0l (.inr (by rw [eqm]; exact c3)) c2
              have HB := Lib.hid hb.1
              have hkp := hb.2
              clear hb
              go_wp2
              go_meet
              case rel => exact ⟨rfl, k - 1, z + iy1, by omega, by omega, rfl, rfl, HB⟩
            · have hb := Div.int_down v t0 y1 y0 k z iy1 iy0 it0 HE.out.2.1 HE.out.2.2.1 HE.out.2.2.2.2.2.2 hk0 hz0 HK.out hyn1p HVY.out ht0l (.inr (by rw [eqm]; exact c3)) (by omega)
              have HB := Lib.hid hb.1
              have hkp := hb.2
              clear hb
              go_wp2
              go_round
              case rel => exact ⟨k - 1, z + iy1, by omega, by omega, by omega, by omega, HB, rfl, rfl⟩
              case measure => simp [intOf]; omega
          · have HB := Lib.hid (Div.int_end v t0 y1 y0 k z iy1 iy0 it0 HE.out.2.1 HE.out.2.2.1 HE.out.2.2.2.2.2.2 hk0 hz0 HK.out hyn1p (by rw [eqm]; omega))
            go_wp2
            go_meet
            case rel => exact ⟨rfl, k, z, hk0, by omega, rfl, rfl, HB⟩
    case rest =>
      clear HH hq0 hql hr0 hrl hpu hp0
      obtain ⟨rfl, q0, r0, hq00, hq0l, rfl, rfl, HB0⟩ := hcut
      have hfin := div64_fin hi lo y s Y u t1 t0 v q1 q0 hq10 hq00 HY63.out (by have := HE.out.1; omega) HYs.out (by omega) hlo hhi HU.out (by rw [HB.out, HYY.out]) HV.out (by rw [HB0.out, HYY.out])
      rw [← HE.out.1, ← HIV.out, ← HE.out.2.2.2.2.2.2] at hfin
      have HF := Lib.hid hfin
      clear hfin
      go_wp2
      rw [HF.out.1, HF.out.2]
      go_ret2
      exact ⟨rfl, rfl⟩

set_option maxHeartbeats 1000000 in
theorem div64_small (lo y : Int) (hlo0 : 0 ≤ lo) (hlo : lo ≤ 18446744073709551615) (hy0 : 0 < y) (hy : y ≤ 18446744073709551615) (w : World) :
    Calls Try.prog 73 #[.int .u64 0, .int .u64 lo, .int .u64 y] w fun e w' => e = .returned (.tuple #[.int .u64 (lo / y), .int .u64 (lo % y)]) ∧ ∃ n, w' = w.drewN n := by
  have d1 : (y == 0) = false := by simp; omega
  have d2 : decide (y ≤ 0) = false := by simp; omega
  have dn : ¬ y = 0 := by omega
  have e1 : IntKind.u64.wrap (lo.tdiv y) = lo / y := by
    rw [Int.tdiv_eq_ediv_of_nonneg hlo0, IntKind.wrap_u64]
    have h1 := Int.ediv_nonneg hlo0 (by omega : (0 : Int) ≤ y)
    have h2 : lo / y ≤ lo := Int.ediv_le_self _ hlo0
    omega
  have e2 : lo.tmod y = lo % y := Int.tmod_eq_emod_of_nonneg hlo0
  go_enter Try.func73, Try.ntmps73
  go_wp2
  go_quiet (fail)
  go_wp2
  go_ret2
  exact ⟨rfl, _, rfl⟩

/-- The contract of Div64. -/
theorem div64_any (hi lo y : Nat) (hy : y < 18446744073709551616) (hlo : lo < 18446744073709551616) (hhi : hi < y) (w : World) :
    Calls Try.prog 73 #[.int .u64 hi, .int .u64 lo, .int .u64 y] w fun e w' => e = .returned (.tuple #[.int .u64 (((hi * 18446744073709551616 + lo) / y : Nat) : Int), .int .u64 (((hi * 18446744073709551616 + lo) % y : Nat) : Int)]) ∧ ∃ n, w' = w.drewN n := by
  by_cases h0 : hi = 0
  · subst h0
    have h := div64_small (lo : Int) (y : Int) (by omega) (by omega) (by omega) (by omega) w
    simpa using h
  · obtain ⟨s, hs⟩ : ∃ s : Nat, s = 64 - Lib.bitLen y := ⟨_, rfl⟩
    have hle := Lib.bitLen_le y 64 (by omega) (by omega)
    obtain ⟨hs64, h63, hYl⟩ := Div.norm y s hy (by omega) (by omega) (by omega)
    have hN : (hi * 18446744073709551616 + lo) * 2 ^ s < (y * 2 ^ s) * 18446744073709551616 := by
      rw [Nat.mul_right_comm]
      exact Nat.mul_lt_mul_of_pos_right (by omega) (Nat.two_pow_pos _)
    obtain ⟨Y, hYe⟩ : ∃ Y : Nat, Y = y * 2 ^ s := ⟨_, rfl⟩
    rw [← hYe] at h63 hYl hN
    obtain ⟨u, hue⟩ : ∃ u : Nat, u = (hi * 18446744073709551616 + lo) * 2 ^ s / 18446744073709551616 := ⟨_, rfl⟩
    obtain ⟨t, hte⟩ : ∃ t : Nat, t = lo * 2 ^ s % 18446744073709551616 := ⟨_, rfl⟩
    have huY : u < Y := by rw [hue]; exact (Nat.div_lt_iff_lt_mul (by omega)).2 hN
    have htm : t = (hi * 18446744073709551616 + lo) * 2 ^ s % 18446744073709551616 := by
      rw [hte, Nat.add_mul, Nat.mul_right_comm, Nat.add_comm, Nat.add_mul_mod_self_right]
    have hut := Nat.div_add_mod ((hi * 18446744073709551616 + lo) * 2 ^ s) 18446744073709551616
    rw [← hue, ← htm] at hut
    have htl : t < 18446744073709551616 := by rw [hte]; exact Nat.mod_lt _ (by omega)
    obtain ⟨y1, hy1⟩ : ∃ y1 : Nat, y1 = Y / 4294967296 := ⟨_, rfl⟩
    obtain ⟨y0, hy0⟩ : ∃ y0 : Nat, y0 = Y % 4294967296 := ⟨_, rfl⟩
    obtain ⟨t1, ht1⟩ : ∃ t1 : Nat, t1 = t / 4294967296 := ⟨_, rfl⟩
    obtain ⟨t0, ht0⟩ : ∃ t0 : Nat, t0 = t % 4294967296 := ⟨_, rfl⟩
    have hYd : Y = y1 * 4294967296 + y0 := by omega
    have htd : t = t1 * 4294967296 + t0 := by omega
    obtain ⟨q, p, r, hq, hq0, hql, hp, hp0, hpu, hr, hr0, hrl, hH⟩ := Div.int_start u t1 y1 y0 (by omega) (by omega) (by omega) (by omega) (by omega)
    refine (div64_core hi lo y s Y y1 y0 u t t1 t0 (Y : Int) (y1 : Int) (y0 : Int) (u : Int) (t : Int) (t1 : Int) (t0 : Int) q p r hy hlo hhi (by omega) w hs64 ?_ ⟨rfl, rfl, rfl, rfl, rfl, rfl, rfl⟩ ?_ (by omega) (by omega) (by omega) (by omega) (by omega) ?_ (by omega) (by omega) hYd hYe h63 ?_ (by omega) (by omega) (by rw [← hYd]; exact huY) ?_ (by omega) (by omega) (by omega) ?_ (by omega) (by omega) (by omega) (by omega) ?_ hq hq0 hql hp hp0 hpu hr hr0 hrl hH).mono ?_
    · show (64 : Int) - (Lib.bitLen ((y : Int).toNat) : Int) = (s : Int)
      rw [Int.toNat_natCast]
      omega
    · rw [Div.shl_eq, ← hYe, Nat.mod_eq_of_lt hYl]
    · rw [Div.and_eq Y hYl, hy0]
    · rw [hue]
      exact Div.high hi lo y s hlo hhi hs64 (by rw [← hYe]; exact hYl)
    · rw [Div.shl_eq, hte]
    · rw [Div.and_eq t htl, ht0]
    · show (hi * 18446744073709551616 + lo) * 2 ^ s = u * 18446744073709551616 + (t1 * 4294967296 + t0)
      rw [← htd]
      omega
    · rintro e w' ⟨rfl, rfl⟩
      exact ⟨rfl, 0, rfl⟩
#print axioms div64_any
end Go.Proofs.Ytmagppjmjjkbjaa
