
/- Contracts of num.Sqrt and of the reference's Sqrt. -/
import Derived.Test.YtmcobpgdledkdaaDoorNum
import Derived.Test.YtmcobpgdledkdaaDoorRefA
import Derived.Deep.LoopGhost
namespace Go.Proofs.YtmcobpgdledkdaaDoor
open Go.RowKit
set_option linter.unusedVariables false

/-- The whole root of a number. -/
def IsSqrt (n r : Int) : Prop := 0 ≤ r ∧ r * r ≤ n ∧ n < (r + 1) * (r + 1)
theorem IsSqrt.uniq {n r s : Int} (h : IsSqrt n r) (k : IsSqrt n s) : r = s := by
  obtain ⟨h0, h1, h2⟩ := h
  obtain ⟨k0, k1, k2⟩ := k
  rcases Int.lt_trichotomy r s with c | c | c
  · have := Int.mul_le_mul (show r + 1 ≤ s by omega) (show r + 1 ≤ s by omega) (by omega) (by omega)
    omega
  · exact c
  · have := Int.mul_le_mul (show s + 1 ≤ r by omega) (show s + 1 ≤ r by omega) (by omega) (by omega)
    omega
/-- What stands when the root is known up to P. -/
def SqI (n r P : Int) : Prop := (∃ q : Nat, r = q * P) ∧ 0 ≤ r ∧ r * r ≤ n ∧ n < (r + P) * (r + P) ∧ r + P ≤ 4294967296
theorem SqI.up {n r p : Int} (hp : 0 < p) (h : SqI n r (2 * p)) (c : (r + p) * (r + p) ≤ n) : SqI n (r + p) p := by
  obtain ⟨⟨q, hq⟩, h0, h1, h2, h3⟩ := h
  refine ⟨⟨2 * q + 1, ?_⟩, by omega, c, ?_, by omega⟩
  · rw [hq]
    push_cast
    rw [Int.add_mul, Int.mul_comm 2 (q : Int), Int.mul_assoc]
    omega
  · rw [show r + p + p = r + 2 * p by omega]
    exact h2
theorem SqI.stay {n r p : Int} (hp : 0 < p) (h : SqI n r (2 * p)) (c : ¬ (r + p) * (r + p) ≤ n) : SqI n r p := by
  obtain ⟨⟨q, hq⟩, h0, h1, h2, h3⟩ := h
  refine ⟨⟨2 * q, ?_⟩, h0, h1, by omega, by omega⟩
  rw [hq]
  push_cast
  rw [Int.mul_comm 2 (q : Int), Int.mul_assoc]
theorem SqI.start (n : Int) (h0 : 0 ≤ n) (h1 : n ≤ 9223372036854775807) : SqI n 0 4294967296 := ⟨⟨0, by omega⟩, by omega, by omega, by omega, by omega⟩
theorem SqI.root {n r : Int} (h : SqI n r 1) : IsSqrt n r := ⟨h.2.1, h.2.2.1, h.2.2.2.1⟩
/-- 2 to the power 32 - k. -/
def pw (k : Nat) : Int := 2 ^ (32 - k)
theorem pw_step (k : Nat) (h : k < 32) : pw k = 2 * pw (k + 1) := by
  unfold pw
  rw [show 32 - k = (32 - (k + 1)) + 1 by omega, Int.pow_succ, Int.mul_comm]
theorem pw_pos (k : Nat) : 0 < pw k := Int.pow_pos (by omega)

theorem or_i64 (a b : Nat) (ha : a < 4294967296) (hb : b < 4294967296) : bits .or .i64 (a : Int) (b : Int) = ((a ||| b : Nat) : Int) := by
  have hx : a ||| b < 2 ^ 32 := Nat.or_lt_two_pow (by omega) (by omega)
  have h1 : (BitVec.ofInt 64 (a : Int)).toNat = a := by
    rw [BitVec.ofInt_natCast, BitVec.toNat_ofNat]; exact Nat.mod_eq_of_lt (by omega)
  have h2 : (BitVec.ofInt 64 (b : Int)).toNat = b := by
    rw [BitVec.ofInt_natCast, BitVec.toNat_ofNat]; exact Nat.mod_eq_of_lt (by omega)
  show IntKind.i64.wrap ((BitVec.ofInt 64 (a : Int) ||| BitVec.ofInt 64 (b : Int)).toNat : Int) = _
  rw [BitVec.toNat_or, h1, h2]
  exact IntWalk.i64_in _ (by omega)
theorem or_pw (r : Int) (k : Nat) (hk : k < 32) (q : Nat) (hq : r = q * pw k) (hr : r + pw k ≤ 4294967296) : bits .or .i64 r (pw (k + 1)) = r + pw (k + 1) := by
  have hp := pw_step k hk
  have hpos := pw_pos (k + 1)
  have e1 : pw (k + 1) = ((2 ^ (31 - k) : Nat) : Int) := by unfold pw; rw [show 32 - (k + 1) = 31 - k by omega]; simp
  have e2 : r = ((2 ^ (31 - k + 1) * q : Nat) : Int) := by
    rw [hq]
    unfold pw
    rw [show 32 - k = 31 - k + 1 by omega]
    push_cast
    rw [Int.mul_comm]
  have h0 : (0 : Int) ≤ r := by rw [e2]; exact Int.natCast_nonneg _
  have e3 := Nat.two_pow_add_eq_or_of_lt (show 2 ^ (31 - k) < 2 ^ (31 - k + 1) by rw [Nat.pow_succ]; have := Nat.two_pow_pos (31 - k); omega) q
  rw [hp] at hr
  rw [e1] at hpos hr ⊢
  rw [e2] at h0 hr ⊢
  rw [or_i64 _ _ (by omega) (by omega), ← e3]
  simp
theorem pw_le (k : Nat) : pw k ≤ 4294967296 := by
  have h := Nat.pow_le_pow_right (show 0 < 2 by omega) (show 32 - k ≤ 32 by omega)
  have h' : ((2 ^ (32 - k) : Nat) : Int) ≤ ((2 ^ 32 : Nat) : Int) := Int.ofNat_le.2 h
  unfold pw
  simpa using h'
theorem shl_pw (k : Nat) (kk : Int) (hk : (k : Int) = kk) (h : k < 32) : wrap64 (2 ^ (31 - kk).toNat) = pw (k + 1) := by
  have e : (31 - kk).toNat = 32 - (k + 1) := by omega
  rw [e]
  show wrap64 (pw (k + 1)) = pw (k + 1)
  have h1 := pw_pos (k + 1)
  have h2 := pw_le (k + 1)
  exact wrap64_id _ (by omega) (by omega)
set_option maxRecDepth 100000 in
set_option maxHeartbeats 4000000 in
theorem sqrt_nn (n : Int) (h0 : 0 ≤ n) (h1 : n ≤ 9223372036854775807) (w : World) :
    Calls Tryd.prog 27 #[.int .i64 n] w fun e w' => (∃ r, e = .returned (.int .i64 r) ∧ IsSqrt n r) ∧ w = w' := by
  have d0 : decide (n < 0) = false := by simp; omega
  go_enter Tryd.func27, Tryd.ntmps27
  go_wp2_with fail
  go_loop [2, 7] (fun a b => ∃ (k : Nat) (r kk : Int), k ≤ 32 ∧ a = .int .i64 r ∧ b = .int .i64 kk ∧ Hid ((k : Int) = kk) ∧ Hid (SqI n r (pw k))) (fun _ b => 32 - (intOf b).toNat)
  case atStart => exact ⟨0, _, _, by omega, rfl, rfl, Lib.hid rfl, Lib.hid (SqI.start n h0 h1)⟩
  case round =>
    obtain ⟨k, r, kk, hk, rfl, rfl, HK, HI⟩ := hrel
    by_cases hkc : k = 32
    · have d1 : decide (kk < 32) = false := by have := HK.out; simp; omega
      go_wp2_with fail
      go_ret
      exact ⟨⟨_, rfl, by have := HI.out; rw [hkc] at this; exact SqI.root this⟩, rfl⟩
    · have d1 : decide (kk < 32) = true := by have := HK.out; simp; omega
      have k0 : 0 ≤ kk := by have := HK.out; omega
      have k1 : kk < 32 := by have := HK.out; omega
      obtain ⟨q, hq⟩ := HI.out.1
      have hor := or_pw r k (by omega) q hq HI.out.2.2.2.2
      have hsh := shl_pw k kk HK.out (by omega)
      have hst := pw_step k (by omega)
      have HI2 := Lib.hid HI.out
      rw [hst] at HI2
      have t1 := HI2.out.2.2.2.2
      have t0 := HI2.out.2.1
      have hpp := pw_pos (k + 1)
      have HP := Lib.hid (show pw (k + 1) = pw (k + 1) from rfl)
      obtain ⟨p, hp⟩ : ∃ p, pw (k + 1) = p := ⟨_, rfl⟩
      have HPP := Lib.hid hp
      rw [hp] at hor hsh HI2 t1 hpp
      clear hst hp HP hq
      obtain ⟨t, ht⟩ : ∃ t, r + p = t := ⟨_, rfl⟩
      have HT := Lib.hid ht
      rw [ht] at hor
      have tp : 0 < t := by omega
      have t2 : t ≤ 4294967296 := by omega
      have tz : (t == 0) = false := by simp; omega
      obtain ⟨d, hd⟩ : ∃ d, n / t = d := ⟨_, rfl⟩
      have hd' : n.tdiv t = d := by rw [Int.tdiv_eq_ediv_of_nonneg h0]; exact hd
      have HD := Lib.hid (Int.le_ediv_iff_mul_le (a := t) (b := n) tp)
      rw [hd] at HD
      have dn0 : 0 ≤ d := by rw [← hd]; exact Int.ediv_nonneg h0 (by omega)
      have dn1 : d ≤ 9223372036854775807 := by rw [← hd]; exact Int.le_trans (Int.ediv_le_self _ h0) h1
      clear ht
      by_cases c : t ≤ d
      · have d2 : decide (t ≤ d) = true := by simpa using c
        have NI := Lib.hid (SqI.up hpp HI2.out (by rw [HT.out]; exact HD.out.1 c))
        clear c
        go_wp2_with fail
        go_round
        case rel => exact ⟨k + 1, _, _, by omega, rfl, rfl, Lib.hid (by have := HK.out; omega), Lib.hid (by rw [HPP.out, ← HT.out]; exact NI.out)⟩
        case measure => simp [intOf]; omega
      · have d2 : decide (t ≤ d) = false := by simpa using c
        have NI := Lib.hid (SqI.stay hpp HI2.out (by rw [HT.out]; exact fun h => c (HD.out.2 h)))
        clear c
        go_wp2_with fail
        go_round
        case rel => exact ⟨k + 1, _, _, by omega, rfl, rfl, Lib.hid (by have := HK.out; omega), Lib.hid (by rw [HPP.out]; exact NI.out)⟩
        case measure => simp [intOf]; omega
end Go.Proofs.YtmcobpgdledkdaaDoor
