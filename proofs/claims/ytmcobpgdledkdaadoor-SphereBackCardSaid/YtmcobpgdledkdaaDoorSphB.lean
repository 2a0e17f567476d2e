/- Plain law: the texts of angles read back, and read angles written back. No program in sight. -/
import Derived.Test.YtmcobpgdledkdaaDoorSphV
import Derived.Test.YtmcobpgdledkdaaDoorSphK
namespace Go.Proofs.YtmcobpgdledkdaaDoor.Sph
set_option linter.unusedVariables false

theorem u8 (x : Nat) (h : x < 256) : (UInt8.ofNat x).toNat = x := by simp; omega
theorem num1 (d : Nat) (h : d < 10) : num d = [UInt8.ofNat (48 + d)] := by
  unfold num
  rw [if_pos h]
  simp [low, Nat.mod_eq_of_lt (show d < 10 by omega)]
theorem num2 (d : Nat) (h : 10 ≤ d ∧ d < 100) : num d = [UInt8.ofNat (48 + (d / 10)), UInt8.ofNat (48 + (d % 10))] := by
  unfold num
  rw [if_neg (by omega), if_pos h.2]
  simp [low, Nat.mod_eq_of_lt (show d / 10 < 10 by omega)]
theorem num3 (d : Nat) (h : 100 ≤ d ∧ d < 1000) : num d = [UInt8.ofNat (48 + (d / 100)), UInt8.ofNat (48 + (d / 10 % 10)), UInt8.ofNat (48 + (d % 10))] := by
  unfold num
  rw [if_neg (by omega), if_neg (by omega)]
  simp [low, Nat.mod_eq_of_lt (show d / 100 < 10 by omega)]
theorem tw_two (m : Nat) (h : m < 100) : tw m = [UInt8.ofNat (48 + m / 10), UInt8.ofNat (48 + m % 10)] := by
  unfold tw
  simp [low, Nat.mod_eq_of_lt (show m / 10 < 10 by omega)]
theorem text1 (a d m c : Nat) (g : UInt8) (hd : a / 3600 = d) (hm : a / 60 % 60 = m) (hc : a % 60 = c) (h : d < 10) : ang a ++ [g] = [UInt8.ofNat (48 + d), 45, UInt8.ofNat (48 + m / 10), UInt8.ofNat (48 + m % 10), 45, UInt8.ofNat (48 + c / 10), UInt8.ofNat (48 + c % 10), g] := by
  unfold ang
  rw [hd, hm, hc, num1 d h, tw_two m (by omega), tw_two c (by omega)]
  rfl
theorem back1 (d m c : Nat) (g : UInt8) (hm : m < 60) (hc : c < 60) (h : d < 10) (p q : UInt8) (hpq : p ≠ q) (hg : g = p ∨ g = q ∧ d * 3600 + m * 60 + c ≠ 0) (t : ByteArray) (ht : t = ⟨[UInt8.ofNat (48 + d), 45, UInt8.ofNat (48 + m / 10), UInt8.ofNat (48 + m % 10), 45, UInt8.ofNat (48 + c / 10), UInt8.ofNat (48 + c % 10), g].toArray⟩) :
    t.size = 8 ∧ frm t p.toNat q.toNat ∧ fits t = true ∧ sg t p.toNat = (if g = p then ((d * 3600 + m * 60 + c : Nat) : Int) else -((d * 3600 + m * 60 + c : Nat) : Int)) ∧ ∀ i, i < 7 → byt t i ≠ 32 := by
  have hz : t.size = 8 := by rw [ht]; rfl
  have b0 : byt t 0 = ((48 + d : Nat) : Int) := by rw [ht, byt_mk _ 0 (by simp)]; show ((UInt8.ofNat (48 + d) : UInt8).toNat : Int) = _; rw [u8 _ (by omega)]
  have b1 : byt t 1 = ((45 : Nat) : Int) := by rw [ht, byt_mk _ 1 (by simp)]; show ((45 : UInt8).toNat : Int) = _; rfl
  have b2 : byt t 2 = ((48 + m / 10 : Nat) : Int) := by rw [ht, byt_mk _ 2 (by simp)]; show ((UInt8.ofNat (48 + m / 10) : UInt8).toNat : Int) = _; rw [u8 _ (by omega)]
  have b3 : byt t 3 = ((48 + m % 10 : Nat) : Int) := by rw [ht, byt_mk _ 3 (by simp)]; show ((UInt8.ofNat (48 + m % 10) : UInt8).toNat : Int) = _; rw [u8 _ (by omega)]
  have b4 : byt t 4 = ((45 : Nat) : Int) := by rw [ht, byt_mk _ 4 (by simp)]; show ((45 : UInt8).toNat : Int) = _; rfl
  have b5 : byt t 5 = ((48 + c / 10 : Nat) : Int) := by rw [ht, byt_mk _ 5 (by simp)]; show ((UInt8.ofNat (48 + c / 10) : UInt8).toNat : Int) = _; rw [u8 _ (by omega)]
  have b6 : byt t 6 = ((48 + c % 10 : Nat) : Int) := by rw [ht, byt_mk _ 6 (by simp)]; show ((UInt8.ofNat (48 + c % 10) : UInt8).toNat : Int) = _; rw [u8 _ (by omega)]
  have b7 : byt t 7 = (g.toNat : Int) := by rw [ht, byt_mk _ 7 (by simp)]; rfl
  have hv : val t 1 = (d : Int) := by
    simp only [val, b0]
    omega
  have hmn : mnt t = (m : Int) := by unfold mnt; rw [hz, b2, b3]; omega
  have hsc : scd t = (c : Int) := by unfold scd; rw [hz, b5, b6]; omega
  have hsec : sec t = ((d * 3600 + m * 60 + c : Nat) : Int) := by unfold sec; rw [hz, hv, hmn, hsc]; omega
  have hne : p.toNat ≠ q.toNat := fun e => hpq (UInt8.toNat_inj.1 e)
  refine ⟨hz, ?_, ?_, ?_, ?_⟩
  · unfold frm
    rw [hz, b1, b4, b2, b3, b5, b6, b7, hsec]
    refine ⟨by omega, by omega, ?_, ?_, rfl, rfl, ?_, ?_, ?_, ?_, ?_⟩
    · intro i hi
      have : i = 0 := by omega
      rcases this with rfl
      rw [b0]; unfold dg; omega
    · intro hk
      omega
    · unfold dg; omega
    · unfold dg; omega
    · unfold dg; omega
    · unfold dg; omega
    · rcases hg with e | ⟨e, h0⟩
      · left; rw [e]
      · right; rw [e]; exact ⟨rfl, by omega⟩
  · unfold fits
    rw [hmn, hsc]
    simp
    omega
  · unfold sg
    rw [hz, b7, hsec]
    rcases hg with e | ⟨e, h0⟩
    · rw [if_pos (by rw [e]), if_pos e]
    · rw [if_neg (by rw [e]; omega), if_neg (fun k => hpq (k.symm.trans e))]
  · intro i hi
    have : i = 0 ∨ i = 1 ∨ i = 2 ∨ i = 3 ∨ i = 4 ∨ i = 5 ∨ i = 6 := by omega
    rcases this with rfl | rfl | rfl | rfl | rfl | rfl | rfl
    · rw [b0]; omega
    · rw [b1]; omega
    · rw [b2]; omega
    · rw [b3]; omega
    · rw [b4]; omega
    · rw [b5]; omega
    · rw [b6]; omega
theorem text2 (a d m c : Nat) (g : UInt8) (hd : a / 3600 = d) (hm : a / 60 % 60 = m) (hc : a % 60 = c) (h : 10 ≤ d ∧ d < 100) : ang a ++ [g] = [UInt8.ofNat (48 + (d / 10)), UInt8.ofNat (48 + (d % 10)), 45, UInt8.ofNat (48 + m / 10), UInt8.ofNat (48 + m % 10), 45, UInt8.ofNat (48 + c / 10), UInt8.ofNat (48 + c % 10), g] := by
  unfold ang
  rw [hd, hm, hc, num2 d h, tw_two m (by omega), tw_two c (by omega)]
  rfl
theorem back2 (d m c : Nat) (g : UInt8) (hm : m < 60) (hc : c < 60) (h : 10 ≤ d ∧ d < 100) (p q : UInt8) (hpq : p ≠ q) (hg : g = p ∨ g = q ∧ d * 3600 + m * 60 + c ≠ 0) (t : ByteArray) (ht : t = ⟨[UInt8.ofNat (48 + (d / 10)), UInt8.ofNat (48 + (d % 10)), 45, UInt8.ofNat (48 + m / 10), UInt8.ofNat (48 + m % 10), 45, UInt8.ofNat (48 + c / 10), UInt8.ofNat (48 + c % 10), g].toArray⟩) :
    t.size = 9 ∧ frm t p.toNat q.toNat ∧ fits t = true ∧ sg t p.toNat = (if g = p then ((d * 3600 + m * 60 + c : Nat) : Int) else -((d * 3600 + m * 60 + c : Nat) : Int)) ∧ ∀ i, i < 8 → byt t i ≠ 32 := by
  have hz : t.size = 9 := by rw [ht]; rfl
  have b0 : byt t 0 = ((48 + d / 10 : Nat) : Int) := by rw [ht, byt_mk _ 0 (by simp)]; show ((UInt8.ofNat (48 + (d / 10)) : UInt8).toNat : Int) = _; rw [u8 _ (by omega)]
  have b1 : byt t 1 = ((48 + d % 10 : Nat) : Int) := by rw [ht, byt_mk _ 1 (by simp)]; show ((UInt8.ofNat (48 + (d % 10)) : UInt8).toNat : Int) = _; rw [u8 _ (by omega)]
  have b2 : byt t 2 = ((45 : Nat) : Int) := by rw [ht, byt_mk _ 2 (by simp)]; show ((45 : UInt8).toNat : Int) = _; rfl
  have b3 : byt t 3 = ((48 + m / 10 : Nat) : Int) := by rw [ht, byt_mk _ 3 (by simp)]; show ((UInt8.ofNat (48 + m / 10) : UInt8).toNat : Int) = _; rw [u8 _ (by omega)]
  have b4 : byt t 4 = ((48 + m % 10 : Nat) : Int) := by rw [ht, byt_mk _ 4 (by simp)]; show ((UInt8.ofNat (48 + m % 10) : UInt8).toNat : Int) = _; rw [u8 _ (by omega)]
  have b5 : byt t 5 = ((45 : Nat) : Int) := by rw [ht, byt_mk _ 5 (by simp)]; show ((45 : UInt8).toNat : Int) = _; rfl
  have b6 : byt t 6 = ((48 + c / 10 : Nat) : Int) := by rw [ht, byt_mk _ 6 (by simp)]; show ((UInt8.ofNat (48 + c / 10) : UInt8).toNat : Int) = _; rw [u8 _ (by omega)]
  have b7 : byt t 7 = ((48 + c % 10 : Nat) : Int) := by rw [ht, byt_mk _ 7 (by simp)]; show ((UInt8.ofNat (48 + c % 10) : UInt8).toNat : Int) = _; rw [u8 _ (by omega)]
  have b8 : byt t 8 = (g.toNat : Int) := by rw [ht, byt_mk _ 8 (by simp)]; rfl
  have hv : val t 2 = (d : Int) := by
    simp only [val, b0, b1]
    omega
  have hmn : mnt t = (m : Int) := by unfold mnt; rw [hz, b3, b4]; omega
  have hsc : scd t = (c : Int) := by unfold scd; rw [hz, b6, b7]; omega
  have hsec : sec t = ((d * 3600 + m * 60 + c : Nat) : Int) := by unfold sec; rw [hz, hv, hmn, hsc]; omega
  have hne : p.toNat ≠ q.toNat := fun e => hpq (UInt8.toNat_inj.1 e)
  refine ⟨hz, ?_, ?_, ?_, ?_⟩
  · unfold frm
    rw [hz, b2, b5, b3, b4, b6, b7, b8, hsec]
    refine ⟨by omega, by omega, ?_, ?_, rfl, rfl, ?_, ?_, ?_, ?_, ?_⟩
    · intro i hi
      have : i = 0 ∨ i = 1 := by omega
      rcases this with rfl | rfl
      · rw [b0]; unfold dg; omega
      · rw [b1]; unfold dg; omega
    · intro hk
      rw [b0]; omega
    · unfold dg; omega
    · unfold dg; omega
    · unfold dg; omega
    · unfold dg; omega
    · rcases hg with e | ⟨e, h0⟩
      · left; rw [e]
      · right; rw [e]; exact ⟨rfl, by omega⟩
  · unfold fits
    rw [hmn, hsc]
    simp
    omega
  · unfold sg
    rw [hz, b8, hsec]
    rcases hg with e | ⟨e, h0⟩
    · rw [if_pos (by rw [e]), if_pos e]
    · rw [if_neg (by rw [e]; omega), if_neg (fun k => hpq (k.symm.trans e))]
  · intro i hi
    have : i = 0 ∨ i = 1 ∨ i = 2 ∨ i = 3 ∨ i = 4 ∨ i = 5 ∨ i = 6 ∨ i = 7 := by omega
    rcases this with rfl | rfl | rfl | rfl | rfl | rfl | rfl | rfl
    · rw [b0]; omega
    · rw [b1]; omega
    · rw [b2]; omega
    · rw [b3]; omega
    · rw [b4]; omega
    · rw [b5]; omega
    · rw [b6]; omega
    · rw [b7]; omega
theorem text3 (a d m c : Nat) (g : UInt8) (hd : a / 3600 = d) (hm : a / 60 % 60 = m) (hc : a % 60 = c) (h : 100 ≤ d ∧ d < 1000) : ang a ++ [g] = [UInt8.ofNat (48 + (d / 100)), UInt8.ofNat (48 + (d / 10 % 10)), UInt8.ofNat (48 + (d % 10)), 45, UInt8.ofNat (48 + m / 10), UInt8.ofNat (48 + m % 10), 45, UInt8.ofNat (48 + c / 10), UInt8.ofNat (48 + c % 10), g] := by
  unfold ang
  rw [hd, hm, hc, num3 d h, tw_two m (by omega), tw_two c (by omega)]
  rfl
theorem back3 (d m c : Nat) (g : UInt8) (hm : m < 60) (hc : c < 60) (h : 100 ≤ d ∧ d < 1000) (p q : UInt8) (hpq : p ≠ q) (hg : g = p ∨ g = q ∧ d * 3600 + m * 60 + c ≠ 0) (t : ByteArray) (ht : t = ⟨[UInt8.ofNat (48 + (d / 100)), UInt8.ofNat (48 + (d / 10 % 10)), UInt8.ofNat (48 + (d % 10)), 45, UInt8.ofNat (48 + m / 10), UInt8.ofNat (48 + m % 10), 45, UInt8.ofNat (48 + c / 10), UInt8.ofNat (48 + c % 10), g].toArray⟩) :
    t.size = 10 ∧ frm t p.toNat q.toNat ∧ fits t = true ∧ sg t p.toNat = (if g = p then ((d * 3600 + m * 60 + c : Nat) : Int) else -((d * 3600 + m * 60 + c : Nat) : Int)) ∧ ∀ i, i < 9 → byt t i ≠ 32 := by
  have hz : t.size = 10 := by rw [ht]; rfl
  have b0 : byt t 0 = ((48 + d / 100 : Nat) : Int) := by rw [ht, byt_mk _ 0 (by simp)]; show ((UInt8.ofNat (48 + (d / 100)) : UInt8).toNat : Int) = _; rw [u8 _ (by omega)]
  have b1 : byt t 1 = ((48 + d / 10 % 10 : Nat) : Int) := by rw [ht, byt_mk _ 1 (by simp)]; show ((UInt8.ofNat (48 + (d / 10 % 10)) : UInt8).toNat : Int) = _; rw [u8 _ (by omega)]
  have b2 : byt t 2 = ((48 + d % 10 : Nat) : Int) := by rw [ht, byt_mk _ 2 (by simp)]; show ((UInt8.ofNat (48 + (d % 10)) : UInt8).toNat : Int) = _; rw [u8 _ (by omega)]
  have b3 : byt t 3 = ((45 : Nat) : Int) := by rw [ht, byt_mk _ 3 (by simp)]; show ((45 : UInt8).toNat : Int) = _; rfl
  have b4 : byt t 4 = ((48 + m / 10 : Nat) : Int) := by rw [ht, byt_mk _ 4 (by simp)]; show ((UInt8.ofNat (48 + m / 10) : UInt8).toNat : Int) = _; rw [u8 _ (by omega)]
  have b5 : byt t 5 = ((48 + m % 10 : Nat) : Int) := by rw [ht, byt_mk _ 5 (by simp)]; show ((UInt8.ofNat (48 + m % 10) : UInt8).toNat : Int) = _; rw [u8 _ (by omega)]
  have b6 : byt t 6 = ((45 : Nat) : Int) := by rw [ht, byt_mk _ 6 (by simp)]; show ((45 : UInt8).toNat : Int) = _; rfl
  have b7 : byt t 7 = ((48 + c / 10 : Nat) : Int) := by rw [ht, byt_mk _ 7 (by simp)]; show ((UInt8.ofNat (48 + c / 10) : UInt8).toNat : Int) = _; rw [u8 _ (by omega)]
  have b8 : byt t 8 = ((48 + c % 10 : Nat) : Int) := by rw [ht, byt_mk _ 8 (by simp)]; show ((UInt8.ofNat (48 + c % 10) : UInt8).toNat : Int) = _; rw [u8 _ (by omega)]
  have b9 : byt t 9 = (g.toNat : Int) := by rw [ht, byt_mk _ 9 (by simp)]; rfl
  have hv : val t 3 = (d : Int) := by
    simp only [val, b0, b1, b2]
    omega
  have hmn : mnt t = (m : Int) := by unfold mnt; rw [hz, b4, b5]; omega
  have hsc : scd t = (c : Int) := by unfold scd; rw [hz, b7, b8]; omega
  have hsec : sec t = ((d * 3600 + m * 60 + c : Nat) : Int) := by unfold sec; rw [hz, hv, hmn, hsc]; omega
  have hne : p.toNat ≠ q.toNat := fun e => hpq (UInt8.toNat_inj.1 e)
  refine ⟨hz, ?_, ?_, ?_, ?_⟩
  · unfold frm
    rw [hz, b3, b6, b4, b5, b7, b8, b9, hsec]
    refine ⟨by omega, by omega, ?_, ?_, rfl, rfl, ?_, ?_, ?_, ?_, ?_⟩
    · intro i hi
      have : i = 0 ∨ i = 1 ∨ i = 2 := by omega
      rcases this with rfl | rfl | rfl
      · rw [b0]; unfold dg; omega
      · rw [b1]; unfold dg; omega
      · rw [b2]; unfold dg; omega
    · intro hk
      rw [b0]; omega
    · unfold dg; omega
    · unfold dg; omega
    · unfold dg; omega
    · unfold dg; omega
    · rcases hg with e | ⟨e, h0⟩
      · left; rw [e]
      · right; rw [e]; exact ⟨rfl, by omega⟩
  · unfold fits
    rw [hmn, hsc]
    simp
    omega
  · unfold sg
    rw [hz, b9, hsec]
    rcases hg with e | ⟨e, h0⟩
    · rw [if_pos (by rw [e]), if_pos e]
    · rw [if_neg (by rw [e]; omega), if_neg (fun k => hpq (k.symm.trans e))]
  · intro i hi
    have : i = 0 ∨ i = 1 ∨ i = 2 ∨ i = 3 ∨ i = 4 ∨ i = 5 ∨ i = 6 ∨ i = 7 ∨ i = 8 := by omega
    rcases this with rfl | rfl | rfl | rfl | rfl | rfl | rfl | rfl | rfl
    · rw [b0]; omega
    · rw [b1]; omega
    · rw [b2]; omega
    · rw [b3]; omega
    · rw [b4]; omega
    · rw [b5]; omega
    · rw [b6]; omega
    · rw [b7]; omega
    · rw [b8]; omega
theorem fore1 (t : ByteArray) (p q : UInt8) (hpq : p ≠ q) (hz : t.size = 8) (hf : frm t p.toNat q.toNat) (hfit : fits t = true) : t = ⟨(wr (sg t p.toNat) p q).toArray⟩ := by
  have hne : p.toNat ≠ q.toNat := fun e => hpq (UInt8.toNat_inj.1 e)
  obtain ⟨_, _, h2, h3, h4, h5, h6, h7, h8, h9, h10⟩ := hf
  unfold fits mnt scd at hfit
  have hsec : sec t = val t 1 * 3600 + (10 * (byt t 2 - 48) + (byt t 3 - 48)) * 60 + (10 * (byt t 5 - 48) + (byt t 6 - 48)) := by unfold sec mnt scd; rw [hz]
  unfold sg
  rw [hz] at h2 h3 h4 h5 h6 h7 h8 h9 h10 hfit ⊢
  simp only [Nat.reduceSub] at h2 h3 h4 h5 h6 h7 h8 h9 h10 hfit ⊢
  have d0 := h2 0 (by omega)
  have hv : val t 1 = byt t 0 - 48 := by simp only [val]; omega
  unfold dg at d0 h6 h7 h8 h9
  simp only [Bool.and_eq_true, decide_eq_true_eq] at hfit
  obtain ⟨x0, e0⟩ : ∃ x : Nat, byt t 0 = 48 + (x : Int) := ⟨(byt t 0 - 48).toNat, by omega⟩
  obtain ⟨y0, f0⟩ : ∃ x : Nat, byt t 2 = 48 + (x : Int) := ⟨(byt t 2 - 48).toNat, by omega⟩
  obtain ⟨y1, f1⟩ : ∃ x : Nat, byt t 3 = 48 + (x : Int) := ⟨(byt t 3 - 48).toNat, by omega⟩
  obtain ⟨y2, f2⟩ : ∃ x : Nat, byt t 5 = 48 + (x : Int) := ⟨(byt t 5 - 48).toNat, by omega⟩
  obtain ⟨y3, f3⟩ : ∃ x : Nat, byt t 6 = 48 + (x : Int) := ⟨(byt t 6 - 48).toNat, by omega⟩
  rw [hv] at hsec
  have hs2 : sec t = (((x0) * 3600 + (10 * y0 + y1) * 60 + (10 * y2 + y3) : Nat) : Int) := by rw [hsec]; omega
  obtain ⟨a, ha⟩ : ∃ a : Nat, (x0) * 3600 + (10 * y0 + y1) * 60 + (10 * y2 + y3) = a := ⟨_, rfl⟩
  rw [ha] at hs2
  have key : ∀ g : UInt8, byt t 7 = (g.toNat : Int) → t = ⟨(ang a ++ [g]).toArray⟩ := by
    intro g hg
    rw [text1 a (x0) (10 * y0 + y1) (10 * y2 + y3) g (by omega) (by omega) (by omega) (by omega)]
    apply byt_ext
    · rw [hz]; rfl
    · intro i hi
      rw [hz] at hi
      have : i = 0 ∨ i = 1 ∨ i = 2 ∨ i = 3 ∨ i = 4 ∨ i = 5 ∨ i = 6 ∨ i = 7 := by omega
      rcases this with rfl | rfl | rfl | rfl | rfl | rfl | rfl | rfl
      · rw [e0, byt_mk _ 0 (by simp)]; show _ = ((UInt8.ofNat (48 + (x0)) : UInt8).toNat : Int); rw [u8 _ (by omega)]; omega
      · rw [h4, byt_mk _ 1 (by simp)]; show _ = ((45 : UInt8).toNat : Int); rfl
      · rw [f0, byt_mk _ 2 (by simp)]; show _ = ((UInt8.ofNat (48 + (10 * y0 + y1) / 10) : UInt8).toNat : Int); rw [u8 _ (by omega)]; omega
      · rw [f1, byt_mk _ 3 (by simp)]; show _ = ((UInt8.ofNat (48 + (10 * y0 + y1) % 10) : UInt8).toNat : Int); rw [u8 _ (by omega)]; omega
      · rw [h5, byt_mk _ 4 (by simp)]; show _ = ((45 : UInt8).toNat : Int); rfl
      · rw [f2, byt_mk _ 5 (by simp)]; show _ = ((UInt8.ofNat (48 + (10 * y2 + y3) / 10) : UInt8).toNat : Int); rw [u8 _ (by omega)]; omega
      · rw [f3, byt_mk _ 6 (by simp)]; show _ = ((UInt8.ofNat (48 + (10 * y2 + y3) % 10) : UInt8).toNat : Int); rw [u8 _ (by omega)]; omega
      · rw [hg, byt_mk _ 7 (by simp)]; show _ = ((g : UInt8).toNat : Int); rfl
  rcases h10 with e | ⟨e, h0⟩
  · rw [if_pos e, hs2]
    unfold wr
    rw [if_neg (by omega), Int.natAbs_natCast]
    exact key p e
  · rw [if_neg (by rw [e]; omega), hs2]
    unfold wr
    rw [if_pos (by omega), Int.natAbs_neg, Int.natAbs_natCast]
    exact key q e
theorem fore2 (t : ByteArray) (p q : UInt8) (hpq : p ≠ q) (hz : t.size = 9) (hf : frm t p.toNat q.toNat) (hfit : fits t = true) : t = ⟨(wr (sg t p.toNat) p q).toArray⟩ := by
  have hne : p.toNat ≠ q.toNat := fun e => hpq (UInt8.toNat_inj.1 e)
  obtain ⟨_, _, h2, h3, h4, h5, h6, h7, h8, h9, h10⟩ := hf
  unfold fits mnt scd at hfit
  have hsec : sec t = val t 2 * 3600 + (10 * (byt t 3 - 48) + (byt t 4 - 48)) * 60 + (10 * (byt t 6 - 48) + (byt t 7 - 48)) := by unfold sec mnt scd; rw [hz]
  unfold sg
  rw [hz] at h2 h3 h4 h5 h6 h7 h8 h9 h10 hfit ⊢
  simp only [Nat.reduceSub] at h2 h3 h4 h5 h6 h7 h8 h9 h10 hfit ⊢
  have d0 := h2 0 (by omega)
  have d1 := h2 1 (by omega)
  have hv : val t 2 = 10 * (byt t 0 - 48) + (byt t 1 - 48) := by simp only [val]; omega
  unfold dg at d0 d1 h6 h7 h8 h9
  simp only [Bool.and_eq_true, decide_eq_true_eq] at hfit
  obtain ⟨x0, e0⟩ : ∃ x : Nat, byt t 0 = 48 + (x : Int) := ⟨(byt t 0 - 48).toNat, by omega⟩
  obtain ⟨x1, e1⟩ : ∃ x : Nat, byt t 1 = 48 + (x : Int) := ⟨(byt t 1 - 48).toNat, by omega⟩
  obtain ⟨y0, f0⟩ : ∃ x : Nat, byt t 3 = 48 + (x : Int) := ⟨(byt t 3 - 48).toNat, by omega⟩
  obtain ⟨y1, f1⟩ : ∃ x : Nat, byt t 4 = 48 + (x : Int) := ⟨(byt t 4 - 48).toNat, by omega⟩
  obtain ⟨y2, f2⟩ : ∃ x : Nat, byt t 6 = 48 + (x : Int) := ⟨(byt t 6 - 48).toNat, by omega⟩
  obtain ⟨y3, f3⟩ : ∃ x : Nat, byt t 7 = 48 + (x : Int) := ⟨(byt t 7 - 48).toNat, by omega⟩
  rw [hv] at hsec
  have hs2 : sec t = (((10 * x0 + x1) * 3600 + (10 * y0 + y1) * 60 + (10 * y2 + y3) : Nat) : Int) := by rw [hsec]; omega
  obtain ⟨a, ha⟩ : ∃ a : Nat, (10 * x0 + x1) * 3600 + (10 * y0 + y1) * 60 + (10 * y2 + y3) = a := ⟨_, rfl⟩
  rw [ha] at hs2
  have key : ∀ g : UInt8, byt t 8 = (g.toNat : Int) → t = ⟨(ang a ++ [g]).toArray⟩ := by
    intro g hg
    rw [text2 a (10 * x0 + x1) (10 * y0 + y1) (10 * y2 + y3) g (by omega) (by omega) (by omega) (by omega)]
    apply byt_ext
    · rw [hz]; rfl
    · intro i hi
      rw [hz] at hi
      have : i = 0 ∨ i = 1 ∨ i = 2 ∨ i = 3 ∨ i = 4 ∨ i = 5 ∨ i = 6 ∨ i = 7 ∨ i = 8 := by omega
      rcases this with rfl | rfl | rfl | rfl | rfl | rfl | rfl | rfl | rfl
      · rw [e0, byt_mk _ 0 (by simp)]; show _ = ((UInt8.ofNat (48 + ((10 * x0 + x1) / 10)) : UInt8).toNat : Int); rw [u8 _ (by omega)]; omega
      · rw [e1, byt_mk _ 1 (by simp)]; show _ = ((UInt8.ofNat (48 + ((10 * x0 + x1) % 10)) : UInt8).toNat : Int); rw [u8 _ (by omega)]; omega
      · rw [h4, byt_mk _ 2 (by simp)]; show _ = ((45 : UInt8).toNat : Int); rfl
      · rw [f0, byt_mk _ 3 (by simp)]; show _ = ((UInt8.ofNat (48 + (10 * y0 + y1) / 10) : UInt8).toNat : Int); rw [u8 _ (by omega)]; omega
      · rw [f1, byt_mk _ 4 (by simp)]; show _ = ((UInt8.ofNat (48 + (10 * y0 + y1) % 10) : UInt8).toNat : Int); rw [u8 _ (by omega)]; omega
      · rw [h5, byt_mk _ 5 (by simp)]; show _ = ((45 : UInt8).toNat : Int); rfl
      · rw [f2, byt_mk _ 6 (by simp)]; show _ = ((UInt8.ofNat (48 + (10 * y2 + y3) / 10) : UInt8).toNat : Int); rw [u8 _ (by omega)]; omega
      · rw [f3, byt_mk _ 7 (by simp)]; show _ = ((UInt8.ofNat (48 + (10 * y2 + y3) % 10) : UInt8).toNat : Int); rw [u8 _ (by omega)]; omega
      · rw [hg, byt_mk _ 8 (by simp)]; show _ = ((g : UInt8).toNat : Int); rfl
  rcases h10 with e | ⟨e, h0⟩
  · rw [if_pos e, hs2]
    unfold wr
    rw [if_neg (by omega), Int.natAbs_natCast]
    exact key p e
  · rw [if_neg (by rw [e]; omega), hs2]
    unfold wr
    rw [if_pos (by omega), Int.natAbs_neg, Int.natAbs_natCast]
    exact key q e
theorem fore3 (t : ByteArray) (p q : UInt8) (hpq : p ≠ q) (hz : t.size = 10) (hf : frm t p.toNat q.toNat) (hfit : fits t = true) : t = ⟨(wr (sg t p.toNat) p q).toArray⟩ := by
  have hne : p.toNat ≠ q.toNat := fun e => hpq (UInt8.toNat_inj.1 e)
  obtain ⟨_, _, h2, h3, h4, h5, h6, h7, h8, h9, h10⟩ := hf
  unfold fits mnt scd at hfit
  have hsec : sec t = val t 3 * 3600 + (10 * (byt t 4 - 48) + (byt t 5 - 48)) * 60 + (10 * (byt t 7 - 48) + (byt t 8 - 48)) := by unfold sec mnt scd; rw [hz]
  unfold sg
  rw [hz] at h2 h3 h4 h5 h6 h7 h8 h9 h10 hfit ⊢
  simp only [Nat.reduceSub] at h2 h3 h4 h5 h6 h7 h8 h9 h10 hfit ⊢
  have d0 := h2 0 (by omega)
  have d1 := h2 1 (by omega)
  have d2 := h2 2 (by omega)
  have hv : val t 3 = 100 * (byt t 0 - 48) + 10 * (byt t 1 - 48) + (byt t 2 - 48) := by simp only [val]; omega
  unfold dg at d0 d1 d2 h6 h7 h8 h9
  simp only [Bool.and_eq_true, decide_eq_true_eq] at hfit
  obtain ⟨x0, e0⟩ : ∃ x : Nat, byt t 0 = 48 + (x : Int) := ⟨(byt t 0 - 48).toNat, by omega⟩
  obtain ⟨x1, e1⟩ : ∃ x : Nat, byt t 1 = 48 + (x : Int) := ⟨(byt t 1 - 48).toNat, by omega⟩
  obtain ⟨x2, e2⟩ : ∃ x : Nat, byt t 2 = 48 + (x : Int) := ⟨(byt t 2 - 48).toNat, by omega⟩
  obtain ⟨y0, f0⟩ : ∃ x : Nat, byt t 4 = 48 + (x : Int) := ⟨(byt t 4 - 48).toNat, by omega⟩
  obtain ⟨y1, f1⟩ : ∃ x : Nat, byt t 5 = 48 + (x : Int) := ⟨(byt t 5 - 48).toNat, by omega⟩
  obtain ⟨y2, f2⟩ : ∃ x : Nat, byt t 7 = 48 + (x : Int) := ⟨(byt t 7 - 48).toNat, by omega⟩
  obtain ⟨y3, f3⟩ : ∃ x : Nat, byt t 8 = 48 + (x : Int) := ⟨(byt t 8 - 48).toNat, by omega⟩
  rw [hv] at hsec
  have hs2 : sec t = (((100 * x0 + 10 * x1 + x2) * 3600 + (10 * y0 + y1) * 60 + (10 * y2 + y3) : Nat) : Int) := by rw [hsec]; omega
  obtain ⟨a, ha⟩ : ∃ a : Nat, (100 * x0 + 10 * x1 + x2) * 3600 + (10 * y0 + y1) * 60 + (10 * y2 + y3) = a := ⟨_, rfl⟩
  rw [ha] at hs2
  have key : ∀ g : UInt8, byt t 9 = (g.toNat : Int) → t = ⟨(ang a ++ [g]).toArray⟩ := by
    intro g hg
    rw [text3 a (100 * x0 + 10 * x1 + x2) (10 * y0 + y1) (10 * y2 + y3) g (by omega) (by omega) (by omega) (by omega)]
    apply byt_ext
    · rw [hz]; rfl
    · intro i hi
      rw [hz] at hi
      have : i = 0 ∨ i = 1 ∨ i = 2 ∨ i = 3 ∨ i = 4 ∨ i = 5 ∨ i = 6 ∨ i = 7 ∨ i = 8 ∨ i = 9 := by omega
      rcases this with rfl | rfl | rfl | rfl | rfl | rfl | rfl | rfl | rfl | rfl
      · rw [e0, byt_mk _ 0 (by simp)]; show _ = ((UInt8.ofNat (48 + ((100 * x0 + 10 * x1 + x2) / 100)) : UInt8).toNat : Int); rw [u8 _ (by omega)]; omega
      · rw [e1, byt_mk _ 1 (by simp)]; show _ = ((UInt8.ofNat (48 + ((100 * x0 + 10 * x1 + x2) / 10 % 10)) : UInt8).toNat : Int); rw [u8 _ (by omega)]; omega
      · rw [e2, byt_mk _ 2 (by simp)]; show _ = ((UInt8.ofNat (48 + ((100 * x0 + 10 * x1 + x2) % 10)) : UInt8).toNat : Int); rw [u8 _ (by omega)]; omega
      · rw [h4, byt_mk _ 3 (by simp)]; show _ = ((45 : UInt8).toNat : Int); rfl
      · rw [f0, byt_mk _ 4 (by simp)]; show _ = ((UInt8.ofNat (48 + (10 * y0 + y1) / 10) : UInt8).toNat : Int); rw [u8 _ (by omega)]; omega
      · rw [f1, byt_mk _ 5 (by simp)]; show _ = ((UInt8.ofNat (48 + (10 * y0 + y1) % 10) : UInt8).toNat : Int); rw [u8 _ (by omega)]; omega
      · rw [h5, byt_mk _ 6 (by simp)]; show _ = ((45 : UInt8).toNat : Int); rfl
      · rw [f2, byt_mk _ 7 (by simp)]; show _ = ((UInt8.ofNat (48 + (10 * y2 + y3) / 10) : UInt8).toNat : Int); rw [u8 _ (by omega)]; omega
      · rw [f3, byt_mk _ 8 (by simp)]; show _ = ((UInt8.ofNat (48 + (10 * y2 + y3) % 10) : UInt8).toNat : Int); rw [u8 _ (by omega)]; omega
      · rw [hg, byt_mk _ 9 (by simp)]; show _ = ((g : UInt8).toNat : Int); rfl
  rcases h10 with e | ⟨e, h0⟩
  · rw [if_pos e, hs2]
    unfold wr
    rw [if_neg (by omega), Int.natAbs_natCast]
    exact key p e
  · rw [if_neg (by rw [e]; omega), hs2]
    unfold wr
    rw [if_pos (by omega), Int.natAbs_neg, Int.natAbs_natCast]
    exact key q e
/-- What was read is written as it was. -/
theorem fore (t : ByteArray) (p q : UInt8) (hpq : p ≠ q) (hf : frm t p.toNat q.toNat) (hfit : fits t = true) : t = ⟨(wr (sg t p.toNat) p q).toArray⟩ := by
  have h0 := hf.1
  have h1 := hf.2.1
  have : t.size = 8 ∨ t.size = 9 ∨ t.size = 10 := by omega
  rcases this with h | h | h
  · exact fore1 t p q hpq h hf hfit
  · exact fore2 t p q hpq h hf hfit
  · exact fore3 t p q hpq h hf hfit
/-- What is written is read as it was. -/
theorem back (n : Int) (p q : UInt8) (hpq : p ≠ q) (hp : p.toNat ≠ 32) (hq : q.toNat ≠ 32) (hn : n.natAbs ≤ 648000) (t : ByteArray) (ht : t = ⟨(wr n p q).toArray⟩) :
    frm t p.toNat q.toNat ∧ fits t = true ∧ sg t p.toNat = n ∧ ∀ i, i < t.size → byt t i ≠ 32 := by
  unfold wr at ht
  obtain ⟨a, ha⟩ : ∃ a, n.natAbs = a := ⟨_, rfl⟩
  rw [ha] at ht
  have hg : (if n < 0 then q else p) = p ∨ (if n < 0 then q else p) = q ∧ a / 3600 * 3600 + a / 60 % 60 * 60 + a % 60 ≠ 0 := by
    by_cases c : n < 0
    · right; rw [if_pos c]; exact ⟨rfl, by omega⟩
    · left; rw [if_neg c]
  have hw : ∀ z : Int, z = (if (if n < 0 then q else p) = p then ((a / 3600 * 3600 + a / 60 % 60 * 60 + a % 60 : Nat) : Int) else -((a / 3600 * 3600 + a / 60 % 60 * 60 + a % 60 : Nat) : Int)) → z = n := by
    intro z hz
    by_cases c : n < 0
    · rw [if_pos c, if_neg (fun e => hpq e.symm)] at hz
      omega
    · rw [if_neg c, if_pos rfl] at hz
      omega
  have last : ∀ k : Nat, t.size = k → byt t (k - 1) = ((if n < 0 then q else p).toNat : Int) → (∀ i, i < k - 1 → byt t i ≠ 32) → ∀ i, i < t.size → byt t i ≠ 32 := by
    intro k hk hb hi i h
    rcases Nat.lt_or_ge i (k - 1) with c | c
    · exact hi i c
    · rw [show i = k - 1 by omega, hb]
      by_cases c : n < 0
      · rw [if_pos c]; omega
      · rw [if_neg c]; omega
  by_cases c1 : a / 3600 < 10
  · rw [text1 a _ _ _ _ rfl rfl rfl c1] at ht
    obtain ⟨b1, b2, b3, b4, b5⟩ := back1 _ _ _ _ (by omega) (by omega) c1 p q hpq hg t ht
    exact ⟨b2, b3, hw _ b4, last 8 b1 (by rw [ht, byt_mk _ 7 (by simp)]; rfl) b5⟩
  by_cases c2 : a / 3600 < 100
  · rw [text2 a _ _ _ _ rfl rfl rfl ⟨by omega, c2⟩] at ht
    obtain ⟨b1, b2, b3, b4, b5⟩ := back2 _ _ _ _ (by omega) (by omega) ⟨by omega, c2⟩ p q hpq hg t ht
    exact ⟨b2, b3, hw _ b4, last 9 b1 (by rw [ht, byt_mk _ 8 (by simp)]; rfl) b5⟩
  · rw [text3 a _ _ _ _ rfl rfl rfl ⟨by omega, by omega⟩] at ht
    obtain ⟨b1, b2, b3, b4, b5⟩ := back3 _ _ _ _ (by omega) (by omega) ⟨by omega, by omega⟩ p q hpq hg t ht
    exact ⟨b2, b3, hw _ b4, last 10 b1 (by rw [ht, byt_mk _ 9 (by simp)]; rfl) b5⟩
end Go.Proofs.YtmcobpgdledkdaaDoor.Sph
