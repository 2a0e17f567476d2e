
/- Contract of the reference's read, for all strings. -/
import Derived.Test.YtmcobpgdledkdaaDoorSphG
namespace Go.Proofs.YtmcobpgdledkdaaDoor
open Go.RowKit
set_option linter.unusedVariables false

namespace Sph
/-- What the reference's read returns. -/
def rang (s : ByteArray) (p m : Int) : Value := if frm s p m then .agg #[.int .i64 (sg s p), .bool true, .bool (fits s)] else .agg #[.int .i64 0, .bool false, .bool false]
theorem cnt_all (t : ByteArray) (h : cnt t = t.size) : ∀ i, i < t.size → dg (byt t i) := by rw [← h]; exact cnt_dg t
theorem cnt_of_all (t : ByteArray) (ht : t.size ≤ 3) (h : ∀ i, i < t.size → dg (byt t i)) : cnt t = t.size := by
  have h1 := cnt_stop t
  have h2 : cnt t ≤ t.size := by
    rcases Nat.eq_zero_or_pos (cnt t) with c | c
    · omega
    · have := dg_lt (cnt_dg t (cnt t - 1) (by omega))
      omega
  rcases Nat.lt_or_ge (cnt t) t.size with c | c
  · rcases h1 with h1 | h1
    · omega
    · exact absurd (h _ c) h1
  · omega
end Sph

/-- The reference's digits of a short text. -/
theorem rdig_any (t : ByteArray) (ht : t.size ≤ 3) : ∃ (d : Int) (b : Bool), Hid (∀ W, Calls Tryd.prog 32 #[.string t] W fun e w' => e = .returned (.tuple #[.int .i64 d, .bool b]) ∧ W = w') ∧ 0 ≤ d ∧ d ≤ 999 ∧ (b = true ↔ ∀ i, i < t.size → Sph.dg (byt t i)) ∧ (b = true → d = Sph.val t t.size) := by
  by_cases h : Sph.cnt t = t.size
  · have hv := Sph.val_999 t t.size ht (Sph.cnt_all t h)
    exact ⟨_, true, Lib.hid (fun W => rdigits_yes t t.size ht (Sph.cnt_all t h) rfl W), hv.1, hv.2, ⟨fun _ => Sph.cnt_all t h, fun _ => rfl⟩, fun _ => rfl⟩
  · have h1 := Sph.cnt_stop t
    have h2 : Sph.cnt t ≤ t.size := by
      rcases Nat.eq_zero_or_pos (Sph.cnt t) with c | c
      · omega
      · have := Sph.dg_lt (Sph.cnt_dg t (Sph.cnt t - 1) (by omega))
        omega
    have h3 := Sph.cnt_le t
    have h4 : ¬ Sph.dg (byt t (Sph.cnt t)) := by
      rcases h1 with h1 | h1
      · omega
      · exact h1
    exact ⟨0, false, Lib.hid (fun W => rdigits_no t (Sph.cnt t) h3 (Sph.cnt_dg t) (by omega) (by omega) h4 W), by omega, by omega, ⟨fun e => (by cases e), fun a => absurd (Sph.cnt_of_all t ht a) h⟩, fun e => (by cases e)⟩
set_option maxHeartbeats 4000000 in
theorem rread_a2 (s : ByteArray) (p m k : Int) (p0 : 0 ≤ p) (p1 : p ≤ 255) (m0 : 0 ≤ m) (m1 : m ≤ 255) (hz : (s.size : Int) = k + 7) (k1 : k ≤ 9223372036854775800) (k0 : -7 ≤ k) (h : decide (k < 1) = true) (w : World) :
    Calls Tryd.prog 23 #[.string s, .int .u8 p, .int .u8 m] w fun e w' => e = .returned (.agg #[.int .i64 0, .bool false, .bool false]) ∧ Q w w' := by
  go_enter Tryd.func23, Tryd.ntmps23
  go_wp2_with fail
  refine bodyPost_ret (results_cell1 rfl _ _ _ _ _ _ _ rfl (heap_alloc_new _ _) Tryd.underlying43 rfl (by kernel_rfl)) rfl ⟨rfl, (Q.refl _).alloc _⟩
set_option maxHeartbeats 4000000 in
theorem rread_b2 (s : ByteArray) (p m k : Int) (p0 : 0 ≤ p) (p1 : p ≤ 255) (m0 : 0 ≤ m) (m1 : m ≤ 255) (hz : (s.size : Int) = k + 7) (k1 : k ≤ 9223372036854775800) (k0 : 1 ≤ k) (h : decide (3 < k) = true) (w : World) :
    Calls Tryd.prog 23 #[.string s, .int .u8 p, .int .u8 m] w fun e w' => e = .returned (.agg #[.int .i64 0, .bool false, .bool false]) ∧ Q w w' := by
  go_enter Tryd.func23, Tryd.ntmps23
  go_wp2_with fail
  refine bodyPost_ret (results_cell1 rfl _ _ _ _ _ _ _ rfl (heap_alloc_new _ _) Tryd.underlying43 rfl (by kernel_rfl)) rfl ⟨rfl, (Q.refl _).alloc _⟩
theorem byt_run' (s : ByteArray) (j : Int) (i : Nat) (e : (i : Int) = j) (h : i < s.size) (w : World) : (Instr.index 9 (.string s) (.int .i64 j)).run Tryd.prog w = .ok (.int .u8 (byt s i)) w := by
  rw [← e]
  exact byt_run s i h w
theorem slice_hi' (s : ByteArray) (j : Int) (b : Nat) (e : (b : Int) = j) (h : b ≤ s.size) (W : World) : (Instr.slice 9 (.string s) none (some (.int .i64 j)) none).run Tryd.prog W = .ok (.string (s.extract 0 b)) W := by
  rw [← e]
  exact slice_hi s b h W
theorem slice_lh' (s : ByteArray) (i j : Int) (a b : Nat) (ea : (a : Int) = i) (eb : (b : Int) = j) (h0 : a ≤ b) (h : b ≤ s.size) (W : World) : (Instr.slice 9 (.string s) (some (.int .i64 i)) (some (.int .i64 j)) none).run Tryd.prog W = .ok (.string (s.extract a b)) W := by
  rw [← ea, ← eb]
  exact slice_lh s a b h0 h W

set_option maxHeartbeats 2000000 in
theorem rread_any (s : ByteArray) (p m : Int) (p0 : 0 ≤ p) (p1 : p ≤ 255) (m0 : 0 ≤ m) (m1 : m ≤ 255) (hpm : p ≠ m) (hm : s.size ≤ 9223372036854775807) (w : World) :
    Calls Tryd.prog 23 #[.string s, .int .u8 p, .int .u8 m] w fun e w' => e = .returned (Sph.rang s p m) ∧ Q w w' := by
  have no : ¬ Sph.frm s p m → Sph.rang s p m = .agg #[.int .i64 0, .bool false, .bool false] := fun h => by unfold Sph.rang; rw [if_neg h]
  obtain ⟨k, hz⟩ : ∃ k : Int, (s.size : Int) = k + 7 := ⟨(s.size : Int) - 7, by omega⟩
  by_cases a1 : k < 1
  · rw [no (fun f => by have := f.1; omega)]
    exact rread_a2 s p m k p0 p1 m0 m1 hz (by omega) (by omega) (by simp; omega) w
  by_cases a2 : 3 < k
  · rw [no (fun f => by have := f.2.1; omega)]
    exact rread_b2 s p m k p0 p1 m0 m1 hz (by omega) (by omega) (by simp; omega) w
  by_cases a3 : 1 < k ∧ byt s 0 = 48
  · rw [no (fun f => f.2.2.2.1 (by omega) a3.2)]
    exact rread_c s p m k p0 p1 m0 m1 hz (by omega) (by omega) (by simp; omega) _ (byt_run s 0 (by omega)) (by simp; omega) w
  by_cases a4 : byt s (s.size - 7) = 45
  rotate_left
  · rw [no (fun f => a4 f.2.2.2.2.1)]
    by_cases c1 : 1 < k
    · exact rread_d2 s p m k p0 p1 m0 m1 hz (by omega) (by omega) (by simp; omega) _ (byt_run s 0 (by omega)) (by simp; omega) _ (byt_run' s k (s.size - 7) (by omega) (by omega)) (by simp; omega) w
    · exact rread_d1 s p m k p0 p1 m0 m1 hz (by omega) (by omega) (by simp; omega) _ (byt_run' s k (s.size - 7) (by omega) (by omega)) (by simp; omega) w
  by_cases a5 : byt s (s.size - 4) = 45
  rotate_left
  · rw [no (fun f => a5 f.2.2.2.2.2.1)]
    by_cases c1 : 1 < k
    · exact rread_e2 s p m k p0 p1 m0 m1 hz (by omega) (by omega) (by simp; omega) _ (byt_run s 0 (by omega)) (by simp; omega) _ (byt_run' s k (s.size - 7) (by omega) (by omega)) (by simp; omega) _ (byt_run' s (k + 3) (s.size - 4) (by omega) (by omega)) (by simp; omega) w
    · exact rread_e1 s p m k p0 p1 m0 m1 hz (by omega) (by omega) (by simp; omega) _ (byt_run' s k (s.size - 7) (by omega) (by omega)) (by simp; omega) _ (byt_run' s (k + 3) (s.size - 4) (by omega) (by omega)) (by simp; omega) w
  have r6 := byt_run' s (k + 6) (s.size - 1) (by omega) (by omega)
  have hde := slice_hi' s k (s.size - 7) (by omega) (by omega)
  have hmi := slice_lh' s (k + 1) (k + 3) (s.size - 6) (s.size - 4) (by omega) (by omega) (by omega) (by omega)
  have hse := slice_lh' s (k + 4) (k + 6) (s.size - 3) (s.size - 1) (by omega) (by omega) (by omega) (by omega)
  have zd := size_cut s 0 (s.size - 7) (by omega) (by omega)
  have zm := size_cut s (s.size - 6) (s.size - 4) (by omega) (by omega)
  have zs := size_cut s (s.size - 3) (s.size - 1) (by omega) (by omega)
  have vd := Sph.val_cut s 0 (s.size - 7) (by omega) (s.size - 7) (Nat.le_refl _)
  have bd : ∀ i, i < s.size - 7 → byt (s.extract 0 (s.size - 7)) i = byt s i := fun i h => (byt_cut s 0 _ i (by omega) (by omega)).trans (byt_at (by omega))
  have b1 : byt (s.extract (s.size - 6) (s.size - 4)) 0 = byt s (s.size - 6) := (byt_cut s _ _ 0 (by omega) (by omega)).trans (byt_at (by omega))
  have b2 : byt (s.extract (s.size - 6) (s.size - 4)) 1 = byt s (s.size - 5) := (byt_cut s _ _ 1 (by omega) (by omega)).trans (byt_at (by omega))
  have b3 : byt (s.extract (s.size - 3) (s.size - 1)) 0 = byt s (s.size - 3) := (byt_cut s _ _ 0 (by omega) (by omega)).trans (byt_at (by omega))
  have b4 : byt (s.extract (s.size - 3) (s.size - 1)) 1 = byt s (s.size - 2) := (byt_cut s _ _ 1 (by omega) (by omega)).trans (byt_at (by omega))
  obtain ⟨de, ede⟩ : ∃ r, s.extract 0 (s.size - 7) = r := ⟨_, rfl⟩
  obtain ⟨mi, emi⟩ : ∃ r, s.extract (s.size - 6) (s.size - 4) = r := ⟨_, rfl⟩
  obtain ⟨se, ese⟩ : ∃ r, s.extract (s.size - 3) (s.size - 1) = r := ⟨_, rfl⟩
  rw [ede] at hde zd vd bd
  rw [emi] at hmi zm b1 b2
  rw [ese] at hse zs b3 b4
  clear ede emi ese
  obtain ⟨d, td, HD, d0, d1, hd, vd'⟩ := rdig_any de (by omega)
  obtain ⟨mn, tm, HM, n0, n1, hmn, vm⟩ := rdig_any mi (by omega)
  obtain ⟨sc, ts, HS, s0, s1, hsc, vs⟩ := rdig_any se (by omega)
  have hd' : td = true ↔ ∀ i, i < s.size - 7 → Sph.dg (byt s i) := by
    rw [hd, zd]
    exact ⟨fun h i hi => by have := h i (by omega); rwa [bd i hi] at this, fun h i hi => by rw [bd i (by omega)]; exact h i (by omega)⟩
  have hm' : tm = true ↔ Sph.dg (byt s (s.size - 6)) ∧ Sph.dg (byt s (s.size - 5)) := by
    rw [hmn, ← b1, ← b2]
    exact ⟨fun h => ⟨h 0 (by omega), h 1 (by omega)⟩, fun h i hi => by have : i = 0 ∨ i = 1 := by omega
                                                                       rcases this with rfl | rfl; exact h.1; exact h.2⟩
  have hs' : ts = true ↔ Sph.dg (byt s (s.size - 3)) ∧ Sph.dg (byt s (s.size - 2)) := by
    rw [hsc, ← b3, ← b4]
    exact ⟨fun h => ⟨h 0 (by omega), h 1 (by omega)⟩, fun h i hi => by have : i = 0 ∨ i = 1 := by omega
                                                                       rcases this with rfl | rfl; exact h.1; exact h.2⟩
  cases td
  · rw [no (fun f => by have := hd'.2 f.2.2.1; cases this)]
    by_cases c1 : 1 < k
    · exact rread_f2 s p m k p0 p1 m0 m1 hz (by omega) (by omega) (by simp; omega) _ (byt_run s 0 (by omega)) (by simp; omega) _ (byt_run' s k (s.size - 7) (by omega) (by omega)) (by simp; omega) _ (byt_run' s (k + 3) (s.size - 4) (by omega) (by omega)) (by simp; omega) de mi se d mn sc _ hde hmi hse d0 d1 n0 n1 s0 s1 r6 _ _ HD HM HS w
    · exact rread_f1 s p m k p0 p1 m0 m1 hz (by omega) (by omega) (by simp; omega) _ (byt_run' s k (s.size - 7) (by omega) (by omega)) (by simp; omega) _ (byt_run' s (k + 3) (s.size - 4) (by omega) (by omega)) (by simp; omega) de mi se d mn sc _ hde hmi hse d0 d1 n0 n1 s0 s1 r6 _ _ HD HM HS w
  cases tm
  · rw [no (fun f => by have := hm'.2 ⟨f.2.2.2.2.2.2.1, f.2.2.2.2.2.2.2.1⟩; cases this)]
    by_cases c1 : 1 < k
    · exact rread_g2 s p m k p0 p1 m0 m1 hz (by omega) (by omega) (by simp; omega) _ (byt_run s 0 (by omega)) (by simp; omega) _ (byt_run' s k (s.size - 7) (by omega) (by omega)) (by simp; omega) _ (byt_run' s (k + 3) (s.size - 4) (by omega) (by omega)) (by simp; omega) de mi se d mn sc _ hde hmi hse d0 d1 n0 n1 s0 s1 r6 _ HD HM HS w
    · exact rread_g1 s p m k p0 p1 m0 m1 hz (by omega) (by omega) (by simp; omega) _ (byt_run' s k (s.size - 7) (by omega) (by omega)) (by simp; omega) _ (byt_run' s (k + 3) (s.size - 4) (by omega) (by omega)) (by simp; omega) de mi se d mn sc _ hde hmi hse d0 d1 n0 n1 s0 s1 r6 _ HD HM HS w
  cases ts
  · rw [no (fun f => by have := hs'.2 ⟨f.2.2.2.2.2.2.2.2.1, f.2.2.2.2.2.2.2.2.2.1⟩; cases this)]
    by_cases c1 : 1 < k
    · exact rread_h2 s p m k p0 p1 m0 m1 hz (by omega) (by omega) (by simp; omega) _ (byt_run s 0 (by omega)) (by simp; omega) _ (byt_run' s k (s.size - 7) (by omega) (by omega)) (by simp; omega) _ (byt_run' s (k + 3) (s.size - 4) (by omega) (by omega)) (by simp; omega) de mi se d mn sc _ hde hmi hse d0 d1 n0 n1 s0 s1 r6 HD HM HS w
    · exact rread_h1 s p m k p0 p1 m0 m1 hz (by omega) (by omega) (by simp; omega) _ (byt_run' s k (s.size - 7) (by omega) (by omega)) (by simp; omega) _ (byt_run' s (k + 3) (s.size - 4) (by omega) (by omega)) (by simp; omega) de mi se d mn sc _ hde hmi hse d0 d1 n0 n1 s0 s1 r6 HD HM HS w
  have ed : d = Sph.val s (s.size - 7) := by rw [vd' rfl, zd, Nat.sub_zero, vd]
  have em : mn = Sph.mnt s := by rw [vm rfl, show mi.size = 2 by omega, Sph.two_val, b1, b2]; rfl
  have es : sc = Sph.scd s := by rw [vs rfl, show se.size = 2 by omega, Sph.two_val, b3, b4]; rfl
  have esec : d * 3600 + mn * 60 + sc = Sph.sec s := by unfold Sph.sec; rw [ed, em, es]
  have pre : byt s (s.size - 1) = p ∨ byt s (s.size - 1) = m ∧ Sph.sec s ≠ 0 → Sph.frm s p m := fun h => ⟨by omega, by omega, hd'.1 rfl, fun h1 h2 => a3 ⟨by omega, h2⟩, a4, a5, (hm'.1 rfl).1, (hm'.1 rfl).2, (hs'.1 rfl).1, (hs'.1 rfl).2, h⟩
  have yes : Sph.frm s p m → Sph.rang s p m = .agg #[.int .i64 (Sph.sg s p), .bool true, .bool (Sph.fits s)] := fun h => by unfold Sph.rang; rw [if_pos h]
  have f59 : Sph.fits s = (decide (mn < 60) && decide (sc < 60)) := by
    unfold Sph.fits
    rw [em, es, show decide (Sph.mnt s ≤ 59) = decide (Sph.mnt s < 60) from decide_eq_decide.2 (by omega), show decide (Sph.scd s ≤ 59) = decide (Sph.scd s < 60) from decide_eq_decide.2 (by omega)]
  by_cases hp' : byt s (s.size - 1) = p
  · have hp : (byt s (s.size - 1) != p) = false := by simpa using hp'
    have hq : (byt s (s.size - 1) == m) = false := by rw [hp']; simpa using hpm
    rw [yes (pre (.inl hp')), f59, show Sph.sg s p = d * 3600 + mn * 60 + sc by unfold Sph.sg; rw [if_pos hp', esec]]
    by_cases c1 : 1 < k
    · by_cases c2 : mn < 60
      · rw [show decide (mn < 60) = true by simpa using c2, Bool.true_and]
        exact rread_l2t s p m k p0 p1 m0 m1 hz (by omega) (by omega) (by simp; omega) _ (byt_run s 0 (by omega)) (by simp; omega) _ (byt_run' s k (s.size - 7) (by omega) (by omega)) (by simp; omega) _ (byt_run' s (k + 3) (s.size - 4) (by omega) (by omega)) (by simp; omega) de mi se d mn sc _ hde hmi hse d0 d1 n0 n1 s0 s1 r6 HD HM HS _ (by simpa using c2) rfl hp hq w
      · rw [show decide (mn < 60) = false by simpa using c2, Bool.false_and]
        exact rread_l2f s p m k p0 p1 m0 m1 hz (by omega) (by omega) (by simp; omega) _ (byt_run s 0 (by omega)) (by simp; omega) _ (byt_run' s k (s.size - 7) (by omega) (by omega)) (by simp; omega) _ (byt_run' s (k + 3) (s.size - 4) (by omega) (by omega)) (by simp; omega) de mi se d mn sc _ hde hmi hse d0 d1 n0 n1 s0 s1 r6 HD HM HS true (by simpa using c2) hp hq w
    · by_cases c2 : mn < 60
      · rw [show decide (mn < 60) = true by simpa using c2, Bool.true_and]
        exact rread_l1t s p m k p0 p1 m0 m1 hz (by omega) (by omega) (by simp; omega) _ (byt_run' s k (s.size - 7) (by omega) (by omega)) (by simp; omega) _ (byt_run' s (k + 3) (s.size - 4) (by omega) (by omega)) (by simp; omega) de mi se d mn sc _ hde hmi hse d0 d1 n0 n1 s0 s1 r6 HD HM HS _ (by simpa using c2) rfl hp hq w
      · rw [show decide (mn < 60) = false by simpa using c2, Bool.false_and]
        exact rread_l1f s p m k p0 p1 m0 m1 hz (by omega) (by omega) (by simp; omega) _ (byt_run' s k (s.size - 7) (by omega) (by omega)) (by simp; omega) _ (byt_run' s (k + 3) (s.size - 4) (by omega) (by omega)) (by simp; omega) de mi se d mn sc _ hde hmi hse d0 d1 n0 n1 s0 s1 r6 HD HM HS true (by simpa using c2) hp hq w
  have hp : (byt s (s.size - 1) != p) = true := by simpa using hp'
  by_cases hq' : byt s (s.size - 1) = m
  rotate_left
  · have hq : (byt s (s.size - 1) != m) = true := by simpa using hq'
    rw [no (fun f => by have := f.2.2.2.2.2.2.2.2.2.2; rcases this with h | h; exact hp' h; exact hq' h.1)]
    by_cases c1 : 1 < k
    · exact rread_i2 s p m k p0 p1 m0 m1 hz (by omega) (by omega) (by simp; omega) _ (byt_run s 0 (by omega)) (by simp; omega) _ (byt_run' s k (s.size - 7) (by omega) (by omega)) (by simp; omega) _ (byt_run' s (k + 3) (s.size - 4) (by omega) (by omega)) (by simp; omega) de mi se d mn sc _ hde hmi hse d0 d1 n0 n1 s0 s1 r6 HD HM HS hp hq w
    · exact rread_i1 s p m k p0 p1 m0 m1 hz (by omega) (by omega) (by simp; omega) _ (byt_run' s k (s.size - 7) (by omega) (by omega)) (by simp; omega) _ (byt_run' s (k + 3) (s.size - 4) (by omega) (by omega)) (by simp; omega) de mi se d mn sc _ hde hmi hse d0 d1 n0 n1 s0 s1 r6 HD HM HS hp hq w
  have hq : (byt s (s.size - 1) != m) = false := by simpa using hq'
  have hq2 : (byt s (s.size - 1) == m) = true := by simpa using hq'
  by_cases hz' : d = 0 ∧ mn = 0 ∧ sc = 0
  · rw [no (fun f => by have := f.2.2.2.2.2.2.2.2.2.2; rcases this with h | h; exact hp' h; exact h.2 (by omega))]
    by_cases c1 : 1 < k
    · exact rread_j2 s p m k p0 p1 m0 m1 hz (by omega) (by omega) (by simp; omega) _ (byt_run s 0 (by omega)) (by simp; omega) _ (byt_run' s k (s.size - 7) (by omega) (by omega)) (by simp; omega) _ (byt_run' s (k + 3) (s.size - 4) (by omega) (by omega)) (by simp; omega) de mi se d mn sc _ hde hmi hse d0 d1 n0 n1 s0 s1 r6 HD HM HS hp hq hq2 (by simp; omega) (by simp; omega) (by simp; omega) w
    · exact rread_j1 s p m k p0 p1 m0 m1 hz (by omega) (by omega) (by simp; omega) _ (byt_run' s k (s.size - 7) (by omega) (by omega)) (by simp; omega) _ (byt_run' s (k + 3) (s.size - 4) (by omega) (by omega)) (by simp; omega) de mi se d mn sc _ hde hmi hse d0 d1 n0 n1 s0 s1 r6 HD HM HS hp hq hq2 (by simp; omega) (by simp; omega) (by simp; omega) w
  rw [yes (pre (.inr ⟨hq', by omega⟩)), f59, show Sph.sg s p = -(d * 3600 + mn * 60 + sc) by unfold Sph.sg; rw [if_neg hp', esec]]
  by_cases cd : d = 0
  · by_cases cm : mn = 0
    · by_cases c1 : 1 < k
      · by_cases c2 : mn < 60
        · rw [show decide (mn < 60) = true by simpa using c2, Bool.true_and]
          exact rread_k2ts s p m k p0 p1 m0 m1 hz (by omega) (by omega) (by simp; omega) _ (byt_run s 0 (by omega)) (by simp; omega) _ (byt_run' s k (s.size - 7) (by omega) (by omega)) (by simp; omega) _ (byt_run' s (k + 3) (s.size - 4) (by omega) (by omega)) (by simp; omega) de mi se d mn sc _ hde hmi hse d0 d1 n0 n1 s0 s1 r6 HD HM HS _ (by simpa using c2) rfl hp hq hq2 (by simp; omega) (by simp; omega) (by simp; omega) w
        · rw [show decide (mn < 60) = false by simpa using c2, Bool.false_and]
          exact rread_k2fs s p m k p0 p1 m0 m1 hz (by omega) (by omega) (by simp; omega) _ (byt_run s 0 (by omega)) (by simp; omega) _ (byt_run' s k (s.size - 7) (by omega) (by omega)) (by simp; omega) _ (byt_run' s (k + 3) (s.size - 4) (by omega) (by omega)) (by simp; omega) de mi se d mn sc _ hde hmi hse d0 d1 n0 n1 s0 s1 r6 HD HM HS true (by simpa using c2) hp hq hq2 (by simp; omega) (by simp; omega) (by simp; omega) w
      · by_cases c2 : mn < 60
        · rw [show decide (mn < 60) = true by simpa using c2, Bool.true_and]
          exact rread_k1ts s p m k p0 p1 m0 m1 hz (by omega) (by omega) (by simp; omega) _ (byt_run' s k (s.size - 7) (by omega) (by omega)) (by simp; omega) _ (byt_run' s (k + 3) (s.size - 4) (by omega) (by omega)) (by simp; omega) de mi se d mn sc _ hde hmi hse d0 d1 n0 n1 s0 s1 r6 HD HM HS _ (by simpa using c2) rfl hp hq hq2 (by simp; omega) (by simp; omega) (by simp; omega) w
        · rw [show decide (mn < 60) = false by simpa using c2, Bool.false_and]
          exact rread_k1fs s p m k p0 p1 m0 m1 hz (by omega) (by omega) (by simp; omega) _ (byt_run' s k (s.size - 7) (by omega) (by omega)) (by simp; omega) _ (byt_run' s (k + 3) (s.size - 4) (by omega) (by omega)) (by simp; omega) de mi se d mn sc _ hde hmi hse d0 d1 n0 n1 s0 s1 r6 HD HM HS true (by simpa using c2) hp hq hq2 (by simp; omega) (by simp; omega) (by simp; omega) w
    · by_cases c1 : 1 < k
      · by_cases c2 : mn < 60
        · rw [show decide (mn < 60) = true by simpa using c2, Bool.true_and]
          exact rread_k2tm s p m k p0 p1 m0 m1 hz (by omega) (by omega) (by simp; omega) _ (byt_run s 0 (by omega)) (by simp; omega) _ (byt_run' s k (s.size - 7) (by omega) (by omega)) (by simp; omega) _ (byt_run' s (k + 3) (s.size - 4) (by omega) (by omega)) (by simp; omega) de mi se d mn sc _ hde hmi hse d0 d1 n0 n1 s0 s1 r6 HD HM HS _ (by simpa using c2) rfl hp hq hq2 (by simp; omega) (by simp; omega) w
        · rw [show decide (mn < 60) = false by simpa using c2, Bool.false_and]
          exact rread_k2fm s p m k p0 p1 m0 m1 hz (by omega) (by omega) (by simp; omega) _ (byt_run s 0 (by omega)) (by simp; omega) _ (byt_run' s k (s.size - 7) (by omega) (by omega)) (by simp; omega) _ (byt_run' s (k + 3) (s.size - 4) (by omega) (by omega)) (by simp; omega) de mi se d mn sc _ hde hmi hse d0 d1 n0 n1 s0 s1 r6 HD HM HS true (by simpa using c2) hp hq hq2 (by simp; omega) (by simp; omega) w
      · by_cases c2 : mn < 60
        · rw [show decide (mn < 60) = true by simpa using c2, Bool.true_and]
          exact rread_k1tm s p m k p0 p1 m0 m1 hz (by omega) (by omega) (by simp; omega) _ (byt_run' s k (s.size - 7) (by omega) (by omega)) (by simp; omega) _ (byt_run' s (k + 3) (s.size - 4) (by omega) (by omega)) (by simp; omega) de mi se d mn sc _ hde hmi hse d0 d1 n0 n1 s0 s1 r6 HD HM HS _ (by simpa using c2) rfl hp hq hq2 (by simp; omega) (by simp; omega) w
        · rw [show decide (mn < 60) = false by simpa using c2, Bool.false_and]
          exact rread_k1fm s p m k p0 p1 m0 m1 hz (by omega) (by omega) (by simp; omega) _ (byt_run' s k (s.size - 7) (by omega) (by omega)) (by simp; omega) _ (byt_run' s (k + 3) (s.size - 4) (by omega) (by omega)) (by simp; omega) de mi se d mn sc _ hde hmi hse d0 d1 n0 n1 s0 s1 r6 HD HM HS true (by simpa using c2) hp hq hq2 (by simp; omega) (by simp; omega) w
  · by_cases c1 : 1 < k
    · by_cases c2 : mn < 60
      · rw [show decide (mn < 60) = true by simpa using c2, Bool.true_and]
        exact rread_k2td s p m k p0 p1 m0 m1 hz (by omega) (by omega) (by simp; omega) _ (byt_run s 0 (by omega)) (by simp; omega) _ (byt_run' s k (s.size - 7) (by omega) (by omega)) (by simp; omega) _ (byt_run' s (k + 3) (s.size - 4) (by omega) (by omega)) (by simp; omega) de mi se d mn sc _ hde hmi hse d0 d1 n0 n1 s0 s1 r6 HD HM HS _ (by simpa using c2) rfl hp hq hq2 (by simp; omega) w
      · rw [show decide (mn < 60) = false by simpa using c2, Bool.false_and]
        exact rread_k2fd s p m k p0 p1 m0 m1 hz (by omega) (by omega) (by simp; omega) _ (byt_run s 0 (by omega)) (by simp; omega) _ (byt_run' s k (s.size - 7) (by omega) (by omega)) (by simp; omega) _ (byt_run' s (k + 3) (s.size - 4) (by omega) (by omega)) (by simp; omega) de mi se d mn sc _ hde hmi hse d0 d1 n0 n1 s0 s1 r6 HD HM HS true (by simpa using c2) hp hq hq2 (by simp; omega) w
    · by_cases c2 : mn < 60
      · rw [show decide (mn < 60) = true by simpa using c2, Bool.true_and]
        exact rread_k1td s p m k p0 p1 m0 m1 hz (by omega) (by omega) (by simp; omega) _ (byt_run' s k (s.size - 7) (by omega) (by omega)) (by simp; omega) _ (byt_run' s (k + 3) (s.size - 4) (by omega) (by omega)) (by simp; omega) de mi se d mn sc _ hde hmi hse d0 d1 n0 n1 s0 s1 r6 HD HM HS _ (by simpa using c2) rfl hp hq hq2 (by simp; omega) w
      · rw [show decide (mn < 60) = false by simpa using c2, Bool.false_and]
        exact rread_k1fd s p m k p0 p1 m0 m1 hz (by omega) (by omega) (by simp; omega) _ (byt_run' s k (s.size - 7) (by omega) (by omega)) (by simp; omega) _ (byt_run' s (k + 3) (s.size - 4) (by omega) (by omega)) (by simp; omega) de mi se d mn sc _ hde hmi hse d0 d1 n0 n1 s0 s1 r6 HD HM HS true (by simpa using c2) hp hq hq2 (by simp; omega) w
end Go.Proofs.YtmcobpgdledkdaaDoor
