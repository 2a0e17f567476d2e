
/- Contracts of sphere.read and of the reference's read, for all strings. -/
import Derived.Test.YtmcobpgdledkdaaDoorSphR
import Derived.Test.YtmcobpgdledkdaaDoorSphF
import Derived.Laws.DeepStrings4
namespace Go.Proofs.YtmcobpgdledkdaaDoor
open Go.RowKit
set_option linter.unusedVariables false

namespace Sph
def mnt (s : ByteArray) : Int := 10 * (byt s (s.size - 6) - 48) + (byt s (s.size - 5) - 48)
def scd (s : ByteArray) : Int := 10 * (byt s (s.size - 3) - 48) + (byt s (s.size - 2) - 48)
/-- The seconds of an angle's text. -/
def sec (s : ByteArray) : Int := val s (s.size - 7) * 3600 + mnt s * 60 + scd s
/-- Has a text the form of an angle? -/
def frm (s : ByteArray) (p m : Int) : Prop := 8 ≤ s.size ∧ s.size ≤ 10 ∧ (∀ i, i < s.size - 7 → dg (byt s i)) ∧ (1 < s.size - 7 → byt s 0 ≠ 48) ∧ byt s (s.size - 7) = 45 ∧ byt s (s.size - 4) = 45 ∧ dg (byt s (s.size - 6)) ∧ dg (byt s (s.size - 5)) ∧ dg (byt s (s.size - 3)) ∧ dg (byt s (s.size - 2)) ∧ (byt s (s.size - 1) = p ∨ byt s (s.size - 1) = m ∧ sec s ≠ 0)
instance (s : ByteArray) (p m : Int) : Decidable (frm s p m) := by unfold frm; infer_instance
def fits (s : ByteArray) : Bool := decide (mnt s ≤ 59) && decide (scd s ≤ 59)
/-- The angle with its sign. -/
def sg (s : ByteArray) (p : Int) : Int := if byt s (s.size - 1) = p then sec s else -sec s
theorem cnt_frm {s : ByteArray} {p m : Int} (h : frm s p m) : cnt s = s.size - 7 := by
  obtain ⟨h0, h1, h2, _, h3, _⟩ := h
  have n0 : ¬ dg (byt s (s.size - 7)) := by rw [h3]; decide
  have hc : s.size - 7 = 1 ∨ s.size - 7 = 2 ∨ s.size - 7 = 3 := by omega
  unfold cnt
  rcases hc with c | c | c <;> rw [c] at h2 n0 ⊢
  · rw [if_pos (h2 0 (by omega)), if_neg n0]
  · rw [if_pos (h2 0 (by omega)), if_pos (h2 1 (by omega)), if_neg n0]
  · rw [if_pos (h2 0 (by omega)), if_pos (h2 1 (by omega)), if_pos (h2 2 (by omega))]
theorem two_cnt (t : ByteArray) (h : t.size = 2) : cnt t = 2 ↔ dg (byt t 0) ∧ dg (byt t 1) := by
  have h2 : ¬ dg (byt t 2) := by rw [byt_none t 2 (by omega)]; decide
  unfold cnt
  by_cases a : dg (byt t 0)
  · by_cases b : dg (byt t 1)
    · simp [a, b, h2]
    · simp [a, b]
  · simp [a]
theorem two_val (t : ByteArray) : val t 2 = 10 * (byt t 0 - 48) + (byt t 1 - 48) := by
  simp only [val]
  omega
theorem val_999 (s : ByteArray) (c : Nat) (hc : c ≤ 3) (hd : ∀ i, i < c → dg (byt s i)) : 0 ≤ val s c ∧ val s c ≤ 999 := by
  have hb := val_bd s c hd c (by omega)
  have hp : (10 : Int) ^ c ≤ 1000 := by
    match c, hc with
    | 0, _ => decide
    | 1, _ => decide
    | 2, _ => decide
    | 3, _ => decide
  omega
theorem val_cnt (s : ByteArray) : 0 ≤ val s (cnt s) ∧ val s (cnt s) ≤ 999 := val_999 s _ (cnt_le s) (cnt_dg s)
theorem val_cut (s : ByteArray) (k b : Nat) (hb : b ≤ s.size) : ∀ i, i ≤ b → val (s.extract 0 b) i = val s i := by
  intro i
  induction i with
  | zero => intro _; rfl
  | succ i ih => intro h; simp only [val]; rw [ih (by omega), byt_cut s 0 b i hb (by omega), Nat.zero_add]
end Sph

theorem slice_lo (s : ByteArray) (a : Nat) (h : a ≤ s.size) (W : World) : (Instr.slice 9 (.string s) (some (.int .i64 (a : Int))) none none).run Tryd.prog W = .ok (.string (s.extract a s.size)) W := by
  have := run_slice_string_l (P := Tryd.prog) (w := W) 9 s Tryd.underlying9 .i64 (a : Int) (by omega) (by omega)
  simpa using this
theorem slice_hi (s : ByteArray) (b : Nat) (h : b ≤ s.size) (W : World) : (Instr.slice 9 (.string s) none (some (.int .i64 (b : Int))) none).run Tryd.prog W = .ok (.string (s.extract 0 b)) W := by
  have := run_slice_string_h (P := Tryd.prog) (w := W) 9 s Tryd.underlying9 .i64 (b : Int) (by omega) (by omega)
  simpa using this
theorem slice_lh (s : ByteArray) (a b : Nat) (h0 : a ≤ b) (h : b ≤ s.size) (W : World) : (Instr.slice 9 (.string s) (some (.int .i64 (a : Int))) (some (.int .i64 (b : Int))) none).run Tryd.prog W = .ok (.string (s.extract a b)) W := by
  rw [run_slice_string_if W 9 s .i64 .i64 (a : Int) (b : Int) Tryd.underlying9, if_pos (by omega), if_pos (by omega)]
  simp
theorem byt_at {s : ByteArray} {i j : Nat} (h : i = j) : byt s i = byt s j := by rw [h]
theorem APost.no {a a' : Int} {b b' : Bool} {w w' : World} {e : Ending} (h : APost false a b w e w') : APost false a' b' w e w' := by
  obtain ⟨x, y, h1, _, h3⟩ := h
  exact ⟨x, y, h1, (fun h => by cases h), h3⟩

set_option maxHeartbeats 2000000 in
theorem sread_any (s : ByteArray) (p m : Int) (p0 : 0 ≤ p) (p1 : p ≤ 255) (m0 : 0 ≤ m) (m1 : m ≤ 255) (hm : s.size ≤ 9223372036854775807) (w : World) :
    Calls Tryd.prog 22 #[.string s, .int .u8 p, .int .u8 m] w (APost (decide (Sph.frm s p m)) (Sph.sg s p) (Sph.fits s) w) := by
  have no : ∀ {e : Ending} {w' : World} {a : Int} {b : Bool}, ¬ Sph.frm s p m → APost false a b w e w' → APost (decide (Sph.frm s p m)) (Sph.sg s p) (Sph.fits s) w e w' := by
    intro e w' a b f h
    rw [decide_eq_false f]
    exact h.no
  have hl := Sph.cnt_le s
  have hd := Sph.cnt_dg s
  have hv := Sph.val_cnt s
  have hst := Sph.cnt_stop s
  have key : Sph.frm s p m → Sph.cnt s = s.size - 7 := Sph.cnt_frm
  by_cases a1 : Sph.cnt s = 0
  · exact ((sread_a s p m _ (Sph.cnt s : Int) p0 p1 m0 m1 (fun W => sdigits_any s hm W) hv.1 hv.2 (by simp; omega) w).mono fun _ _ h => (no (fun f => by have k := key f; have := f.1; omega) h))
  have hcs : Sph.cnt s ≤ s.size := by
    have := Sph.dg_lt (hd (Sph.cnt s - 1) (by omega))
    omega
  by_cases a2 : 1 < Sph.cnt s ∧ byt s 0 = 48
  · exact ((sread_b s p m _ (Sph.cnt s : Int) p0 p1 m0 m1 (fun W => sdigits_any s hm W) hv.1 hv.2 (by simp; omega) (by omega) (by omega) (by simp; omega) _ (byt_run s 0 (by omega)) (by simp; omega) w).mono fun _ _ h => (no (fun f => by have k := key f; exact f.2.2.2.1 (by omega) a2.2) h))
  have hsz := size_cut s (Sph.cnt s) s.size hcs (Nat.le_refl _)
  have hcut : ∀ i, Sph.cnt s + i < s.size → byt (s.extract (Sph.cnt s) s.size) i = byt s (Sph.cnt s + i) := fun i h => byt_cut s _ _ i (Nat.le_refl _) h
  have hsl := slice_lo s _ hcs
  obtain ⟨rest, hrest⟩ : ∃ r, s.extract (Sph.cnt s) s.size = r := ⟨_, rfl⟩
  rw [hrest] at hsz hcut hsl
  clear hrest
  by_cases a3 : s.size - Sph.cnt s = 7
  rotate_left
  · by_cases c1 : 1 < Sph.cnt s
    · exact ((sread_c2 s p m _ (Sph.cnt s : Int) p0 p1 m0 m1 (fun W => sdigits_any s hm W) hv.1 hv.2 (by simp; omega) (by omega) (by omega) (by simp; omega) _ (byt_run s 0 (by omega)) (by simp; omega) _ hsl (by simp [hsz]; omega) w).mono fun _ _ h => (no (fun f => by have k := key f; have := f.1; omega) h))
    · exact ((sread_c1 s p m _ (Sph.cnt s : Int) p0 p1 m0 m1 (fun W => sdigits_any s hm W) hv.1 hv.2 (by simp; omega) (by omega) (by omega) (by simp; omega) _ hsl (by simp [hsz]; omega) w).mono fun _ _ h => (no (fun f => by have k := key f; have := f.1; omega) h))
  have hk : s.size - 7 = Sph.cnt s := by omega
  have b0 : byt rest 0 = byt s (s.size - 7) := (hcut 0 (by omega)).trans (byt_at (by omega))
  by_cases a4 : byt s (s.size - 7) = 45
  rotate_left
  · by_cases c1 : 1 < Sph.cnt s
    · exact ((sread_d2 s p m _ (Sph.cnt s : Int) p0 p1 m0 m1 (fun W => sdigits_any s hm W) hv.1 hv.2 (by simp; omega) (by omega) (by omega) (by simp; omega) _ (byt_run s 0 (by omega)) (by simp; omega) _ hsl (by simp [hsz]; omega) _ (byt_run _ 0 (by omega)) (by simp [b0]; omega) w).mono fun _ _ h => (no (fun f => by exact a4 f.2.2.2.2.1) h))
    · exact ((sread_d1 s p m _ (Sph.cnt s : Int) p0 p1 m0 m1 (fun W => sdigits_any s hm W) hv.1 hv.2 (by simp; omega) (by omega) (by omega) (by simp; omega) _ hsl (by simp [hsz]; omega) _ (byt_run _ 0 (by omega)) (by simp [b0]; omega) w).mono fun _ _ h => (no (fun f => by exact a4 f.2.2.2.2.1) h))
  have b3 : byt rest 3 = byt s (s.size - 4) := (hcut 3 (by omega)).trans (byt_at (by omega))
  by_cases a5 : byt s (s.size - 4) = 45
  rotate_left
  · by_cases c1 : 1 < Sph.cnt s
    · exact ((sread_e2 s p m _ (Sph.cnt s : Int) p0 p1 m0 m1 (fun W => sdigits_any s hm W) hv.1 hv.2 (by simp; omega) (by omega) (by omega) (by simp; omega) _ (byt_run s 0 (by omega)) (by simp; omega) _ hsl (by simp [hsz]; omega) _ (byt_run _ 0 (by omega)) (by simp [b0]; omega) _ (byt_run _ 3 (by omega)) (by simp [b3]; omega) w).mono fun _ _ h => (no (fun f => by exact a5 f.2.2.2.2.2.1) h))
    · exact ((sread_e1 s p m _ (Sph.cnt s : Int) p0 p1 m0 m1 (fun W => sdigits_any s hm W) hv.1 hv.2 (by simp; omega) (by omega) (by omega) (by simp; omega) _ hsl (by simp [hsz]; omega) _ (byt_run _ 0 (by omega)) (by simp [b0]; omega) _ (byt_run _ 3 (by omega)) (by simp [b3]; omega) w).mono fun _ _ h => (no (fun f => by exact a5 f.2.2.2.2.2.1) h))
  have z1 := size_cut rest 1 3 (by omega) (by omega)
  have z2 := size_cut rest 4 6 (by omega) (by omega)
  have t1 : byt (rest.extract 1 3) 0 = byt s (s.size - 6) := (byt_cut rest 1 3 0 (by omega) (by omega)).trans ((hcut 1 (by omega)).trans (byt_at (by omega)))
  have t2 : byt (rest.extract 1 3) 1 = byt s (s.size - 5) := (byt_cut rest 1 3 1 (by omega) (by omega)).trans ((hcut 2 (by omega)).trans (byt_at (by omega)))
  have t3 : byt (rest.extract 4 6) 0 = byt s (s.size - 3) := (byt_cut rest 4 6 0 (by omega) (by omega)).trans ((hcut 4 (by omega)).trans (byt_at (by omega)))
  have t4 : byt (rest.extract 4 6) 1 = byt s (s.size - 2) := (byt_cut rest 4 6 1 (by omega) (by omega)).trans ((hcut 5 (by omega)).trans (byt_at (by omega)))
  have t6 : byt rest 6 = byt s (s.size - 1) := (hcut 6 (by omega)).trans (byt_at (by omega))
  have l1 := slice_lh rest 1 3 (by omega) (by omega)
  have l2 := slice_lh rest 4 6 (by omega) (by omega)
  obtain ⟨mi, hmi⟩ : ∃ r, rest.extract 1 3 = r := ⟨_, rfl⟩
  obtain ⟨se, hse⟩ : ∃ r, rest.extract 4 6 = r := ⟨_, rfl⟩
  rw [hmi] at z1 t1 t2 l1
  rw [hse] at z2 t3 t4 l2
  clear hmi hse
  have w1 := Sph.two_cnt _ z1
  have w2 := Sph.two_cnt _ z2
  have v1 := Sph.two_val mi
  have v2 := Sph.two_val se
  rw [t1, t2] at w1 v1
  rw [t3, t4] at w2 v2
  have vm := Sph.val_cnt mi
  have vs := Sph.val_cnt se
  by_cases a6 : Sph.cnt mi = 2
  rotate_left
  · by_cases c1 : 1 < Sph.cnt s
    · exact ((sread_f2 s p m _ (Sph.cnt s : Int) p0 p1 m0 m1 (fun W => sdigits_any s hm W) hv.1 hv.2 (by simp; omega) (by omega) (by omega) (by simp; omega) _ (byt_run s 0 (by omega)) (by simp; omega) _ hsl (by simp [hsz]; omega) _ (byt_run _ 0 (by omega)) (by simp [b0]; omega) _ (byt_run _ 3 (by omega)) (by simp [b3]; omega) _ _ _ _ _ _ l1 l2 (fun W => sdigits_any _ (by omega) W) (fun W => sdigits_any _ (by omega) W) vm.1 vm.2 vs.1 vs.2 (by simp; omega) w).mono fun _ _ h => (no (fun f => by exact a6 (w1.2 ⟨f.2.2.2.2.2.2.1, f.2.2.2.2.2.2.2.1⟩)) h))
    · exact ((sread_f1 s p m _ (Sph.cnt s : Int) p0 p1 m0 m1 (fun W => sdigits_any s hm W) hv.1 hv.2 (by simp; omega) (by omega) (by omega) (by simp; omega) _ hsl (by simp [hsz]; omega) _ (byt_run _ 0 (by omega)) (by simp [b0]; omega) _ (byt_run _ 3 (by omega)) (by simp [b3]; omega) _ _ _ _ _ _ l1 l2 (fun W => sdigits_any _ (by omega) W) (fun W => sdigits_any _ (by omega) W) vm.1 vm.2 vs.1 vs.2 (by simp; omega) w).mono fun _ _ h => (no (fun f => by exact a6 (w1.2 ⟨f.2.2.2.2.2.2.1, f.2.2.2.2.2.2.2.1⟩)) h))
  by_cases a7 : Sph.cnt se = 2
  rotate_left
  · by_cases c1 : 1 < Sph.cnt s
    · exact ((sread_g2 s p m _ (Sph.cnt s : Int) p0 p1 m0 m1 (fun W => sdigits_any s hm W) hv.1 hv.2 (by simp; omega) (by omega) (by omega) (by simp; omega) _ (byt_run s 0 (by omega)) (by simp; omega) _ hsl (by simp [hsz]; omega) _ (byt_run _ 0 (by omega)) (by simp [b0]; omega) _ (byt_run _ 3 (by omega)) (by simp [b3]; omega) _ _ _ _ _ _ l1 l2 (fun W => sdigits_any _ (by omega) W) (fun W => sdigits_any _ (by omega) W) vm.1 vm.2 vs.1 vs.2 (by simp; omega) (by simp; omega) w).mono fun _ _ h => (no (fun f => by exact a7 (w2.2 ⟨f.2.2.2.2.2.2.2.2.1, f.2.2.2.2.2.2.2.2.2.1⟩)) h))
    · exact ((sread_g1 s p m _ (Sph.cnt s : Int) p0 p1 m0 m1 (fun W => sdigits_any s hm W) hv.1 hv.2 (by simp; omega) (by omega) (by omega) (by simp; omega) _ hsl (by simp [hsz]; omega) _ (byt_run _ 0 (by omega)) (by simp [b0]; omega) _ (byt_run _ 3 (by omega)) (by simp [b3]; omega) _ _ _ _ _ _ l1 l2 (fun W => sdigits_any _ (by omega) W) (fun W => sdigits_any _ (by omega) W) vm.1 vm.2 vs.1 vs.2 (by simp; omega) (by simp; omega) w).mono fun _ _ h => (no (fun f => by exact a7 (w2.2 ⟨f.2.2.2.2.2.2.2.2.1, f.2.2.2.2.2.2.2.2.2.1⟩)) h))
  have e1 : Sph.val mi (Sph.cnt mi) = Sph.mnt s := by rw [a6, v1]; rfl
  have e2 : Sph.val se (Sph.cnt se) = Sph.scd s := by rw [a7, v2]; rfl
  have e3 : Sph.val s (Sph.cnt s) * 3600 + Sph.mnt s * 60 + Sph.scd s = Sph.sec s := by unfold Sph.sec; rw [hk]
  have HM : Hid (∀ W, Calls Tryd.prog 31 #[.string mi] W fun e w' => e = .returned (.tuple #[.int .i64 (Sph.mnt s), .int .i64 2]) ∧ W = w') := by
    intro W
    have := sdigits_any mi (show mi.size ≤ 9223372036854775807 by omega) W
    rw [e1, a6] at this
    exact this
  have HS : Hid (∀ W, Calls Tryd.prog 31 #[.string se] W fun e w' => e = .returned (.tuple #[.int .i64 (Sph.scd s), .int .i64 2]) ∧ W = w') := by
    intro W
    have := sdigits_any se (show se.size ≤ 9223372036854775807 by omega) W
    rw [e2, a7] at this
    exact this
  rw [e1] at vm
  rw [e2] at vs
  have R6 : ∀ W, (Instr.index 9 (.string rest) (.int .i64 6)).run Tryd.prog W = .ok (.int .u8 (byt s (s.size - 1))) W := by
    intro W
    have := byt_run rest 6 (by omega) W
    rw [t6] at this
    exact this
  have pre : byt s (s.size - 1) = p ∨ byt s (s.size - 1) = m ∧ Sph.sec s ≠ 0 → Sph.frm s p m := fun h => ⟨by omega, by omega, by rw [hk]; exact hd, fun h1 h2 => a2 ⟨by omega, h2⟩, a4, a5, (w1.1 a6).1, (w1.1 a6).2, (w2.1 a7).1, (w2.1 a7).2, h⟩
  by_cases hp' : byt s (s.size - 1) = p
  · have hp : (byt s (s.size - 1) == p) = true := by simpa using hp'
    rw [decide_eq_true (pre (.inl hp'))]
    have hg' : Sph.sg s p = Sph.val s (Sph.cnt s) * 3600 + Sph.mnt s * 60 + Sph.scd s := by unfold Sph.sg; rw [if_pos hp', e3]
    rw [hg']
    unfold Sph.fits
    by_cases c1 : 1 < Sph.cnt s
    · by_cases c2 : Sph.mnt s ≤ 59
      · rw [show decide (Sph.mnt s ≤ 59) = true by simpa using c2, Bool.true_and]
        exact sread_h2t s p m _ (Sph.cnt s : Int) p0 p1 m0 m1 (fun W => sdigits_any s hm W) hv.1 hv.2 (by simp; omega) (by omega) (by omega) (by simp; omega) _ (byt_run s 0 (by omega)) (by simp; omega) _ hsl (by simp [hsz]; omega) _ (byt_run _ 0 (by omega)) (by simp [b0]; omega) _ (byt_run _ 3 (by omega)) (by simp [b3]; omega) _ _ _ _ _ _ l1 l2 HM HS vm.1 vm.2 vs.1 vs.2 rfl rfl _ R6 _ (by simpa using c2) rfl hp w
      · rw [show decide (Sph.mnt s ≤ 59) = false by simpa using c2, Bool.false_and]
        exact sread_h2f s p m _ (Sph.cnt s : Int) p0 p1 m0 m1 (fun W => sdigits_any s hm W) hv.1 hv.2 (by simp; omega) (by omega) (by omega) (by simp; omega) _ (byt_run s 0 (by omega)) (by simp; omega) _ hsl (by simp [hsz]; omega) _ (byt_run _ 0 (by omega)) (by simp [b0]; omega) _ (byt_run _ 3 (by omega)) (by simp [b3]; omega) _ _ _ _ _ _ l1 l2 HM HS vm.1 vm.2 vs.1 vs.2 rfl rfl _ R6 true (by simpa using c2) hp w
    · by_cases c2 : Sph.mnt s ≤ 59
      · rw [show decide (Sph.mnt s ≤ 59) = true by simpa using c2, Bool.true_and]
        exact sread_h1t s p m _ (Sph.cnt s : Int) p0 p1 m0 m1 (fun W => sdigits_any s hm W) hv.1 hv.2 (by simp; omega) (by omega) (by omega) (by simp; omega) _ hsl (by simp [hsz]; omega) _ (byt_run _ 0 (by omega)) (by simp [b0]; omega) _ (byt_run _ 3 (by omega)) (by simp [b3]; omega) _ _ _ _ _ _ l1 l2 HM HS vm.1 vm.2 vs.1 vs.2 rfl rfl _ R6 _ (by simpa using c2) rfl hp w
      · rw [show decide (Sph.mnt s ≤ 59) = false by simpa using c2, Bool.false_and]
        exact sread_h1f s p m _ (Sph.cnt s : Int) p0 p1 m0 m1 (fun W => sdigits_any s hm W) hv.1 hv.2 (by simp; omega) (by omega) (by omega) (by simp; omega) _ hsl (by simp [hsz]; omega) _ (byt_run _ 0 (by omega)) (by simp [b0]; omega) _ (byt_run _ 3 (by omega)) (by simp [b3]; omega) _ _ _ _ _ _ l1 l2 HM HS vm.1 vm.2 vs.1 vs.2 rfl rfl _ R6 true (by simpa using c2) hp w
  have hp : (byt s (s.size - 1) == p) = false := by simpa using hp'
  have hg' : Sph.sg s p = -(Sph.val s (Sph.cnt s) * 3600 + Sph.mnt s * 60 + Sph.scd s) := by unfold Sph.sg; rw [if_neg hp', e3]
  by_cases hq' : byt s (s.size - 1) = m
  · have hq : (byt s (s.size - 1) == m) = true := by simpa using hq'
    by_cases hz' : Sph.sec s = 0
    · have hz : (-(Sph.val s (Sph.cnt s) * 3600 + Sph.mnt s * 60 + Sph.scd s) != 0) = false := by rw [e3]; simp; omega
      rw [decide_eq_false (fun f => by have := f.2.2.2.2.2.2.2.2.2.2; rcases this with h | h; exact hp' h; exact h.2 hz')]
      by_cases c1 : 1 < Sph.cnt s
      · by_cases c2 : Sph.mnt s ≤ 59
        · exact (sread_i2tf s p m _ (Sph.cnt s : Int) p0 p1 m0 m1 (fun W => sdigits_any s hm W) hv.1 hv.2 (by simp; omega) (by omega) (by omega) (by simp; omega) _ (byt_run s 0 (by omega)) (by simp; omega) _ hsl (by simp [hsz]; omega) _ (byt_run _ 0 (by omega)) (by simp [b0]; omega) _ (byt_run _ 3 (by omega)) (by simp [b3]; omega) _ _ _ _ _ _ l1 l2 HM HS vm.1 vm.2 vs.1 vs.2 rfl rfl _ R6 _ (by simpa using c2) rfl hp hq hz w).mono fun _ _ h => h.no
        · exact (sread_i2ff s p m _ (Sph.cnt s : Int) p0 p1 m0 m1 (fun W => sdigits_any s hm W) hv.1 hv.2 (by simp; omega) (by omega) (by omega) (by simp; omega) _ (byt_run s 0 (by omega)) (by simp; omega) _ hsl (by simp [hsz]; omega) _ (byt_run _ 0 (by omega)) (by simp [b0]; omega) _ (byt_run _ 3 (by omega)) (by simp [b3]; omega) _ _ _ _ _ _ l1 l2 HM HS vm.1 vm.2 vs.1 vs.2 rfl rfl _ R6 true (by simpa using c2) hp hq hz w).mono fun _ _ h => h.no
      · by_cases c2 : Sph.mnt s ≤ 59
        · exact (sread_i1tf s p m _ (Sph.cnt s : Int) p0 p1 m0 m1 (fun W => sdigits_any s hm W) hv.1 hv.2 (by simp; omega) (by omega) (by omega) (by simp; omega) _ hsl (by simp [hsz]; omega) _ (byt_run _ 0 (by omega)) (by simp [b0]; omega) _ (byt_run _ 3 (by omega)) (by simp [b3]; omega) _ _ _ _ _ _ l1 l2 HM HS vm.1 vm.2 vs.1 vs.2 rfl rfl _ R6 _ (by simpa using c2) rfl hp hq hz w).mono fun _ _ h => h.no
        · exact (sread_i1ff s p m _ (Sph.cnt s : Int) p0 p1 m0 m1 (fun W => sdigits_any s hm W) hv.1 hv.2 (by simp; omega) (by omega) (by omega) (by simp; omega) _ hsl (by simp [hsz]; omega) _ (byt_run _ 0 (by omega)) (by simp [b0]; omega) _ (byt_run _ 3 (by omega)) (by simp [b3]; omega) _ _ _ _ _ _ l1 l2 HM HS vm.1 vm.2 vs.1 vs.2 rfl rfl _ R6 true (by simpa using c2) hp hq hz w).mono fun _ _ h => h.no
    · have hz : (-(Sph.val s (Sph.cnt s) * 3600 + Sph.mnt s * 60 + Sph.scd s) != 0) = true := by rw [e3]; simp; omega
      rw [decide_eq_true (pre (.inr ⟨hq', hz'⟩)), hg']
      unfold Sph.fits
      by_cases c1 : 1 < Sph.cnt s
      · by_cases c2 : Sph.mnt s ≤ 59
        · rw [show decide (Sph.mnt s ≤ 59) = true by simpa using c2, Bool.true_and]
          exact sread_i2tt s p m _ (Sph.cnt s : Int) p0 p1 m0 m1 (fun W => sdigits_any s hm W) hv.1 hv.2 (by simp; omega) (by omega) (by omega) (by simp; omega) _ (byt_run s 0 (by omega)) (by simp; omega) _ hsl (by simp [hsz]; omega) _ (byt_run _ 0 (by omega)) (by simp [b0]; omega) _ (byt_run _ 3 (by omega)) (by simp [b3]; omega) _ _ _ _ _ _ l1 l2 HM HS vm.1 vm.2 vs.1 vs.2 rfl rfl _ R6 _ (by simpa using c2) rfl hp hq hz w
        · rw [show decide (Sph.mnt s ≤ 59) = false by simpa using c2, Bool.false_and]
          exact sread_i2ft s p m _ (Sph.cnt s : Int) p0 p1 m0 m1 (fun W => sdigits_any s hm W) hv.1 hv.2 (by simp; omega) (by omega) (by omega) (by simp; omega) _ (byt_run s 0 (by omega)) (by simp; omega) _ hsl (by simp [hsz]; omega) _ (byt_run _ 0 (by omega)) (by simp [b0]; omega) _ (byt_run _ 3 (by omega)) (by simp [b3]; omega) _ _ _ _ _ _ l1 l2 HM HS vm.1 vm.2 vs.1 vs.2 rfl rfl _ R6 true (by simpa using c2) hp hq hz w
      · by_cases c2 : Sph.mnt s ≤ 59
        · rw [show decide (Sph.mnt s ≤ 59) = true by simpa using c2, Bool.true_and]
          exact sread_i1tt s p m _ (Sph.cnt s : Int) p0 p1 m0 m1 (fun W => sdigits_any s hm W) hv.1 hv.2 (by simp; omega) (by omega) (by omega) (by simp; omega) _ hsl (by simp [hsz]; omega) _ (byt_run _ 0 (by omega)) (by simp [b0]; omega) _ (byt_run _ 3 (by omega)) (by simp [b3]; omega) _ _ _ _ _ _ l1 l2 HM HS vm.1 vm.2 vs.1 vs.2 rfl rfl _ R6 _ (by simpa using c2) rfl hp hq hz w
        · rw [show decide (Sph.mnt s ≤ 59) = false by simpa using c2, Bool.false_and]
          exact sread_i1ft s p m _ (Sph.cnt s : Int) p0 p1 m0 m1 (fun W => sdigits_any s hm W) hv.1 hv.2 (by simp; omega) (by omega) (by omega) (by simp; omega) _ hsl (by simp [hsz]; omega) _ (byt_run _ 0 (by omega)) (by simp [b0]; omega) _ (byt_run _ 3 (by omega)) (by simp [b3]; omega) _ _ _ _ _ _ l1 l2 HM HS vm.1 vm.2 vs.1 vs.2 rfl rfl _ R6 true (by simpa using c2) hp hq hz w
  · have hq : (byt s (s.size - 1) == m) = false := by simpa using hq'
    rw [decide_eq_false (fun f => by have := f.2.2.2.2.2.2.2.2.2.2; rcases this with h | h; exact hp' h; exact hq' h.1)]
    by_cases c1 : 1 < Sph.cnt s
    · by_cases c2 : Sph.mnt s ≤ 59
      · exact (sread_j2t s p m _ (Sph.cnt s : Int) p0 p1 m0 m1 (fun W => sdigits_any s hm W) hv.1 hv.2 (by simp; omega) (by omega) (by omega) (by simp; omega) _ (byt_run s 0 (by omega)) (by simp; omega) _ hsl (by simp [hsz]; omega) _ (byt_run _ 0 (by omega)) (by simp [b0]; omega) _ (byt_run _ 3 (by omega)) (by simp [b3]; omega) _ _ _ _ _ _ l1 l2 HM HS vm.1 vm.2 vs.1 vs.2 rfl rfl _ R6 _ (by simpa using c2) rfl hp hq w).mono fun _ _ h => h.no
      · exact (sread_j2f s p m _ (Sph.cnt s : Int) p0 p1 m0 m1 (fun W => sdigits_any s hm W) hv.1 hv.2 (by simp; omega) (by omega) (by omega) (by simp; omega) _ (byt_run s 0 (by omega)) (by simp; omega) _ hsl (by simp [hsz]; omega) _ (byt_run _ 0 (by omega)) (by simp [b0]; omega) _ (byt_run _ 3 (by omega)) (by simp [b3]; omega) _ _ _ _ _ _ l1 l2 HM HS vm.1 vm.2 vs.1 vs.2 rfl rfl _ R6 true (by simpa using c2) hp hq w).mono fun _ _ h => h.no
    · by_cases c2 : Sph.mnt s ≤ 59
      · exact (sread_j1t s p m _ (Sph.cnt s : Int) p0 p1 m0 m1 (fun W => sdigits_any s hm W) hv.1 hv.2 (by simp; omega) (by omega) (by omega) (by simp; omega) _ hsl (by simp [hsz]; omega) _ (byt_run _ 0 (by omega)) (by simp [b0]; omega) _ (byt_run _ 3 (by omega)) (by simp [b3]; omega) _ _ _ _ _ _ l1 l2 HM HS vm.1 vm.2 vs.1 vs.2 rfl rfl _ R6 _ (by simpa using c2) rfl hp hq w).mono fun _ _ h => h.no
      · exact (sread_j1f s p m _ (Sph.cnt s : Int) p0 p1 m0 m1 (fun W => sdigits_any s hm W) hv.1 hv.2 (by simp; omega) (by omega) (by omega) (by simp; omega) _ hsl (by simp [hsz]; omega) _ (byt_run _ 0 (by omega)) (by simp [b0]; omega) _ (byt_run _ 3 (by omega)) (by simp [b3]; omega) _ _ _ _ _ _ l1 l2 HM HS vm.1 vm.2 vs.1 vs.2 rfl rfl _ R6 true (by simpa using c2) hp hq w).mono fun _ _ h => h.no
end Go.Proofs.YtmcobpgdledkdaaDoor
