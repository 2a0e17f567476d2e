
/- Contract of gridref.steps. -/
import Derived.Test.YtcaabaijkidmgaaDoorGrfA
import Derived.Test.YtcaabaijkidmgaaDoorPP
import Derived.Deep.LoopGhost
namespace Go.Proofs.YtcaabaijkidmgaaDoor
open Go.RowKit
set_option linter.unusedVariables false

namespace Grf
/-- The numbers from a on in steps. -/
def num (a st : Int) : Nat → List Int
  | 0 => []
  | k + 1 => num a st k ++ [a + (k : Int) * st]
theorem num_len (a st : Int) (k : Nat) : (num a st k).length = k := by
  induction k with
  | zero => rfl
  | succ k ih => simp [num, ih]
theorem cl_iff (A st k : Int) (A0 : 0 ≤ A) (s0 : 1 ≤ st) : k < cl A st ↔ k * st < A := by
  have h4 := Int.mul_ediv_add_emod A st
  have h5 := Int.emod_nonneg A (show st ≠ 0 by omega)
  have h6 := Int.emod_lt_of_pos A (show 0 < st by omega)
  rw [Int.mul_comm] at h4
  unfold cl
  constructor
  · intro h
    split at h
    · have h1 : (k + 1) * st ≤ A / st * st := Int.mul_le_mul_of_nonneg_right (by omega) (by omega)
      rw [Int.add_mul] at h1
      omega
    · have h1 : k * st ≤ A / st * st := Int.mul_le_mul_of_nonneg_right (by omega) (by omega)
      omega
  · intro h
    apply Classical.byContradiction
    intro c
    split at c
    · have h1 : A / st * st ≤ k * st := Int.mul_le_mul_of_nonneg_right (by omega) (by omega)
      omega
    · have h1 : (A / st + 1) * st ≤ k * st := Int.mul_le_mul_of_nonneg_right (by omega) (by omega)
      rw [Int.add_mul] at h1
      omega
theorem cl_nn (A st : Int) (A0 : 0 ≤ A) (s0 : 1 ≤ st) : 0 ≤ cl A st := by
  have h := Int.ediv_nonneg A0 (show 0 ≤ st by omega)
  unfold cl
  split <;> omega
/-- Are the numbers of a line in range? -/
def inr (a b st : Int) : Prop := 1 ≤ st ∧ a ≤ b ∧ -648000 ≤ a ∧ b ≤ 648000
end Grf
def StepPost (l : List Int) (er : Int) (w : World) (e : Ending) (w' : World) : Prop := ∃ v, e = .returned (.tuple #[v, .int .i64 er]) ∧ Ints w' v l ∧ Q w w'
theorem steps_err (K L A S a b st er : Int) (her : (er != 0) = true) (w : World) (HC : Hid (∀ w, Calls Tryd.prog 56 #[.agg #[.int .i64 K, .int .i64 L, .int .i64 A, .int .i64 S]] w fun e w' => e = .returned (.int .i64 er) ∧ Q w w')) :
    Calls Tryd.prog 41 #[.agg #[.int .i64 K, .int .i64 L, .int .i64 A, .int .i64 S], .int .i64 a, .int .i64 b, .int .i64 st] w (StepPost [] er w) := by
  go_enter Tryd.func41, Tryd.ntmps41
  go_wp2_with fail
  refine wp_scope_jumps 0 (fun _ _ => False) (fun _ _ => 0) rfl ?_ (fun _ _ h => h.elim)
  go_wp2_with fail
  refine (HC.out _).mono ?_
  rintro e w1 ⟨rfl, q1⟩
  go_wp2_with fail
  simp only [Exit.jump]
  go_ret2
  exact ⟨_, rfl, Ints.nil _, q1.behind _⟩
set_option maxHeartbeats 2000000 in
theorem steps_arg (K L A S a b st : Int) (w : World) (h : Prj.Ok K L A S) (hr : ¬ Grf.inr a b st) :
    Calls Tryd.prog 41 #[.agg #[.int .i64 K, .int .i64 L, .int .i64 A, .int .i64 S], .int .i64 a, .int .i64 b, .int .i64 st] w (StepPost [] 1 w) := by
  have HC := Lib.hid (fun W => pcheck_yes K L A S W h)
  unfold Grf.inr at hr
  clear h
  by_cases c0 : st < 1
  · have d0 : decide (st < 1) = true := by simpa using c0
    clear hr
    go_enter Tryd.func41, Tryd.ntmps41
    go_wp2_with fail
    refine wp_scope_jumps 0 (fun _ _ => False) (fun _ _ => 0) rfl ?_ (fun _ _ h => h.elim)
    go_wp2_with fail
    refine (HC.out _).mono ?_
    rintro e w1 ⟨rfl, q1⟩
    go_wp2_with fail
    simp only [Exit.jump]
    go_ret2
    exact ⟨_, rfl, Ints.nil _, q1.behind _⟩
  have d0 : decide (st < 1) = false := by simpa using c0
  by_cases c1 : b < a
  · have d1 : decide (b < a) = true := by simpa using c1
    clear hr
    go_enter Tryd.func41, Tryd.ntmps41
    go_wp2_with fail
    refine wp_scope_jumps 0 (fun _ _ => False) (fun _ _ => 0) rfl ?_ (fun _ _ h => h.elim)
    go_wp2_with fail
    refine (HC.out _).mono ?_
    rintro e w1 ⟨rfl, q1⟩
    go_wp2_with fail
    simp only [Exit.jump]
    go_ret2
    exact ⟨_, rfl, Ints.nil _, q1.behind _⟩
  have d1 : decide (b < a) = false := by simpa using c1
  by_cases c2 : a < -648000
  · have d2 : decide (a < -648000) = true := by simpa using c2
    clear hr
    go_enter Tryd.func41, Tryd.ntmps41
    go_wp2_with fail
    refine wp_scope_jumps 0 (fun _ _ => False) (fun _ _ => 0) rfl ?_ (fun _ _ h => h.elim)
    go_wp2_with fail
    refine (HC.out _).mono ?_
    rintro e w1 ⟨rfl, q1⟩
    go_wp2_with fail
    simp only [Exit.jump]
    go_ret2
    exact ⟨_, rfl, Ints.nil _, q1.behind _⟩
  have d2 : decide (a < -648000) = false := by simpa using c2
  have d3 : decide (648000 < b) = true := by simp; omega
  clear hr
  go_enter Tryd.func41, Tryd.ntmps41
  go_wp2_with fail
  refine wp_scope_jumps 0 (fun _ _ => False) (fun _ _ => 0) rfl ?_ (fun _ _ h => h.elim)
  go_wp2_with fail
  refine (HC.out _).mono ?_
  rintro e w1 ⟨rfl, q1⟩
  go_wp2_with fail
  simp only [Exit.jump]
  go_ret2
  exact ⟨_, rfl, Ints.nil _, q1.behind _⟩
set_option maxHeartbeats 2000000 in
theorem steps_limit (K L A S a b st : Int) (w : World) (h : Prj.Ok K L A S) (hr : Grf.inr a b st) (s1 : st ≤ 9223372036854775807) (hn : 4096 ≤ Grf.cl (b - a) st) :
    Calls Tryd.prog 41 #[.agg #[.int .i64 K, .int .i64 L, .int .i64 A, .int .i64 S], .int .i64 a, .int .i64 b, .int .i64 st] w (StepPost [] 3 w) := by
  have HC := Lib.hid (fun W => pcheck_yes K L A S W h)
  obtain ⟨r0, r1, r2, r3⟩ := hr
  have HL := Lib.hid (fun W => ceil_nn (b - a) st (by omega) (by omega) r0 s1 W)
  generalize Grf.cl (b - a) st = nn at *
  have d0 : decide (st < 1) = false := by simpa using r0
  have d1 : decide (b < a) = false := by simpa using r1
  have d2 : decide (a < -648000) = false := by simpa using r2
  have d3 : decide (648000 < b) = false := by simpa using r3
  have d4 : decide (4096 ≤ nn) = true := by simpa using hn
  clear h
  go_enter Tryd.func41, Tryd.ntmps41
  go_wp2_with fail
  refine wp_scope_jumps 0 (fun _ _ => False) (fun _ _ => 0) rfl ?_ (fun _ _ h => h.elim)
  go_wp2_with fail
  refine (HC.out _).mono ?_
  rintro e w1 ⟨rfl, q1⟩
  go_wp2_with fail
  refine (HL.out _).mono ?_
  rintro e w2 ⟨rfl, rfl⟩
  go_wp2_with fail
  simp only [Exit.jump]
  go_ret2
  exact ⟨_, rfl, Ints.nil _, q1.behind _⟩
set_option maxRecDepth 100000 in
set_option maxHeartbeats 8000000 in
theorem steps_in (K L A S a b st : Int) (n : Nat) (w : World) (h : Prj.Ok K L A S) (hr : Grf.inr a b st) (s1 : st ≤ 9223372036854775807) (hn : Grf.cl (b - a) st = (n : Int)) (hn1 : n < 4096) :
    Calls Tryd.prog 41 #[.agg #[.int .i64 K, .int .i64 L, .int .i64 A, .int .i64 S], .int .i64 a, .int .i64 b, .int .i64 st] w (StepPost (Grf.num a st n ++ [b]) 0 w) := by
  have HC := Lib.hid (fun W => pcheck_yes K L A S W h)
  obtain ⟨r0, r1, r2, r3⟩ := hr
  have HL := Lib.hid (fun W => ceil_nn (b - a) st (by omega) (by omega) r0 s1 W)
  have HST := Lib.hid (show ∀ k : Nat, k < n → 0 ≤ (k : Int) * st ∧ (k : Int) * st < b - a from fun k hk => ⟨Int.mul_nonneg (by omega) (by omega), (Grf.cl_iff (b - a) st k (by omega) r0).1 (by omega)⟩)
  obtain ⟨nn, hnn⟩ : ∃ nn, Grf.cl (b - a) st = nn := ⟨_, rfl⟩
  rw [hnn] at HL hn
  have HN := Lib.hid hn
  have nn0 : 0 ≤ nn := by omega
  have nn1 : nn < 4096 := by omega
  have d0 : decide (st < 1) = false := by simpa using r0
  have d1 : decide (b < a) = false := by simpa using r1
  have d2 : decide (a < -648000) = false := by simpa using r2
  have d3 : decide (648000 < b) = false := by simpa using r3
  have d4 : decide (4096 ≤ nn) = false := by simp; omega
  obtain ⟨i0, hi, hz0, hz1, hz2⟩ := info_parts infoInt
  have HI := Lib.hid hi
  clear h hnn hn hi
  go_enter Tryd.func41, Tryd.ntmps41
  go_wp2_with fail
  refine wp_scope_jumps 0 (fun a' w' => ∃ (k : Nat) (kk : Int) (v u5 u6 u7 u12 u13 u14 u15 u16 u17 u18 u19 u20 u21 u22 u23 u24 u25 u26 u27 u28 u29 u30 u31 u32 u33 u34 u35 u36 u37 u38 u39 u40 u41 u42 u43 u44 u45 u46 u47 u48 u49 u50 u51 u52 u53 u54 u55 u56 u57 u58 u59 u60 u61 : Value), k ≤ n ∧ (k : Int) = kk ∧ Hid (w'.ownsRow w.heap.size 3 1 v k ((Grf.num a st k).map (Value.int .i64))) ∧ Q w w' ∧ a' = { tmps := #[.agg #[.int .i64 K, .int .i64 L, .int .i64 A, .int .i64 S], .int .i64 a, .int .i64 b, .int .i64 st, .pointer (some ⟨w.heap.size, 0, none⟩), u5, u6, u7, v, .int .i64 0, .int .i64 nn, .int .i64 kk, u12, u13, u14, u15, u16, u17, u18, u19, u20, u21, u22, u23, u24, u25, u26, u27, u28, u29, u30, u31, u32, u33, u34, u35, u36, u37, u38, u39, u40, u41, u42, u43, u44, u45, u46, u47, u48, u49, u50, u51, u52, u53, u54, u55, u56, u57, u58, u59, u60, u61], defers := [] }) (fun a' _ => n - (intOf (a'.tmps.getD 11 undef)).toNat) rfl ?_ ?_
  · go_wp2_with fail
    refine (HC.out _).mono ?_
    rintro e w1 ⟨rfl, q1⟩
    go_wp2_with fail
    refine (HL.out _).mono ?_
    rintro e w2 ⟨rfl, rfl⟩
    go_wp2_with fail
    go_step3
    have HO := Lib.hid (World.ownsRow_nil w1 w.heap.size 3 1)
    have qw := q1.behind _
    have HE := Lib.hid (show Grf.num a st 0 = [] from rfl)
    by_cases hk : n = 0
    · have HK := Lib.hid (show 0 = n from hk.symm)
      have d5 : decide (0 < nn) = false := by have := HN.out; simp; omega
      clear hk
      go_wp2_with (at_builtin; refine wpList_append_own _ rfl _ _ 38 rfl w.heap.size 3 i0 (.int .i64 0) 1 8 Tryd.underlying38 HI.out hz0 hz1 hz2 rfl (by decide) _ _ _ rfl ((HO.out).alloc _) ⟨w1.heap.size, 0, none⟩ 1 1 [.int .i64 b] rfl rfl ?c1 ?c2 ?c3 ?c4 ?c5 ?_)
      case c1 => intro j u hu; cases j with
        | zero => simp at hu; subst hu; simp [Addr.add]
        | succ j => simp at hu
      case c2 => intro u hu; simp at hu; subst hu; rfl
      case c3 => unfold maxLen; omega
      case c4 => omega
      case c5 => have := (qw).sz; simp; omega
      intro v' w4 hown4 hgrow _
      have q4 : Q w w4 := Q.grown ((qw).alloc _) hgrow (fun g hg => ((HO.out).lt g hg).1)
      have HO4 := Lib.hid hown4
      clear hown4 hgrow
      go_wp2_with fail
      simp only [Exit.jump]
      go_ret2
      exact ⟨v', rfl, Ints.own (base := w.heap.size) (l := Grf.num a st n ++ [b]) (by have := HO4.out; have e := HK.out; subst e; simpa [Grf.num, Grf.num_len] using this), q4⟩
    · have d5 : decide (0 < nn) = true := by have := HN.out; simp; omega
      have HX := HST.out 0 (by omega)
      go_wp2_with (at_builtin; refine wpList_append_own _ rfl _ _ 38 rfl w.heap.size 3 i0 (.int .i64 0) 1 8 Tryd.underlying38 HI.out hz0 hz1 hz2 rfl (by decide) _ _ _ rfl ((HO.out).alloc _) ⟨w1.heap.size, 0, none⟩ 1 1 [.int .i64 a] rfl rfl ?c1 ?c2 ?c3 ?c4 ?c5 ?_)
      case c1 => intro j u hu; cases j with
        | zero => simp at hu; subst hu; simp [Addr.add]
        | succ j => simp at hu
      case c2 => intro u hu; simp at hu; subst hu; rfl
      case c3 => unfold maxLen; omega
      case c4 => omega
      case c5 => have := (qw).sz; simp; omega
      intro v' w4 hown4 hgrow _
      have q4 : Q w w4 := Q.grown ((qw).alloc _) hgrow (fun g hg => ((HO.out).lt g hg).1)
      have HO4 := Lib.hid hown4
      clear hown4 hgrow
      go_wp2_with fail
      go_step3
      refine ⟨rfl, 1, 1, _, _, _, _, _, _, _, _, _, _, _, _, _, _, _, _, _, _, _, _, _, _, _, _, _, _, _, _, _, _, _, _, _, _, _, _, _, _, _, _, _, _, _, _, _, _, _, _, _, _, _, _, _, _, by omega, rfl, ?_, q4, rfl⟩
      have := HO4.out
      exact Lib.hid (by simpa [Grf.num] using this)
  · rintro a' w3 ⟨k, kk, v, u5, u6, u7, u12, u13, u14, u15, u16, u17, u18, u19, u20, u21, u22, u23, u24, u25, u26, u27, u28, u29, u30, u31, u32, u33, u34, u35, u36, u37, u38, u39, u40, u41, u42, u43, u44, u45, u46, u47, u48, u49, u50, u51, u52, u53, u54, u55, u56, u57, u58, u59, u60, u61, hk, hkk, HO, qw, rfl⟩
    have hlen := Grf.num_len a st k
    have hk0 : 0 ≤ kk := by omega
    have hk1 : kk ≤ 4096 := by omega
    by_cases hkn : k = n
    · have HK := Lib.hid hkn
      have d5 : decide (kk < nn) = false := by have := HN.out; simp; omega
      clear hkn hkk
      obtain ⟨A', c', rfl, hc⟩ := own_slice HO.out
      clear hlen
      go_wp2_with (at_builtin; refine wpList_append_own _ rfl _ _ 38 rfl w.heap.size 3 i0 (.int .i64 0) 1 8 Tryd.underlying38 HI.out hz0 hz1 hz2 rfl (by decide) _ _ _ rfl ((HO.out).alloc _) ⟨w3.heap.size, 0, none⟩ 1 1 [.int .i64 b] rfl rfl ?c1 ?c2 ?c3 ?c4 ?c5 ?_)
      case c1 => intro j u hu; cases j with
        | zero => simp at hu; subst hu; simp [Addr.add]
        | succ j => simp at hu
      case c2 => intro u hu; simp at hu; subst hu; rfl
      case c3 => unfold maxLen; omega
      case c4 => omega
      case c5 => have := (qw).sz; simp; omega
      intro v' w4 hown4 hgrow _
      have q4 : Q w w4 := Q.grown ((qw).alloc _) hgrow (fun g hg => ((HO.out).lt g hg).1)
      have HO4 := Lib.hid hown4
      clear hown4 hgrow
      go_wp2_with fail
      simp only [Exit.jump]
      go_ret2
      exact ⟨v', rfl, Ints.own (base := w.heap.size) (l := Grf.num a st n ++ [b]) (by have := HO4.out; have e := HK.out; subst e; simpa [Grf.num, Grf.num_len] using this), q4⟩
    · have HX := HST.out k (by omega)
      rw [hkk] at HX
      have HKK := Lib.hid hkk
      have d5 : decide (kk < nn) = true := by have := HN.out; simp; omega
      have HV := Lib.hid (show Grf.num a st (k + 1) = Grf.num a st k ++ [a + (k : Int) * st] from rfl)
      rw [hkk] at HV
      obtain ⟨p, hp⟩ : ∃ p, kk * st = p := ⟨_, rfl⟩
      rw [hp] at HX HV
      obtain ⟨p0, p1⟩ := HX
      clear hkk
      obtain ⟨A', c', rfl, hc⟩ := own_slice HO.out
      clear hlen
      go_wp2_with (at_builtin; refine wpList_append_own _ rfl _ _ 38 rfl w.heap.size 3 i0 (.int .i64 0) 1 8 Tryd.underlying38 HI.out hz0 hz1 hz2 rfl (by decide) _ _ _ rfl ((HO.out).alloc _) ⟨w3.heap.size, 0, none⟩ 1 1 [.int .i64 (a + p)] rfl rfl ?c1 ?c2 ?c3 ?c4 ?c5 ?_)
      case c1 => intro j u hu; cases j with
        | zero => simp at hu; subst hu; simp [Addr.add]
        | succ j => simp at hu
      case c2 => intro u hu; simp at hu; subst hu; rfl
      case c3 => unfold maxLen; omega
      case c4 => omega
      case c5 => have := (qw).sz; simp; omega
      intro v' w4 hown4 hgrow _
      have q4 : Q w w4 := Q.grown ((qw).alloc _) hgrow (fun g hg => ((HO.out).lt g hg).1)
      have HO4 := Lib.hid hown4
      clear hown4 hgrow
      go_wp2_with fail
      go_step3
      refine ⟨rfl, ⟨k + 1, kk + 1, _, _, _, _, _, _, _, _, _, _, _, _, _, _, _, _, _, _, _, _, _, _, _, _, _, _, _, _, _, _, _, _, _, _, _, _, _, _, _, _, _, _, _, _, _, _, _, _, _, _, _, _, _, _, by omega, by have := HKK.out; omega, ?_, q4, rfl⟩, ?_⟩
      · rw [HV.out]
        exact Lib.hid (by simpa using HO4.out)
      · have := HKK.out
        simp [intOf]
        omega
end Go.Proofs.YtcaabaijkidmgaaDoor
