
/- Contracts of the reference's numbers and steps. -/
import Derived.Test.YtcaabaijkidmgaaDoorGrfK
namespace Go.Proofs.YtcaabaijkidmgaaDoor
open Go.RowKit
set_option linter.unusedVariables false

theorem rsteps_any (a b st : Int) (w : World) (o : Bool) (ho : o = true ↔ Grf.inr a b st) :
    Calls Tryd.prog 59 #[.int .i64 a, .int .i64 b, .int .i64 st] w (fun e w' => e = .returned (.bool o) ∧ w' = w) := by
  unfold Grf.inr at ho
  by_cases c0 : 1 ≤ st
  rotate_left
  · have d0 : decide (1 ≤ st) = false := by simpa using c0
    have e : o = false := by
      cases o with
      | false => rfl
      | true => exact absurd (ho.1 rfl) (by omega)
    subst e
    clear ho
    go_enter Tryd.func59, Tryd.ntmps59
    go_wp2_with fail
    go_ret
    exact ⟨rfl, rfl⟩
  have d0 : decide (1 ≤ st) = true := by simpa using c0
  by_cases c1 : a ≤ b
  rotate_left
  · have d1 : decide (a ≤ b) = false := by simpa using c1
    have e : o = false := by
      cases o with
      | false => rfl
      | true => exact absurd (ho.1 rfl) (by omega)
    subst e
    clear ho
    go_enter Tryd.func59, Tryd.ntmps59
    go_wp2_with fail
    go_ret
    exact ⟨rfl, rfl⟩
  have d1 : decide (a ≤ b) = true := by simpa using c1
  by_cases c2 : -648000 ≤ a
  rotate_left
  · have d2 : decide (-648000 ≤ a) = false := by simpa using c2
    have e : o = false := by
      cases o with
      | false => rfl
      | true => exact absurd (ho.1 rfl) (by omega)
    subst e
    clear ho
    go_enter Tryd.func59, Tryd.ntmps59
    go_wp2_with fail
    go_ret
    exact ⟨rfl, rfl⟩
  have d2 : decide (-648000 ≤ a) = true := by simpa using c2
  by_cases c3 : b ≤ 648000
  · have d3 : decide (b ≤ 648000) = true := by simpa using c3
    have e : o = true := ho.2 ⟨c0, c1, c2, c3⟩
    subst e
    clear ho
    go_enter Tryd.func59, Tryd.ntmps59
    go_wp2_with fail
    go_ret
    exact ⟨rfl, rfl⟩
  · have d3 : decide (b ≤ 648000) = false := by simpa using c3
    have e : o = false := by
      cases o with
      | false => rfl
      | true => exact absurd (ho.1 rfl) (by omega)
    subst e
    clear ho
    go_enter Tryd.func59, Tryd.ntmps59
    go_wp2_with fail
    go_ret
    exact ⟨rfl, rfl⟩
def NumPost (l : List Int) (w : World) (e : Ending) (w' : World) : Prop := ∃ v, e = .returned v ∧ Ints w' v l ∧ Q w w'
set_option maxRecDepth 100000 in
set_option maxHeartbeats 4000000 in
theorem rnumbers_zero (a st : Int) (w : World) :
    Calls Tryd.prog 60 #[.int .i64 a, .int .i64 a, .int .i64 st] w (NumPost [a] w) := by
  have d5 : decide (a < a) = false := by simp
  obtain ⟨i0, hi, hz0, hz1, hz2⟩ := info_parts infoInt
  have HI := Lib.hid hi
  clear hi
  go_enter Tryd.func60, Tryd.ntmps60
  go_wp2_with fail
  go_loopw [7, 8] (fun v i wr => v = .slice none 0 0 ∧ i = .int .i64 a ∧ Q w wr) (fun _ _ _ => 0)
  case atStart => exact ⟨rfl, rfl, Q.refl w⟩
  case round =>
    obtain ⟨rfl, rfl, hq⟩ := hrel
    have HO := Lib.hid (World.ownsRow_nil wr w.heap.size 3 1)
    go_wp2_with (at_builtin; refine wpList_append_own _ rfl _ _ 38 rfl w.heap.size 3 i0 (.int .i64 0) 1 8 Tryd.underlying38 HI.out hz0 hz1 hz2 rfl (by decide) _ _ _ rfl ((HO.out).alloc _) ⟨wr.heap.size, 0, none⟩ 1 1 [.int .i64 a] rfl rfl ?c1 ?c2 ?c3 ?c4 ?c5 ?_)
    case c1 => intro j u hu; cases j with
      | zero => simp at hu; subst hu; simp [Addr.add]
      | succ j => simp at hu
    case c2 => intro u hu; simp at hu; subst hu; rfl
    case c3 => unfold maxLen; omega
    case c4 => omega
    case c5 => have := (hq).sz; simp; omega
    intro v' w4 hown4 hgrow _
    have q4 : Q w w4 := Q.grown ((hq).alloc _) hgrow (fun g hg => ((HO.out).lt g hg).1)
    have HO4 := Lib.hid hown4
    clear hown4 hgrow
    go_wp2_with fail
    go_ret
    exact ⟨v', rfl, Ints.own (base := w.heap.size) (l := [a]) (by simpa using HO4.out), q4⟩
set_option maxRecDepth 100000 in
set_option maxHeartbeats 8000000 in
theorem rnumbers_in (a b st : Int) (m : Nat) (w : World) (hr : Grf.inr a b st) (s1 : st ≤ 9223372036854775807) (hm0 : 1 ≤ m) (hm1 : m ≤ 4097) (hm2 : (m : Int) ≤ Grf.cl (b - a) st) (hm3 : m = 4097 ∨ (m : Int) = Grf.cl (b - a) st) :
    Calls Tryd.prog 60 #[.int .i64 a, .int .i64 b, .int .i64 st] w (NumPost (Grf.num a st m ++ [b]) w) := by
  obtain ⟨r0, r1, r2, r3⟩ := hr
  have HST := Lib.hid (show ∀ k : Nat, k < m → 0 ≤ (k : Int) * st ∧ (k : Int) * st < b - a from fun k hk => ⟨Int.mul_nonneg (by omega) (by omega), (Grf.cl_iff (b - a) st k (by omega) r0).1 (by omega)⟩)
  have HEN := Lib.hid (show ∀ k : Nat, k + 1 = m → m ≠ 4097 → b - a ≤ (k : Int) * st + st from fun k hk h7 => by
    have e := (Grf.cl_iff (b - a) st ((k : Int) + 1) (by omega) r0)
    rw [Int.add_mul, Int.one_mul] at e
    have := mt e.2 (by omega)
    omega)
  obtain ⟨i0, hi, hz0, hz1, hz2⟩ := info_parts infoInt
  have HI := Lib.hid hi
  clear hi hm2 hm3
  go_enter Tryd.func60, Tryd.ntmps60
  go_wp2_with fail
  go_loopw [7, 8] (fun v i wr => ∃ (k : Nat) (x : Int), k < m ∧ i = .int .i64 x ∧ x = a + (k : Int) * st ∧ Hid (wr.ownsRow w.heap.size 3 1 v k ((Grf.num a st k).map (Value.int .i64))) ∧ Q w wr) (fun _ i _ => (b - intOf i).toNat)
  case atStart => exact ⟨0, a, by omega, rfl, by simp, World.ownsRow_nil _ _ _ _, Q.refl _⟩
  case round =>
    obtain ⟨k, x, hk, rfl, hx, HO, hq⟩ := hrel
    have hX := HST.out k hk
    have HV := Lib.hid (show Grf.num a st (k + 1) = Grf.num a st k ++ [a + (k : Int) * st] from rfl)
    rw [← hx] at HV
    have hE := HEN.out k
    have hS := HST.out (k + 1)
    rw [show ((k + 1 : Nat) : Int) * st = (k : Int) * st + st by rw [Int.natCast_add, Int.add_mul]; simp] at hS
    obtain ⟨p, hp⟩ : ∃ p, (k : Int) * st = p := ⟨_, rfl⟩
    rw [hp] at hx hX hE hS
    obtain ⟨A', c', rfl, hc⟩ := own_slice HO.out
    have d1 : decide (x < b) = true := by simp; omega
    have x0 : -648000 ≤ x := by omega
    have x1 : x ≤ 648000 := by omega
    by_cases c1 : b - x ≤ st
    · have d2 : decide (b - x ≤ st) = true := by simpa using c1
      have HM := Lib.hid (show k + 1 = m by
        apply Classical.byContradiction
        intro h
        have := hS (by omega)
        omega)
      clear hE hS hp hx hX c1
      go_wp2_with (at_builtin; refine wpList_append_own _ rfl _ _ 38 rfl w.heap.size 3 i0 (.int .i64 0) 1 8 Tryd.underlying38 HI.out hz0 hz1 hz2 rfl (by decide) _ _ _ rfl ((HO.out).alloc _) ⟨wr.heap.size, 0, none⟩ 1 1 [.int .i64 x] rfl rfl ?c1 ?c2 ?c3 ?c4 ?c5 ?_)
      case c1 => intro j u hu; cases j with
        | zero => simp at hu; subst hu; simp [Addr.add]
        | succ j => simp at hu
      case c2 => intro u hu; simp at hu; subst hu; rfl
      case c3 => unfold maxLen; omega
      case c4 => omega
      case c5 => have := (hq).sz; simp; omega
      intro v' w4 hown4 hgrow _
      have q4 : Q w w4 := Q.grown ((hq).alloc _) hgrow (fun g hg => ((HO.out).lt g hg).1)
      have HO4 := Lib.hid hown4
      clear hown4 hgrow
      obtain ⟨A5, c5, rfl, hc5⟩ := own_slice HO4.out
      have hq5 := q4
      have HO5 := HO4
      go_wp2_with (at_builtin; refine wpList_append_own _ rfl _ _ 38 rfl w.heap.size 3 i0 (.int .i64 0) 1 8 Tryd.underlying38 HI.out hz0 hz1 hz2 rfl (by decide) _ _ _ rfl ((HO5.out).alloc _) ⟨w4.heap.size, 0, none⟩ 1 1 [.int .i64 b] rfl rfl ?c1 ?c2 ?c3 ?c4 ?c5 ?_)
      case c1 => intro j u hu; cases j with
        | zero => simp at hu; subst hu; simp [Addr.add]
        | succ j => simp at hu
      case c2 => intro u hu; simp at hu; subst hu; rfl
      case c3 => unfold maxLen; omega
      case c4 => omega
      case c5 => have := (hq5).sz; simp; omega
      intro v6 w6 hown4 hgrow _
      have q6 : Q w w6 := Q.grown ((hq5).alloc _) hgrow (fun g hg => ((HO5.out).lt g hg).1)
      have HO6 := Lib.hid hown4
      clear hown4 hgrow
      go_wp2_with fail
      go_ret
      exact ⟨v6, rfl, Ints.own (base := w.heap.size) (l := Grf.num a st m ++ [b]) (by have := HO6.out; rw [← HM.out, HV.out]; simpa [Grf.num_len] using this), q6⟩
    have d2 : decide (b - x ≤ st) = false := by simpa using c1
    by_cases c2 : k + 1 = 4097
    · have d3 : decide (4096 < ((k : Int) + 1)) = true := by simp; omega
      have HM := Lib.hid (show k + 1 = m by omega)
      have HK := Lib.hid (show k = 4096 by omega)
      clear hE hS hp hx hX c1 c2
      go_wp2_with (at_builtin; refine wpList_append_own _ rfl _ _ 38 rfl w.heap.size 3 i0 (.int .i64 0) 1 8 Tryd.underlying38 HI.out hz0 hz1 hz2 rfl (by decide) _ _ _ rfl ((HO.out).alloc _) ⟨wr.heap.size, 0, none⟩ 1 1 [.int .i64 x] rfl rfl ?c1 ?c2 ?c3 ?c4 ?c5 ?_)
      case c1 => intro j u hu; cases j with
        | zero => simp at hu; subst hu; simp [Addr.add]
        | succ j => simp at hu
      case c2 => intro u hu; simp at hu; subst hu; rfl
      case c3 => unfold maxLen; omega
      case c4 => omega
      case c5 => have := (hq).sz; simp; omega
      intro v' w4 hown4 hgrow _
      have q4 : Q w w4 := Q.grown ((hq).alloc _) hgrow (fun g hg => ((HO.out).lt g hg).1)
      have HO4 := Lib.hid hown4
      clear hown4 hgrow
      obtain ⟨A5, c5, rfl, hc5⟩ := own_slice HO4.out
      have d4 : decide (4096 < (((k + 1 : Nat)) : Int)) = true := by have := HK.out; simp; omega
      have hq5 := q4
      have HO5 := HO4
      go_wp2_with (at_builtin; refine wpList_append_own _ rfl _ _ 38 rfl w.heap.size 3 i0 (.int .i64 0) 1 8 Tryd.underlying38 HI.out hz0 hz1 hz2 rfl (by decide) _ _ _ rfl ((HO5.out).alloc _) ⟨w4.heap.size, 0, none⟩ 1 1 [.int .i64 b] rfl rfl ?c1 ?c2 ?c3 ?c4 ?c5 ?_)
      case c1 => intro j u hu; cases j with
        | zero => simp at hu; subst hu; simp [Addr.add]
        | succ j => simp at hu
      case c2 => intro u hu; simp at hu; subst hu; rfl
      case c3 => unfold maxLen; omega
      case c4 => omega
      case c5 => have := (hq5).sz; simp; omega
      intro v6 w6 hown4 hgrow _
      have q6 : Q w w6 := Q.grown ((hq5).alloc _) hgrow (fun g hg => ((HO5.out).lt g hg).1)
      have HO6 := Lib.hid hown4
      clear hown4 hgrow
      go_wp2_with fail
      go_ret
      exact ⟨v6, rfl, Ints.own (base := w.heap.size) (l := Grf.num a st m ++ [b]) (by have := HO6.out; rw [← HM.out, HV.out]; simpa [Grf.num_len] using this), q6⟩
    · have HM := Lib.hid (show k + 1 < m by
        apply Classical.byContradiction
        intro h
        have := hE (by omega) (by omega)
        omega)
      have HX := Lib.hid (show x + st = a + ((k + 1 : Nat) : Int) * st by rw [show ((k + 1 : Nat) : Int) * st = (k : Int) * st + st by rw [Int.natCast_add, Int.add_mul]; simp, hp]; omega)
      have hst : st ≤ 1296000 := by omega
      have hk4 : k + 1 ≤ 4096 := by omega
      have hlt : x + st < b := by omega
      clear hE hS hp hx hX c2 c1
      go_wp2_with (at_builtin; refine wpList_append_own _ rfl _ _ 38 rfl w.heap.size 3 i0 (.int .i64 0) 1 8 Tryd.underlying38 HI.out hz0 hz1 hz2 rfl (by decide) _ _ _ rfl ((HO.out).alloc _) ⟨wr.heap.size, 0, none⟩ 1 1 [.int .i64 x] rfl rfl ?c1 ?c2 ?c3 ?c4 ?c5 ?_)
      case c1 => intro j u hu; cases j with
        | zero => simp at hu; subst hu; simp [Addr.add]
        | succ j => simp at hu
      case c2 => intro u hu; simp at hu; subst hu; rfl
      case c3 => unfold maxLen; omega
      case c4 => omega
      case c5 => have := (hq).sz; simp; omega
      intro v' w4 hown4 hgrow _
      have q4 : Q w w4 := Q.grown ((hq).alloc _) hgrow (fun g hg => ((HO.out).lt g hg).1)
      have HO4 := Lib.hid hown4
      clear hown4 hgrow
      obtain ⟨A5, c5, rfl, hc5⟩ := own_slice HO4.out
      have d4 : decide (4096 < (((k + 1 : Nat)) : Int)) = false := by simp; omega
      go_wp2_with fail
      go_roundw
      case rel => exact ⟨k + 1, x + st, HM.out, by go_num, HX.out, by rw [HV.out]; exact Lib.hid (by simpa using HO4.out), q4⟩
      case measure => simp [intOf]; omega
end Go.Proofs.YtcaabaijkidmgaaDoor
