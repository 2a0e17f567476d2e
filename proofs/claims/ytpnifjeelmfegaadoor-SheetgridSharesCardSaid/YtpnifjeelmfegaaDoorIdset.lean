/- Contracts of the reference's Same and Valid on slices of ints: equal lists are the same; an ascending list is valid. -/
import Derived.Test.YtpnifjeelmfegaaDoorWords
import Derived.Deep.LoopGhost
namespace Go.Proofs.YtpnifjeelmfegaaDoor
open Go.RowKit
set_option linter.unusedVariables false

theorem Ints.at_ {w : World} {A : Option Addr} {c : Nat} {l : List Int} (h : Reads w w.heap.size 1 A l.length (l.map (Value.int .i64))) (k : Nat) (hk : k < l.length) :
    ∃ ad, A = some ad ∧ w.cell? (ad.add k) = some (.int .i64 (l[k]'hk)) := by
  obtain ⟨ad, u, e, _, hx, hc⟩ := h.at_ hk
  refine ⟨ad, e, ?_⟩
  rw [hc]
  rw [List.getElem?_map, List.getElem?_eq_getElem hk] at hx
  exact hx.symm ▸ rfl

set_option maxHeartbeats 2000000 in
theorem same_true (v u : Value) (l : List Int) (w : World) (hv : Ints w v l) (hu : Ints w u l) (hl : l.length ≤ 4294967296) :
    Calls Tryd.prog 19 #[v, u] w fun e w' => e = .returned (.bool true) ∧ Q w w' := by
  obtain ⟨A, c, rfl, hc, hr⟩ := hv
  obtain ⟨A', c', rfl, hc', hr'⟩ := hu
  have HR := Lib.hid hr
  have HR' := Lib.hid hr'
  clear hr hr'
  obtain ⟨n, hn⟩ : ∃ n, l.length = n := ⟨_, rfl⟩
  have HN := Lib.hid hn
  rw [hn] at hc hc' hl ⊢
  clear hn
  go_enter Tryd.func19, Tryd.ntmps19
  go_wp2_with fail
  go_loopw [5] (fun i wr => ∃ k : Nat, k ≤ n ∧ i = .int .i64 k ∧ ∃ m, wr = w.drewN m) (fun i _ => n - (intOf i).toNat)
  case atStart => exact ⟨0, by omega, rfl, 0, rfl⟩
  case round =>
    obtain ⟨k, hk, rfl, m, rfl⟩ := hrel
    by_cases hlt : k < n
    · obtain ⟨ad, rfl, h1⟩ := Ints.at_ (c := c) HR.out k (by rw [HN.out]; exact hlt)
      obtain ⟨ad', rfl, h2⟩ := Ints.at_ (c := c') HR'.out k (by rw [HN.out]; exact hlt)
      generalize l[k]'(by rw [HN.out]; exact hlt) = x at *
      have d : (x != x) = false := by simp
      go_wp2_with fail
      go_quiet (fail)
      go_wp2_with fail
      go_roundw
      case rel => exact ⟨k + 1, by omega, by go_num, _, rfl⟩
      case measure => simp [intOf]; omega
    · go_wp2_with fail
      go_ret
      exact ⟨rfl, (Q.refl w).drewN _⟩

set_option maxHeartbeats 2000000 in
theorem valid_true (v : Value) (l : List Int) (w : World) (hv : Ints w v l) (hl : l.length ≤ 4294967296) (ha : ∀ (k : Nat) (h : k + 1 < l.length), l[k]'(by omega) < l[k + 1]) :
    Calls Tryd.prog 26 #[v] w fun e w' => e = .returned (.bool true) ∧ Q w w' := by
  obtain ⟨A, c, rfl, hc, hr⟩ := hv
  have HR := Lib.hid hr
  have HA := Lib.hid ha
  clear hr ha
  obtain ⟨n, hn⟩ : ∃ n, l.length = n := ⟨_, rfl⟩
  have HN := Lib.hid hn
  rw [hn] at hc hl ⊢
  clear hn
  go_enter Tryd.func26, Tryd.ntmps26
  go_wp2_with fail
  go_loopw [3] (fun i wr => ∃ k : Nat, i = .int .i64 (k + 1) ∧ (k : Int) ≤ n ∧ ∃ m, wr = w.drewN m) (fun i _ => n + 1 - (intOf i).toNat)
  case atStart => exact ⟨0, rfl, by omega, 0, rfl⟩
  case round =>
    obtain ⟨k, rfl, hk, m, rfl⟩ := hrel
    by_cases hlt : k + 1 < n
    · obtain ⟨ad, rfl, h1⟩ := Ints.at_ (c := c) HR.out (k + 1) (by rw [HN.out]; exact hlt)
      obtain ⟨ad', e', h2⟩ := Ints.at_ (c := c) HR.out k (by rw [HN.out]; omega)
      obtain rfl : ad = ad' := by injection e'
      have hlt' := HA.out k (by rw [HN.out]; exact hlt)
      generalize l[k + 1]'(by rw [HN.out]; exact hlt) = x at *
      generalize l[k]'(by rw [HN.out]; omega) = y at *
      have d : decide (x ≤ y) = false := by simp; omega
      have w1 : IntKind.i64.wrap ((k : Int) + 1 - 1) = (k : Int) := by rw [show (k : Int) + 1 - 1 = k by omega]; exact IntWalk.i64_in _ (by omega)
      have h1' : w.cell? ⟨ad.block, ad.off + (k + 1), none⟩ = some (.int .i64 x) := by simpa [Addr.add] using h1
      have b1 : 0 ≤ (k : Int) + 1 := by omega
      have b2 : (k : Int) + 1 < (n : Int) := by omega
      have b3 : 0 ≤ (k : Int) := by omega
      have b4 : (k : Int) < (n : Int) := by omega
      have t1 : ((k : Int) + 1).toNat = k + 1 := by omega
      go_wp2_with fail
      go_quiet (fail)
      clear w1 t1
      go_wp2_with fail
      go_roundw
      case rel => exact ⟨k + 1, by go_num, by omega, _, rfl⟩
      case measure => simp [intOf]; omega
    · go_wp2_with fail
      go_ret
      exact ⟨rfl, (Q.refl w).drewN _⟩
end Go.Proofs.YtpnifjeelmfegaaDoor
