
/- Contracts of the reference's text, of sphere.write and of the reference's write. -/
import Derived.Test.YtmcobpgdledkdaaDoorItoaX
import Derived.Test.YtmcobpgdledkdaaDoorSphA
import Derived.Deep.LoopGhost
namespace Go.Proofs.YtmcobpgdledkdaaDoor
open Go.RowKit
set_option linter.unusedVariables false

namespace Sph
/-- The lowest k digits of a number. -/
def low (n : Nat) : Nat → List UInt8
  | 0 => []
  | k + 1 => UInt8.ofNat (48 + n / 10 ^ k % 10) :: low n k
theorem low_len (n k : Nat) : (low n k).length = k := by
  induction k with
  | zero => rfl
  | succ k ih => simp [low, ih]
/-- Two digits at least. -/
def tw (n : Nat) : List UInt8 := low n 2
/-- The numeral of a number below 1000. -/
def num (n : Nat) : List UInt8 := if n < 10 then low n 1 else if n < 100 then low n 2 else low n 3
theorem dec_num (n : Nat) (h : n < 1000) : Lib.decDigits n = num n := by
  unfold num
  by_cases c1 : n < 10
  · rw [if_pos c1, Lib.decDigits, dif_pos c1]
    simp [low, Nat.mod_eq_of_lt c1]
  · rw [if_neg c1, Lib.decDigits, dif_neg c1, Lib.decDigits]
    by_cases c2 : n < 100
    · rw [if_pos c2, dif_pos (by omega)]
      simp [low, Nat.mod_eq_of_lt (show n / 10 < 10 by omega)]
    · rw [if_neg c2, dif_neg (by omega), Lib.decDigits, dif_pos (by omega), Nat.div_div_eq_div_mul]
      simp [low, Nat.mod_eq_of_lt (show n / 100 < 10 by omega)]
theorem tw_num (n : Nat) (h : n < 100) : (if n < 10 then 48 :: num n else num n) = tw n := by
  unfold num tw
  by_cases c1 : n < 10
  · rw [if_pos c1, if_pos c1]
    simp [low, Nat.div_eq_of_lt c1]
  · rw [if_neg c1, if_neg c1, if_pos h]
end Sph
theorem cat_mk (a b : List UInt8) : (⟨a.toArray⟩ : ByteArray) ++ (⟨b.toArray⟩ : ByteArray) = ⟨(a ++ b).toArray⟩ := by
  apply ByteArray.ext
  simp
theorem size_mk (a : List UInt8) : (⟨a.toArray⟩ : ByteArray).size = a.length := by
  show a.toArray.size = _
  simp

/-- A byte of its own, as a string. -/
theorem conv1 (w : World) (T : TypeId) (n : Int) : (convert 60 9 (.slice (some ⟨w.heap.size, 0, none⟩) 1 1)).run Tryd.prog (w.alloc (.cells #[.int .u8 n] T)) = .ok (.string ⟨#[UInt8.ofNat n.toNat]⟩) (w.alloc (.cells #[.int .u8 n] T)) := by
  rw [run_convert_bytes_string _ _ _ 5 _ _ _ Tryd.underlying60 Tryd.underlying5 Tryd.underlying9, run_bytesToString _ _ _ _ [n] (by
    have := run_loadCells (P := Tryd.prog) (w.alloc (.cells #[.int .u8 n] T)) ⟨w.heap.size, 0, none⟩ 1 (fun _ => .int .u8 n) (fun j hj => by
      obtain rfl : j = 0 := by omega
      show (w.alloc (.cells #[.int .u8 n] T)).cell? ⟨w.heap.size, 0, none⟩ = _
      rw [cell_of_row _ _ 0 _ _ _ (heap_alloc_new w (.cells #[.int .u8 n] T))]
      rfl)
    exact this)]
  rfl

set_option maxRecDepth 100000 in
set_option maxHeartbeats 4000000 in
theorem rtext_core (n N : Nat) (l : Int) (hN : N ≤ 3) (hn : n < 1000) (l0 : 1 ≤ l) (l1 : l ≤ 2) (hgo : ∀ k, k < N → 0 < n / 10 ^ k ∨ (k : Int) < l) (hst : n / 10 ^ N = 0 ∧ l ≤ (N : Int)) (w : World) :
    Calls Tryd.prog 35 #[.int .i64 (n : Int), .int .i64 l] w fun e w' => e = .returned (.string ⟨(Sph.low n N).toArray⟩) ∧ Q w w' := by
  have HG := Lib.hid hgo
  have HT := Lib.hid hst
  obtain ⟨nn, hnn⟩ : ∃ z : Int, (n : Int) = z := ⟨_, rfl⟩
  have HN := Lib.hid hnn
  rw [hnn]
  have n0 : 0 ≤ nn := by omega
  have n1 : nn < 1000 := by omega
  clear hgo hst hnn
  go_enter Tryd.func35, Tryd.ntmps35
  go_wp2_with fail
  go_loopw [0, 5] (fun a b wr => ∃ (k : Nat) (m : Int) (s : ByteArray), k ≤ N ∧ a = .int .i64 m ∧ b = .string s ∧ Hid (m = ((n / 10 ^ k : Nat) : Int)) ∧ Hid (s = ⟨(Sph.low n k).toArray⟩) ∧ Q w wr) (fun _ b _ => 3 - (match b with | .string s => s.size | _ => 0))
  case atStart => exact ⟨0, _, _, by omega, rfl, rfl, Lib.hid (by have := HN.out; simp; omega), Lib.hid rfl, Q.refl _⟩
  case round =>
    obtain ⟨k, m, s, hk, rfl, rfl, HM, HS, q⟩ := hrel
    have HZ : Hid (s.size = k) := Lib.hid (by rw [HS.out, size_mk, Sph.low_len])
    have m0 : 0 ≤ m := by rw [HM.out]; exact Int.natCast_nonneg _
    have sz3 : s.size ≤ 3 := by have := HZ.out; omega
    have m1 : m < 1000 := by have := HM.out; have := Nat.div_le_self n (10 ^ k); omega
    by_cases hkc : k = N
    · have d1 : decide (0 < m) = false := by have := HM.out; rw [hkc, HT.out.1] at this; simp; omega
      have d2 : decide ((s.size : Int) < l) = false := by have := HT.out.2; have := HZ.out; simp; omega
      go_wp2_with fail
      go_ret
      exact ⟨ret_str (by rw [HS.out, hkc]), q⟩
    · have hor := HG.out k (by omega)
      have hnx : m / 10 = ((n / 10 ^ (k + 1) : Nat) : Int) := by rw [HM.out, Nat.pow_succ, ← Nat.div_div_eq_div_mul]; rfl
      have HX := Lib.hid hnx
      obtain ⟨c, hc⟩ : ∃ c : Int, m % 10 = c := ⟨_, rfl⟩
      obtain ⟨e, he⟩ : ∃ e : Int, m / 10 = e := ⟨_, rfl⟩
      have HC := Lib.hid hc
      rw [he] at HX
      clear hnx
      have c0 : 0 ≤ c := by omega
      have c9 : c ≤ 9 := by omega
      have e0 : 0 ≤ e := by omega
      have HCV := conv1 wr 5 (48 + c)
      have HD : Hid (UInt8.ofNat (48 + c).toNat :: Sph.low n k = Sph.low n (k + 1)) := Lib.hid (by
        show _ = UInt8.ofNat (48 + n / 10 ^ k % 10) :: Sph.low n k
        have h1 := HM.out
        have h2 := HC.out
        have h3 : (48 + c).toNat = 48 + n / 10 ^ k % 10 := by omega
        rw [h3])
      by_cases hp : 0 < m
      · have d1 : decide (0 < m) = true := by simpa using hp
        clear hor
        go_wp2_with fail
        go_roundw
        case rel => exact ⟨k + 1, _, _, by omega, rfl, rfl, Lib.hid (he.trans HX.out), Lib.hid (by rw [HS.out, ← HD.out]; exact cat_mk [UInt8.ofNat (48 + c).toNat] (Sph.low n k)), q.alloc _⟩
        case measure => show 3 - ((⟨#[UInt8.ofNat (48 + c).toNat]⟩ : ByteArray) ++ s).size < 3 - s.size; rw [ByteArray.size_append]; have := HZ.out; show 3 - (1 + s.size) < 3 - s.size; omega
      · have d1 : decide (0 < m) = false := by simpa using hp
        have d2 : decide ((s.size : Int) < l) = true := by
          have h1 := HM.out
          have h2 := HZ.out
          rcases hor with h | h
          · exfalso
            have : ((n / 10 ^ k : Nat) : Int) ≤ 0 := by omega
            omega
          · simp
            omega
        clear hor
        go_wp2_with fail
        go_roundw
        case rel => exact ⟨k + 1, _, _, by omega, rfl, rfl, Lib.hid (he.trans HX.out), Lib.hid (by rw [HS.out, ← HD.out]; exact cat_mk [UInt8.ofNat (48 + c).toNat] (Sph.low n k)), q.alloc _⟩
        case measure => show 3 - ((⟨#[UInt8.ofNat (48 + c).toNat]⟩ : ByteArray) ++ s).size < 3 - s.size; rw [ByteArray.size_append]; have := HZ.out; show 3 - (1 + s.size) < 3 - s.size; omega
theorem rtext_num (n : Nat) (hn : n < 1000) (w : World) :
    Calls Tryd.prog 35 #[.int .i64 (n : Int), .int .i64 1] w fun e w' => e = .returned (.string ⟨(Sph.num n).toArray⟩) ∧ Q w w' := by
  unfold Sph.num
  by_cases c1 : n < 10
  · rw [if_pos c1]
    exact rtext_core n 1 1 (by omega) hn (by omega) (by omega) (fun k hk => .inr (by omega)) ⟨by simp; omega, by omega⟩ w
  · rw [if_neg c1]
    by_cases c2 : n < 100
    · rw [if_pos c2]
      exact rtext_core n 2 1 (by omega) hn (by omega) (by omega) (fun k hk => .inl (by
        match k, hk with
        | 0, _ => simp; omega
        | 1, _ => simp; omega)) ⟨by simp; omega, by omega⟩ w
    · rw [if_neg c2]
      exact rtext_core n 3 1 (by omega) hn (by omega) (by omega) (fun k hk => .inl (by
        match k, hk with
        | 0, _ => simp; omega
        | 1, _ => simp; omega
        | 2, _ => simp; omega)) ⟨by simp; omega, by omega⟩ w
theorem rtext_tw (n : Nat) (hn : n < 100) (w : World) :
    Calls Tryd.prog 35 #[.int .i64 (n : Int), .int .i64 2] w fun e w' => e = .returned (.string ⟨(Sph.tw n).toArray⟩) ∧ Q w w' :=
  rtext_core n 2 2 (by omega) (by omega) (by omega) (by omega) (fun k hk => .inr (by omega)) ⟨by simp; omega, by omega⟩ w

/-- The table of the powers of ten, or a number that needs none. -/
def Ten (n : Nat) (w : World) : Prop := n < 100 ∨ Lib.TabIs Tryd.prog w "internal/strconv.uint64pow10" .u64 Lib.pow10Tab
theorem gTen : Tryd.prog.globalNamed "internal/strconv.uint64pow10" = some 1 := by kernel_rfl
theorem Ten.next {n : Nat} {w w' : World} (h : Ten n w) (q : Q w w') : Ten n w' := by
  rcases h with h | h
  · exact .inl h
  · right
    unfold Lib.TabIs World.var? at h ⊢
    rw [gTen] at h ⊢
    have hlt : 1 < w.heap.size := by
      apply Decidable.byContradiction
      intro c
      have : w.heap[1]? = none := Array.getElem?_eq_none (by omega)
      simp [this] at h
    have e := q.block hlt
    simp only [Option.bind_some] at h ⊢
    rw [e]
    exact h
theorem itoa_num (n : Nat) (hn : n < 1000) (w : World) (h : Ten n w) :
    Calls Tryd.prog 34 #[.int .i64 (n : Int)] w fun e w' => e = .returned (.string ⟨(Sph.num n).toArray⟩) ∧ Q w w' := by
  rw [← Sph.dec_num n hn]
  rcases h with h | h
  · exact itoa_small n h w
  · exact itoa_tab n hn w h
end Go.Proofs.YtmcobpgdledkdaaDoor
