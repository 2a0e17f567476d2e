
/- Contracts of strings.Cut at a space and of sphere.Parse. -/
import Derived.Test.YtmcobpgdledkdaaDoorSphH
import Derived.Lib.Bytealg
import Derived.BigQuiet
namespace Go.Proofs.YtmcobpgdledkdaaDoor
open Go.RowKit
set_option linter.unusedVariables false

theorem idx_none (l : List UInt8) (c : UInt8) (h : ∀ i (hi : i < l.length), l[i] ≠ c) : Lib.indexByte l c = -1 := by
  induction l with
  | nil => rfl
  | cons b l ih =>
    unfold Lib.indexByte
    have h0 := h 0 (by simp)
    simp only [List.getElem_cons_zero] at h0
    rw [ih (fun i hi => by have := h (i + 1) (by simp; omega); simpa using this)]
    simp [h0]
theorem idx_at (l : List UInt8) (c : UInt8) : ∀ (j : Nat) (hj : j < l.length), l[j] = c → (∀ i (hi : i < j), l[i] ≠ c) → Lib.indexByte l c = (j : Int) := by
  induction l with
  | nil => intro j hj; simp at hj
  | cons b l ih =>
    intro j hj e h
    unfold Lib.indexByte
    match j with
    | 0 =>
      simp only [List.getElem_cons_zero] at e
      simp [e]
    | j + 1 =>
      have h0 := h 0 (by omega)
      simp only [List.getElem_cons_zero] at h0
      have := ih j (by simpa using hj) (by simpa using e) (fun i hi => by have := h (i + 1) (by omega); simpa using this)
      rw [this]
      simp [h0]
      try omega
/-- The first space of a string. -/
def Spc (s : ByteArray) (j : Nat) : Prop := j < s.size ∧ byt s j = 32 ∧ ∀ i, i < j → byt s i ≠ 32
theorem spc_or (s : ByteArray) : (∀ i, i < s.size → byt s i ≠ 32) ∨ ∃ j, Spc s j := by
  by_cases h : ∃ j, j < s.size ∧ byt s j = 32
  · right
    obtain ⟨j, hj⟩ := h
    induction j using Nat.strongRecOn with
    | _ j ih =>
      by_cases c : ∃ i, i < j ∧ byt s i = 32
      · obtain ⟨i, hi, hb⟩ := c
        exact ih i hi ⟨by omega, hb⟩
      · exact ⟨j, hj.1, hj.2, fun i hi e => c ⟨i, hi, e⟩⟩
  · left
    exact fun i hi e => h ⟨i, hi, e⟩
theorem byt_get (s : ByteArray) (i : Nat) (h : i < s.data.toList.length) : byt s i = ((s.data.toList[i]).toNat : Int) := by
  have h' : i < s.size := by simpa using h
  unfold byt
  rw [dif_pos h']
  rfl
theorem u32_of {c : UInt8} (h : (c.toNat : Int) = 32) : c = 32 := UInt8.toNat_inj.1 (by show c.toNat = 32; omega)
theorem idx_spc_none (s : ByteArray) (h : ∀ i, i < s.size → byt s i ≠ 32) : Lib.indexByte s.data.toList 32 = -1 :=
  idx_none _ _ fun i hi e => h i (by simpa using hi) (by rw [byt_get s i hi, e]; rfl)
theorem idx_spc (s : ByteArray) (j : Nat) (h : Spc s j) : Lib.indexByte s.data.toList 32 = (j : Int) :=
  idx_at _ _ j (by simpa using h.1) (u32_of (by rw [← byt_get]; exact h.2.1)) fun i hi e => h.2.2 i hi (by rw [byt_get s i (by have := h.1; simp; omega), e]; rfl)

set_option maxHeartbeats 1000000 in
set_option maxRecDepth 100000 in
theorem indexByte_any (s : ByteArray) (c : Int) (w : World) :
    Calls Tryd.prog 54 #[.string s, .int .u8 c] w fun e w' => e = .returned (.int .i64 (Lib.indexByte s.data.toList c.toNat.toUInt8)) ∧ w' = w := by
  go_enter Tryd.func54, Tryd.ntmps54
  go_wp2
  rw [run_callFunc_extern Tryd.func63 (by kernel_rfl) (by kernel_rfl) (by kernel_rfl) (e := Extern.BytealgIndexByte.indexByte) (by kernel_rfl), Lib.run_indexByteString]
  simp only [Result.andThen]
  rw [Oper.upon_value]
  go_wp2
  go_ret
  exact ⟨rfl, rfl⟩
set_option maxHeartbeats 2000000 in
set_option maxRecDepth 100000 in
theorem index_one (s : ByteArray) (c : UInt8) (w : World) :
    Calls Tryd.prog 42 #[.string s, .string ⟨#[c]⟩] w fun e w' => e = .returned (.int .i64 (Lib.indexByte s.data.toList c)) ∧ w' = w := by
  go_enter Tryd.func42, Tryd.ntmps42
  go_wp2_with (go_at_call 54; refine (indexByte_any _ _ _).mono ?_; rintro e w' ⟨rfl, rfl⟩)
  · have h : ([c] == s.toList) = true := by assumption
    go_ret
    refine ⟨?_, rfl⟩
    have e : s.data.toList = [c] := by rw [← Lib.toList_data]; exact (beq_iff_eq.1 h).symm
    rw [e]
    simp [Lib.indexByte]
  · go_ret
    exact ⟨rfl, rfl⟩
theorem lcut_core (s b h : ByteArray) (j : Int) (t : Bool) (w : World) (hm : s.size ≤ 9223372036854775807)
    (HI : Hid (∀ W, Calls Tryd.prog 42 #[.string s, .string ⟨#[32]⟩] W fun e w' => e = .returned (.int .i64 j) ∧ w' = W))
    (hj : t = false ∧ decide (0 ≤ j) = false ∧ j = -1 ∧ b = s ∧ h = ⟨#[]⟩ ∨ t = true ∧ decide (0 ≤ j) = true ∧ 0 ≤ j ∧ j ≤ 9223372036854775806 ∧ (∀ W, (Instr.slice 9 (.string s) none (some (.int .i64 j)) none).run Tryd.prog W = .ok (.string b) W) ∧ (∀ W, (Instr.slice 9 (.string s) (some (.int .i64 (j + 1))) none none).run Tryd.prog W = .ok (.string h) W)) :
    Calls Tryd.prog 30 #[.string s, .string ⟨#[32]⟩] w fun e w' => e = .returned (.tuple #[.string b, .string h, .bool t]) ∧ Q w w' := by
  rcases hj with ⟨rfl, d, rfl, rfl, rfl⟩ | ⟨rfl, d, j0, j1, h1, h2⟩
  · go_enter Tryd.func30, Tryd.ntmps30
    go_wp2_with fail
    refine (HI.out _).mono ?_
    rintro e w1 ⟨rfl, rfl⟩
    go_wp2_with fail
    go_ret3
    exact ⟨rfl, Q.refl _⟩
  · go_enter Tryd.func30, Tryd.ntmps30
    go_wp2_with fail
    refine (HI.out _).mono ?_
    rintro e w1 ⟨rfl, rfl⟩
    go_wp2_with fail
    go_quiet (fail)
    go_wp2_with fail
    go_ret3
    exact ⟨rfl, (Q.refl _).drewN _⟩
/-- strings.Cut at a space. -/
theorem scut_core (s b h : ByteArray) (t : Bool) (w : World)
    (HC : Hid (∀ W, Calls Tryd.prog 30 #[.string s, .string ⟨#[32]⟩] W fun e w' => e = .returned (.tuple #[.string b, .string h, .bool t]) ∧ Q W w')) :
    Calls Tryd.prog 21 #[.string s, .string ⟨#[32]⟩] w fun e w' => e = .returned (.tuple #[.string b, .string h, .bool t]) ∧ Q w w' := by
  go_enter Tryd.func21, Tryd.ntmps21
  go_wp2_with fail
  refine (HC.out _).mono ?_
  rintro e w1 ⟨rfl, q1⟩
  go_wp2_with fail
  go_ret3
  exact ⟨rfl, q1⟩
theorem scut_none (s : ByteArray) (hm : s.size ≤ 9223372036854775807) (h : ∀ i, i < s.size → byt s i ≠ 32) (w : World) :
    Calls Tryd.prog 21 #[.string s, .string ⟨#[32]⟩] w fun e w' => e = .returned (.tuple #[.string s, .string ⟨#[]⟩, .bool false]) ∧ Q w w' :=
  scut_core s s _ false w fun W => lcut_core s s _ (-1) false W (by omega) (fun W => by have := index_one s 32 W; rw [idx_spc_none s h] at this; exact this) (.inl ⟨rfl, by decide, rfl, rfl, rfl⟩)
theorem scut_at (s : ByteArray) (hm : s.size ≤ 9223372036854775807) (j : Nat) (h : Spc s j) (w : World) :
    Calls Tryd.prog 21 #[.string s, .string ⟨#[32]⟩] w fun e w' => e = .returned (.tuple #[.string (s.extract 0 j), .string (s.extract (j + 1) s.size), .bool true]) ∧ Q w w' :=
  scut_core s _ _ true w fun W => lcut_core s _ _ (j : Int) true W (by omega) (fun W => by have := index_one s 32 W; rw [idx_spc s j h] at this; exact this)
    (.inr ⟨rfl, by simp, by omega, by have := h.1; omega, slice_hi s j (by have := h.1; omega), fun W => by have := slice_lo s (j + 1) (by have := h.1; omega) W; simpa using this⟩)
end Go.Proofs.YtmcobpgdledkdaaDoor
