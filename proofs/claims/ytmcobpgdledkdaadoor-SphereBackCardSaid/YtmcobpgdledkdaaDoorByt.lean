/- Bytes of strings as integers: reading, cutting, joining. -/
import Derived.Test.YtmcobpgdledkdaaDoorBase
namespace Go.Proofs.YtmcobpgdledkdaaDoor
open Go.RowKit
set_option linter.unusedVariables false

/-- Byte i of a string, or 0. -/
def byt (s : ByteArray) (i : Nat) : Int := if h : i < s.size then (s[i].toNat : Int) else 0
theorem byt_bd (s : ByteArray) (i : Nat) : 0 ≤ byt s i ∧ byt s i ≤ 255 := by
  unfold byt
  split
  · have := s[i].toNat_lt
    omega
  · omega
theorem byt_none (s : ByteArray) (i : Nat) (h : s.size ≤ i) : byt s i = 0 := by
  unfold byt
  rw [dif_neg (by omega)]
theorem byt_run (s : ByteArray) (i : Nat) (h : i < s.size) (w : World) : (Instr.index 9 (.string s) (.int .i64 (i : Int))).run Tryd.prog w = .ok (.int .u8 (byt s i)) w := by
  rw [run_index_string w 9 s .i64 (i : Int) Tryd.underlying9, dif_pos (by omega)]
  unfold byt
  rw [dif_pos h]
  rfl
theorem size_cut (s : ByteArray) (a b : Nat) (h0 : a ≤ b) (h1 : b ≤ s.size) : (s.extract a b).size = b - a := by
  rw [ByteArray.size_extract]
  omega
theorem byt_cut (s : ByteArray) (a b i : Nat) (h1 : b ≤ s.size) (hi : a + i < b) : byt (s.extract a b) i = byt s (a + i) := by
  unfold byt
  have h : i < (s.extract a b).size := by rw [ByteArray.size_extract]; omega
  rw [dif_pos h, dif_pos (by omega), ByteArray.getElem_extract]
/-- A string is told by its size and its bytes. -/
theorem byt_ext {s t : ByteArray} (h : s.size = t.size) (e : ∀ i, i < s.size → byt s i = byt t i) : s = t := by
  apply ByteArray.ext_getElem h
  intro i h1 h2
  have := e i h1
  unfold byt at this
  rw [dif_pos h1, dif_pos h2] at this
  exact UInt8.toNat_inj.1 (by omega)
theorem byt_mk (l : List UInt8) (i : Nat) (h : i < l.length) : byt ⟨l.toArray⟩ i = (l[i].toNat : Int) := by
  unfold byt
  rw [dif_pos (show i < (⟨l.toArray⟩ : ByteArray).size by show i < l.toArray.size; simpa using h)]
  rfl
theorem str_ne {a b : ByteArray} (h : a ≠ b) : (a.toList == b.toList) = false := by
  rw [beq_eq_false_iff_ne]
  intro e
  rw [ByteArray.toList_eq, ByteArray.toList_eq] at e
  exact h (WideShapes.bytes_inj e)
theorem str_eq {a b : ByteArray} (h : a = b) : (a.toList == b.toList) = true := by rw [h]; simp
theorem ret_str {a b : ByteArray} (h : a = b) : Ending.returned (.string a) = .returned (.string b) := by rw [h]
theorem ret_bool {a b : Bool} (h : a = b) : Ending.returned (.bool a) = .returned (.bool b) := by rw [h]
end Go.Proofs.YtmcobpgdledkdaaDoor
