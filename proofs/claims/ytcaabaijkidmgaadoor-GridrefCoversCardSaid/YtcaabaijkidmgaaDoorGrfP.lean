
/- Contracts of both Parses in the words of the text of a square. -/
import Derived.Test.YtcaabaijkidmgaaDoorGrfO
import Derived.Laws.DeepStrings4
namespace Go.Proofs.YtcaabaijkidmgaaDoor
open Go.RowKit
set_option linter.unusedVariables false

namespace Grid
theorem byt_cut (s : ByteArray) (a b i : Nat) (h1 : b ≤ s.size) (hi : a + i < b) : byt (s.extract a b) i = byt s (a + i) := by
  unfold byt
  have h : i < (s.extract a b).size := by rw [ByteArray.size_extract]; omega
  rw [dif_pos h, dif_pos (by omega), ByteArray.getElem_extract]
/-- A string is told by its size and its bytes. -/
theorem byt_ext {s t : ByteArray} (h : s.size = t.size) (e : ∀ i, i < s.size → byt s i = byt t i) : s = t := by
  apply ByteArray.ext_getElem h
  intro i h1 h2
  have := e i h1
  unfold byt at this
  rw [dif_pos h1, dif_pos h2] at this
  exact UInt8.toNat_inj.1 (by omega)
theorem byt_mk (l : List UInt8) (i : Nat) (h : i < l.length) : byt ⟨l.toArray⟩ i = (l[i].toNat : Int) := by
  unfold byt
  rw [dif_pos (show i < (⟨l.toArray⟩ : ByteArray).size by show i < l.toArray.size; simpa using h)]
  rfl
theorem size_mk (l : List UInt8) : (⟨l.toArray⟩ : ByteArray).size = l.length := by show l.toArray.size = _; simp
end Grid
namespace Grf
/-- The text of a square: the name of its sheet, its column and its row. -/
def sqb (C m k n : Int) : ByteArray := ⟨(Grid.nm C m ++ [45, UInt8.ofNat (97 + k.toNat), UInt8.ofNat (49 + n.toNat)]).toArray⟩
theorem sqb_size (C m k n : Int) : (sqb C m k n).size = (Grid.nmb C m).size + 3 := by
  unfold sqb Grid.nmb
  rw [Grid.size_mk, Grid.size_mk]
  simp
theorem sqb_low (C m k n : Int) (i : Nat) (h : i < (Grid.nmb C m).size) : Grid.byt (sqb C m k n) i = Grid.byt (Grid.nmb C m) i := by
  unfold sqb
  have h' : i < (Grid.nm C m).length := by unfold Grid.nmb at h; rw [Grid.size_mk] at h; exact h
  unfold Grid.nmb
  rw [Grid.byt_mk _ _ (by simp; omega), Grid.byt_mk _ _ h', List.getElem_append_left h']
theorem sqb_high (C m k n : Int) (j : Nat) (hj : j < 3) : Grid.byt (sqb C m k n) ((Grid.nmb C m).size + j) = ((([45, UInt8.ofNat (97 + k.toNat), UInt8.ofNat (49 + n.toNat)] : List UInt8)[j]'hj).toNat : Int) := by
  unfold sqb Grid.nmb
  rw [Grid.size_mk, Grid.byt_mk _ _ (by simp; omega), List.getElem_append_right (by omega)]
  simp
theorem sqb_cut (C m k n : Int) : (sqb C m k n).extract 0 (Grid.nmb C m).size = Grid.nmb C m := by
  have hs := sqb_size C m k n
  refine Grid.byt_ext (by rw [ByteArray.size_extract]; omega) (fun i hi => ?_)
  rw [ByteArray.size_extract] at hi
  rw [Grid.byt_cut _ _ _ _ (by omega) (by omega), Nat.zero_add]
  exact sqb_low C m k n i (by omega)
theorem sqb_45 (C m k n : Int) : Grid.byt (sqb C m k n) (Grid.nmb C m).size = 45 := sqb_high C m k n 0 (by omega)
theorem sqb_k (C m k n : Int) (k0 : 0 ≤ k) (k1 : k ≤ 7) : Grid.byt (sqb C m k n) ((Grid.nmb C m).size + 1) = 97 + k := by
  have := sqb_high C m k n 1 (by omega)
  rw [this]
  simp
  omega
theorem sqb_n (C m k n : Int) (k0 : 0 ≤ n) (k1 : n ≤ 7) : Grid.byt (sqb C m k n) ((Grid.nmb C m).size + 2) = 49 + n := by
  have := sqb_high C m k n 2 (by omega)
  rw [this]
  simp
  omega
/-- A text whose last three bytes are those of a square, and whose others are the name of a sheet. -/
theorem sqb_of (C m : Int) (s : ByteArray) (b : Nat) (hs : s.size = b + 3) (hf : ft (Grid.byt s b) (Grid.byt s (b + 1)) (Grid.byt s (b + 2))) (ht : Grid.nmb C m = s.extract 0 b) : sqb C m (Grid.byt s (b + 1) - 97) (Grid.byt s (b + 2) - 49) = s := by
  obtain ⟨f0, f1, f2, f3, f4⟩ := hf
  have hb : (Grid.nmb C m).size = b := by rw [ht, ByteArray.size_extract]; omega
  have h1 := sqb_45 C m (Grid.byt s (b + 1) - 97) (Grid.byt s (b + 2) - 49)
  have h2 := sqb_k C m (Grid.byt s (b + 1) - 97) (Grid.byt s (b + 2) - 49) (by omega) (by omega)
  have h3 := sqb_n C m (Grid.byt s (b + 1) - 97) (Grid.byt s (b + 2) - 49) (by omega) (by omega)
  rw [hb] at h1 h2 h3
  have hz := sqb_size C m (Grid.byt s (b + 1) - 97) (Grid.byt s (b + 2) - 49)
  refine Grid.byt_ext (by omega) (fun i hi => ?_)
  by_cases e : i < b
  · rw [sqb_low _ _ _ _ i (by omega), ht, Grid.byt_cut _ _ _ _ (by omega) (by omega), Nat.zero_add]
  · by_cases e1 : i = b
    · rw [e1, h1, f0]
    · by_cases e2 : i = b + 1
      · rw [e2, h2]; omega
      · rw [show i = b + 2 by omega, h3]; omega
/-- Two texts of squares of one series that are equal are of one square. -/
theorem sqb_inj (C R m k n m' k' n' : Int) (hC0 : 1 ≤ C) (hC : C ≤ 16) (hR : R ≤ 16) (hm0 : 1 ≤ m) (hm1 : m ≤ C * R) (hn0 : 1 ≤ m') (hn1 : m' ≤ C * R)
    (k0 : 0 ≤ k) (k1 : k ≤ 7) (n0 : 0 ≤ n) (n1 : n ≤ 7) (k0' : 0 ≤ k') (k1' : k' ≤ 7) (n0' : 0 ≤ n') (n1' : n' ≤ 7) (h : sqb C m k n = sqb C m' k' n') : m = m' ∧ k = k' ∧ n = n' := by
  have hz : (Grid.nmb C m).size = (Grid.nmb C m').size := by
    have a := sqb_size C m k n
    have b := sqb_size C m' k' n'
    rw [h] at a
    omega
  have hc : Grid.nmb C m = Grid.nmb C m' := by rw [← sqb_cut C m k n, ← sqb_cut C m' k' n', h, hz]
  have e1 := (Grid.nm_is C R m _ hC0 hC hR hm0 hm1 rfl).1
  have e2 := (Grid.nm_is C R m' _ hC0 hC hR hn0 hn1 rfl).1
  rw [hc] at e1
  have a1 := sqb_k C m k n k0 k1
  have a2 := sqb_k C m' k' n' k0' k1'
  have b1 := sqb_n C m k n n0 n1
  have b2 := sqb_n C m' k' n' n0' n1'
  rw [h, hz] at a1 b1
  exact ⟨by omega, by omega, by omega⟩
end Grf
theorem gslice_hi (s : ByteArray) (b : Nat) (h : b ≤ s.size) (W : World) : (Instr.slice 9 (.string s) none (some (.int .i64 (b : Int))) none).run Tryd.prog W = .ok (.string (s.extract 0 b)) W := by
  have := run_slice_string_h (P := Tryd.prog) (w := W) 9 s Tryd.underlying9 .i64 (b : Int) (by omega) (by omega)
  simpa using this
theorem gbyt1 (s : ByteArray) (b j : Nat) (h : b + j < s.size) (W : World) : (Instr.index 9 (.string s) (.int .i64 ((b : Int) + (j : Int)))).run Tryd.prog W = .ok (.int .u8 (Grid.byt s (b + j))) W := by
  have := byt_run s (b + j) h W
  rw [Int.natCast_add] at this
  exact this
/-- A text is that of a square, or both Parses return the same error. -/
theorem gtext (X Y W H C R : Int) (s : ByteArray) (h : Grid.Ok X Y W H C R) (hm : s.size ≤ 9223372036854775807) :
    (∃ g : Int, (g != 0) = true ∧ (∀ w, Calls Tryd.prog 13 #[.agg #[.int .i64 X, .int .i64 Y, .int .i64 W, .int .i64 H, .int .i64 C, .int .i64 R], .string s] w fun e w' => e = .returned (.tuple #[.agg #[.int .i64 0, .int .i64 0, .int .i64 0, .int .i64 0], .int .i64 g]) ∧ Q w w') ∧ (∀ w, Calls Tryd.prog 14 #[.agg #[.int .i64 X, .int .i64 Y, .int .i64 W, .int .i64 H, .int .i64 C, .int .i64 R], .string s] w fun e w' => e = .returned (.tuple #[.agg #[.int .i64 0, .int .i64 0, .int .i64 0, .int .i64 0], .int .i64 g]) ∧ Q w w') ∧ ∀ m k n : Int, 1 ≤ m → m ≤ C * R → 0 ≤ k → k ≤ 7 → 0 ≤ n → n ≤ 7 → Grf.sqb C m k n ≠ s)
    ∨ (∃ m k n : Int, 1 ≤ m ∧ m ≤ C * R ∧ 0 ≤ k ∧ k ≤ 7 ∧ 0 ≤ n ∧ n ≤ 7 ∧ Grf.sqb C m k n = s) := by
  by_cases hs : s.size < 3
  · exact .inl ⟨20, rfl, fun w => gparse_short X Y W H C R s w h hs, fun w => rgparse_short X Y W H C R s w h hs, fun m k n _ _ _ _ _ _ e => by
      have := Grf.sqb_size C m k n
      rw [e] at this
      omega⟩
  obtain ⟨b, hb⟩ : ∃ b, s.size = b + 3 := ⟨s.size - 3, by omega⟩
  have i0 := fun W => byt_run s b (by omega) W
  have i1 := fun W => gbyt1 s b 1 (by omega) W
  have i2 := fun W => gbyt1 s b 2 (by omega) W
  have i3 := fun W => gslice_hi s b (by omega) W
  have zs : (s.size : Int) - 3 = (b : Int) := by omega
  by_cases hf : Grf.ft (Grid.byt s b) (Grid.byt s (b + 1)) (Grid.byt s (b + 2))
  rotate_left
  · refine .inl ⟨20, rfl, fun w => gparse_syntax X Y W H C R b _ _ _ s w h zs (by omega) (by omega) i0 i1 i2 hf, fun w => rgparse_syntax X Y W H C R b _ _ _ s w h zs (by omega) (by omega) i0 i1 i2 hf, fun m k n _ _ k0 k1 n0 n1 e => hf ?_⟩
    have z := Grf.sqb_size C m k n
    rw [e] at z
    have z' : (Grid.nmb C m).size = b := by omega
    have a := Grf.sqb_45 C m k n
    have a1 := Grf.sqb_k C m k n k0 k1
    have a2 := Grf.sqb_n C m k n n0 n1
    rw [e, z'] at a a1 a2
    exact ⟨a, by omega, by omega, by omega, by omega⟩
  have hp := fun w => parse_any X Y W H C R (s.extract 0 b) w h (by rw [ByteArray.size_extract]; omega)
  have hp' := fun w => rparse_any X Y W H C R (s.extract 0 b) w h (by rw [ByteArray.size_extract]; omega)
  have noname : (∀ m : Int, 1 ≤ m → m ≤ C * R → Grid.nmb C m ≠ s.extract 0 b) → ∀ m k n : Int, 1 ≤ m → m ≤ C * R → 0 ≤ k → k ≤ 7 → 0 ≤ n → n ≤ 7 → Grf.sqb C m k n ≠ s := fun hno m k n m0 m1 k0 k1 n0 n1 e => by
    have z := Grf.sqb_size C m k n
    rw [e] at z
    have z' : (Grid.nmb C m).size = b := by omega
    have := Grf.sqb_cut C m k n
    rw [e, z'] at this
    exact hno m m0 m1 this.symm
  by_cases hn : Grid.frm (s.extract 0 b)
  · by_cases c : C ≤ Grid.byt (s.extract 0 b) 0 - 65 ∨ R < Grid.row (s.extract 0 b)
    · have e := Grid.prs_frm C R _ hn
      rw [if_pos c] at e
      rw [e] at hp hp'
      exact .inl ⟨7, rfl, fun w => gparse_err X Y W H C R b _ _ _ _ 7 s _ w h zs (by omega) (by omega) i0 i1 i2 i3 hf hp rfl, fun w => rgparse_err X Y W H C R b _ _ _ _ 7 s _ w h zs (by omega) (by omega) i0 i1 i2 i3 hf hp' rfl, noname fun m m0 m1 e => by
        have := Grid.nm_is C R m _ h.c0 h.c1 h.r1 m0 m1 e
        omega⟩
    · obtain ⟨a1, a2, a3⟩ := Grid.nm_of C R _ hn h.c0 (by omega) (by omega)
      have b1 := Grf.sqb_of C _ s b hb hf a1
      obtain ⟨f0, f1, f2, f3, f4⟩ := hf
      exact .inr ⟨_, _, _, a2, a3, by omega, by omega, by omega, by omega, b1⟩
  · have e := Grid.prs_not C R _ hn
    rw [e] at hp hp'
    exact .inl ⟨20, rfl, fun w => gparse_err X Y W H C R b _ _ _ _ 20 s _ w h zs (by omega) (by omega) i0 i1 i2 i3 hf hp rfl, fun w => rgparse_err X Y W H C R b _ _ _ _ 20 s _ w h zs (by omega) (by omega) i0 i1 i2 i3 hf hp' rfl, noname fun m m0 m1 e => by
      have := (Grid.nm_at C R m h.c0 h.c1 h.r1 m0 m1).1
      rw [e] at this
      exact hn this⟩
/-- The box of a square. -/
def Grf.bxv (X Y W H C R m k n : Int) : Value := Grf.pb X Y ((m - 1) % C * W + Grf.cl (k * W) 8) ((m - 1) % C * W + Grf.la k W ((m - 1) % C) C) ((m - 1) / C * H + Grf.cl (n * H) 8) ((m - 1) / C * H + Grf.la n H ((m - 1) / C) R)
theorem prs_nmb (C R m : Int) (hC0 : 1 ≤ C) (hC : C ≤ 16) (hR : R ≤ 16) (m0 : 1 ≤ m) (m1 : m ≤ C * R) : Grid.prs C R (Grid.nmb C m) = .tuple #[.int .i64 m, .int .i64 0] := by
  obtain ⟨a, b, c⟩ := Grid.nm_at C R m hC0 hC hR m0 m1
  obtain ⟨e1, e2, e3⟩ := Grid.nm_is C R m _ hC0 hC hR m0 m1 rfl
  rw [Grid.prs_frm C R _ a, if_neg (by omega), ← e1]
theorem sqb_small (C R m k n : Int) (hC0 : 1 ≤ C) (hC : C ≤ 16) (hR : R ≤ 16) (m0 : 1 ≤ m) (m1 : m ≤ C * R) : (Grid.nmb C m).size ≤ 3 := (Grid.nm_at C R m hC0 hC hR m0 m1).1.2.1
theorem strip_bd (W C c k : Int) (W0 : 1 ≤ W) (W1 : W ≤ 65536) (c0 : 0 ≤ c) (c1 : c ≤ 16) (k0 : 0 ≤ k) (k1 : k ≤ 7) : -8388608 ≤ c * W + Grf.cl (k * W) 8 ∧ c * W + Grf.cl (k * W) 8 ≤ 8388608 ∧ -8388608 ≤ c * W + Grf.la k W c C ∧ c * W + Grf.la k W c C ≤ 8388608 := by
  obtain ⟨a, b, d, e⟩ := Grf.la_le k W c C W0 k0 k1
  have b0 : 0 ≤ c * W := Int.mul_nonneg c0 (by omega)
  have b1 : c * W ≤ 16 * W := Int.mul_le_mul_of_nonneg_right c1 (by omega)
  omega
theorem gparse_sq (X Y W H C R m k n : Int) (w : World) (h : Grid.Ok X Y W H C R) (m0 : 1 ≤ m) (m1 : m ≤ C * R) (k0 : 0 ≤ k) (k1 : k ≤ 7) (n0 : 0 ≤ n) (n1 : n ≤ 7) :
    Calls Tryd.prog 13 #[.agg #[.int .i64 X, .int .i64 Y, .int .i64 W, .int .i64 H, .int .i64 C, .int .i64 R], .string (Grf.sqb C m k n)] w fun e w' => e = .returned (.tuple #[Grf.bxv X Y W H C R m k n, .int .i64 0]) ∧ Q w w' := by
  obtain ⟨p0, p1, p2, p3⟩ := Grid.place C R m h.c0 m0 m1
  have zz := Grf.sqb_size C m k n
  have zb := sqb_small C R m k n h.c0 h.c1 h.r1 m0 m1
  have hm : m ≤ 256 := by
    have : C * R ≤ 16 * R := Int.mul_le_mul_of_nonneg_right h.c1 (by have := h.r0; omega)
    have := h.r1
    omega
  have r15 : (m - 1) / C ≤ 15 := by have := h.r1; omega
  have c15 : (m - 1) % C ≤ 15 := by have := h.c1; omega
  obtain ⟨u0, u1, u2, u3⟩ := strip_bd W C ((m - 1) % C) k h.w0 h.w1 p0 (by omega) k0 k1
  obtain ⟨v0, v1, v2, v3⟩ := strip_bd H R ((m - 1) / C) n h.h0 h.h1 p2 (by omega) n0 n1
  have hk := Grf.sqb_k C m k n k0 k1
  have hn := Grf.sqb_n C m k n n0 n1
  have hp := fun w => parse_any X Y W H C R (Grid.nmb C m) w h (by omega)
  rw [prs_nmb C R m h.c0 h.c1 h.r1 m0 m1] at hp
  have i3 := fun W => gslice_hi (Grf.sqb C m k n) (Grid.nmb C m).size (by omega) W
  rw [Grf.sqb_cut] at i3
  refine gparse_core X Y W H C R ((Grid.nmb C m).size : Int) 45 (97 + k) (49 + n) m _ _ _ _ _ _ (Grf.sqb C m k n) (Grid.nmb C m) w h (by omega) (by omega) (by omega) (fun W => by rw [byt_run _ _ (by omega), Grf.sqb_45]) (fun W => by rw [← hk]; exact gbyt1 _ _ 1 (by omega) W) (fun W => by rw [← hn]; exact gbyt1 _ _ 2 (by omega) W) i3 ⟨rfl, by omega, by omega, by omega, by omega⟩ hp m0 hm (Int.tmod_eq_emod_of_nonneg (by omega)) (Int.tdiv_eq_ediv_of_nonneg (by omega)) p2 (by omega) (fun w => ?_) (fun w => ?_) u0 u1 u2 u3 v0 v1 v2 v3
  · rw [show 97 + k - 97 = k by omega]
    exact stripe_any k W _ C k0 k1 h.w0 (by have := h.w1; omega) p0 (by omega) h.c0 (by have := h.c1; omega) w
  · rw [show 49 + n - 49 = n by omega]
    exact stripe_any n H _ R n0 n1 h.h0 (by have := h.h1; omega) p2 (by omega) h.r0 (by have := h.r1; omega) w
/-- What ends returns for a square of a sheet. -/
theorem ends_sq (lo last W C c k : Int) (w : World) (W0 : 1 ≤ W) (W1 : W ≤ 2000) (C0 : 1 ≤ C) (c0 : 0 ≤ c) (c1 : c < C) (k0 : 0 ≤ k) (k1 : k ≤ 7) (lo0 : -1048576 ≤ lo) (lo1 : lo ≤ 1048576) (hl : lo + W = last ↔ c = C - 1) :
    Calls Tryd.prog 37 #[.int .i64 lo, .int .i64 (lo + W), .int .i64 last, .int .i64 k] w fun e w' => e = .returned (.tuple #[.int .i64 (if Grf.cl (k * W) 8 ≤ Grf.la k W c C then lo + Grf.cl (k * W) 8 else 0), .int .i64 (if Grf.cl (k * W) 8 ≤ Grf.la k W c C then lo + Grf.la k W c C else 0), .bool (decide (Grf.cl (k * W) 8 ≤ Grf.la k W c C))]) ∧ w = w' := by
  obtain ⟨a, b, d, e⟩ := Grf.la_le k W c C W0 k0 k1
  refine ends_any lo (lo + W) last k W (Grf.cl (k * W) 8) (Grf.la k W c C) _ _ _ w (by omega) W0 W1 lo0 lo1 b d (fun d d0 d1 => ?_) (fun x y o hst => ?_)
  · rw [hl]
    exact Grf.ends_iff d W C c k W0 C0 c0 c1 k0 k1 d0 d1
  · unfold Grf.St at hst
    by_cases hh : Grf.cl (k * W) 8 ≤ Grf.la k W c C
    · rw [if_pos ⟨by omega, hh⟩, if_pos (by omega)] at hst
      rw [if_pos hh, if_pos hh, decide_eq_true hh]
      exact hst
    · rw [if_neg (fun q => hh q.2)] at hst
      rw [if_neg hh, if_neg hh, decide_eq_false hh]
      exact hst
theorem pb_rb (X Y p q F L F' L' : Int) : Grf.pb X Y (p + F) (p + L) (q + F') (q + L') = Grf.rb (if F ≤ L then X + p + F else 0) (if F ≤ L then X + p + L else 0) (decide (F ≤ L)) (if F' ≤ L' then Y + q + F' else 0) (if F' ≤ L' then Y + q + L' else 0) (decide (F' ≤ L')) := by
  unfold Grf.pb Grf.rb
  by_cases a : F ≤ L
  · by_cases b : F' ≤ L'
    · rw [if_neg (by omega), if_pos a, if_pos a, if_pos b, if_pos b, decide_eq_true a, decide_eq_true b, if_neg (by simp), Int.add_assoc, Int.add_assoc, Int.add_assoc, Int.add_assoc]
    · rw [if_pos (by omega), decide_eq_false b, if_pos (.inr rfl)]
  · rw [if_pos (by omega), decide_eq_false a, if_pos (.inl rfl)]
theorem edge_iff (X W C c : Int) (W0 : 1 ≤ W) : X + c * W + W = X + C * W ↔ c = C - 1 := by
  constructor
  · intro h
    have : (c + 1) * W = C * W := by rw [Int.add_mul]; omega
    have := Int.eq_of_mul_eq_mul_right (by omega) this
    omega
  · rintro rfl
    rw [Int.sub_mul]
    omega
theorem rgparse_sq (X Y W H C R m k n : Int) (w : World) (h : Grid.Ok X Y W H C R) (hw : W ≤ 2000) (hh : H ≤ 2000) (m0 : 1 ≤ m) (m1 : m ≤ C * R) (k0 : 0 ≤ k) (k1 : k ≤ 7) (n0 : 0 ≤ n) (n1 : n ≤ 7) :
    Calls Tryd.prog 14 #[.agg #[.int .i64 X, .int .i64 Y, .int .i64 W, .int .i64 H, .int .i64 C, .int .i64 R], .string (Grf.sqb C m k n)] w fun e w' => e = .returned (.tuple #[Grf.bxv X Y W H C R m k n, .int .i64 0]) ∧ Q w w' := by
  obtain ⟨p0, p1, p2, p3⟩ := Grid.place C R m h.c0 m0 m1
  have zz := Grf.sqb_size C m k n
  have zb := sqb_small C R m k n h.c0 h.c1 h.r1 m0 m1
  have hk := Grf.sqb_k C m k n k0 k1
  have hn := Grf.sqb_n C m k n n0 n1
  have hp := fun w => rparse_any X Y W H C R (Grid.nmb C m) w h (by omega)
  rw [prs_nmb C R m h.c0 h.c1 h.r1 m0 m1] at hp
  have i3 := fun W => gslice_hi (Grf.sqb C m k n) (Grid.nmb C m).size (by omega) W
  rw [Grf.sqb_cut] at i3
  have hb := fun w => rbox_there X Y W H C R m w h m0 m1
  unfold Grid.bx Grid.by' at hb
  have q0 := Grid.place_bd _ _ _ W p0 p1 h.w0 (Int.le_refl _)
  have q1 := Grid.place_bd _ _ _ H p2 p3 h.h0 (Int.le_refl _)
  have ho := h
  obtain ⟨x0, x1, y0, y1, w0, w1, h0, h1, c0, c1, r0, r1, ex0, ex1, ey0, ey1⟩ := ho
  have HX := fun w => ends_sq (X + (m - 1) % C * W) (X + C * W) W C ((m - 1) % C) k w h.w0 hw h.c0 p0 p1 k0 k1 (by omega) (by omega) (edge_iff X W C _ h.w0)
  have HY := fun w => ends_sq (Y + (m - 1) / C * H) (Y + R * H) H R ((m - 1) / C) n w h.h0 hh h.r0 p2 p3 n0 n1 (by omega) (by omega) (edge_iff Y H R _ h.h0)
  have H1 := rgparse_core X Y W H C R ((Grid.nmb C m).size : Int) 45 (97 + k) (49 + n) m _ _ _ _ _ _ _ _ _ _ (Grf.sqb C m k n) (Grid.nmb C m) w h (by omega) (by omega) (by omega) (fun W => by rw [byt_run _ _ (by omega), Grf.sqb_45]) (fun W => by rw [← hk]; exact gbyt1 _ _ 1 (by omega) W) (fun W => by rw [← hn]; exact gbyt1 _ _ 2 (by omega) W) i3 ⟨rfl, by omega, by omega, by omega, by omega⟩ hp hb (fun w => by rw [show 97 + k - 97 = k by omega]; exact HX w) (fun w => by rw [show 49 + n - 49 = n by omega]; exact HY w)
  unfold Grf.bxv
  rw [pb_rb]
  exact H1
end Go.Proofs.YtcaabaijkidmgaaDoor
