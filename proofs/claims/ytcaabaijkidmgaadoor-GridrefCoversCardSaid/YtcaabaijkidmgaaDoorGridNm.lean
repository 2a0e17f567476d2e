/- Plain facts: the names of sheets and what Parse reads in them. -/
import Derived.Test.YtcaabaijkidmgaaDoorGridRP
namespace Go.Proofs.YtcaabaijkidmgaaDoor
open Go.RowKit
set_option linter.unusedVariables false
namespace Grid
/-- The row that a name of the right form tells. -/
def row (s : ByteArray) : Int := if s.size = 2 then byt s 1 - 48 else 10 * (byt s 1 - 48) + (byt s 2 - 48)
theorem prs_not (C R : Int) (s : ByteArray) (h : ¬ frm s) : prs C R s = .tuple #[.int .i64 0, .int .i64 20] := by
  unfold frm at h
  unfold prs
  by_cases a : s.size < 2 ∨ 3 < s.size
  · rw [if_pos a]
  rw [if_neg a]
  by_cases b : byt s 0 < 65 ∨ 80 < byt s 0 ∨ byt s 1 = 48
  · rw [if_pos b]
  rw [if_neg b]
  by_cases c : s.size = 2
  · rw [if_pos c, if_neg]
    intro d
    exact h ⟨by omega, by omega, by omega, by omega, by omega, by omega, by omega, by omega⟩
  · rw [if_neg c, if_neg]
    intro d
    exact h ⟨by omega, by omega, by omega, by omega, by omega, by omega, by omega, by omega⟩
theorem prs_frm (C R : Int) (s : ByteArray) (h : frm s) : prs C R s = if C ≤ byt s 0 - 65 ∨ R < row s then .tuple #[.int .i64 0, .int .i64 7] else .tuple #[.int .i64 ((row s - 1) * C + (byt s 0 - 65) + 1), .int .i64 0] := by
  obtain ⟨h1, h2, h3, h4, h5, h6, h7, h8⟩ := h
  unfold prs row
  rw [if_neg (by omega), if_neg (by omega)]
  by_cases c : s.size = 2
  · rw [if_pos c, if_pos (by omega), if_pos c]
  · rw [if_neg c, if_pos (by omega), if_neg c]
/-- The name of column a and row b. -/
def nmB (a b : Nat) : ByteArray := ⟨(UInt8.ofNat (65 + a) :: dec b).toArray⟩
theorem nmB_all : ∀ a : Fin 16, ∀ b : Fin 16, frm (nmB a.val (b.val + 1)) ∧ byt (nmB a.val (b.val + 1)) 0 = 65 + (a.val : Int) ∧ row (nmB a.val (b.val + 1)) = (b.val : Int) + 1 := by decide +kernel
theorem nmB_frm (a b : Nat) (ha : a ≤ 15) (hb : b ≤ 15) : frm (nmB a (b + 1)) ∧ byt (nmB a (b + 1)) 0 = 65 + (a : Int) ∧ row (nmB a (b + 1)) = (b : Int) + 1 := nmB_all ⟨a, by omega⟩ ⟨b, by omega⟩
theorem byte_of {x : UInt8} {n : Nat} (h : x.toNat = n) : x = UInt8.ofNat n := by subst h; simp
theorem nmB_of (s : ByteArray) (a b : Nat) (h : frm s) (ha : byt s 0 = 65 + (a : Int)) (hb : row s = (b : Int)) : nmB a b = s := by
  obtain ⟨h1, h2, h3, h4, h5, h6, h7, h8⟩ := h
  obtain ⟨⟨l⟩⟩ := s
  have hsz : (ByteArray.mk ⟨l⟩).size = l.length := rfl
  rw [hsz] at h1 h2 h8
  unfold row at hb
  rw [hsz] at hb
  match l, h1, h2 with
  | [x, y], _, _ =>
    have e0 : byt ⟨⟨[x, y]⟩⟩ 0 = (x.toNat : Int) := rfl
    have e1 : byt ⟨⟨[x, y]⟩⟩ 1 = (y.toNat : Int) := rfl
    rw [e0] at ha
    rw [e1] at h5 h6 h7 hb
    simp at hb
    have hx := byte_of (x := x) (n := 65 + a) (by omega)
    have hy := byte_of (x := y) (n := 48 + b) (by omega)
    unfold nmB dec
    rw [if_pos (by omega), ← hx, ← hy]
  | [x, y, z], _, _ =>
    have e0 : byt ⟨⟨[x, y, z]⟩⟩ 0 = (x.toNat : Int) := rfl
    have e1 : byt ⟨⟨[x, y, z]⟩⟩ 1 = (y.toNat : Int) := rfl
    have e2 : byt ⟨⟨[x, y, z]⟩⟩ 2 = (z.toNat : Int) := rfl
    have h9 := h8 rfl
    rw [e2] at h9
    rw [e0] at ha
    rw [e1] at h5 h6 h7
    rw [if_neg (by simp), e1, e2] at hb
    have hx := byte_of (x := x) (n := 65 + a) (by omega)
    have hy := byte_of (x := y) (n := 48 + b / 10) (by omega)
    have hz := byte_of (x := z) (n := 48 + b % 10) (by omega)
    unfold nmB dec
    rw [if_neg (by omega), ← hx, ← hy, ← hz]
/-- The name of sheet k as a string. -/
def nmb (C k : Int) : ByteArray := ⟨(nm C k).toArray⟩
theorem nmb_eq (C k : Int) : nmb C k = nmB ((k - 1) % C).toNat (((k - 1) / C).toNat + 1) := rfl
theorem nm_at (C R k : Int) (hC0 : 1 ≤ C) (hC : C ≤ 16) (hR : R ≤ 16) (hk0 : 1 ≤ k) (hk : k ≤ C * R) : frm (nmb C k) ∧ byt (nmb C k) 0 = 65 + (k - 1) % C ∧ row (nmb C k) = (k - 1) / C + 1 := by
  obtain ⟨p0, p1, p2, p3⟩ := Grid.place C R k hC0 hk0 hk
  rw [nmb_eq]
  obtain ⟨a, b, c⟩ := nmB_frm ((k - 1) % C).toNat ((k - 1) / C).toNat (by omega) (by omega)
  exact ⟨a, by rw [b]; omega, by rw [c]; omega⟩
theorem back (C R k : Int) (hC0 : 1 ≤ C) (hk0 : 1 ≤ k) : ((k - 1) / C + 1 - 1) * C + (65 + (k - 1) % C - 65) + 1 = k := by
  have := Int.mul_ediv_add_emod (k - 1) C
  rw [Int.mul_comm] at this
  rw [show (k - 1) / C + 1 - 1 = (k - 1) / C by omega]
  omega
/-- A string of the right form whose column and row are there is the name of its sheet. -/
theorem nm_of (C R : Int) (s : ByteArray) (h : frm s) (hC0 : 1 ≤ C) (hc : byt s 0 - 65 < C) (hr : row s ≤ R) :
    nmb C ((row s - 1) * C + (byt s 0 - 65) + 1) = s ∧ 1 ≤ (row s - 1) * C + (byt s 0 - 65) + 1 ∧ (row s - 1) * C + (byt s 0 - 65) + 1 ≤ C * R := by
  have h3 := h.2.2.1
  have hr0 : 1 ≤ row s := by
    obtain ⟨h1, h2, h3, h4, h5, h6, h7, h8⟩ := h
    unfold row
    split <;> omega
  have e : (row s - 1) * C + (byt s 0 - 65) + 1 - 1 = (byt s 0 - 65) + (row s - 1) * C := by omega
  have e1 : ((row s - 1) * C + (byt s 0 - 65) + 1 - 1) % C = byt s 0 - 65 := by
    rw [e, Int.add_mul_emod_self_right]
    exact Int.emod_eq_of_lt (by omega) hc
  have e2 : ((row s - 1) * C + (byt s 0 - 65) + 1 - 1) / C = row s - 1 := by
    rw [e, Int.add_mul_ediv_right _ _ (by omega), Int.ediv_eq_zero_of_lt (by omega) hc]
    omega
  refine ⟨?_, ?_, ?_⟩
  · rw [nmb_eq, e1, e2]
    exact nmB_of s _ _ h (by omega) (by omega)
  · have := Int.mul_nonneg (show 0 ≤ row s - 1 by omega) (show 0 ≤ C by omega)
    omega
  · have h1 : (row s - 1 + 1) * C ≤ R * C := Int.mul_le_mul_of_nonneg_right (by omega) (by omega)
    rw [Int.add_mul] at h1
    rw [Int.mul_comm C R]
    omega
/-- Whose name a string is. -/
theorem nm_is (C R j : Int) (s : ByteArray) (hC0 : 1 ≤ C) (hC : C ≤ 16) (hR : R ≤ 16) (hj0 : 1 ≤ j) (hj : j ≤ C * R) (e : nmb C j = s) : j = (row s - 1) * C + (byt s 0 - 65) + 1 ∧ byt s 0 - 65 < C ∧ row s ≤ R := by
  obtain ⟨p0, p1, p2, p3⟩ := Grid.place C R j hC0 hj0 hj
  obtain ⟨a, b, c⟩ := nm_at C R j hC0 hC hR hj0 hj
  rw [e] at b c
  rw [b, c]
  exact ⟨(back C R j hC0 hj0).symm, by omega, by omega⟩
end Grid

/-- Parse of the reference answers as sheetgrid's. -/
theorem rparse_any (X Y W H C R : Int) (s : ByteArray) (w : World) (h : Grid.Ok X Y W H C R) (hm : s.size ≤ 9223372036854775807) :
    Calls Tryd.prog 18 #[.agg #[.int .i64 X, .int .i64 Y, .int .i64 W, .int .i64 H, .int .i64 C, .int .i64 R], .string s] w fun e w' => e = .returned (Grid.prs C R s) ∧ Q w w' := by
  have hp := Grid.prod_bd C R 16 16 h.c0 h.c1 h.r0 h.r1
  by_cases hf : Grid.frm s
  · rw [Grid.prs_frm C R s hf]
    by_cases c : C ≤ Grid.byt s 0 - 65 ∨ R < Grid.row s
    · rw [if_pos c]
      refine rparse_lost X Y W H C R s w h hm hf (C * R).toNat (by omega) (fun j hj e => ?_)
      have := Grid.nm_is C R ((j : Int) + 1) s h.c0 h.c1 h.r1 (by omega) (by omega) e
      omega
    · rw [if_neg c]
      obtain ⟨e, k0, k1⟩ := Grid.nm_of C R s hf h.c0 (by omega) (by omega)
      obtain ⟨m, hmm⟩ : ∃ m : Nat, (Grid.row s - 1) * C + (Grid.byt s 0 - 65) + 1 = (m : Int) + 1 := ⟨((Grid.row s - 1) * C + (Grid.byt s 0 - 65)).toNat, by omega⟩
      rw [hmm] at e k1 ⊢
      refine rparse_find X Y W H C R s w h hm hf m k1 e (fun j hj e' => ?_)
      have := Grid.nm_is C R ((j : Int) + 1) s h.c0 h.c1 h.r1 (by omega) (by omega) e'
      omega
  · rw [Grid.prs_not C R s hf]
    exact rparse_form X Y W H C R s w h hm hf
theorem prs_shape (C R : Int) (s : ByteArray) : ∃ n g, Grid.prs C R s = .tuple #[.int .i64 n, .int .i64 g] := by
  by_cases hf : Grid.frm s
  · rw [Grid.prs_frm C R s hf]
    split
    · exact ⟨_, _, rfl⟩
    · exact ⟨_, _, rfl⟩
  · rw [Grid.prs_not C R s hf]
    exact ⟨_, _, rfl⟩
end Go.Proofs.YtcaabaijkidmgaaDoor
