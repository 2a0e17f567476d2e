
/- Which points a square contains; Contains of any text. -/
import Derived.Test.YtcaabaijkidmgaaDoorGrfQ
namespace Go.Proofs.YtcaabaijkidmgaaDoor
open Go.RowKit
set_option linter.unusedVariables false
/-- Which points the box of a square contains. -/
theorem box_iff (X Y W H C R m k n x y : Int) (h : Grid.Ok X Y W H C R) (m0 : 1 ≤ m) (m1 : m ≤ C * R) (k0 : 0 ≤ k) (k1 : k ≤ 7) (n0 : 0 ≤ n) (n1 : n ≤ 7) :
    ∃ a b c d, Grf.bxv X Y W H C R m k n = .agg #[.int .i64 a, .int .i64 b, .int .i64 c, .int .i64 d] ∧ (Grf.inB a b c d x y = true ↔ (Grf.ins X Y W H C R x y ∧ m = Grf.no X Y W H C R x y ∧ k = Grf.sq (x - X) W C ∧ n = Grf.sq (y - Y) H R)) := by
  obtain ⟨p0, p1, p2, p3⟩ := Grid.place C R m h.c0 m0 m1
  have e1 := Grf.stripe_iff (x - X) W C ((m - 1) % C) k h.w0 h.c0 p0 p1 k0 k1
  have e2 := Grf.stripe_iff (y - Y) H R ((m - 1) / C) n h.h0 h.r0 p2 p3 n0 n1
  have hm : m = (m - 1) / C * C + (m - 1) % C + 1 := by
    have := Int.mul_ediv_add_emod (m - 1) C
    rw [Int.mul_comm] at this
    omega
  have key : ((m - 1) % C * W + Grf.cl (k * W) 8 ≤ x - X ∧ x - X ≤ (m - 1) % C * W + Grf.la k W ((m - 1) % C) C) ∧ ((m - 1) / C * H + Grf.cl (n * H) 8 ≤ y - Y ∧ y - Y ≤ (m - 1) / C * H + Grf.la n H ((m - 1) / C) R) ↔ (Grf.ins X Y W H C R x y ∧ m = Grf.no X Y W H C R x y ∧ k = Grf.sq (x - X) W C ∧ n = Grf.sq (y - Y) H R) := by
    rw [e1, e2]
    unfold Grf.ins Grf.no
    constructor
    · rintro ⟨⟨a0, a1, a2, a3⟩, b0, b1, b2, b3⟩
      refine ⟨⟨by omega, by omega, by omega, by omega⟩, ?_, a3.symm, b3.symm⟩
      rw [a2, b2]
      exact hm
    · rintro ⟨⟨i0, i1, i2, i3⟩, hn, hk, hl⟩
      have s1 := Grf.sh_bd (x - X) W C (by omega) h.w0 h.c0
      have d1 : (m - 1) % C = Grf.sh (x - X) W C := by
        rw [hn, show Grf.sh (y - Y) H R * C + Grf.sh (x - X) W C + 1 - 1 = Grf.sh (x - X) W C + Grf.sh (y - Y) H R * C by omega, Int.add_mul_emod_self_right]
        exact Int.emod_eq_of_lt s1.1 (by omega)
      have d2 : (m - 1) / C = Grf.sh (y - Y) H R := by
        rw [hn, show Grf.sh (y - Y) H R * C + Grf.sh (x - X) W C + 1 - 1 = Grf.sh (x - X) W C + Grf.sh (y - Y) H R * C by omega, Int.add_mul_ediv_right _ _ (by have := h.c0; omega), Int.ediv_eq_zero_of_lt s1.1 (by omega)]
        omega
      exact ⟨⟨by omega, by omega, d1.symm, hk.symm⟩, by omega, by omega, d2.symm, hl.symm⟩
  unfold Grf.bxv Grf.pb
  by_cases hh : (m - 1) % C * W + Grf.la k W ((m - 1) % C) C < (m - 1) % C * W + Grf.cl (k * W) 8 ∨ (m - 1) / C * H + Grf.la n H ((m - 1) / C) R < (m - 1) / C * H + Grf.cl (n * H) 8
  · rw [if_pos hh]
    refine ⟨0, 0, -1, -1, rfl, ?_⟩
    rw [← key]
    unfold Grf.inB
    rw [decide_eq_true_eq]
    constructor
    · intro q
      omega
    · intro q
      omega
  · rw [if_neg hh]
    refine ⟨_, _, _, _, rfl, ?_⟩
    rw [← key]
    unfold Grf.inB
    rw [decide_eq_true_eq]
    constructor
    · intro q
      omega
    · intro q
      omega
theorem no_bd (X Y W H C R x y : Int) (h : Grid.Ok X Y W H C R) (hi : Grf.ins X Y W H C R x y) : 1 ≤ Grf.no X Y W H C R x y ∧ Grf.no X Y W H C R x y ≤ C * R ∧ 0 ≤ Grf.sq (x - X) W C ∧ Grf.sq (x - X) W C ≤ 7 ∧ 0 ≤ Grf.sq (y - Y) H R ∧ Grf.sq (y - Y) H R ≤ 7 := by
  obtain ⟨i0, i1, i2, i3⟩ := hi
  have s1 := Grf.sh_bd (x - X) W C (by omega) h.w0 h.c0
  have s2 := Grf.sh_bd (y - Y) H R (by omega) h.h0 h.r0
  have b1 := Grf.sq_bd (x - X) W C (by omega) h.w0 h.c0
  have b2 := Grf.sq_bd (y - Y) H R (by omega) h.h0 h.r0
  have c0 := h.c0
  have h1 : Grf.sh (y - Y) H R * C ≤ (R - 1) * C := Int.mul_le_mul_of_nonneg_right s2.2 (by omega)
  have h2 := Int.mul_nonneg s2.1 (show 0 ≤ C by omega)
  rw [Int.sub_mul, Int.mul_comm R C] at h1
  unfold Grf.no
  refine ⟨?_, ?_, b1.1, b1.2, b2.1, b2.2⟩ <;> omega
theorem cont_ok (X Y W H C R x y : Int) (s : ByteArray) (o : Bool) (h : Grid.Ok X Y W H C R) (hs : s.size ≤ 9223372036854775807) (ho : o = true ↔ (Grf.ins X Y W H C R x y ∧ s = ⟨(Grf.sn X Y W H C R x y).toArray⟩)) (w : World) :
    Calls Tryd.prog 15 #[.agg #[.int .i64 X, .int .i64 Y, .int .i64 W, .int .i64 H, .int .i64 C, .int .i64 R], .string s, .agg #[.int .i64 x, .int .i64 y]] w fun e w' => e = .returned (.bool o) ∧ Q w w' := by
  rcases gtext X Y W H C R s h hs with ⟨g, hg, h1, _, hno⟩ | ⟨m, k, n, m0, m1, k0, k1, n0, n1, rfl⟩
  · have : o = false := by
      cases o with
      | false => rfl
      | true =>
        obtain ⟨hi, e⟩ := ho.1 rfl
        obtain ⟨a0, a1, a2, a3, a4, a5⟩ := no_bd X Y W H C R x y h hi
        exact absurd e.symm (hno _ _ _ a0 a1 a2 a3 a4 a5)
    rw [this]
    exact gcontains_err X Y W H C R x y g s w hg h1
  · obtain ⟨a, b, c, d, e, hb⟩ := box_iff X Y W H C R m k n x y h m0 m1 k0 k1 n0 n1
    have : o = Grf.inB a b c d x y := by
      rw [Bool.eq_iff_iff, ho, hb]
      constructor
      · rintro ⟨hi, es⟩
        obtain ⟨a0, a1, a2, a3, a4, a5⟩ := no_bd X Y W H C R x y h hi
        exact ⟨hi, Grf.sqb_inj C R m k n _ _ _ h.c0 h.c1 h.r1 m0 m1 a0 a1 k0 k1 n0 n1 a2 a3 a4 a5 es⟩
      · rintro ⟨hi, e1, e2, e3⟩
        refine ⟨hi, ?_⟩
        rw [e1, e2, e3]
        rfl
    rw [this]
    exact gcontains_box X Y W H C R a b c d x y _ w (fun w => by rw [← e]; exact gparse_sq X Y W H C R m k n w h m0 m1 k0 k1 n0 n1)
theorem sn_size (X Y W H C R x y : Int) (h : Grid.Ok X Y W H C R) (hi : Grf.ins X Y W H C R x y) : (⟨(Grf.sn X Y W H C R x y).toArray⟩ : ByteArray).size ≤ 6 := by
  obtain ⟨a0, a1, a2, a3, a4, a5⟩ := no_bd X Y W H C R x y h hi
  have z := sqb_small C R (Grf.no X Y W H C R x y) 0 0 h.c0 h.c1 h.r1 a0 a1
  have := Grf.sqb_size C (Grf.no X Y W H C R x y) (Grf.sq (x - X) W C) (Grf.sq (y - Y) H R)
  show (Grf.sqb C (Grf.no X Y W H C R x y) (Grf.sq (x - X) W C) (Grf.sq (y - Y) H R)).size ≤ 6
  omega
end Go.Proofs.YtcaabaijkidmgaaDoor
