/- GC: joined texts. -/
import Derived.Test.YtcaabaijkidmgaaDoorGrfB
import Derived.Test.YtcaabaijkidmgaaDoorCellB
import Derived.Test.YtcaabaijkidmgaaDoorGridRP

/- Contract of gridref.Square where it returns an error. -/
namespace Go.Proofs.YtcaabaijkidmgaaDoor
open Go.RowKit
set_option linter.unusedVariables false

theorem square_bad (X Y W H C R x y : Int) (w : World) (h : ¬ Grid.Ok X Y W H C R) :
    Calls Tryd.prog 9 #[.agg #[.int .i64 X, .int .i64 Y, .int .i64 W, .int .i64 H, .int .i64 C, .int .i64 R], .agg #[.int .i64 x, .int .i64 y]] w fun e w' => e = .returned (.tuple #[.string ⟨#[]⟩, .int .i64 2]) ∧ Q w w' := by
  go_enter Tryd.func9, Tryd.ntmps9
  go_wp2_with fail
  refine (check_no X Y W H C R _ h).mono ?_
  rintro e w1 ⟨rfl, q1⟩
  go_wp2_with fail
  go_ret2
  exact ⟨rfl, (q1.behind _).behind _⟩
/-- Does a point lie in the rectangle of a series? -/
def Grf.ins (X Y W H C R x y : Int) : Prop := X ≤ x ∧ x ≤ X + C * W ∧ Y ≤ y ∧ y ≤ Y + R * H
set_option maxHeartbeats 2000000 in
theorem square_out (X Y W H C R x y : Int) (w : World) (h : Grid.Ok X Y W H C R) (ho : ¬ Grf.ins X Y W H C R x y) :
    Calls Tryd.prog 9 #[.agg #[.int .i64 X, .int .i64 Y, .int .i64 W, .int .i64 H, .int .i64 C, .int .i64 R], .agg #[.int .i64 x, .int .i64 y]] w fun e w' => e = .returned (.tuple #[.string ⟨#[]⟩, .int .i64 7]) ∧ Q w w' := by
  have HK := Lib.hid (fun W' => check_yes X Y W H C R W' h)
  unfold Grf.ins at ho
  obtain ⟨x0, x1, y0, y1, w0, w1, h0, h1, c0, c1, r0, r1, ex0, ex1, ey0, ey1⟩ := h
  have p0 : 0 ≤ C * W := Int.mul_nonneg (by omega) (by omega)
  have p1 : 0 ≤ R * H := Int.mul_nonneg (by omega) (by omega)
  obtain ⟨cw, hcw⟩ : ∃ z, C * W = z := ⟨_, rfl⟩
  obtain ⟨rh, hrh⟩ : ∃ z, R * H = z := ⟨_, rfl⟩
  rw [hcw] at ho p0 ex0 ex1
  rw [hrh] at ho p1 ey0 ey1
  by_cases g0 : x < X
  · have f0 : decide (x < X) = true := by simpa using g0
    clear ho
    go_enter Tryd.func9, Tryd.ntmps9
    go_wp2_with fail
    refine (HK.out _).mono ?_
    rintro e w1 ⟨rfl, q1⟩
    obtain ⟨k0, k1, k2, k3, k4, k5, k6⟩ := ((SeAt.fresh w X Y W H C R).next ((Q.refl _).alloc (.cells #[.int .i64 x, .int .i64 y] 23))).next q1
    have hp := b_next q1 (new1 w (.cells #[.int .i64 X, .int .i64 Y, .int .i64 W, .int .i64 H, .int .i64 C, .int .i64 R] 25) (.cells #[.int .i64 x, .int .i64 y] 23))
    obtain ⟨m0, m1, m2, m3⟩ := row2 hp
    clear k6 hp
    go_wp2_with fail
    go_ret2
    exact ⟨rfl, (q1.behind _).behind _⟩
  have f0 : decide (x < X) = false := by simpa using g0
  by_cases g1 : X + cw < x
  · have f1 : decide (X + cw < x) = true := by simpa using g1
    clear ho
    go_enter Tryd.func9, Tryd.ntmps9
    go_wp2_with fail
    refine (HK.out _).mono ?_
    rintro e w1 ⟨rfl, q1⟩
    obtain ⟨k0, k1, k2, k3, k4, k5, k6⟩ := ((SeAt.fresh w X Y W H C R).next ((Q.refl _).alloc (.cells #[.int .i64 x, .int .i64 y] 23))).next q1
    have hp := b_next q1 (new1 w (.cells #[.int .i64 X, .int .i64 Y, .int .i64 W, .int .i64 H, .int .i64 C, .int .i64 R] 25) (.cells #[.int .i64 x, .int .i64 y] 23))
    obtain ⟨m0, m1, m2, m3⟩ := row2 hp
    clear k6 hp
    go_wp2_with fail
    go_ret2
    exact ⟨rfl, (q1.behind _).behind _⟩
  have f1 : decide (X + cw < x) = false := by simpa using g1
  by_cases g2 : y < Y
  · have f2 : decide (y < Y) = true := by simpa using g2
    clear ho
    go_enter Tryd.func9, Tryd.ntmps9
    go_wp2_with fail
    refine (HK.out _).mono ?_
    rintro e w1 ⟨rfl, q1⟩
    obtain ⟨k0, k1, k2, k3, k4, k5, k6⟩ := ((SeAt.fresh w X Y W H C R).next ((Q.refl _).alloc (.cells #[.int .i64 x, .int .i64 y] 23))).next q1
    have hp := b_next q1 (new1 w (.cells #[.int .i64 X, .int .i64 Y, .int .i64 W, .int .i64 H, .int .i64 C, .int .i64 R] 25) (.cells #[.int .i64 x, .int .i64 y] 23))
    obtain ⟨m0, m1, m2, m3⟩ := row2 hp
    clear k6 hp
    go_wp2_with fail
    go_ret2
    exact ⟨rfl, (q1.behind _).behind _⟩
  have f2 : decide (y < Y) = false := by simpa using g2
  by_cases g3 : Y + rh < y
  · have f3 : decide (Y + rh < y) = true := by simpa using g3
    clear ho
    go_enter Tryd.func9, Tryd.ntmps9
    go_wp2_with fail
    refine (HK.out _).mono ?_
    rintro e w1 ⟨rfl, q1⟩
    obtain ⟨k0, k1, k2, k3, k4, k5, k6⟩ := ((SeAt.fresh w X Y W H C R).next ((Q.refl _).alloc (.cells #[.int .i64 x, .int .i64 y] 23))).next q1
    have hp := b_next q1 (new1 w (.cells #[.int .i64 X, .int .i64 Y, .int .i64 W, .int .i64 H, .int .i64 C, .int .i64 R] 25) (.cells #[.int .i64 x, .int .i64 y] 23))
    obtain ⟨m0, m1, m2, m3⟩ := row2 hp
    clear k6 hp
    go_wp2_with fail
    go_ret2
    exact ⟨rfl, (q1.behind _).behind _⟩
  have f3 : decide (Y + rh < y) = false := by simpa using g3
  omega
end Go.Proofs.YtcaabaijkidmgaaDoor


/- Contract of gridref.Square where it returns a square. -/
namespace Go.Proofs.YtcaabaijkidmgaaDoor
open Go.RowKit
set_option linter.unusedVariables false

theorem Grf.sh_bd (d l n : Int) (d0 : 0 ≤ d) (l0 : 1 ≤ l) (n0 : 1 ≤ n) : 0 ≤ Grf.sh d l n ∧ Grf.sh d l n ≤ n - 1 := by
  unfold Grf.sh
  have h := Int.ediv_nonneg d0 (show 0 ≤ l by omega)
  split <;> omega
theorem Grf.sq_bd (d l n : Int) (d0 : 0 ≤ d) (l0 : 1 ≤ l) (n0 : 1 ≤ n) : 0 ≤ Grf.sq d l n ∧ Grf.sq d l n ≤ 7 := by
  have h1 : Grf.sh d l n * l ≤ d := by
    have h2 : Grf.sh d l n ≤ d / l := by unfold Grf.sh; split <;> omega
    have h3 := Int.mul_le_mul_of_nonneg_right h2 (show 0 ≤ l by omega)
    have h4 := Int.mul_ediv_add_emod d l
    have h5 := Int.emod_nonneg d (show l ≠ 0 by omega)
    rw [Int.mul_comm] at h4
    omega
  unfold Grf.sq
  have h := Int.ediv_nonneg (show 0 ≤ 8 * (d - Grf.sh d l n * l) by omega) (show 0 ≤ l by omega)
  split <;> omega
/-- Three bytes of their own, as a string. -/
theorem conv3 (w : World) (T : TypeId) (a b c : Int) : (convert 59 9 (.slice (some ⟨w.heap.size, 0, none⟩) 3 3)).run Tryd.prog (w.alloc (.cells #[.int .u8 a, .int .u8 b, .int .u8 c] T)) = .ok (.string ⟨#[UInt8.ofNat a.toNat, UInt8.ofNat b.toNat, UInt8.ofNat c.toNat]⟩) (w.alloc (.cells #[.int .u8 a, .int .u8 b, .int .u8 c] T)) := by
  rw [run_convert_bytes_string _ _ _ 5 _ _ _ Tryd.underlying59 Tryd.underlying5 Tryd.underlying9, run_bytesToString _ _ _ _ [a, b, c] (by
    have := run_loadCells (P := Tryd.prog) (w.alloc (.cells #[.int .u8 a, .int .u8 b, .int .u8 c] T)) ⟨w.heap.size, 0, none⟩ 3 (fun j => if j = 0 then .int .u8 a else if j = 1 then .int .u8 b else .int .u8 c) (fun j hj => by
      have hb := row3 (heap_alloc_new w (.cells #[.int .u8 a, .int .u8 b, .int .u8 c] T))
      have : j = 0 ∨ j = 1 ∨ j = 2 := by omega
      rcases this with rfl | rfl | rfl
      · exact hb.1
      · exact hb.2.1
      · exact hb.2.2.1)
    exact this)]
  rfl
namespace Grf
/-- The number of the sheet of a point. -/
def no (X Y W H C R x y : Int) : Int := sh (y - Y) H R * C + sh (x - X) W C + 1
/-- The name of the square of a point. -/
def sn (X Y W H C R x y : Int) : List UInt8 := Grid.nm C (no X Y W H C R x y) ++ [45, UInt8.ofNat (97 + (sq (x - X) W C).toNat), UInt8.ofNat (49 + (sq (y - Y) H R).toNat)]
end Grf
set_option maxHeartbeats 4000000 in
theorem square_in (X Y W H C R x y : Int) (w : World) (h : Grid.Ok X Y W H C R) (hi : Grf.ins X Y W H C R x y) :
    Calls Tryd.prog 9 #[.agg #[.int .i64 X, .int .i64 Y, .int .i64 W, .int .i64 H, .int .i64 C, .int .i64 R], .agg #[.int .i64 x, .int .i64 y]] w fun e w' => e = .returned (.tuple #[.string ⟨(Grf.sn X Y W H C R x y).toArray⟩, .int .i64 0]) ∧ Q w w' := by
  have HK := Lib.hid (fun W' => check_yes X Y W H C R W' h)
  have HO := Lib.hid h
  unfold Grf.ins at hi
  obtain ⟨i0, i1, i2, i3⟩ := hi
  obtain ⟨x0, x1, y0, y1, w0, w1, h0, h1, c0, c1, r0, r1, ex0, ex1, ey0, ey1⟩ := h
  have H1 := Lib.hid (fun W' => locate_any (x - X) W C (by omega) (by omega) (by omega) (by omega) (by omega) (by omega) W')
  have H2 := Lib.hid (fun W' => locate_any (y - Y) H R (by omega) (by omega) (by omega) (by omega) (by omega) (by omega) W')
  obtain ⟨a0, a1⟩ := Grf.sh_bd (x - X) W C (by omega) w0 c0
  obtain ⟨b0, b1⟩ := Grf.sh_bd (y - Y) H R (by omega) h0 r0
  obtain ⟨a2, a3⟩ := Grf.sq_bd (x - X) W C (by omega) w0 c0
  obtain ⟨b2, b3⟩ := Grf.sq_bd (y - Y) H R (by omega) h0 r0
  have m0 : 0 ≤ Grf.sh (y - Y) H R * C := Int.mul_nonneg b0 (by omega)
  have m1 : Grf.sh (y - Y) H R * C ≤ (R - 1) * C := Int.mul_le_mul_of_nonneg_right b1 (by omega)
  have m2 : (R - 1) * C = C * R - C := by rw [Int.sub_mul, Int.mul_comm R C]; omega
  have hp := Grid.prod_bd C R 16 16 c0 c1 r0 r1
  have HN := Lib.hid (fun W' => name_nm X Y W H C R (Grf.no X Y W H C R x y) W' HO.out (by unfold Grf.no; omega) (by unfold Grf.no; omega))
  have zl : (Grid.nm C (Grf.no X Y W H C R x y)).length ≤ 3 := by
    unfold Grid.nm Grid.dec
    split <;> simp
  have HC : Hid ((⟨(Grid.nm C (Grf.no X Y W H C R x y)).toArray⟩ : ByteArray) ++ ⟨#[45, UInt8.ofNat (97 + Grf.sq (x - X) W C).toNat, UInt8.ofNat (49 + Grf.sq (y - Y) H R).toNat]⟩ = ⟨(Grf.sn X Y W H C R x y).toArray⟩) := Lib.hid (by
    unfold Grf.sn
    rw [show (97 + Grf.sq (x - X) W C).toNat = 97 + (Grf.sq (x - X) W C).toNat by omega, show (49 + Grf.sq (y - Y) H R).toNat = 49 + (Grf.sq (y - Y) H R).toNat by omega]
    apply ByteArray.ext
    simp)
  obtain ⟨t, ht⟩ : ∃ t : ByteArray, (⟨(Grid.nm C (Grf.no X Y W H C R x y)).toArray⟩ : ByteArray) = t := ⟨_, rfl⟩
  have zt : t.size ≤ 3 := by rw [← ht]; show (Grid.nm C (Grf.no X Y W H C R x y)).toArray.size ≤ 3; simpa using zl
  rw [ht] at HN HC
  unfold Grf.no at HN
  clear ht zl hp m2
  obtain ⟨res, hres⟩ : ∃ z : ByteArray, ⟨(Grf.sn X Y W H C R x y).toArray⟩ = z := ⟨_, rfl⟩
  rw [hres] at HC ⊢
  obtain ⟨s1, hs1⟩ : ∃ z, Grf.sh (x - X) W C = z := ⟨_, rfl⟩
  obtain ⟨s2, hs2⟩ : ∃ z, Grf.sh (y - Y) H R = z := ⟨_, rfl⟩
  obtain ⟨q1, hq1⟩ : ∃ z, Grf.sq (x - X) W C = z := ⟨_, rfl⟩
  obtain ⟨q2, hq2⟩ : ∃ z, Grf.sq (y - Y) H R = z := ⟨_, rfl⟩
  rw [hs1, hq1] at H1
  rw [hs2, hq2] at H2
  rw [hs1, hs2] at HN
  rw [hs1] at a0 a1
  rw [hs2] at b0 b1 m0 m1
  rw [hq1] at a2 a3 HC
  rw [hq2] at b2 b3 HC
  clear hres hs1 hs2 hq1 hq2
  obtain ⟨cw, hcw⟩ : ∃ z, C * W = z := ⟨_, rfl⟩
  obtain ⟨rh, hrh⟩ : ∃ z, R * H = z := ⟨_, rfl⟩
  rw [hcw] at i1 ex0 ex1
  rw [hrh] at i3 ey0 ey1
  obtain ⟨sc, hsc⟩ : ∃ z, s2 * C = z := ⟨_, rfl⟩
  rw [hsc] at m0 m1 HN
  have m3 : sc ≤ 240 := by
    have := Int.mul_le_mul (show R - 1 ≤ 15 by omega) c1 (by omega) (by omega)
    omega
  clear m1
  have f0 : decide (x < X) = false := by simp; omega
  have f1 : decide (X + cw < x) = false := by simp; omega
  have f2 : decide (y < Y) = false := by simp; omega
  have f3 : decide (Y + rh < y) = false := by simp; omega
  go_enter Tryd.func9, Tryd.ntmps9
  go_wp2_with fail
  refine (HK.out _).mono ?_
  rintro e w1 ⟨rfl, e1⟩
  have HS := Lib.hid (((SeAt.fresh w X Y W H C R).next ((Q.refl _).alloc (.cells #[.int .i64 x, .int .i64 y] 23))).next e1)
  obtain ⟨k0, k1, k2, k3, k4, k5, k6⟩ := HS.out
  have hp := b_next e1 (new1 w (.cells #[.int .i64 X, .int .i64 Y, .int .i64 W, .int .i64 H, .int .i64 C, .int .i64 R] 25) (.cells #[.int .i64 x, .int .i64 y] 23))
  obtain ⟨n0, n1, n2, n3⟩ := row2 hp
  clear k6 hp
  go_wp2_with fail
  refine (H1.out _).mono ?_
  rintro e w2 ⟨rfl, rfl⟩
  go_wp2_with fail
  refine (H2.out _).mono ?_
  rintro e w3 ⟨rfl, rfl⟩
  go_wp2_with fail
  refine (HN.out _).mono ?_
  rintro e w4 ⟨rfl, e4⟩
  have HCV := conv3 w4 5 45 (97 + q1) (49 + q2)
  clear k0 k1 k2 k3 k4 k5 n0 n1 n2 n3
  go_wp2_with fail
  go_ret2
  exact ⟨by first | rw [← HC.out]; rfl | rw [← HC.out], (((e1.behind _).behind _).trans e4).alloc _⟩
end Go.Proofs.YtcaabaijkidmgaaDoor
