
/- For every series, two numbers and a side, SheetgridShares returns true: two sheets have only points of edges in common, and neighbours share a side. No condition. -/
import Derived.Test.YtpnifjeelmfegaaDoorCards
import Derived.Test.YtpnifjeelmfegaaDoorTie
import Derived.Test.YtpnifjeelmfegaaDoorGridAwake
import Derived.Test.YtpnifjeelmfegaaDoorShare1
import Derived.Test.YtpnifjeelmfegaaDoorShare2
import Derived.Test.YtpnifjeelmfegaaDoorShare3
import Derived.Test.YtpnifjeelmfegaaDoorShare4
import Derived.Test.YtpnifjeelmfegaaDoorGridLaid
import Derived.Test.YtpnifjeelmfegaaDoorFlat
import Derived.Deep.DeepHandedRow
import Derived.Lib.LaidTab
import Derived.Deep.RegionHeld3
namespace Go.Proofs.YtpnifjeelmfegaaDoor.sheetgridShares
open Go.ChangeShapes Go.WideShapes Go.ChangeAt Go.RowKit
set_option linter.unusedVariables false


theorem mul_apart (c d W : Int) (h : c < d) (hW : 1 ≤ W) : c * W + W ≤ d * W := by
  have h1 : (c + 1) * W ≤ d * W := Int.mul_le_mul_of_nonneg_right (by omega) (by omega)
  rw [Int.add_mul] at h1
  omega
theorem same_place (C a b : Int) (h1 : (a - 1) % C = (b - 1) % C) (h2 : (a - 1) / C = (b - 1) / C) : a = b := by
  have ha := Int.mul_ediv_add_emod (a - 1) C
  have hb := Int.mul_ediv_add_emod (b - 1) C
  rw [h1, h2] at ha
  omega
/-- Two sheets have at most points of edges in common. -/
theorem apart (X Y W H C a b : Int) (hW : 1 ≤ W) (hH : 1 ≤ H) : Apart a b (Grid.bx X W C a) (Grid.by' Y H C a) (Grid.bx X W C a + W) (Grid.by' Y H C a + H) (Grid.bx X W C b) (Grid.by' Y H C b) (Grid.bx X W C b + W) (Grid.by' Y H C b + H) := by
  unfold Apart
  by_cases e : a = b
  · left; simp [e]
  right
  have hne : (a != b) = true := by simp [e]
  by_cases h1 : (a - 1) % C = (b - 1) % C
  · right
    have h2 : (a - 1) / C ≠ (b - 1) / C := fun h => e (same_place C a b h1 h)
    unfold Grid.bx Grid.by'
    rw [h1]
    refine ⟨hne, ?_, ?_⟩
    · generalize (b - 1) % C * W = t
      simp only [decide_eq_true_eq]
      split <;> split <;> omega
    · rcases Int.lt_or_gt_of_ne h2 with h | h
      · have := mul_apart _ _ H h hH
        generalize (a - 1) / C * H = s at *
        generalize (b - 1) / C * H = t at *
        simp only [decide_eq_false_iff_not]
        split <;> split <;> omega
      · have := mul_apart _ _ H h hH
        generalize (a - 1) / C * H = s at *
        generalize (b - 1) / C * H = t at *
        simp only [decide_eq_false_iff_not]
        split <;> split <;> omega
  · left
    refine ⟨hne, ?_⟩
    unfold Grid.bx
    rcases Int.lt_or_gt_of_ne h1 with h | h
    · have := mul_apart _ _ W h hW
      generalize (a - 1) % C * W = s at *
      generalize (b - 1) % C * W = t at *
      simp only [decide_eq_false_iff_not]
      split <;> split <;> omega
    · have := mul_apart _ _ W h hW
      generalize (a - 1) % C * W = s at *
      generalize (b - 1) % C * W = t at *
      simp only [decide_eq_false_iff_not]
      split <;> split <;> omega

/-- The sheet of column u and row v. -/
theorem place_of (C R u v : Int) (hC : 1 ≤ C) (hu0 : 0 ≤ u) (hu : u < C) (hv0 : 0 ≤ v) (hv : v < R) : (v * C + u + 1 - 1) % C = u ∧ (v * C + u + 1 - 1) / C = v ∧ 1 ≤ v * C + u + 1 ∧ v * C + u + 1 ≤ C * R := by
  have e : v * C + u + 1 - 1 = u + v * C := by omega
  have h1 := Int.mul_nonneg hv0 (show 0 ≤ C by omega)
  have h2 := mul_apart v R C hv hC
  rw [Int.mul_comm R C] at h2
  refine ⟨?_, ?_, by omega, by omega⟩
  · rw [e, Int.add_mul_emod_self_right]
    exact Int.emod_eq_of_lt hu0 hu
  · rw [e, Int.add_mul_ediv_right _ _ (by omega), Int.ediv_eq_zero_of_lt hu0 hu]
    omega
theorem back (C a : Int) : (a - 1) / C * C + (a - 1) % C + 1 = a := by
  have := Int.mul_ediv_add_emod (a - 1) C
  rw [Int.mul_comm] at this
  omega

theorem ok (X Y W H C R a b side : Int) (h : Grid.Ok X Y W H C R) (ha0 : 1 ≤ a) (ha1 : a ≤ C * R) (hb0 : 1 ≤ b) (hb1 : b ≤ C * R) (w : World) (hM : Mv w) :
    Calls Tryd.prog 8 #[.agg #[.int .i64 X, .int .i64 Y, .int .i64 W, .int .i64 H, .int .i64 C, .int .i64 R], .int .i64 a, .int .i64 b, .int .i64 side] w fun e w' => e = .returned (.bool true) ∧ Q w w' := by
  have hab := apart X Y W H C a b h.w0 h.h0
  have HA := fun W' => box_there X Y W H C R a W' h ha0 ha1
  have HB := fun W' => box_there X Y W H C R b W' h hb0 hb1
  by_cases hd : side < 1 ∨ 4 < side
  · exact alone X Y W H C R a b side _ _ _ _ _ _ _ _ hab w hM HA HB (fun W' _ => nb_side X Y W H C R a side _ _ W' hd (fun W' => find_yes X Y W H C R a W' h ha0 ha1))
  have HN := fun W' m => nb_there X Y W H C R a side W' m h ha0 ha1 (by omega) (by omega)
  by_cases hout : (a - 1) % C + Grid.dx side < 0 ∨ C ≤ (a - 1) % C + Grid.dx side ∨ (a - 1) / C + Grid.dy side < 0 ∨ R ≤ (a - 1) / C + Grid.dy side
  · have e : Grid.nbv C R a side = .tuple #[.int .i64 0, .bool false] := if_pos hout
    rw [e] at HN
    exact alone X Y W H C R a b side _ _ _ _ _ _ _ _ hab w hM HA HB HN
  have e : Grid.nbv C R a side = .tuple #[.int .i64 (((a - 1) / C + Grid.dy side) * C + ((a - 1) % C + Grid.dx side) + 1), .bool true] := if_neg hout
  rw [e] at HN
  clear e
  obtain ⟨p0, p1, p2, p3⟩ := Grid.place C R a h.c0 ha0 ha1
  have bk := back C a
  obtain ⟨n1, n2, n3, n4⟩ := place_of C R ((a - 1) % C + Grid.dx side) ((a - 1) / C + Grid.dy side) h.c0 (by omega) (by omega) (by omega) (by omega)
  have HZ := fun W' => box_there X Y W H C R _ W' h n3 n4
  have HK := fun (sd : Int) W' m (h1 : 1 ≤ sd) (h4 : sd ≤ 4) => nb_there X Y W H C R _ sd W' m h n3 n4 h1 h4
  have bx := Grid.place_bd _ _ (C * W) W p0 p1 h.w0 (Int.le_refl _)
  have by' := Grid.place_bd _ _ (R * H) H p2 p3 h.h0 (Int.le_refl _)
  have q1 := h.x0
  have q2 := h.x1
  have q3 := h.y0
  have q4 := h.y1
  have q5 := h.ex1
  have q6 := h.ey1
  have q7 := h.w0
  have q8 := h.h0
  unfold Grid.bx Grid.by' at *
  unfold Grid.nbv at HK
  rw [n1, n2] at HZ HK
  generalize ((a - 1) / C + Grid.dy side) * C + ((a - 1) % C + Grid.dx side) + 1 = n at HN HZ HK
  clear n1 n2 n3 n4
  obtain rfl | rfl | rfl | rfl : side = 1 ∨ side = 2 ∨ side = 3 ∨ side = 4 := by omega
  · have hk := fun W' m => HK 3 W' m (by omega) (by omega)
    simp only [show Grid.dx 1 = -1 from rfl, show Grid.dy 1 = 0 from rfl, show Grid.dx 3 = 1 from rfl, show Grid.dy 3 = 0 from rfl] at HZ hk hout
    rw [if_neg (by omega)] at hk
    rw [show ((a - 1) / C + (0) + (0)) * C + ((a - 1) % C + (-1) + (1)) + 1 = a by rw [show (a - 1) / C + (0) + (0) = (a - 1) / C by omega, show (a - 1) % C + (-1) + (1) = (a - 1) % C by omega]; exact bk] at hk
    simp only [Int.add_mul, Int.add_zero, Int.neg_mul, Int.one_mul] at HZ
    refine both1 X Y W H C R a b _ _ _ _ _ _ _ _ _ _ _ _ _ (X + (a - 1) % C * W) (Y + (a - 1) / C * H) (X + (a - 1) % C * W) (Y + (a - 1) / C * H + H) hab ?_ ?_ ?_ ?_ ⟨by omega, by omega⟩ ⟨by omega, by omega⟩ ⟨by omega, by omega⟩ ⟨by omega, by omega⟩ (by simp only [beq_eq_false_iff_ne]; omega) (by simp only [beq_iff_eq]; omega) (by simp only [beq_iff_eq]) w hM HA HB HZ HN hk
    all_goals (split <;> omega)
  · have hk := fun W' m => HK 4 W' m (by omega) (by omega)
    simp only [show Grid.dx 2 = 0 from rfl, show Grid.dy 2 = -1 from rfl, show Grid.dx 4 = 0 from rfl, show Grid.dy 4 = 1 from rfl] at HZ hk hout
    rw [if_neg (by omega)] at hk
    rw [show ((a - 1) / C + (-1) + (1)) * C + ((a - 1) % C + (0) + (0)) + 1 = a by rw [show (a - 1) / C + (-1) + (1) = (a - 1) / C by omega, show (a - 1) % C + (0) + (0) = (a - 1) % C by omega]; exact bk] at hk
    simp only [Int.add_mul, Int.add_zero, Int.neg_mul, Int.one_mul] at HZ
    refine both2 X Y W H C R a b _ _ _ _ _ _ _ _ _ _ _ _ _ (X + (a - 1) % C * W) (Y + (a - 1) / C * H) (X + (a - 1) % C * W + W) (Y + (a - 1) / C * H) hab ?_ ?_ ?_ ?_ ⟨by omega, by omega⟩ ⟨by omega, by omega⟩ ⟨by omega, by omega⟩ ⟨by omega, by omega⟩ (by simp only [beq_iff_eq]; omega) (by simp only [beq_eq_false_iff_ne]; omega) (by simp only [beq_eq_false_iff_ne]; omega) (by simp only [beq_iff_eq]) w hM HA HB HZ HN hk
    all_goals (split <;> omega)
  · have hk := fun W' m => HK 1 W' m (by omega) (by omega)
    simp only [show Grid.dx 3 = 1 from rfl, show Grid.dy 3 = 0 from rfl, show Grid.dx 1 = -1 from rfl, show Grid.dy 1 = 0 from rfl] at HZ hk hout
    rw [if_neg (by omega)] at hk
    rw [show ((a - 1) / C + (0) + (0)) * C + ((a - 1) % C + (1) + (-1)) + 1 = a by rw [show (a - 1) / C + (0) + (0) = (a - 1) / C by omega, show (a - 1) % C + (1) + (-1) = (a - 1) % C by omega]; exact bk] at hk
    simp only [Int.add_mul, Int.add_zero, Int.one_mul] at HZ
    refine both3 X Y W H C R a b _ _ _ _ _ _ _ _ _ _ _ _ _ (X + (a - 1) % C * W + W) (Y + (a - 1) / C * H) (X + (a - 1) % C * W + W) (Y + (a - 1) / C * H + H) hab ?_ ?_ ?_ ?_ ⟨by omega, by omega⟩ ⟨by omega, by omega⟩ ⟨by omega, by omega⟩ ⟨by omega, by omega⟩ (by simp only [beq_eq_false_iff_ne]; omega) (by simp only [beq_iff_eq]; omega) (by simp only [beq_iff_eq]) w hM HA HB HZ HN hk
    all_goals (split <;> omega)
  · have hk := fun W' m => HK 2 W' m (by omega) (by omega)
    simp only [show Grid.dx 4 = 0 from rfl, show Grid.dy 4 = 1 from rfl, show Grid.dx 2 = 0 from rfl, show Grid.dy 2 = -1 from rfl] at HZ hk hout
    rw [if_neg (by omega)] at hk
    rw [show ((a - 1) / C + (1) + (-1)) * C + ((a - 1) % C + (0) + (0)) + 1 = a by rw [show (a - 1) / C + (1) + (-1) = (a - 1) / C by omega, show (a - 1) % C + (0) + (0) = (a - 1) % C by omega]; exact bk] at hk
    simp only [Int.add_mul, Int.add_zero, Int.one_mul] at HZ
    refine both4 X Y W H C R a b _ _ _ _ _ _ _ _ _ _ _ _ _ (X + (a - 1) % C * W) (Y + (a - 1) / C * H + H) (X + (a - 1) % C * W + W) (Y + (a - 1) / C * H + H) hab ?_ ?_ ?_ ?_ ⟨by omega, by omega⟩ ⟨by omega, by omega⟩ ⟨by omega, by omega⟩ ⟨by omega, by omega⟩ (by simp only [beq_iff_eq]; omega) (by simp only [beq_eq_false_iff_ne]; omega) (by simp only [beq_eq_false_iff_ne]; omega) (by simp only [beq_iff_eq]) w hM HA HB HZ HN hk
    all_goals (split <;> omega)

theorem walk (X Y W H C R a b side : Int) (_ : I64 X) (_ : I64 Y) (_ : I64 W) (_ : I64 H) (_ : I64 C) (_ : I64 R) (_ : I64 a) (_ : I64 b) (_ : I64 side) (w : World) (hM : Mv w) :
    Calls Tryd.prog 8 #[.agg #[.int .i64 X, .int .i64 Y, .int .i64 W, .int .i64 H, .int .i64 C, .int .i64 R], .int .i64 a, .int .i64 b, .int .i64 side] w fun e w' => e = .returned (.bool true) ∧ Q w w' := by
  by_cases h : Grid.Ok X Y W H C R
  · by_cases ha : a < 1 ∨ C * R < a
    · by_cases hb : b < 1 ∨ C * R < b
      · exact err1 X Y W H C R a b side _ _ _ _ _ _ _ _ 7 7 rfl w hM (fun W' => box_none X Y W H C R a W' h ha) (fun W' => box_none X Y W H C R b W' h hb)
      · exact err1 X Y W H C R a b side _ _ _ _ _ _ _ _ 7 0 rfl w hM (fun W' => box_none X Y W H C R a W' h ha) (fun W' => box_there X Y W H C R b W' h (by omega) (by omega))
    · by_cases hb : b < 1 ∨ C * R < b
      · exact err2 X Y W H C R a b side _ _ _ _ _ _ _ _ 7 rfl w hM (fun W' => box_there X Y W H C R a W' h (by omega) (by omega)) (fun W' => box_none X Y W H C R b W' h hb)
      · exact ok X Y W H C R a b side h (by omega) (by omega) (by omega) (by omega) w hM
  · exact err1 X Y W H C R a b side _ _ _ _ _ _ _ _ 2 2 rfl w hM (fun W' => box_bad X Y W H C R a W' h) (fun W' => box_bad X Y W H C R b W' h)

theorem own : ownKnob Tryd.prog.godebug = none := by kernel_rfl

theorem contract (H : Type) (enc : TypeId × Value → H) (W : World) (base : Nat) (args : Array Value) (ds gs : List (DataW H)) (before : List MemPlace)
    (hval : ∀ (j : Nat) t v, Tryd.f8.params[j]? = some t → args[j]? = some v → Value.okWide Tryd.prog W .any base t v)
    (hW : DataW.Whole enc Tryd.prog Tryd.f8.params.toList Rows.sheetgridSharesSpec.vars false W args.toList ds gs before) (hL : laidMetH Tryd.prog Rows.sheetgridSharesRow.laid W) :
    Calls Tryd.prog 8 args W fun e W' => ∃ v, e = .returned v ∧ Rows.sheetgridSharesSpec.post enc Tryd.prog Tryd.f8 false true false false W args v W' := by
  have hW' := hW
  obtain ⟨p, q, hA0, hV, rfl, hfz, hnd⟩ := hW
  have hA : DataW.TrodAll enc Tryd.prog W 0 (fun _ => true) true Tryd.f8.params.toList args.toList ds p := hA0
  rw [Tryd.params8] at hA hval
  obtain ⟨v0, vs0, d0, ds0, p0, q0, hargs, rfl, rfl, h0, r0⟩ := trodAll_cons hA
  obtain ⟨v1, vs1, d1, ds1, p1, q1, rfl, rfl, rfl, h1, r1⟩ := trodAll_cons r0
  obtain ⟨v2, vs2, d2, ds2, p2, q2, rfl, rfl, rfl, h2, r2⟩ := trodAll_cons r1
  obtain ⟨v3, vs3, d3, ds3, p3, q3, rfl, rfl, rfl, h3, r3⟩ := trodAll_cons r2
  obtain ⟨rfl, rfl, rfl⟩ := trodAll_nil r3
  obtain rfl : args = #[v0, v1, v2, v3] := by cases args; simp_all
  obtain ⟨rfl, rfl⟩ := trodVars_none hV
  obtain ⟨rfl, cs0, rfl, hs0, hz0⟩ := flat_open 4 (by kernel_rfl) Tryd.underlying25 (hval 0 25 v0 rfl rfl) h0
  obtain ⟨x00, x01, x02, x03, x04, x05, rfl, b00, b01, b02, b03, b04, b05⟩ := agg6_of (hs0.trans (show Tryd.prog.cellsOf 25 = 6 by kernel_rfl)) hz0
  obtain ⟨a1, rfl, rfl, rfl, w1⟩ := open_int Tryd.underlying3 (hval 1 3 v1 rfl rfl) h1
  obtain ⟨a2, rfl, rfl, rfl, w2⟩ := open_int Tryd.underlying3 (hval 2 3 v2 rfl rfl) h2
  obtain ⟨a3, rfl, rfl, rfl, w3⟩ := open_int Tryd.underlying3 (hval 3 3 v3 rfl rfl) h3
  clear hA0
  simp only [List.append_nil] at hW'
  refine (walk x00 x01 x02 x03 x04 x05 a1 a2 a3 b00 b01 b02 b03 b04 b05 (bd64 w1) (bd64 w2) (bd64 w3) W (mv_of_laid hL)).mono fun e W' ⟨he, bel⟩ => ?_
  subst he
  exact ⟨_, rfl, _, _, _, [], [], [], hW', trodAll_mk1 (shut_bool Tryd.underlying4 _), (trodAll_cons_mk (Below.trod laidOut (by kernel_rfl) (by decide +kernel) h0 bel (fun x hx => by cases hx)) (trodAll_cons_mk (shut_int Tryd.underlying3 w1) (trodAll_cons_mk (shut_int Tryd.underlying3 w2) (trodAll_cons_mk (shut_int Tryd.underlying3 w3) trodAll_mk0)))), rfl, Below.frame bel _, fun h => by cases h⟩

def setRow (h : Array Obj) (g : Nat) (cs : Array Value) : Array Obj := h.modify g fun
  | .cells _ t frozen => .cells cs t frozen
  | o => o
/-- A world for the witness: the settled one, the listed tables as their initialisers lay them. -/
noncomputable def laidWorld (os : Os) : World :=
  { World.holding Tryd.prog os ⟨#[], #[], []⟩ with heap := (setRow (setRow (setRow (setRow (World.holding Tryd.prog os ⟨#[], #[], []⟩).heap 2 #[.int .u8 0, .int .u8 1, .int .u8 28, .int .u8 2, .int .u8 29, .int .u8 14, .int .u8 24, .int .u8 3, .int .u8 30, .int .u8 22, .int .u8 20, .int .u8 15, .int .u8 25, .int .u8 17, .int .u8 4, .int .u8 8, .int .u8 31, .int .u8 27, .int .u8 13, .int .u8 23, .int .u8 21, .int .u8 19, .int .u8 16, .int .u8 7, .int .u8 26, .int .u8 12, .int .u8 18, .int .u8 6, .int .u8 11, .int .u8 5, .int .u8 10, .int .u8 9]) 3 #[.int .u8 0, .int .u8 1, .int .u8 56, .int .u8 2, .int .u8 57, .int .u8 49, .int .u8 28, .int .u8 3, .int .u8 61, .int .u8 58, .int .u8 42, .int .u8 50, .int .u8 38, .int .u8 29, .int .u8 17, .int .u8 4, .int .u8 62, .int .u8 47, .int .u8 59, .int .u8 36, .int .u8 45, .int .u8 43, .int .u8 51, .int .u8 22, .int .u8 53, .int .u8 39, .int .u8 33, .int .u8 30, .int .u8 24, .int .u8 18, .int .u8 12, .int .u8 5, .int .u8 63, .int .u8 55, .int .u8 48, .int .u8 27, .int .u8 60, .int .u8 41, .int .u8 37, .int .u8 16, .int .u8 46, .int .u8 35, .int .u8 44, .int .u8 21, .int .u8 52, .int .u8 32, .int .u8 23, .int .u8 11, .int .u8 54, .int .u8 26, .int .u8 40, .int .u8 15, .int .u8 34, .int .u8 20, .int .u8 31, .int .u8 10, .int .u8 25, .int .u8 14, .int .u8 19, .int .u8 9, .int .u8 13, .int .u8 8, .int .u8 7, .int .u8 6]) 1 #[.int .u64 1, .int .u64 10, .int .u64 100, .int .u64 1000, .int .u64 10000, .int .u64 100000, .int .u64 1000000, .int .u64 10000000, .int .u64 100000000, .int .u64 1000000000, .int .u64 10000000000, .int .u64 100000000000, .int .u64 1000000000000, .int .u64 10000000000000, .int .u64 100000000000000, .int .u64 1000000000000000, .int .u64 10000000000000000, .int .u64 100000000000000000, .int .u64 1000000000000000000, .int .u64 10000000000000000000]) 0 #[.int .i64 (-1), .int .i64 0, .int .i64 0, .int .i64 (-1), .int .i64 1, .int .i64 0, .int .i64 0, .int .i64 1]) }
set_option maxRecDepth 100000 in
theorem laid_met (os : Os) : laidMet Tryd.prog Rows.sheetgridSharesRow.laid ((laidWorld os).forCall (fun _ _ => 0) ⟨#[], #[.agg #[.int .i64 0, .int .i64 0, .int .i64 0, .int .i64 0, .int .i64 0, .int .i64 0], .int .i64 0, .int .i64 0, .int .i64 0], []⟩).memory :=
  laidMet_of_run' 8 (by kernel_rfl) (by kernel_rfl)
theorem reads (os : Os) {H : Type} (enc : TypeId × Value → H) : ∃ places, DataW.whole enc Tryd.prog ((laidWorld os).forCall (fun _ _ => 0) ⟨#[], #[.agg #[.int .i64 0, .int .i64 0, .int .i64 0, .int .i64 0, .int .i64 0, .int .i64 0], .int .i64 0, .int .i64 0, .int .i64 0], []⟩).memory Tryd.f8.params.toList Rows.sheetgridSharesSpec.vars false #[Value.agg #[.int .i64 0, .int .i64 0, .int .i64 0, .int .i64 0, .int .i64 0, .int .i64 0], .int .i64 0, .int .i64 0, .int .i64 0].toList 8 = some ([.agg [.agg [.lit (.int .i64 0), .lit (.int .i64 0)], .lit (.int .i64 0), .lit (.int .i64 0), .lit (.int .i64 0), .lit (.int .i64 0)], .lit (.int .i64 0), .lit (.int .i64 0), .lit (.int .i64 0)], [], places) :=
  ⟨[], by kernel_rfl⟩

set_option maxRecDepth 100000 in
theorem lifted (os : Os) (started : os.Started) (H : Type) (enc : TypeId × Value → H) (F : Stop.Interp) :
    ReturnsInHanded {} Tryd.checked os 8 .any ((OpenSpec.ofChange Rows.sheetgridSharesSpec).preRow enc Tryd.prog Tryd.f8 Rows.sheetgridSharesRow.domain false Rows.sheetgridSharesRow.laid) (((OpenSpec.ofChange Rows.sheetgridSharesSpec).at F).post enc Tryd.prog Tryd.f8 false true false false) := by
  obtain ⟨places, hx⟩ := reads os enc
  refine returnsInHanded_of_row (C := Tryd.checked) (s := OpenSpec.ofChange Rows.sheetgridSharesSpec) own started (by kernel_rfl) Tryd.func8
    (witness_row_at (enc := enc) (C := Tryd.checked) false (laidWorld os) #[.agg #[.int .i64 0, .int .i64 0, .int .i64 0, .int .i64 0, .int .i64 0, .int .i64 0], .int .i64 0, .int .i64 0, .int .i64 0] rfl (by kernel_rfl) (by kernel_rfl) (by kernel_rfl)
      (OpenSpec.preRow_of_cond 8 hx (by kernel_rfl) (fun k hk => by cases hk) (by kernel_rfl) (laid_met os))) ?_
  intro W base args ds gs before hval hW _ _ _ hL _ _
  exact contract H enc W base args ds gs before hval hW hL

theorem said : Rows.SheetgridSharesSaid :=
  OpenClaim.holds_of_cond 8 Tryd.f8 rfl rfl rfl rfl rfl rfl rfl ⟨rfl, rfl, rfl, rfl, rfl⟩ rfl rfl rfl rfl rfl (by kernel_rfl) Tryd.func8 (by kernel_rfl)
    (of_decide_eq_true (by kernel_rfl)) (by unfold Func.isWrapper; first | (rw [if_pos (by decide +kernel)]; kernel_rfl) | (rw [if_neg (by decide +kernel)]; exact ⟨rfl, rfl⟩))
    (fun os started H enc _ F => by rw [OpenClaim.pre_eq_preRow]; exact lifted os started H enc F)

theorem plain (f : FuncId) (fn : Func) (hf : Tryd.pinned.checked.prog.funcNamed "mapsheets/mapsheetslaw40.SheetgridShares" = some f) (hfn : Tryd.pinned.checked.prog.funcs[f]? = some fn) :
    false = Tryd.pinned.checked.prog.looks [] ∧ ∀ (j : Nat) t, fn.params[j]? = some t → Tryd.pinned.checked.prog.wantsStandIn t = false := by
  obtain rfl : f = 8 := Option.some.inj ((show Tryd.prog.funcNamed "mapsheets/mapsheetslaw40.SheetgridShares" = some 8 by kernel_rfl).symm.trans hf) |>.symm
  obtain rfl : fn = Tryd.f8 := (Option.some.inj (Tryd.func8.symm.trans hfn)).symm
  refine ⟨by kernel_rfl, fun j t ht => ?_⟩
  rw [Tryd.params8] at ht
  have all : ∀ t ∈ Tryd.f8.params, Tryd.prog.wantsStandIn t = false := by rw [Tryd.params8]; decide +kernel
  exact all t (by rw [Tryd.params8]; exact Array.mem_of_getElem? ht)

theorem card : Rows.SheetgridSharesCardSaid :=
  Claim7.holds_tied_plain_at .later [] _ _ _ _ said (fun _ h => by cases h) (by kernel_rfl) (fun _ h => by cases h) sheetgridShares_row_tie rfl ⟨rfl, rfl⟩ (by kernel_rfl) rfl plain (by kernel_rfl)
end Go.Proofs.YtpnifjeelmfegaaDoor.sheetgridShares
namespace Go.Proofs.YtpnifjeelmfegaaDoor
theorem sheetgridShares_holds : Rows.SheetgridSharesCardSaid := sheetgridShares.card
#print axioms sheetgridShares_holds
end Go.Proofs.YtpnifjeelmfegaaDoor
