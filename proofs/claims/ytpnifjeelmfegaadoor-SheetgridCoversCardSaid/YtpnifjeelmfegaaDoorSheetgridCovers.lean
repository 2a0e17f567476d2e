
/- For every series and point, SheetgridCovers returns true: a point of a series is on 1, 2 or 4 sheets, each of which contains it; a point beside it is on none. No condition. -/
import Derived.Test.YtpnifjeelmfegaaDoorCards
import Derived.Test.YtpnifjeelmfegaaDoorTie
import Derived.Test.YtpnifjeelmfegaaDoorGridAwake
import Derived.Test.YtpnifjeelmfegaaDoorGridPlain
import Derived.Test.YtpnifjeelmfegaaDoorGridLaid
import Derived.Test.YtpnifjeelmfegaaDoorFlat
import Derived.Deep.DeepHandedRow
import Derived.Lib.LaidTab
import Derived.Deep.RegionHeld3
namespace Go.Proofs.YtpnifjeelmfegaaDoor.sheetgridCovers
open Go.ChangeShapes Go.WideShapes Go.ChangeAt Go.RowKit
set_option linter.unusedVariables false


theorem sNext {X Y W H C R z : Int} {B : Nat} {ad : Addr} {wk u v : World} (h : (u.cell? ⟨B, 0, none⟩ = some (.int .i64 X) ∧ u.cell? ⟨B, 1, none⟩ = some (.int .i64 Y) ∧ u.cell? ⟨B, 2, none⟩ = some (.int .i64 W) ∧ u.cell? ⟨B, 3, none⟩ = some (.int .i64 H) ∧ u.cell? ⟨B, 4, none⟩ = some (.int .i64 C) ∧ u.cell? ⟨B, 5, none⟩ = some (.int .i64 R) ∧ u.cell? ad = some (.int .i64 z) ∧ Q wk u)) (q : Q u v) : (v.cell? ⟨B, 0, none⟩ = some (.int .i64 X) ∧ v.cell? ⟨B, 1, none⟩ = some (.int .i64 Y) ∧ v.cell? ⟨B, 2, none⟩ = some (.int .i64 W) ∧ v.cell? ⟨B, 3, none⟩ = some (.int .i64 H) ∧ v.cell? ⟨B, 4, none⟩ = some (.int .i64 C) ∧ v.cell? ⟨B, 5, none⟩ = some (.int .i64 R) ∧ v.cell? ad = some (.int .i64 z) ∧ Q wk v) := by
  obtain ⟨h0, h1, h2, h3, h4, h5, g0, hq⟩ := h
  exact ⟨(q.cell (block_lt_of_cell h0)).trans h0, (q.cell (block_lt_of_cell h1)).trans h1, (q.cell (block_lt_of_cell h2)).trans h2, (q.cell (block_lt_of_cell h3)).trans h3, (q.cell (block_lt_of_cell h4)).trans h4, (q.cell (block_lt_of_cell h5)).trans h5, (Below.cell q (block_lt_of_cell g0)).trans g0, hq.trans q⟩
def SS (X Y W H C R z : Int) (B : Nat) (ad : Addr) (wk v : World) : Prop := (v.cell? ⟨B, 0, none⟩ = some (.int .i64 X) ∧ v.cell? ⟨B, 1, none⟩ = some (.int .i64 Y) ∧ v.cell? ⟨B, 2, none⟩ = some (.int .i64 W) ∧ v.cell? ⟨B, 3, none⟩ = some (.int .i64 H) ∧ v.cell? ⟨B, 4, none⟩ = some (.int .i64 C) ∧ v.cell? ⟨B, 5, none⟩ = some (.int .i64 R) ∧ v.cell? ad = some (.int .i64 z) ∧ Q wk v)
theorem sQ {X Y W H C R z : Int} {B : Nat} {ad : Addr} {wk v : World} (h : (v.cell? ⟨B, 0, none⟩ = some (.int .i64 X) ∧ v.cell? ⟨B, 1, none⟩ = some (.int .i64 Y) ∧ v.cell? ⟨B, 2, none⟩ = some (.int .i64 W) ∧ v.cell? ⟨B, 3, none⟩ = some (.int .i64 H) ∧ v.cell? ⟨B, 4, none⟩ = some (.int .i64 C) ∧ v.cell? ⟨B, 5, none⟩ = some (.int .i64 R) ∧ v.cell? ad = some (.int .i64 z) ∧ Q wk v)) : Q wk v := h.2.2.2.2.2.2.2

theorem bcell {W w1 : World} (hb : Q W w1) : (∀ b o, b < W.heap.size → w1.cell? ⟨b, o, none⟩ = W.cell? ⟨b, o, none⟩) ∧ (∀ b o, b < W.heap.size → w1.frozen? ⟨b, o, none⟩ = W.frozen? ⟨b, o, none⟩) := ⟨fun b o h => hb.cell h, fun b o h => hb.frozen h⟩
theorem bad (X Y W H C R x y : Int) (h : ¬ Grid.Ok X Y W H C R) (w : World) (hM : Mv w) :
    Calls Tryd.prog 7 #[.agg #[.int .i64 X, .int .i64 Y, .int .i64 W, .int .i64 H, .int .i64 C, .int .i64 R], .agg #[.int .i64 x, .int .i64 y]] w fun e w' => e = .returned (.bool true) ∧ Q w w' := by
  have HM := Lib.hid hM
  have HA := Lib.hid (fun W' => at_bad X Y W H C R x y W' h)
  have HC := Lib.hid (fun W' => check_no X Y W H C R W' h)
  have HS := Lib.hid (((SeAt.fresh w X Y W H C R)).next ((Q.refl _).alloc (.cells #[.int .i64 x, .int .i64 y] 23)))
  clear hM h
  go_enter Tryd.func7, Tryd.ntmps7
  go_wp2_with fail
  refine (HA.out _).mono ?_
  rintro e w1 ⟨rfl, q1⟩
  go_wp2_with fail
  refine (awake_true _ (((HM.out.alloc _).alloc _).next q1)).mono ?_
  rintro e w2 ⟨rfl, q2⟩
  obtain ⟨k0, k1, k2, k3, k4, k5, k6⟩ := (HS.out.next q1).next q2; clear k6
  go_wp2_with fail
  refine (HC.out _).mono ?_
  rintro e w3 ⟨rfl, q3⟩
  go_wp2_with fail
  go_ret
  exact ⟨rfl, ((q1.trans (q2.trans q3)).behind _).behind _⟩

/-- The round's facts: a sheet of the list contains the point. -/
theorem inside {X Y W H C x y z : Int} {N : Nat} (hW : 1 ≤ W) (hH : 1 ≤ H) (hz : z ∈ Grid.cov X Y W H C x y x y N) : 1 ≤ z ∧ z ≤ (N : Int) ∧ Grid.bx X W C z ≤ x ∧ x ≤ Grid.bx X W C z + W ∧ Grid.by' Y H C z ≤ y ∧ y ≤ Grid.by' Y H C z + H := by
  obtain ⟨a, b, c⟩ := Grid.cov_mem X Y W H C x y x y N z hz
  unfold Grid.hit at c
  exact ⟨a, b, by omega, by omega, by omega, by omega⟩
def Up (l : List Int) : Prop := ∀ (k : Nat) (h : k + 1 < l.length), l[k]'(by omega) < l[k + 1]

set_option maxRecDepth 100000 in
set_option maxHeartbeats 8000000 in
theorem good (X Y W H C R x y : Int) (h : Grid.Ok X Y W H C R) (w : World) (hM : Mv w) :
    Calls Tryd.prog 7 #[.agg #[.int .i64 X, .int .i64 Y, .int .i64 W, .int .i64 H, .int .i64 C, .int .i64 R], .agg #[.int .i64 x, .int .i64 y]] w fun e w' => e = .returned (.bool true) ∧ Q w w' := by
  have hp := Grid.prod_bd C R 16 16 h.c0 h.c1 h.r0 h.r1
  have ca := Grid.prod_bd C W 16 65536 h.c0 h.c1 h.w0 h.w1
  have cb := Grid.prod_bd R H 16 65536 h.r0 h.r1 h.h0 h.h1
  have HM := Lib.hid hM
  have HA := Lib.hid (fun W' => at_any X Y W H C R x y W' h)
  have HBX := Lib.hid (fun (s : Int) (W' : World) (a : 1 ≤ s) (b : s ≤ C * R) => box_there X Y W H C R s W' h a b)
  have HIN := Lib.hid (fun (z : Int) (hz : z ∈ Grid.cov X Y W H C x y x y (GridN C R)) => inside h.w0 h.h0 hz)
  have HCN := Lib.hid (Grid.cov_count X Y W H C R x y h)
  have HUP := Lib.hid (show Up (Grid.cov X Y W H C x y x y (GridN C R)) from Grid.cov_rises X Y W H C x y x y (GridN C R))
  have HLE := Lib.hid (show (Grid.cov X Y W H C x y x y (GridN C R)).length ≤ 256 by have := Grid.cov_len X Y W H C x y x y (GridN C R); unfold GridN at *; omega)
  have HGN := Lib.hid (show ((GridN C R : Nat) : Int) = C * R by unfold GridN; omega)
  have HS := Lib.hid (((SeAt.fresh w X Y W H C R)).next ((Q.refl _).alloc (.cells #[.int .i64 x, .int .i64 y] 23)))
  obtain ⟨cw, hcw⟩ : ∃ cw, C * W = cw := ⟨_, rfl⟩
  obtain ⟨rh, hrh⟩ : ∃ rh, R * H = rh := ⟨_, rfl⟩
  rw [hcw, hrh] at HCN
  rw [hcw] at ca
  rw [hrh] at cb
  have x0 := h.x0
  have x1 := h.x1
  have y0 := h.y0
  have y1 := h.y1
  have ew : wrap64 (C * W) = cw := by rw [hcw]; exact IntWalk.wrap64_in _ ⟨by omega, by omega⟩
  have eh : wrap64 (R * H) = rh := by rw [hrh]; exact IntWalk.wrap64_in _ ⟨by omega, by omega⟩
  generalize Grid.cov X Y W H C x y x y (GridN C R) = l at *
  clear h hM hcw hrh hp
  go_enter Tryd.func7, Tryd.ntmps7
  go_wp2_with fail
  refine (HA.out _).mono ?_
  rintro e w1 ⟨v, rfl, hi, q1⟩
  obtain ⟨A, c, rfl, hc, hr⟩ := hi
  have HR := Lib.hid hr
  have HP := Lib.hid (show w1.cell? ⟨w.heap.size + 1, 0, none⟩ = some (.int .i64 x) ∧ w1.cell? ⟨w.heap.size + 1, 1, none⟩ = some (.int .i64 y) ∧ w.heap.size + 1 < w1.heap.size by
    have hb : w1.heap[w.heap.size + 1]? = some (.cells #[.int .i64 x, .int .i64 y] 23 (0, 0)) := (q1.block (by simp)).trans (heap_alloc2_new w _ _)
    exact ⟨by rw [cell_of_row w1 _ 0 _ _ _ hb]; rfl, by rw [cell_of_row w1 _ 1 _ _ _ hb]; rfl, (Array.getElem?_eq_some_iff.1 hb).1⟩)
  obtain ⟨n, hn⟩ : ∃ n, l.length = n := ⟨_, rfl⟩
  have HN := Lib.hid hn
  have hn2 : n ≤ 256 := by rw [← hn]; exact HLE.out
  rw [hn]
  have HEW := Lib.hid ew
  have HC' := Lib.hid (show n ≤ c by rw [← hn]; exact hc)
  have HEH := Lib.hid eh
  clear hr hn hc ew eh
  go_wp2_with fail
  go_loopw [7] (fun i wr => ∃ k : Nat, k ≤ n ∧ i = .int .i64 (k : Int) ∧ Q w1 wr) (fun i _ => n - (intOf i).toNat)
  case atStart => exact ⟨0, by omega, rfl, Q.refl _⟩
  case round =>
    obtain ⟨k, hk, rfl, hq⟩ := hrel
    by_cases hlt : k < n
    · obtain ⟨ad, hA, hcl⟩ := Ints.at_ (c := c) HR.out k (by have := HN.out; omega)
      subst hA
      have hz := HIN.out (l[k]'(by have := HN.out; omega)) (List.getElem_mem _)
      generalize l[k]'(by have := HN.out; omega) = z at *
      have HB := Lib.hid (fun W' => HBX.out z W' hz.1 (by have := HGN.out; omega))
      generalize Grid.bx X W C z = a at *
      generalize Grid.by' Y H C z = b at *
      obtain ⟨aw, haw⟩ : ∃ aw, a + W = aw := ⟨_, rfl⟩
      obtain ⟨bh, hbh⟩ : ∃ bh, b + H = bh := ⟨_, rfl⟩
      rw [haw, hbh] at HB hz
      have d1 : decide (x < a) = false := by simp; omega
      have d2 : decide (aw < x) = false := by simp; omega
      have d3 : decide (y < b) = false := by simp; omega
      have d4 : decide (bh < y) = false := by simp; omega
      have HSR := Lib.hid ((HS.out.next q1).next hq)
      have hcz := (Below.cell hq (block_lt_of_cell hcl)).trans hcl
      clear haw hbh hz hcl
      have HK : Hid (SS X Y W H C R z w.heap.size (ad.add k) wr wr) := by
        obtain ⟨h0, h1, h2, h3, h4, h5, _⟩ := HSR.out
        exact ⟨h0, h1, h2, h3, h4, h5, hcz, Q.refl _⟩
      have HPR := Lib.hid (show wr.cell? ⟨w.heap.size + 1, 0, none⟩ = some (.int .i64 x) ∧ wr.cell? ⟨w.heap.size + 1, 1, none⟩ = some (.int .i64 y) ∧ w.heap.size + 1 < wr.heap.size from ⟨(hq.cell HP.out.2.2).trans HP.out.1, (hq.cell HP.out.2.2).trans HP.out.2.1, Nat.lt_of_lt_of_le HP.out.2.2 hq.sz⟩)
      clear hcz
      go_wp2_with fail
      go_region_held3 (fun v => (v.cell? ⟨w.heap.size, 0, none⟩ = some (.int .i64 X) ∧ v.cell? ⟨w.heap.size, 1, none⟩ = some (.int .i64 Y) ∧ v.cell? ⟨w.heap.size, 2, none⟩ = some (.int .i64 W) ∧ v.cell? ⟨w.heap.size, 3, none⟩ = some (.int .i64 H) ∧ v.cell? ⟨w.heap.size, 4, none⟩ = some (.int .i64 C) ∧ v.cell? ⟨w.heap.size, 5, none⟩ = some (.int .i64 R) ∧ v.cell? (ad.add k) = some (.int .i64 z) ∧ Q wr v)) ((first | (exact sNext HK.out ((Q.refl _).drew)) | (exact sNext HK.out (((Q.refl _).drew).trans (by assumption))) | (exact sNext HK.out ((((Q.refl _).drew).trans (by assumption)).alloc _)) | (exact sNext HK.out (((Q.refl _).alloc _).drew)) | (exact sNext HK.out ((((Q.refl _).alloc _).drew).trans (by assumption))) | (refine sNext HK.out ?_; (repeat (refine Q.setCell ?_ (by simp) _)); (exact (((Q.refl _).alloc _).drew).trans (by assumption)))))
        (first | (go_at_call 10; refine (HB.out _).mono ?_; (rintro e w' ⟨rfl, q⟩; have hcc := (bcell q).1; have hff := (bcell q).2)))
      all_goals
        have qq : Q wr w' := by first | exact ((Q.refl _).drew).trans q | exact (((Q.refl _).alloc _).drew).trans q
        have t0 := (qq.cell HPR.out.2.2).trans HPR.out.1
        have t1 := (qq.cell HPR.out.2.2).trans HPR.out.2.1
        have p0 := HPR.out.1
        have p1 := HPR.out.2.1
        have pz := HPR.out.2.2
        have tz : w.heap.size + 1 < w'.heap.size := Nat.lt_of_lt_of_le HPR.out.2.2 qq.sz
        go_wp2_with fail
        go_roundw
        case rel => exact ⟨k + 1, by omega, by go_num, hq.trans (sQ (by assumption))⟩
        case measure => simp [intOf]; omega
    · have hkn : k = n := by omega
      subst hkn
      obtain ⟨k0, k1, k2, k3, k4, k5, k6⟩ := (HS.out.next q1).next hq
      have p0 := (hq.cell HP.out.2.2).trans HP.out.1
      have p1 := (hq.cell HP.out.2.2).trans HP.out.2.1
      have ew := HEW.out
      have eh := HEH.out
      have HMR := Lib.hid ((((HM.out.alloc _).alloc _).next q1).next hq)
      clear k6 hlt
      by_cases c1 : X ≤ x
      rotate_left
      · have d1 : decide (X ≤ x) = false := by simp; omega
        obtain rfl : k = 0 := by rw [← HN.out]; exact HCN.out.1 (by omega)
        go_wp2_with fail
        refine (awake_true _ HMR.out).mono ?_
        rintro e w5 ⟨rfl, q5⟩
        go_wp2_with fail
        go_ret
        exact ⟨rfl, ((q1.behind _).behind _).trans (hq.trans q5)⟩
      have d1 : decide (X ≤ x) = true := by simp; omega
      by_cases c2 : Y ≤ y
      rotate_left
      · have d2 : decide (Y ≤ y) = false := by simp; omega
        obtain rfl : k = 0 := by rw [← HN.out]; exact HCN.out.1 (by omega)
        go_wp2_with fail
        refine (awake_true _ HMR.out).mono ?_
        rintro e w5 ⟨rfl, q5⟩
        go_wp2_with fail
        go_ret
        exact ⟨rfl, ((q1.behind _).behind _).trans (hq.trans q5)⟩
      have d2 : decide (Y ≤ y) = true := by simp; omega
      by_cases c3 : x ≤ X + cw
      rotate_left
      · have d3 : decide (x ≤ X + cw) = false := by simp; omega
        obtain rfl : k = 0 := by rw [← HN.out]; exact HCN.out.1 (by omega)
        go_wp2_with fail
        refine (awake_true _ HMR.out).mono ?_
        rintro e w5 ⟨rfl, q5⟩
        go_wp2_with fail
        go_ret
        exact ⟨rfl, ((q1.behind _).behind _).trans (hq.trans q5)⟩
      have d3 : decide (x ≤ X + cw) = true := by simp; omega
      by_cases c4 : y ≤ Y + rh
      rotate_left
      · have d4 : decide (y ≤ Y + rh) = false := by simp; omega
        obtain rfl : k = 0 := by rw [← HN.out]; exact HCN.out.1 (by omega)
        go_wp2_with fail
        refine (awake_true _ HMR.out).mono ?_
        rintro e w5 ⟨rfl, q5⟩
        go_wp2_with fail
        go_ret
        exact ⟨rfl, ((q1.behind _).behind _).trans (hq.trans q5)⟩
      have d4 : decide (y ≤ Y + rh) = true := by simp; omega
      have h124 : k = 1 ∨ k = 2 ∨ k = 4 := by rw [← HN.out]; exact HCN.out.2 ⟨c1, c2, c3, c4⟩
      clear c1 c2 c3 c4
      have HI := Lib.hid (fun (W' : World) (qq : Q wr W') => valid_true (.slice A k c) l W' ((show Ints w1 (.slice A k c) l from ⟨A, c, by rw [HN.out], by rw [HN.out]; exact HC'.out, HR.out⟩).next (hq.trans qq)) (by have := HLE.out; omega) HUP.out)
      rcases h124 with rfl | rfl | rfl
      all_goals
        go_wp2_with fail
        refine (awake_true _ HMR.out).mono ?_
        rintro e w5 ⟨rfl, q5⟩
        go_wp2_with fail
        refine (HI.out _ q5).mono ?_
        rintro e w6 ⟨rfl, q6⟩
        go_wp2_with fail
        go_ret
        exact ⟨rfl, ((q1.behind _).behind _).trans (hq.trans (q5.trans q6))⟩

theorem walk (X Y W H C R x y : Int) (_ : I64 X) (_ : I64 Y) (_ : I64 W) (_ : I64 H) (_ : I64 C) (_ : I64 R) (_ : I64 x) (_ : I64 y) (w : World) (hM : Mv w) :
    Calls Tryd.prog 7 #[.agg #[.int .i64 X, .int .i64 Y, .int .i64 W, .int .i64 H, .int .i64 C, .int .i64 R], .agg #[.int .i64 x, .int .i64 y]] w fun e w' => e = .returned (.bool true) ∧ Q w w' := by
  by_cases h : Grid.Ok X Y W H C R
  · exact good X Y W H C R x y h w hM
  · exact bad X Y W H C R x y h w hM

theorem own : ownKnob Tryd.prog.godebug = none := by kernel_rfl

theorem contract (H : Type) (enc : TypeId × Value → H) (W : World) (base : Nat) (args : Array Value) (ds gs : List (DataW H)) (before : List MemPlace)
    (hval : ∀ (j : Nat) t v, Tryd.f7.params[j]? = some t → args[j]? = some v → Value.okWide Tryd.prog W .any base t v)
    (hW : DataW.Whole enc Tryd.prog Tryd.f7.params.toList Rows.sheetgridCoversSpec.vars false W args.toList ds gs before) (hL : laidMetH Tryd.prog Rows.sheetgridCoversRow.laid W) :
    Calls Tryd.prog 7 args W fun e W' => ∃ v, e = .returned v ∧ Rows.sheetgridCoversSpec.post enc Tryd.prog Tryd.f7 false true false false W args v W' := by
  have hW' := hW
  obtain ⟨p, q, hA0, hV, rfl, hfz, hnd⟩ := hW
  have hA : DataW.TrodAll enc Tryd.prog W 0 (fun _ => true) true Tryd.f7.params.toList args.toList ds p := hA0
  rw [Tryd.params7] at hA hval
  obtain ⟨v0, vs0, d0, ds0, p0, q0, hargs, rfl, rfl, h0, r0⟩ := trodAll_cons hA
  obtain ⟨v1, vs1, d1, ds1, p1, q1, rfl, rfl, rfl, h1, r1⟩ := trodAll_cons r0
  obtain ⟨rfl, rfl, rfl⟩ := trodAll_nil r1
  obtain rfl : args = #[v0, v1] := by cases args; simp_all
  obtain ⟨rfl, rfl⟩ := trodVars_none hV
  obtain ⟨rfl, cs0, rfl, hs0, hz0⟩ := flat_open 4 (by kernel_rfl) Tryd.underlying25 (hval 0 25 v0 rfl rfl) h0
  obtain ⟨x00, x01, x02, x03, x04, x05, rfl, b00, b01, b02, b03, b04, b05⟩ := agg6_of (hs0.trans (show Tryd.prog.cellsOf 25 = 6 by kernel_rfl)) hz0
  obtain ⟨rfl, cs1, rfl, hs1, hz1⟩ := flat_open 4 (by kernel_rfl) Tryd.underlying23 (hval 1 23 v1 rfl rfl) h1
  obtain ⟨x10, x11, rfl, b10, b11⟩ := agg2_of (hs1.trans (show Tryd.prog.cellsOf 23 = 2 by kernel_rfl)) hz1
  clear hA0
  simp only [List.append_nil] at hW'
  refine (walk x00 x01 x02 x03 x04 x05 x10 x11 b00 b01 b02 b03 b04 b05 b10 b11 W (mv_of_laid hL)).mono fun e W' ⟨he, bel⟩ => ?_
  subst he
  exact ⟨_, rfl, _, _, _, [], [], [], hW', trodAll_mk1 (shut_bool Tryd.underlying4 _), (trodAll_cons_mk (Below.trod laidOut (by kernel_rfl) (by decide +kernel) h0 bel (fun x hx => by cases hx)) (trodAll_cons_mk (Below.trod laidOut (by kernel_rfl) (by decide +kernel) h1 bel (fun x hx => by cases hx)) trodAll_mk0)), rfl, Below.frame bel _, fun h => by cases h⟩

def setRow (h : Array Obj) (g : Nat) (cs : Array Value) : Array Obj := h.modify g fun
  | .cells _ t frozen => .cells cs t frozen
  | o => o
/-- A world for the witness: the settled one, the listed tables as their initialisers lay them. -/
noncomputable def laidWorld (os : Os) : World :=
  { World.holding Tryd.prog os ⟨#[], #[], []⟩ with heap := (setRow (setRow (setRow (setRow (World.holding Tryd.prog os ⟨#[], #[], []⟩).heap 2 #[.int .u8 0, .int .u8 1, .int .u8 28, .int .u8 2, .int .u8 29, .int .u8 14, .int .u8 24, .int .u8 3, .int .u8 30, .int .u8 22, .int .u8 20, .int .u8 15, .int .u8 25, .int .u8 17, .int .u8 4, .int .u8 8, .int .u8 31, .int .u8 27, .int .u8 13, .int .u8 23, .int .u8 21, .int .u8 19, .int .u8 16, .int .u8 7, .int .u8 26, .int .u8 12, .int .u8 18, .int .u8 6, .int .u8 11, .int .u8 5, .int .u8 10, .int .u8 9]) 3 #[.int .u8 0, .int .u8 1, .int .u8 56, .int .u8 2, .int .u8 57, .int .u8 49, .int .u8 28, .int .u8 3, .int .u8 61, .int .u8 58, .int .u8 42, .int .u8 50, .int .u8 38, .int .u8 29, .int .u8 17, .int .u8 4, .int .u8 62, .int .u8 47, .int .u8 59, .int .u8 36, .int .u8 45, .int .u8 43, .int .u8 51, .int .u8 22, .int .u8 53, .int .u8 39, .int .u8 33, .int .u8 30, .int .u8 24, .int .u8 18, .int .u8 12, .int .u8 5, .int .u8 63, .int .u8 55, .int .u8 48, .int .u8 27, .int .u8 60, .int .u8 41, .int .u8 37, .int .u8 16, .int .u8 46, .int .u8 35, .int .u8 44, .int .u8 21, .int .u8 52, .int .u8 32, .int .u8 23, .int .u8 11, .int .u8 54, .int .u8 26, .int .u8 40, .int .u8 15, .int .u8 34, .int .u8 20, .int .u8 31, .int .u8 10, .int .u8 25, .int .u8 14, .int .u8 19, .int .u8 9, .int .u8 13, .int .u8 8, .int .u8 7, .int .u8 6]) 1 #[.int .u64 1, .int .u64 10, .int .u64 100, .int .u64 1000, .int .u64 10000, .int .u64 100000, .int .u64 1000000, .int .u64 10000000, .int .u64 100000000, .int .u64 1000000000, .int .u64 10000000000, .int .u64 100000000000, .int .u64 1000000000000, .int .u64 10000000000000, .int .u64 100000000000000, .int .u64 1000000000000000, .int .u64 10000000000000000, .int .u64 100000000000000000, .int .u64 1000000000000000000, .int .u64 10000000000000000000]) 0 #[.int .i64 (-1), .int .i64 0, .int .i64 0, .int .i64 (-1), .int .i64 1, .int .i64 0, .int .i64 0, .int .i64 1]) }
set_option maxRecDepth 100000 in
theorem laid_met (os : Os) : laidMet Tryd.prog Rows.sheetgridCoversRow.laid ((laidWorld os).forCall (fun _ _ => 0) ⟨#[], #[.agg #[.int .i64 0, .int .i64 0, .int .i64 0, .int .i64 0, .int .i64 0, .int .i64 0], .agg #[.int .i64 0, .int .i64 0]], []⟩).memory :=
  laidMet_of_run' 8 (by kernel_rfl) (by kernel_rfl)
theorem reads (os : Os) {H : Type} (enc : TypeId × Value → H) : ∃ places, DataW.whole enc Tryd.prog ((laidWorld os).forCall (fun _ _ => 0) ⟨#[], #[.agg #[.int .i64 0, .int .i64 0, .int .i64 0, .int .i64 0, .int .i64 0, .int .i64 0], .agg #[.int .i64 0, .int .i64 0]], []⟩).memory Tryd.f7.params.toList Rows.sheetgridCoversSpec.vars false #[Value.agg #[.int .i64 0, .int .i64 0, .int .i64 0, .int .i64 0, .int .i64 0, .int .i64 0], .agg #[.int .i64 0, .int .i64 0]].toList 8 = some ([.agg [.agg [.lit (.int .i64 0), .lit (.int .i64 0)], .lit (.int .i64 0), .lit (.int .i64 0), .lit (.int .i64 0), .lit (.int .i64 0)], .agg [.lit (.int .i64 0), .lit (.int .i64 0)]], [], places) :=
  ⟨[], by kernel_rfl⟩

set_option maxRecDepth 100000 in
theorem lifted (os : Os) (started : os.Started) (H : Type) (enc : TypeId × Value → H) (F : Stop.Interp) :
    ReturnsInHanded {} Tryd.checked os 7 .any ((OpenSpec.ofChange Rows.sheetgridCoversSpec).preRow enc Tryd.prog Tryd.f7 Rows.sheetgridCoversRow.domain false Rows.sheetgridCoversRow.laid) (((OpenSpec.ofChange Rows.sheetgridCoversSpec).at F).post enc Tryd.prog Tryd.f7 false true false false) := by
  obtain ⟨places, hx⟩ := reads os enc
  refine returnsInHanded_of_row (C := Tryd.checked) (s := OpenSpec.ofChange Rows.sheetgridCoversSpec) own started (by kernel_rfl) Tryd.func7
    (witness_row_at (enc := enc) (C := Tryd.checked) false (laidWorld os) #[.agg #[.int .i64 0, .int .i64 0, .int .i64 0, .int .i64 0, .int .i64 0, .int .i64 0], .agg #[.int .i64 0, .int .i64 0]] rfl (by kernel_rfl) (by kernel_rfl) (by kernel_rfl)
      (OpenSpec.preRow_of_cond 8 hx (by kernel_rfl) (fun k hk => by cases hk) (by kernel_rfl) (laid_met os))) ?_
  intro W base args ds gs before hval hW _ _ _ hL _ _
  exact contract H enc W base args ds gs before hval hW hL

theorem said : Rows.SheetgridCoversSaid :=
  OpenClaim.holds_of_cond 7 Tryd.f7 rfl rfl rfl rfl rfl rfl rfl ⟨rfl, rfl, rfl, rfl, rfl⟩ rfl rfl rfl rfl rfl (by kernel_rfl) Tryd.func7 (by kernel_rfl)
    (of_decide_eq_true (by kernel_rfl)) (by unfold Func.isWrapper; first | (rw [if_pos (by decide +kernel)]; kernel_rfl) | (rw [if_neg (by decide +kernel)]; exact ⟨rfl, rfl⟩))
    (fun os started H enc _ F => by rw [OpenClaim.pre_eq_preRow]; exact lifted os started H enc F)

theorem plain (f : FuncId) (fn : Func) (hf : Tryd.pinned.checked.prog.funcNamed "mapsheets/mapsheetslaw40.SheetgridCovers" = some f) (hfn : Tryd.pinned.checked.prog.funcs[f]? = some fn) :
    false = Tryd.pinned.checked.prog.looks [] ∧ ∀ (j : Nat) t, fn.params[j]? = some t → Tryd.pinned.checked.prog.wantsStandIn t = false := by
  obtain rfl : f = 7 := Option.some.inj ((show Tryd.prog.funcNamed "mapsheets/mapsheetslaw40.SheetgridCovers" = some 7 by kernel_rfl).symm.trans hf) |>.symm
  obtain rfl : fn = Tryd.f7 := (Option.some.inj (Tryd.func7.symm.trans hfn)).symm
  refine ⟨by kernel_rfl, fun j t ht => ?_⟩
  rw [Tryd.params7] at ht
  have all : ∀ t ∈ Tryd.f7.params, Tryd.prog.wantsStandIn t = false := by rw [Tryd.params7]; decide +kernel
  exact all t (by rw [Tryd.params7]; exact Array.mem_of_getElem? ht)

theorem card : Rows.SheetgridCoversCardSaid :=
  Claim7.holds_tied_plain_at .later [] _ _ _ _ said (fun _ h => by cases h) (by kernel_rfl) (fun _ h => by cases h) sheetgridCovers_row_tie rfl ⟨rfl, rfl⟩ (by kernel_rfl) rfl plain (by kernel_rfl)
end Go.Proofs.YtpnifjeelmfegaaDoor.sheetgridCovers
namespace Go.Proofs.YtpnifjeelmfegaaDoor
theorem sheetgridCovers_holds : Rows.SheetgridCoversCardSaid := sheetgridCovers.card
#print axioms sheetgridCovers_holds
end Go.Proofs.YtpnifjeelmfegaaDoor
