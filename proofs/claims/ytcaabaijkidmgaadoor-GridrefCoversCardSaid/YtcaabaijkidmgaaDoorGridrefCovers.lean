
/- For every series and point, GridrefCovers returns true: each point of a valid series has a square, whose sheet is one of the point's sheets, and whose box contains the point.
   Its listed tables are as the program's text lays them (the card ties them); no other condition. -/
import Derived.Test.YtcaabaijkidmgaaDoorGrfQ
import Derived.Test.YtcaabaijkidmgaaDoorGrfR
import Derived.Test.YtcaabaijkidmgaaDoorGridRCov
import Derived.Test.YtcaabaijkidmgaaDoorFlat
import Derived.Test.YtcaabaijkidmgaaDoorCards
import Derived.Test.YtcaabaijkidmgaaDoorTie
import Derived.Deep.DeepHandedRow
import Derived.Lib.LaidTab
import Derived.Deep.RegionHeld3
import Derived.ProofKit
import Derived.OpenShut
import Derived.JoinedOf
import Derived.JoinedAt
import Derived.SevenTiedAt
namespace Go.Proofs.YtcaabaijkidmgaaDoor.gridrefCovers
open Go.ChangeShapes Go.WideShapes Go.ChangeAt Go.RowKit
set_option linter.unusedVariables false

theorem cov_has (X Y W H C x0 y0 x1 y1 : Int) (k : Nat) : ∀ z : Int, 1 ≤ z → z ≤ (k : Int) → Grid.hit X Y W H C x0 y0 x1 y1 z → z ∈ Grid.cov X Y W H C x0 y0 x1 y1 k := by
  induction k with
  | zero => intro z h0 h1; omega
  | succ k ih =>
    intro z h0 h1 hh
    rw [Grid.cov]
    by_cases e : z = (k : Int) + 1
    · subst e
      rw [if_pos hh]
      simp
    · have := ih z h0 (by omega) hh
      split
      · exact List.mem_append_left _ this
      · exact this
theorem cov_in (X Y W H C x0 y0 x1 y1 : Int) (k : Nat) : ∀ z ∈ Grid.cov X Y W H C x0 y0 x1 y1 k, 1 ≤ z ∧ z ≤ (k : Int) ∧ Grid.hit X Y W H C x0 y0 x1 y1 z := by
  induction k with
  | zero => intro z hz; cases hz
  | succ k ih =>
    intro z hz
    rw [Grid.cov] at hz
    split at hz
    · rename_i hh
      rcases List.mem_append.1 hz with h | h
      · have := ih z h
        exact ⟨this.1, by omega, this.2.2⟩
      · simp at h
        subst h
        exact ⟨by omega, by omega, hh⟩
    · have := ih z hz
      exact ⟨this.1, by omega, this.2.2⟩
/-- A point on a sheet lies in the rectangle of the series. -/
theorem hit_ins (X Y W H C R x y z : Int) (h : Grid.Ok X Y W H C R) (z0 : 1 ≤ z) (z1 : z ≤ C * R) (hh : Grid.hit X Y W H C x y x y z) : Grf.ins X Y W H C R x y := by
  obtain ⟨p0, p1, p2, p3⟩ := Grid.place C R z h.c0 z0 z1
  have q0 := Grid.place_bd _ _ (C * W) W p0 p1 h.w0 (Int.le_refl _)
  have q1 := Grid.place_bd _ _ (R * H) H p2 p3 h.h0 (Int.le_refl _)
  unfold Grid.hit Grid.bx Grid.by' at hh
  unfold Grf.ins
  omega
theorem hit_no (X Y W H C R x y : Int) (h : Grid.Ok X Y W H C R) (hi : Grf.ins X Y W H C R x y) : Grid.hit X Y W H C x y x y (Grf.no X Y W H C R x y) := by
  obtain ⟨i0, i1, i2, i3⟩ := hi
  have s1 := Grf.sh_bd (x - X) W C (by omega) h.w0 h.c0
  have l1 := Grf.sh_le (x - X) W C (by omega) h.w0 h.c0 (by omega)
  have l2 := Grf.sh_le (y - Y) H R (by omega) h.h0 h.r0 (by omega)
  have e0 : Grf.no X Y W H C R x y - 1 = Grf.sh (x - X) W C + Grf.sh (y - Y) H R * C := by unfold Grf.no; omega
  have d1 : (Grf.no X Y W H C R x y - 1) % C = Grf.sh (x - X) W C := by
    rw [e0, Int.add_mul_emod_self_right]
    exact Int.emod_eq_of_lt s1.1 (by omega)
  have d2 : (Grf.no X Y W H C R x y - 1) / C = Grf.sh (y - Y) H R := by
    rw [e0, Int.add_mul_ediv_right _ _ (by have := h.c0; omega), Int.ediv_eq_zero_of_lt s1.1 (by omega)]
    omega
  unfold Grid.hit Grid.bx Grid.by'
  rw [d1, d2]
  omega
theorem none_ (X Y W H C R x y er : Int) (l : List Int) (w : World) (hl : l.length ≤ 256) (he : (er != 0) = true ∨ (er = 0 ∧ l = []))
    (H1 : Hid (∀ w, Calls Tryd.prog 17 #[.agg #[.int .i64 X, .int .i64 Y, .int .i64 W, .int .i64 H, .int .i64 C, .int .i64 R], .agg #[.int .i64 x, .int .i64 y]] w fun e w' => ∃ v, e = .returned (.tuple #[v, .int .i64 er]) ∧ Ints w' v l ∧ Q w w')) :
    Calls Tryd.prog 6 #[.agg #[.int .i64 X, .int .i64 Y, .int .i64 W, .int .i64 H, .int .i64 C, .int .i64 R], .agg #[.int .i64 x, .int .i64 y]] w fun e w' => e = .returned (.bool true) ∧ Q w w' := by
  have H5 := Lib.hid gawake_true
  rcases he with he | ⟨rfl, rfl⟩
  · go_enter Tryd.func6, Tryd.ntmps6
    go_wp2_with fail
    refine (H1.out _).mono ?_
    rintro e w1 ⟨v, rfl, hi, q1⟩
    clear hi
    go_wp2_with fail
    refine (H5.out _).mono ?_
    rintro e w2 ⟨rfl, q2⟩
    go_wp2_with fail
    go_ret
    exact ⟨rfl, ((q1.trans q2).behind _).behind _⟩
  · go_enter Tryd.func6, Tryd.ntmps6
    go_wp2_with fail
    refine (H1.out _).mono ?_
    rintro e w1 ⟨v, rfl, hi, q1⟩
    obtain ⟨A', c', rfl, hc, _⟩ := hi
    go_wp2_with fail
    refine (H5.out _).mono ?_
    rintro e w2 ⟨rfl, q2⟩
    go_wp2_with fail
    go_ret
    exact ⟨rfl, ((q1.trans q2).behind _).behind _⟩
set_option maxRecDepth 100000 in
set_option maxHeartbeats 8000000 in
theorem core (X Y W H C R x y m a b c d N' : Int) (l : List Int) (s t : ByteArray) (w : World) (hl0 : l ≠ []) (hl : l.length ≤ 256) (hm : m ∈ l) (hs : 5 ≤ s.size) (hs1 : s.size ≤ 6) (hin : Grf.inB a b c d x y = true)
    (i3 : ∀ W, (Instr.slice 9 (.string s) none (some (.int .i64 N')) none).run Tryd.prog W = .ok (.string t) W) (zs : (s.size : Int) - 3 = N') (N0 : 2 ≤ N') (N1 : N' ≤ 3)
    (H1 : Hid (∀ w, Calls Tryd.prog 17 #[.agg #[.int .i64 X, .int .i64 Y, .int .i64 W, .int .i64 H, .int .i64 C, .int .i64 R], .agg #[.int .i64 x, .int .i64 y]] w (CovPost l w)))
    (H2 : Hid (∀ w, Calls Tryd.prog 9 #[.agg #[.int .i64 X, .int .i64 Y, .int .i64 W, .int .i64 H, .int .i64 C, .int .i64 R], .agg #[.int .i64 x, .int .i64 y]] w fun e w' => e = .returned (.tuple #[.string s, .int .i64 0]) ∧ Q w w'))
    (H3 : Hid (∀ w, Calls Tryd.prog 18 #[.agg #[.int .i64 X, .int .i64 Y, .int .i64 W, .int .i64 H, .int .i64 C, .int .i64 R], .string t] w fun e w' => e = .returned (.tuple #[.int .i64 m, .int .i64 0]) ∧ Q w w'))
    (H4 : Hid (∀ w, Calls Tryd.prog 13 #[.agg #[.int .i64 X, .int .i64 Y, .int .i64 W, .int .i64 H, .int .i64 C, .int .i64 R], .string s] w fun e w' => e = .returned (.tuple #[.agg #[.int .i64 a, .int .i64 b, .int .i64 c, .int .i64 d], .int .i64 0]) ∧ Q w w')) :
    Calls Tryd.prog 6 #[.agg #[.int .i64 X, .int .i64 Y, .int .i64 W, .int .i64 H, .int .i64 C, .int .i64 R], .agg #[.int .i64 x, .int .i64 y]] w fun e w' => e = .returned (.bool true) ∧ Q w w' := by
  have H5 := Lib.hid gawake_true
  have H6 := Lib.hid (fun w => in_any a b c d x y w)
  rw [hin] at H6
  have HS := Lib.hid ((SeAt.fresh w X Y W H C R).next ((Q.refl _).alloc (.cells #[.int .i64 x, .int .i64 y] 23)))
  have HP := Lib.hid (new1 w (.cells #[.int .i64 X, .int .i64 Y, .int .i64 W, .int .i64 H, .int .i64 C, .int .i64 R] 25) (.cells #[.int .i64 x, .int .i64 y] 23))
  have HM := Lib.hid hm
  obtain ⟨N, hN⟩ : ∃ N, l.length = N := ⟨_, rfl⟩
  have HN := Lib.hid hN
  have hn0 : 1 ≤ N := by
    have : l.length ≠ 0 := fun e => hl0 (List.eq_nil_of_length_eq_zero e)
    omega
  have dn : ((N : Int) == 0) = false := by simp; omega
  have ds : decide ((s.size : Int) < 5) = false := by simp; omega
  rw [hN] at hl
  have wN : IntKind.i64.wrap N' = N' := IntWalk.i64_in _ (by omega)
  clear hl0 hm hin hN
  go_enter Tryd.func6, Tryd.ntmps6
  go_wp2_with fail
  refine (H1.out _).mono ?_
  rintro e w1 ⟨v, rfl, hi, q1⟩
  obtain ⟨A', c', rfl, hc, hrd⟩ := hi
  have HR := Lib.hid hrd
  rw [HN.out] at hc HR ⊢
  clear hrd
  obtain ⟨k0, k1, k2, k3, k4, k5, k6⟩ := HS.out.next q1
  have t0 := row_cell (i := 0) (b_next q1 HP.out) rfl
  have t1 := row_cell (i := 1) (b_next q1 HP.out) rfl
  clear k6
  go_wp2_with fail
  refine (H2.out _).mono ?_
  rintro e w2 ⟨rfl, q2⟩
  clear k0 k1 k2 k3 k4 k5
  clear t0 t1
  have q12 := q1.trans q2
  have HK : Hid ((w2.cell? ⟨w.heap.size, 0, none⟩ = some (.int .i64 X) ∧ w2.cell? ⟨w.heap.size, 1, none⟩ = some (.int .i64 Y) ∧ w2.cell? ⟨w.heap.size, 2, none⟩ = some (.int .i64 W) ∧ w2.cell? ⟨w.heap.size, 3, none⟩ = some (.int .i64 H) ∧ w2.cell? ⟨w.heap.size, 4, none⟩ = some (.int .i64 C) ∧ w2.cell? ⟨w.heap.size, 5, none⟩ = some (.int .i64 R) ∧ w2.cell? ⟨w.heap.size + 1, 0, none⟩ = some (.int .i64 x) ∧ w2.cell? ⟨w.heap.size + 1, 1, none⟩ = some (.int .i64 y) ∧ Q w2 w2)) := by
    obtain ⟨k0, k1, k2, k3, k4, k5, k6⟩ := HS.out.next q12
    exact Lib.hid ⟨k0, k1, k2, k3, k4, k5, row_cell (i := 0) (b_next q12 HP.out) rfl, row_cell (i := 1) (b_next q12 HP.out) rfl, Q.refl _⟩
  go_wp2_with fail
  go_region_held3 (fun v => (v.cell? ⟨w.heap.size, 0, none⟩ = some (.int .i64 X) ∧ v.cell? ⟨w.heap.size, 1, none⟩ = some (.int .i64 Y) ∧ v.cell? ⟨w.heap.size, 2, none⟩ = some (.int .i64 W) ∧ v.cell? ⟨w.heap.size, 3, none⟩ = some (.int .i64 H) ∧ v.cell? ⟨w.heap.size, 4, none⟩ = some (.int .i64 C) ∧ v.cell? ⟨w.heap.size, 5, none⟩ = some (.int .i64 R) ∧ v.cell? ⟨w.heap.size + 1, 0, none⟩ = some (.int .i64 x) ∧ v.cell? ⟨w.heap.size + 1, 1, none⟩ = some (.int .i64 y) ∧ Q w2 v)) ((first | (exact gsp_next HK.out ((Q.refl _).drew)) | (with_reducible exact gsp_next HK.out K1.out)))
    ((go_at_call 18; refine (H3.out _).mono ?_; (rintro e w3 ⟨rfl, q3⟩; have K1 : Hid (Q w2 w3) := Lib.hid (((Q.refl _).drew).trans q3))))
  all_goals
    have HR3 := Lib.hid (HR.out.below (q2.trans K1.out))
    have q13 := Lib.hid (q12.trans K1.out)
    go_wp2_with fail
    go_loopw [11, 12] (fun f i wr => ∃ (k : Nat) (o : Bool), k ≤ N ∧ i = .int .i64 k ∧ f = .bool o ∧ Hid (o = true ↔ ∃ j, j < k ∧ l[j]? = some m) ∧ Hid (Q w3 wr)) (fun _ i _ => N - (intOf i).toNat)
    case atStart => exact ⟨0, false, by omega, rfl, rfl, Lib.hid (by simp), Lib.hid (Q.refl _)⟩
    case round =>
      obtain ⟨k, o, hk, rfl, rfl, HO, hq⟩ := hrel
      by_cases hlt : k < N
      · obtain ⟨ad, u, rfl, had, hx, hcell⟩ := ((HR3.out.below (Below.mono hq.out (by have := (q2.trans K1.out).sz; omega))).at_ hlt)
        obtain ⟨z, rfl⟩ := int_at hx
        have hz : l[k]? = some z := by
          rw [List.getElem?_map] at hx
          cases e : l[k]? with
          | none => rw [e] at hx; cases hx
          | some y' => rw [e] at hx; simp at hx; rw [hx]
        have HZ := Lib.hid hz
        clear hx hz
        cases o with
        | true =>
          go_wp2_with fail
          go_roundw
          case rel => exact ⟨k + 1, true, by omega, by go_num, rfl, Lib.hid (by
            obtain ⟨j, hj, e⟩ := HO.out.1 rfl
            exact ⟨fun _ => ⟨j, by omega, e⟩, fun _ => rfl⟩), hq⟩
          case measure => simp [intOf]; omega
        | false =>
          by_cases e : z = m
          · have de : (z == m) = true := by simpa using e
            have HE := Lib.hid e
            clear e
            go_wp2_with fail
            go_roundw
            case rel => exact ⟨k + 1, true, by omega, by go_num, rfl, Lib.hid ⟨fun _ => ⟨k, by omega, by rw [HZ.out, HE.out]⟩, fun _ => rfl⟩, hq⟩
            case measure => simp [intOf]; omega
          · have de : (z == m) = false := by simpa using e
            have HE := Lib.hid e
            clear e
            go_wp2_with fail
            go_roundw
            case rel => exact ⟨k + 1, false, by omega, by go_num, rfl, Lib.hid ⟨fun h => Bool.noConfusion h, fun hx => by
              obtain ⟨j, hj, e⟩ := hx
              by_cases ej : j = k
              · subst ej
                rw [HZ.out] at e
                injection e with e
                exact absurd e HE.out
              · exact HO.out.2 ⟨j, by omega, e⟩⟩, hq⟩
            case measure => simp [intOf]; omega
      · have ho : o = true := HO.out.2 (by
          obtain ⟨j, hj, e⟩ := List.mem_iff_getElem.1 HM.out
          exact ⟨j, by have := HN.out; omega, by rw [List.getElem?_eq_getElem hj, e]⟩)
        subst ho
        have q4 := q13.out.trans hq.out
        obtain ⟨k0, k1, k2, k3, k4, k5, k6⟩ := HS.out.next q4
        clear k6
        go_wp2_with fail
        refine (H4.out _).mono ?_
        rintro e w5 ⟨rfl, q5⟩
        clear k0 k1 k2 k3 k4 k5
        have q15 := q4.trans q5
        have t0 := row_cell (i := 0) (b_next q15 HP.out) rfl
        have t1 := row_cell (i := 1) (b_next q15 HP.out) rfl
        have zt := block_lt_of_cell t0
        go_wp2_with fail
        refine (H6.out _).mono ?_
        rintro e w6 ⟨rfl, q6⟩
        go_wp2_with fail
        refine (H5.out _).mono ?_
        rintro e w7 ⟨rfl, q7⟩
        go_wp2_with fail
        go_ret
        exact ⟨rfl, ((((q15.alloc _).trans q6).trans q7).behind _).behind _⟩
theorem walk (X Y W H C R x y : Int) (_ : I64 X) (_ : I64 Y) (_ : I64 W) (_ : I64 H) (_ : I64 C) (_ : I64 R) (_ : I64 x) (_ : I64 y) (w : World) : Calls Tryd.prog 6 #[.agg #[.int .i64 X, .int .i64 Y, .int .i64 W, .int .i64 H, .int .i64 C, .int .i64 R], .agg #[.int .i64 x, .int .i64 y]] w fun e w' => e = .returned (.bool true) ∧ Q w w' := by
  by_cases h : Grid.Ok X Y W H C R
  rotate_left
  · exact none_ X Y W H C R x y 2 [] w (by simp) (.inl rfl) (fun w => (rat_bad X Y W H C R x y w h).mono fun e w' ⟨h1, h2⟩ => ⟨_, h1, Ints.nil _, h2⟩)
  have hp := Grid.prod_bd C R 16 16 h.c0 h.c1 h.r0 h.r1
  have hlen := Grid.cov_len X Y W H C x y x y (GridN C R)
  have hg : (GridN C R : Int) = C * R := by unfold GridN; omega
  by_cases hi : Grf.ins X Y W H C R x y
  rotate_left
  · have he : Grid.cov X Y W H C x y x y (GridN C R) = [] := by
      apply List.eq_nil_iff_forall_not_mem.2
      intro z hz
      have := cov_in X Y W H C x y x y (GridN C R) z hz
      exact hi (hit_ins X Y W H C R x y z h this.1 (by omega) this.2.2)
    exact none_ X Y W H C R x y 0 _ w (by omega) (.inr ⟨rfl, he⟩) (fun w => rat_any X Y W H C R x y w h)
  obtain ⟨a0, a1, a2, a3, a4, a5⟩ := no_bd X Y W H C R x y h hi
  have hmem := cov_has X Y W H C x y x y (GridN C R) (Grf.no X Y W H C R x y) a0 (by omega) (hit_no X Y W H C R x y h hi)
  obtain ⟨p, q, r, s, e, hb⟩ := box_iff X Y W H C R _ _ _ x y h a0 a1 a2 a3 a4 a5
  have zz := Grf.sqb_size C (Grf.no X Y W H C R x y) (Grf.sq (x - X) W C) (Grf.sq (y - Y) H R)
  have hf := (Grid.nm_at C R (Grf.no X Y W H C R x y) h.c0 h.c1 h.r1 a0 a1).1
  have z2 := hf.1
  have z3 := hf.2.1
  have hpp := fun w => rparse_any X Y W H C R (Grid.nmb C (Grf.no X Y W H C R x y)) w h (by omega)
  rw [prs_nmb C R _ h.c0 h.c1 h.r1 a0 a1] at hpp
  have i3 := fun W' => gslice_hi (Grf.sqb C (Grf.no X Y W H C R x y) (Grf.sq (x - X) W C) (Grf.sq (y - Y) H R)) (Grid.nmb C (Grf.no X Y W H C R x y)).size (by omega) W'
  rw [Grf.sqb_cut] at i3
  exact core X Y W H C R x y (Grf.no X Y W H C R x y) p q r s _ _ _ _ w (fun e => by rw [e] at hmem; cases hmem) (by omega) hmem (by omega) (by omega) (hb.2 ⟨hi, rfl, rfl, rfl⟩) i3 (by omega) (by omega) (by omega) (fun w => rat_any X Y W H C R x y w h) (fun w => square_in X Y W H C R x y w h hi) hpp (fun w => by rw [← e]; exact gparse_sq X Y W H C R _ _ _ w h a0 a1 a2 a3 a4 a5)

theorem own : ownKnob Tryd.prog.godebug = none := by kernel_rfl

set_option maxRecDepth 100000 in
theorem contract (H : Type) (enc : TypeId × Value → H) (W : World) (base : Nat) (args : Array Value) (ds gs : List (DataW H)) (before : List MemPlace)
    (hval : ∀ (j : Nat) t v, Tryd.f6.params[j]? = some t → args[j]? = some v → Value.okWide Tryd.prog W .any base t v)
    (hW : DataW.Whole enc Tryd.prog Tryd.f6.params.toList Rows.gridrefCoversSpec.vars false W args.toList ds gs before) (hL : laidMetH Tryd.prog Rows.gridrefCoversRow.laid W) :
    Calls Tryd.prog 6 args W fun e W' => ∃ v, e = .returned v ∧ Rows.gridrefCoversSpec.post enc Tryd.prog Tryd.f6 false true false false W args v W' := by
  have hW' := hW
  obtain ⟨p, q, hA0, hV, rfl, hfz, hnd⟩ := hW
  have hA : DataW.TrodAll enc Tryd.prog W 0 (fun _ => true) true Tryd.f6.params.toList args.toList ds p := hA0
  rw [Tryd.params6] at hA hval
  obtain ⟨v0, vs0, d0, ds0, p0, q0, hargs, rfl, rfl, h0, r0⟩ := trodAll_cons hA
  obtain ⟨v1, vs1, d1, ds1, p1, q1, rfl, rfl, rfl, h1, r1⟩ := trodAll_cons r0
  obtain ⟨rfl, rfl, rfl⟩ := trodAll_nil r1
  obtain rfl : args = #[v0, v1] := by cases args; simp_all
  obtain ⟨rfl, rfl⟩ := trodVars_none hV
  obtain ⟨rfl, cs0, rfl, hs0, hz0⟩ := flat_open 4 (by kernel_rfl) Tryd.underlying25 (hval 0 25 v0 rfl rfl) h0
  obtain ⟨x00, x01, x02, x03, x04, x05, rfl, b00, b01, b02, b03, b04, b05⟩ := agg6_of (hs0.trans (show Tryd.prog.cellsOf 25 = 6 by kernel_rfl)) hz0
  obtain ⟨rfl, cs1, rfl, hs1, hz1⟩ := flat_open 4 (by kernel_rfl) Tryd.underlying23 (hval 1 23 v1 rfl rfl) h1
  obtain ⟨x10, x11, rfl, b10, b11⟩ := agg2_of (hs1.trans (show Tryd.prog.cellsOf 23 = 2 by kernel_rfl)) hz1
  clear hA0
  simp only [List.append_nil] at hW'
  refine (walk x00 x01 x02 x03 x04 x05 x10 x11 b00 b01 b02 b03 b04 b05 b10 b11 W).mono fun e W' ⟨he, bel⟩ => ?_
  subst he
  exact ⟨_, rfl, _, _, _, [], [], [], hW', trodAll_mk1 (shut_bool Tryd.underlying4 _), (trodAll_cons_mk (Below.trod laidOut (by kernel_rfl) (by decide +kernel) h0 bel (fun x hx => by cases hx)) (trodAll_cons_mk (Below.trod laidOut (by kernel_rfl) (by decide +kernel) h1 bel (fun x hx => by cases hx)) trodAll_mk0)), rfl, Below.frame bel _, fun h => by cases h⟩

def setRow (h : Array Obj) (g : Nat) (cs : Array Value) : Array Obj := h.modify g fun
  | .cells _ t frozen => .cells cs t frozen
  | o => o
/-- A world for the witness: the settled one, the listed tables as their initialisers lay them. -/
noncomputable def laidWorld (os : Os) : World :=
  { World.holding Tryd.prog os ⟨#[], #[], []⟩ with heap := (setRow (setRow (setRow (World.holding Tryd.prog os ⟨#[], #[], []⟩).heap 3 #[.int .u8 0, .int .u8 1, .int .u8 28, .int .u8 2, .int .u8 29, .int .u8 14, .int .u8 24, .int .u8 3, .int .u8 30, .int .u8 22, .int .u8 20, .int .u8 15, .int .u8 25, .int .u8 17, .int .u8 4, .int .u8 8, .int .u8 31, .int .u8 27, .int .u8 13, .int .u8 23, .int .u8 21, .int .u8 19, .int .u8 16, .int .u8 7, .int .u8 26, .int .u8 12, .int .u8 18, .int .u8 6, .int .u8 11, .int .u8 5, .int .u8 10, .int .u8 9]) 4 #[.int .u8 0, .int .u8 1, .int .u8 56, .int .u8 2, .int .u8 57, .int .u8 49, .int .u8 28, .int .u8 3, .int .u8 61, .int .u8 58, .int .u8 42, .int .u8 50, .int .u8 38, .int .u8 29, .int .u8 17, .int .u8 4, .int .u8 62, .int .u8 47, .int .u8 59, .int .u8 36, .int .u8 45, .int .u8 43, .int .u8 51, .int .u8 22, .int .u8 53, .int .u8 39, .int .u8 33, .int .u8 30, .int .u8 24, .int .u8 18, .int .u8 12, .int .u8 5, .int .u8 63, .int .u8 55, .int .u8 48, .int .u8 27, .int .u8 60, .int .u8 41, .int .u8 37, .int .u8 16, .int .u8 46, .int .u8 35, .int .u8 44, .int .u8 21, .int .u8 52, .int .u8 32, .int .u8 23, .int .u8 11, .int .u8 54, .int .u8 26, .int .u8 40, .int .u8 15, .int .u8 34, .int .u8 20, .int .u8 31, .int .u8 10, .int .u8 25, .int .u8 14, .int .u8 19, .int .u8 9, .int .u8 13, .int .u8 8, .int .u8 7, .int .u8 6]) 0 #[.int .u64 1, .int .u64 10, .int .u64 100, .int .u64 1000, .int .u64 10000, .int .u64 100000, .int .u64 1000000, .int .u64 10000000, .int .u64 100000000, .int .u64 1000000000, .int .u64 10000000000, .int .u64 100000000000, .int .u64 1000000000000, .int .u64 10000000000000, .int .u64 100000000000000, .int .u64 1000000000000000, .int .u64 10000000000000000, .int .u64 100000000000000000, .int .u64 1000000000000000000, .int .u64 10000000000000000000]) }
set_option maxRecDepth 100000 in
theorem laid_met (os : Os) : laidMet Tryd.prog Rows.gridrefCoversRow.laid ((laidWorld os).forCall (fun _ _ => 0) ⟨#[], #[.agg #[.int .i64 0, .int .i64 0, .int .i64 0, .int .i64 0, .int .i64 0, .int .i64 0], .agg #[.int .i64 0, .int .i64 0]], []⟩).memory :=
  laidMet_of_run' 8 (by kernel_rfl) (by kernel_rfl)
theorem reads (os : Os) {H : Type} (enc : TypeId × Value → H) : ∃ places, DataW.whole enc Tryd.prog ((laidWorld os).forCall (fun _ _ => 0) ⟨#[], #[.agg #[.int .i64 0, .int .i64 0, .int .i64 0, .int .i64 0, .int .i64 0, .int .i64 0], .agg #[.int .i64 0, .int .i64 0]], []⟩).memory Tryd.f6.params.toList Rows.gridrefCoversSpec.vars false #[Value.agg #[.int .i64 0, .int .i64 0, .int .i64 0, .int .i64 0, .int .i64 0, .int .i64 0], .agg #[.int .i64 0, .int .i64 0]].toList 8 = some ([.agg [.agg [.lit (.int .i64 0), .lit (.int .i64 0)], .lit (.int .i64 0), .lit (.int .i64 0), .lit (.int .i64 0), .lit (.int .i64 0)], .agg [.lit (.int .i64 0), .lit (.int .i64 0)]], [], places) :=
  ⟨[], by kernel_rfl⟩

set_option maxRecDepth 100000 in
theorem lifted (os : Os) (started : os.Started) (H : Type) (enc : TypeId × Value → H) (F : Stop.Interp) :
    ReturnsInHanded {} Tryd.checked os 6 .any ((OpenSpec.ofChange Rows.gridrefCoversSpec).preRow enc Tryd.prog Tryd.f6 Rows.gridrefCoversRow.domain false Rows.gridrefCoversRow.laid) (((OpenSpec.ofChange Rows.gridrefCoversSpec).at F).post enc Tryd.prog Tryd.f6 false true false false) := by
  obtain ⟨places, hx⟩ := reads os enc
  refine returnsInHanded_of_row (C := Tryd.checked) (s := OpenSpec.ofChange Rows.gridrefCoversSpec) own started (by kernel_rfl) Tryd.func6
    (witness_row_at (enc := enc) (C := Tryd.checked) false (laidWorld os) #[.agg #[.int .i64 0, .int .i64 0, .int .i64 0, .int .i64 0, .int .i64 0, .int .i64 0], .agg #[.int .i64 0, .int .i64 0]] rfl (by kernel_rfl) (by kernel_rfl) (by kernel_rfl)
      (OpenSpec.preRow_of_cond 8 hx (by kernel_rfl) (fun k hk => by cases hk) (by kernel_rfl) (laid_met os))) ?_
  intro W base args ds gs before hval hW _ _ _ hL _ _
  exact contract H enc W base args ds gs before hval hW hL

theorem said : Rows.GridrefCoversSaid :=
  OpenClaim.holds_of_cond 6 Tryd.f6 rfl rfl rfl rfl rfl rfl rfl ⟨rfl, rfl, rfl, rfl, rfl⟩ rfl rfl rfl rfl rfl (by kernel_rfl) Tryd.func6 (by kernel_rfl)
    (of_decide_eq_true (by kernel_rfl)) (by unfold Func.isWrapper; first | (rw [if_pos (by decide +kernel)]; kernel_rfl) | (rw [if_neg (by decide +kernel)]; exact ⟨rfl, rfl⟩))
    (fun os started H enc _ F => by rw [OpenClaim.pre_eq_preRow]; exact lifted os started H enc F)

theorem plain (f : FuncId) (fn : Func) (hf : Tryd.pinned.checked.prog.funcNamed "mapsheets/mapsheetslaw51.GridrefCovers" = some f) (hfn : Tryd.pinned.checked.prog.funcs[f]? = some fn) :
    false = Tryd.pinned.checked.prog.looks [] ∧ ∀ (j : Nat) t, fn.params[j]? = some t → Tryd.pinned.checked.prog.wantsStandIn t = false := by
  obtain rfl : f = 6 := Option.some.inj ((show Tryd.prog.funcNamed "mapsheets/mapsheetslaw51.GridrefCovers" = some 6 by kernel_rfl).symm.trans hf) |>.symm
  obtain rfl : fn = Tryd.f6 := (Option.some.inj (Tryd.func6.symm.trans hfn)).symm
  refine ⟨by kernel_rfl, fun j t ht => ?_⟩
  rw [Tryd.params6] at ht
  have all : ∀ t ∈ Tryd.f6.params, Tryd.prog.wantsStandIn t = false := by rw [Tryd.params6]; decide +kernel
  exact all t (by rw [Tryd.params6]; exact Array.mem_of_getElem? ht)

theorem card : Rows.GridrefCoversCardSaid :=
  Claim7.holds_tied_plain_at .later [] _ _ _ _ said (fun _ h => by cases h) (by kernel_rfl) (fun _ h => by cases h) gridrefCovers_row_tie rfl ⟨rfl, rfl⟩ (by kernel_rfl) rfl plain (by kernel_rfl)
end Go.Proofs.YtcaabaijkidmgaaDoor.gridrefCovers
namespace Go.Proofs.YtcaabaijkidmgaaDoor
theorem gridrefCovers_holds : Rows.GridrefCoversCardSaid := gridrefCovers.card
#print axioms gridrefCovers_holds
end Go.Proofs.YtcaabaijkidmgaaDoor
