
/- Contract of the reference's Path for valid projections and lists within the limit. -/
import Derived.Test.YtmagppjmjjkbjaaPrjQ
namespace Go.Proofs.Ytmagppjmjjkbjaa
open Go.RowKit
set_option linter.unusedVariables false

theorem sp_next {K L A S x y : Int} {B : Nat} {ad : Addr} {wr u v : World} (h : (u.cell? ⟨B, 0, none⟩ = some (.int .i64 K) ∧ u.cell? ⟨B, 1, none⟩ = some (.int .i64 L) ∧ u.cell? ⟨B, 2, none⟩ = some (.int .i64 A) ∧ u.cell? ⟨B, 3, none⟩ = some (.int .i64 S) ∧ u.cell? (ad) = some (.int .i64 x) ∧ u.cell? ⟨(ad).block, (ad).off + 1, none⟩ = some (.int .i64 y) ∧ Q wr u)) (q : Q u v) : (v.cell? ⟨B, 0, none⟩ = some (.int .i64 K) ∧ v.cell? ⟨B, 1, none⟩ = some (.int .i64 L) ∧ v.cell? ⟨B, 2, none⟩ = some (.int .i64 A) ∧ v.cell? ⟨B, 3, none⟩ = some (.int .i64 S) ∧ v.cell? (ad) = some (.int .i64 x) ∧ v.cell? ⟨(ad).block, (ad).off + 1, none⟩ = some (.int .i64 y) ∧ Q wr v) := by
  obtain ⟨h0, h1, h2, h3, h4, h5, h9⟩ := h
  exact ⟨t_next q h0, t_next q h1, t_next q h2, t_next q h3, cell_addr_next q h4, t_next q h5, h9.trans q⟩
def PthS (K L A S x y : Int) (B : Nat) (ad : Addr) (wr v : World) : Prop := (v.cell? ⟨B, 0, none⟩ = some (.int .i64 K) ∧ v.cell? ⟨B, 1, none⟩ = some (.int .i64 L) ∧ v.cell? ⟨B, 2, none⟩ = some (.int .i64 A) ∧ v.cell? ⟨B, 3, none⟩ = some (.int .i64 S) ∧ v.cell? (ad) = some (.int .i64 x) ∧ v.cell? ⟨(ad).block, (ad).off + 1, none⟩ = some (.int .i64 y) ∧ Q wr v)

set_option maxRecDepth 100000 in
set_option maxHeartbeats 16000000 in
theorem rPath_in (K L A S : Int) (v : Value) (l : List (Int × Int)) (w : World) (h : Prj.Ok K L A S) (hv : Pts w v l) (hl : l.length ≤ 4096) :
    Calls Try.prog 18 #[.agg #[.int .i64 K, .int .i64 L, .int .i64 A, .int .i64 S], v] w (PathPost (Prj.pl K L A S l) (Prj.pe K L A S l) w) := by
  obtain ⟨A', c, rfl, hc, hr⟩ := hv
  have HC := Lib.hid (fun W => rpcheck_yes K L A S W h)
  have HT := Lib.hid (fun x y W => rTo_ok K L A S x y W h)
  have HR := Lib.hid hr
  obtain ⟨n, hn⟩ : ∃ n, l.length = n := ⟨_, rfl⟩
  have HN := Lib.hid hn
  have d : decide (4096 < (n : Int)) = false := by simp; omega
  obtain ⟨i0, hi, hz0, hz1, hz2⟩ := info_parts infoPoint
  have HI := Lib.hid hi
  rw [hn] at hc hl ⊢
  clear h hr hn hi
  go_enter Try.func18, Try.ntmps18
  go_wp2_with fail
  refine (HC.out _).mono ?_
  rintro e wk ⟨rfl, q1⟩
  have HQ := Lib.hid (q1.behind _)
  have HS := Lib.hid (pr_next (prs_fresh K L A S w) q1)
  clear q1
  go_wp2_with fail
  have HRK := Lib.hid ((HR.out.below HQ.out).more HQ.out.sz)
  go_loopw [7, 8] (fun u i wr => ∃ k : Nat, k ≤ n ∧ i = .int .i64 k ∧ Hid (∀ j : Nat, (hj : j < l.length) → j < k → Prj.good K L A S (l[j]).1 (l[j]).2) ∧ Hid (wr.ownsRow wk.heap.size 29 2 u (Prj.pth K L A S l k).length (ptCells (Prj.pth K L A S l k))) ∧ Q wk wr) (fun _ i _ => n - (intOf i).toNat)
  case atStart => exact ⟨0, by omega, rfl, Lib.hid (fun j _ h => absurd h (by omega)), World.ownsRow_nil _ _ _ _, Q.refl _⟩
  case round =>
    obtain ⟨k, hk, rfl, HG, hown, hq⟩ := hrel
    by_cases hlt : k < n
    · have hkl : k < l.length := by rw [HN.out]; exact hlt
      obtain ⟨ad, hA, _, h1, h2⟩ := Pts.at_ (HRK.out.below hq |>.more hq.sz) k hkl
      subst hA
      have HP := Lib.hid (show l[k]?.getD (0, 0) = l[k] by rw [List.getElem?_eq_getElem hkl]; rfl)
      have HTK := Lib.hid (fun W => HT.out (l[k]).1 (l[k]).2 W)
      have HPT := Lib.hid (show Prj.pth K L A S l (k + 1) = Prj.push (Prj.pth K L A S l k) (Prj.qx K L A S (l[k]).1 (l[k]).2, Prj.qy K L A S (l[k]).1 (l[k]).2) by rw [Prj.pth, HP.out])
      have hlen := Prj.pth_len K L A S l k
      have HSR := Lib.hid (pr_next HS.out hq)
      have HK : Hid (PthS K L A S (l[k]).1 (l[k]).2 w.heap.size (ad.add (k * 2)) wr wr) := by
        obtain ⟨k0, k1, k2, k3, _⟩ := HSR.out
        exact ⟨k0, k1, k2, k3, h1, h2, Q.refl _⟩
      clear h1 h2
      by_cases hg : Prj.good K L A S (l[k]).1 (l[k]).2
      rotate_left
      · have eq0 : Prj.qe K L A S (l[k]).1 (l[k]).2 = 2 := if_neg hg
        rw [eq0] at HTK
        have HOUT := Lib.hid (show Prj.pl K L A S l = [] ∧ Prj.pe K L A S l = 2 from ⟨if_neg (fun a => hg (a _ (List.getElem_mem hkl))), if_neg (fun a => hg (a _ (List.getElem_mem hkl)))⟩)
        generalize Prj.qx K L A S (l[k]).1 (l[k]).2 = qa at *
        generalize Prj.qy K L A S (l[k]).1 (l[k]).2 = qb at *
        generalize (l[k]).1 = x at *
        generalize (l[k]).2 = y at *
        clear hg eq0 HPT HP
        go_wp2_with fail
        go_region_held3 (fun v => (v.cell? ⟨w.heap.size, 0, none⟩ = some (.int .i64 K) ∧ v.cell? ⟨w.heap.size, 1, none⟩ = some (.int .i64 L) ∧ v.cell? ⟨w.heap.size, 2, none⟩ = some (.int .i64 A) ∧ v.cell? ⟨w.heap.size, 3, none⟩ = some (.int .i64 S) ∧ v.cell? (ad.add (k * 2)) = some (.int .i64 x) ∧ v.cell? ⟨(ad.add (k * 2)).block, (ad.add (k * 2)).off + 1, none⟩ = some (.int .i64 y) ∧ Q wr v)) ((first | (exact sp_next HK.out ((Q.refl _).drew)) | (exact sp_next HK.out (((Q.refl _).drew).trans (by assumption))) | (exact sp_next HK.out ((((Q.refl _).drew).trans (by assumption)).alloc _)) | (exact sp_next HK.out (((Q.refl _).alloc _).drew)) | (exact sp_next HK.out ((((Q.refl _).alloc _).drew).trans (by assumption))) | (refine sp_next HK.out ?_; (repeat (refine Q.setCell ?_ (by simp) _)); (exact (((Q.refl _).alloc _).drew).trans (by assumption)))))
          (first | (go_at_call 14; refine (HTK.out _).mono ?_; (rintro e w5 ⟨rfl, q5⟩; have hcc := (bcell q5).1; have hff := (bcell q5).2)))
        · have q16 := (((Q.refl wr).drew).trans q5).alloc (.cells #[.int .i64 qa, .int .i64 qb] 29)
          go_wp2_with fail
          go_ret2
          exact ⟨_, by rw [HOUT.out.2]; rfl, by rw [HOUT.out.1]; exact Pts.nil _, HQ.out.trans (hq.trans q16)⟩
        · have q16 := (((((Q.refl wr).alloc (.cells #[.int .i64 0, .int .i64 0] 29)).drew).trans q5).setCell (p := ⟨wr.heap.size, 0, none⟩) (by simp) (.int .i64 qa)).setCell (p := ⟨wr.heap.size, 1, none⟩) (by simp) (.int .i64 qb)
          go_wp2_with fail
          go_ret2
          exact ⟨_, by rw [HOUT.out.2]; rfl, by rw [HOUT.out.1]; exact Pts.nil _, HQ.out.trans (hq.trans q16)⟩
      have eq0 : Prj.qe K L A S (l[k]).1 (l[k]).2 = 0 := if_pos hg
      rw [eq0] at HTK
      have HG2 : Hid (∀ j : Nat, (hj : j < l.length) → j < k + 1 → Prj.good K L A S (l[j]).1 (l[j]).2) := Lib.hid (fun j hj hjk => by
        by_cases e : j = k
        · subst e; exact hg
        · exact HG.out j hj (by omega))
      generalize Prj.qx K L A S (l[k]).1 (l[k]).2 = qa at *
      generalize Prj.qy K L A S (l[k]).1 (l[k]).2 = qb at *
      generalize (l[k]).1 = x at *
      generalize (l[k]).2 = y at *
      generalize Prj.pth K L A S l k = acc at *
      clear hg eq0 HG HP
      cases hm : acc.length with
      | zero =>
        obtain rfl : acc = [] := List.eq_nil_of_length_eq_zero hm
        obtain ⟨A2, c2, rfl, hc2⟩ := own_slice hown.out
        have HACC := Lib.hid (show Prj.pth K L A S l (k + 1) = [] ++ [(qa, qb)] by rw [HPT.out]; rfl)
        clear hm
        go_wp2_with fail
        go_region_held3 (fun v => (v.cell? ⟨w.heap.size, 0, none⟩ = some (.int .i64 K) ∧ v.cell? ⟨w.heap.size, 1, none⟩ = some (.int .i64 L) ∧ v.cell? ⟨w.heap.size, 2, none⟩ = some (.int .i64 A) ∧ v.cell? ⟨w.heap.size, 3, none⟩ = some (.int .i64 S) ∧ v.cell? (ad.add (k * 2)) = some (.int .i64 x) ∧ v.cell? ⟨(ad.add (k * 2)).block, (ad.add (k * 2)).off + 1, none⟩ = some (.int .i64 y) ∧ Q wr v)) ((first | (exact sp_next HK.out ((Q.refl _).drew)) | (exact sp_next HK.out (((Q.refl _).drew).trans (by assumption))) | (exact sp_next HK.out ((((Q.refl _).drew).trans (by assumption)).alloc _)) | (exact sp_next HK.out (((Q.refl _).alloc _).drew)) | (exact sp_next HK.out ((((Q.refl _).alloc _).drew).trans (by assumption))) | (refine sp_next HK.out ?_; (repeat (refine Q.setCell ?_ (by simp) _)); (exact (((Q.refl _).alloc _).drew).trans (by assumption)))))
          (first | (go_at_call 14; refine (HTK.out _).mono ?_; (rintro e w5 ⟨rfl, q5⟩; have hcc := (bcell q5).1; have hff := (bcell q5).2)))
        · clear hcc hff
          have q16 := (((Q.refl wr).drew).trans q5).alloc (.cells #[.int .i64 qa, .int .i64 qb] 29)
          have HQB := Lib.hid (heap_alloc_new w5 (.cells #[.int .i64 qa, .int .i64 qb] 29))
          go_wp2_with fail
          obtain ⟨w6, hw6⟩ : ∃ w6, w5.alloc (.cells #[.int .i64 qa, .int .i64 qb] 29) = w6 := ⟨_, rfl⟩
          rw [hw6] at q16 HQB ⊢
          clear hw6
          have t0 := row_cell (i := 0) HQB.out rfl
          have t1 := row_cell (i := 1) HQB.out rfl
          have hown6 := Lib.hid (own_next hown.out q16)
          clear hown
          go_quiet (fail)
          go_wp2_with (at_builtin; refine wpList_append_own _ rfl _ _ 33 rfl wk.heap.size 29 i0 (.agg #[.int .i64 0, .int .i64 0]) 2 16 Try.underlying33 HI.out hz0 hz1 hz2 rfl (by decide) _ _ _ rfl ((own_next hown6.out ((Q.refl _).drewN _)).alloc _) ⟨w6.heap.size, 0, none⟩ 1 1 [.int .i64 qa, .int .i64 qb] rfl rfl ?c1 ?c2 ?c3 ?c4 ?c5 ?_)
          case c1 => intro j u hu; cases j with
            | zero => simp at hu; subst hu; exact row_cell (i := 0) (heap_alloc_new (w6.drewN nq) _) rfl
            | succ j => cases j with
              | zero => simp at hu; subst hu; exact row_cell (i := 1) (heap_alloc_new (w6.drewN nq) _) rfl
              | succ j => simp at hu
          case c2 => intro u hu; simp at hu; rcases hu with rfl | rfl <;> rfl
          case c3 => unfold maxLen; omega
          case c4 => omega
          case c5 => have := (hq.trans q16).sz; simp; omega
          intro v' w8 hown8 hgrow _
          have q8 : Q wk w8 := Q.grown (((hq.trans q16).drewN _).alloc _) hgrow (fun g hg => (hown6.out.lt g hg).1)
          have HO8 := Lib.hid hown8
          clear hown8 hgrow
          go_wp2_with fail
          go_roundw
          case rel => exact ⟨k + 1, by omega, by go_num, HG2, by rw [HACC.out]; exact Lib.hid (by rw [ptCells_snoc]; simpa using HO8.out), q8⟩
          case measure => simp [intOf]; omega
        · clear hcc hff
          have q16 := (((((Q.refl wr).alloc (.cells #[.int .i64 0, .int .i64 0] 29)).drew).trans q5).setCell (p := ⟨wr.heap.size, 0, none⟩) (by simp) (.int .i64 qa)).setCell (p := ⟨wr.heap.size, 1, none⟩) (by simp) (.int .i64 qb)
          have HQB := Lib.hid (heap_setCell_same _ _ 1 _ _ (.int .i64 qb) (heap_setCell_same _ _ 0 _ _ (.int .i64 qa) (b_next q5 (show (wr.alloc (.cells #[.int .i64 0, .int .i64 0] 29)).drew.heap[wr.heap.size]? = _ from heap_alloc_new wr (.cells #[.int .i64 0, .int .i64 0] 29)))))
          go_wp2_with fail
          obtain ⟨w6, hw6⟩ : ∃ w6, (w5.setCell ⟨wr.heap.size, 0, none⟩ (.int .i64 qa)).setCell ⟨wr.heap.size, 1, none⟩ (.int .i64 qb) = w6 := ⟨_, rfl⟩
          rw [hw6] at q16 HQB ⊢
          clear hw6
          have t0 := row_cell (i := 0) HQB.out rfl
          have t1 := row_cell (i := 1) HQB.out rfl
          have hown6 := Lib.hid (own_next hown.out q16)
          clear hown
          go_quiet (fail)
          go_wp2_with (at_builtin; refine wpList_append_own _ rfl _ _ 33 rfl wk.heap.size 29 i0 (.agg #[.int .i64 0, .int .i64 0]) 2 16 Try.underlying33 HI.out hz0 hz1 hz2 rfl (by decide) _ _ _ rfl ((own_next hown6.out ((Q.refl _).drewN _)).alloc _) ⟨w6.heap.size, 0, none⟩ 1 1 [.int .i64 qa, .int .i64 qb] rfl rfl ?c1 ?c2 ?c3 ?c4 ?c5 ?_)
          case c1 => intro j u hu; cases j with
            | zero => simp at hu; subst hu; exact row_cell (i := 0) (heap_alloc_new (w6.drewN nq) _) rfl
            | succ j => cases j with
              | zero => simp at hu; subst hu; exact row_cell (i := 1) (heap_alloc_new (w6.drewN nq) _) rfl
              | succ j => simp at hu
          case c2 => intro u hu; simp at hu; rcases hu with rfl | rfl <;> rfl
          case c3 => unfold maxLen; omega
          case c4 => omega
          case c5 => have := (hq.trans q16).sz; simp; omega
          intro v' w8 hown8 hgrow _
          have q8 : Q wk w8 := Q.grown (((hq.trans q16).drewN _).alloc _) hgrow (fun g hg => (hown6.out.lt g hg).1)
          have HO8 := Lib.hid hown8
          clear hown8 hgrow
          go_wp2_with fail
          go_roundw
          case rel => exact ⟨k + 1, by omega, by go_num, HG2, by rw [HACC.out]; exact Lib.hid (by rw [ptCells_snoc]; simpa using HO8.out), q8⟩
          case measure => simp [intOf]; omega
      | succ m =>
        obtain ⟨ad2, c2, rfl, hc2, g1, g2⟩ := own_last hown.out hm
        obtain ⟨a1, ha1⟩ : ∃ a1, (acc[m]'(by omega)).1 = a1 := ⟨_, rfl⟩
        obtain ⟨b1, hb1⟩ : ∃ b1, (acc[m]'(by omega)).2 = b1 := ⟨_, rfl⟩
        rw [ha1] at g1
        rw [hb1] at g2
        have HLAST := Lib.hid (show acc.getLast? = some (a1, b1) by rw [Prj.last_at acc m hm, ← ha1, ← hb1])
        have HM := Lib.hid hm
        have G1 := Lib.hid g1
        have G2 := Lib.hid g2
        clear hm ha1 hb1 g1 g2
        go_wp2_with fail
        go_region_held3 (fun v => (v.cell? ⟨w.heap.size, 0, none⟩ = some (.int .i64 K) ∧ v.cell? ⟨w.heap.size, 1, none⟩ = some (.int .i64 L) ∧ v.cell? ⟨w.heap.size, 2, none⟩ = some (.int .i64 A) ∧ v.cell? ⟨w.heap.size, 3, none⟩ = some (.int .i64 S) ∧ v.cell? (ad.add (k * 2)) = some (.int .i64 x) ∧ v.cell? ⟨(ad.add (k * 2)).block, (ad.add (k * 2)).off + 1, none⟩ = some (.int .i64 y) ∧ Q wr v)) ((first | (exact sp_next HK.out ((Q.refl _).drew)) | (exact sp_next HK.out (((Q.refl _).drew).trans (by assumption))) | (exact sp_next HK.out ((((Q.refl _).drew).trans (by assumption)).alloc _)) | (exact sp_next HK.out (((Q.refl _).alloc _).drew)) | (exact sp_next HK.out ((((Q.refl _).alloc _).drew).trans (by assumption))) | (refine sp_next HK.out ?_; (repeat (refine Q.setCell ?_ (by simp) _)); (exact (((Q.refl _).alloc _).drew).trans (by assumption)))))
          (first | (go_at_call 14; refine (HTK.out _).mono ?_; (rintro e w5 ⟨rfl, q5⟩; have hcc := (bcell q5).1; have hff := (bcell q5).2)))
        · clear hcc hff
          have q16 := (((Q.refl wr).drew).trans q5).alloc (.cells #[.int .i64 qa, .int .i64 qb] 29)
          have HQB := Lib.hid (heap_alloc_new w5 (.cells #[.int .i64 qa, .int .i64 qb] 29))
          go_wp2_with fail
          obtain ⟨w6, hw6⟩ : ∃ w6, w5.alloc (.cells #[.int .i64 qa, .int .i64 qb] 29) = w6 := ⟨_, rfl⟩
          rw [hw6] at q16 HQB ⊢
          clear hw6
          have g1 := cell_addr_next q16 G1.out
          have g2 := cell_addr_next q16 G2.out
          have t0 := row_cell (i := 0) HQB.out rfl
          have t1 := row_cell (i := 1) HQB.out rfl
          have hown6 := Lib.hid (own_next hown.out q16)
          have dl : ((m : Int) + 1 == 0) = false := by simp; omega
          have hml : m ≤ 4096 := by have := HM.out; omega
          have el : IntKind.i64.wrap ((m : Int) + 1 - 1) = m := by rw [show (m : Int) + 1 - 1 = m by omega]; exact IntWalk.i64_in _ (by omega)
          have el2 : IntKind.i64.wrap (m : Int) = m := IntWalk.i64_in _ (by omega)
          have el3 : (m : Int) < (m : Int) + 1 := by omega
          clear hown
          by_cases e1 : a1 = qa
          rotate_left
          · have de1 : (a1 == qa) = false := by simpa using e1
            have HACC := Lib.hid (show Prj.pth K L A S l (k + 1) = acc ++ [(qa, qb)] by rw [HPT.out]; exact Prj.push_other _ _ (by rw [HLAST.out]; intro hh; injection hh with hh; injection hh with x1 x2; exact e1 x1))
            clear e1
            go_quiet (fail)
            go_wp2_with (at_builtin; refine wpList_append_own _ rfl _ _ 33 rfl wk.heap.size 29 i0 (.agg #[.int .i64 0, .int .i64 0]) 2 16 Try.underlying33 HI.out hz0 hz1 hz2 rfl (by decide) _ _ _ rfl ((own_next hown6.out ((Q.refl _).drewN _)).alloc _) ⟨w6.heap.size, 0, none⟩ 1 1 [.int .i64 qa, .int .i64 qb] rfl rfl ?c1 ?c2 ?c3 ?c4 ?c5 ?_)
            case c1 => intro j u hu; cases j with
              | zero => simp at hu; subst hu; exact row_cell (i := 0) (heap_alloc_new (w6.drewN nq) _) rfl
              | succ j => cases j with
                | zero => simp at hu; subst hu; exact row_cell (i := 1) (heap_alloc_new (w6.drewN nq) _) rfl
                | succ j => simp at hu
            case c2 => intro u hu; simp at hu; rcases hu with rfl | rfl <;> rfl
            case c3 => unfold maxLen; omega
            case c4 => omega
            case c5 => have := (hq.trans q16).sz; simp; omega
            intro v' w8 hown8 hgrow _
            have q8 : Q wk w8 := Q.grown (((hq.trans q16).drewN _).alloc _) hgrow (fun g hg => (hown6.out.lt g hg).1)
            have HO8 := Lib.hid hown8
            clear hown8 hgrow
            go_wp2_with fail
            go_roundw
            case rel => exact ⟨k + 1, by omega, by go_num, HG2, by rw [HACC.out]; exact Lib.hid (by rw [ptCells_snoc]; simpa using HO8.out), q8⟩
            case measure => simp [intOf]; omega
          subst e1
          by_cases e2 : b1 = qb
          rotate_left
          · have de2 : (b1 == qb) = false := by simpa using e2
            have HACC := Lib.hid (show Prj.pth K L A S l (k + 1) = acc ++ [(a1, qb)] by rw [HPT.out]; exact Prj.push_other _ _ (by rw [HLAST.out]; intro hh; injection hh with hh; injection hh with x1 x2; exact e2 x2))
            clear e2
            go_quiet (fail)
            go_wp2_with (at_builtin; refine wpList_append_own _ rfl _ _ 33 rfl wk.heap.size 29 i0 (.agg #[.int .i64 0, .int .i64 0]) 2 16 Try.underlying33 HI.out hz0 hz1 hz2 rfl (by decide) _ _ _ rfl ((own_next hown6.out ((Q.refl _).drewN _)).alloc _) ⟨w6.heap.size, 0, none⟩ 1 1 [.int .i64 a1, .int .i64 qb] rfl rfl ?c1 ?c2 ?c3 ?c4 ?c5 ?_)
            case c1 => intro j u hu; cases j with
              | zero => simp at hu; subst hu; exact row_cell (i := 0) (heap_alloc_new (w6.drewN nq) _) rfl
              | succ j => cases j with
                | zero => simp at hu; subst hu; exact row_cell (i := 1) (heap_alloc_new (w6.drewN nq) _) rfl
                | succ j => simp at hu
            case c2 => intro u hu; simp at hu; rcases hu with rfl | rfl <;> rfl
            case c3 => unfold maxLen; omega
            case c4 => omega
            case c5 => have := (hq.trans q16).sz; simp; omega
            intro v' w8 hown8 hgrow _
            have q8 : Q wk w8 := Q.grown (((hq.trans q16).drewN _).alloc _) hgrow (fun g hg => (hown6.out.lt g hg).1)
            have HO8 := Lib.hid hown8
            clear hown8 hgrow
            go_wp2_with fail
            go_roundw
            case rel => exact ⟨k + 1, by omega, by go_num, HG2, by rw [HACC.out]; exact Lib.hid (by rw [ptCells_snoc]; simpa using HO8.out), q8⟩
            case measure => simp [intOf]; omega
          subst e2
          have HACC := Lib.hid (show Prj.pth K L A S l (k + 1) = acc by rw [HPT.out]; exact Prj.push_same _ _ HLAST.out)
          go_quiet (fail)
          go_wp2_with fail
          go_roundw
          case rel => exact ⟨k + 1, by omega, by go_num, HG2, by rw [HACC.out]; have := own_next hown6.out ((Q.refl _).drewN nq); rw [HM.out] at this ⊢; exact this, (hq.trans q16).drewN _⟩
          case measure => simp [intOf]; omega
        · clear hcc hff
          have q16 := (((((Q.refl wr).alloc (.cells #[.int .i64 0, .int .i64 0] 29)).drew).trans q5).setCell (p := ⟨wr.heap.size, 0, none⟩) (by simp) (.int .i64 qa)).setCell (p := ⟨wr.heap.size, 1, none⟩) (by simp) (.int .i64 qb)
          have HQB := Lib.hid (heap_setCell_same _ _ 1 _ _ (.int .i64 qb) (heap_setCell_same _ _ 0 _ _ (.int .i64 qa) (b_next q5 (show (wr.alloc (.cells #[.int .i64 0, .int .i64 0] 29)).drew.heap[wr.heap.size]? = _ from heap_alloc_new wr (.cells #[.int .i64 0, .int .i64 0] 29)))))
          go_wp2_with fail
          obtain ⟨w6, hw6⟩ : ∃ w6, (w5.setCell ⟨wr.heap.size, 0, none⟩ (.int .i64 qa)).setCell ⟨wr.heap.size, 1, none⟩ (.int .i64 qb) = w6 := ⟨_, rfl⟩
          rw [hw6] at q16 HQB ⊢
          clear hw6
          have g1 := cell_addr_next q16 G1.out
          have g2 := cell_addr_next q16 G2.out
          have t0 := row_cell (i := 0) HQB.out rfl
          have t1 := row_cell (i := 1) HQB.out rfl
          have hown6 := Lib.hid (own_next hown.out q16)
          have dl : ((m : Int) + 1 == 0) = false := by simp; omega
          have hml : m ≤ 4096 := by have := HM.out; omega
          have el : IntKind.i64.wrap ((m : Int) + 1 - 1) = m := by rw [show (m : Int) + 1 - 1 = m by omega]; exact IntWalk.i64_in _ (by omega)
          have el2 : IntKind.i64.wrap (m : Int) = m := IntWalk.i64_in _ (by omega)
          have el3 : (m : Int) < (m : Int) + 1 := by omega
          clear hown
          by_cases e1 : a1 = qa
          rotate_left
          · have de1 : (a1 == qa) = false := by simpa using e1
            have HACC := Lib.hid (show Prj.pth K L A S l (k + 1) = acc ++ [(qa, qb)] by rw [HPT.out]; exact Prj.push_other _ _ (by rw [HLAST.out]; intro hh; injection hh with hh; injection hh with x1 x2; exact e1 x1))
            clear e1
            go_quiet (fail)
            go_wp2_with (at_builtin; refine wpList_append_own _ rfl _ _ 33 rfl wk.heap.size 29 i0 (.agg #[.int .i64 0, .int .i64 0]) 2 16 Try.underlying33 HI.out hz0 hz1 hz2 rfl (by decide) _ _ _ rfl ((own_next hown6.out ((Q.refl _).drewN _)).alloc _) ⟨w6.heap.size, 0, none⟩ 1 1 [.int .i64 qa, .int .i64 qb] rfl rfl ?c1 ?c2 ?c3 ?c4 ?c5 ?_)
            case c1 => intro j u hu; cases j with
              | zero => simp at hu; subst hu; exact row_cell (i := 0) (heap_alloc_new (w6.drewN nq) _) rfl
              | succ j => cases j with
                | zero => simp at hu; subst hu; exact row_cell (i := 1) (heap_alloc_new (w6.drewN nq) _) rfl
                | succ j => simp at hu
            case c2 => intro u hu; simp at hu; rcases hu with rfl | rfl <;> rfl
            case c3 => unfold maxLen; omega
            case c4 => omega
            case c5 => have := (hq.trans q16).sz; simp; omega
            intro v' w8 hown8 hgrow _
            have q8 : Q wk w8 := Q.grown (((hq.trans q16).drewN _).alloc _) hgrow (fun g hg => (hown6.out.lt g hg).1)
            have HO8 := Lib.hid hown8
            clear hown8 hgrow
            go_wp2_with fail
            go_roundw
            case rel => exact ⟨k + 1, by omega, by go_num, HG2, by rw [HACC.out]; exact Lib.hid (by rw [ptCells_snoc]; simpa using HO8.out), q8⟩
            case measure => simp [intOf]; omega
          subst e1
          by_cases e2 : b1 = qb
          rotate_left
          · have de2 : (b1 == qb) = false := by simpa using e2
            have HACC := Lib.hid (show Prj.pth K L A S l (k + 1) = acc ++ [(a1, qb)] by rw [HPT.out]; exact Prj.push_other _ _ (by rw [HLAST.out]; intro hh; injection hh with hh; injection hh with x1 x2; exact e2 x2))
            clear e2
            go_quiet (fail)
            go_wp2_with (at_builtin; refine wpList_append_own _ rfl _ _ 33 rfl wk.heap.size 29 i0 (.agg #[.int .i64 0, .int .i64 0]) 2 16 Try.underlying33 HI.out hz0 hz1 hz2 rfl (by decide) _ _ _ rfl ((own_next hown6.out ((Q.refl _).drewN _)).alloc _) ⟨w6.heap.size, 0, none⟩ 1 1 [.int .i64 a1, .int .i64 qb] rfl rfl ?c1 ?c2 ?c3 ?c4 ?c5 ?_)
            case c1 => intro j u hu; cases j with
              | zero => simp at hu; subst hu; exact row_cell (i := 0) (heap_alloc_new (w6.drewN nq) _) rfl
              | succ j => cases j with
                | zero => simp at hu; subst hu; exact row_cell (i := 1) (heap_alloc_new (w6.drewN nq) _) rfl
                | succ j => simp at hu
            case c2 => intro u hu; simp at hu; rcases hu with rfl | rfl <;> rfl
            case c3 => unfold maxLen; omega
            case c4 => omega
            case c5 => have := (hq.trans q16).sz; simp; omega
            intro v' w8 hown8 hgrow _
            have q8 : Q wk w8 := Q.grown (((hq.trans q16).drewN _).alloc _) hgrow (fun g hg => (hown6.out.lt g hg).1)
            have HO8 := Lib.hid hown8
            clear hown8 hgrow
            go_wp2_with fail
            go_roundw
            case rel => exact ⟨k + 1, by omega, by go_num, HG2, by rw [HACC.out]; exact Lib.hid (by rw [ptCells_snoc]; simpa using HO8.out), q8⟩
            case measure => simp [intOf]; omega
          subst e2
          have HACC := Lib.hid (show Prj.pth K L A S l (k + 1) = acc by rw [HPT.out]; exact Prj.push_same _ _ HLAST.out)
          go_quiet (fail)
          go_wp2_with fail
          go_roundw
          case rel => exact ⟨k + 1, by omega, by go_num, HG2, by rw [HACC.out]; have := own_next hown6.out ((Q.refl _).drewN nq); rw [HM.out] at this ⊢; exact this, (hq.trans q16).drewN _⟩
          case measure => simp [intOf]; omega
    · have HKN := Lib.hid (show k = n by omega)
      have HALL := Lib.hid (show Prj.allGood K L A S l from fun p hp => by
        obtain ⟨j, hj, rfl⟩ := List.mem_iff_getElem.1 hp
        exact HG.out j hj (by have := HKN.out; have := HN.out; omega))
      have HOUT := Lib.hid (show Prj.pl K L A S l = Prj.pth K L A S l k ∧ Prj.pe K L A S l = 0 from ⟨by unfold Prj.pl; rw [if_pos HALL.out, HKN.out, HN.out], if_pos HALL.out⟩)
      go_wp2_with fail
      go_ret2
      exact ⟨_, by rw [HOUT.out.2]; rfl, by rw [HOUT.out.1]; exact Pts.own hown.out, HQ.out.trans hq⟩
end Go.Proofs.Ytmagppjmjjkbjaa
