
/- Contracts of gridref.Meridian and Parallel. -/
import Derived.Test.YtcaabaijkidmgaaDoorGrfK
import Derived.Test.YtcaabaijkidmgaaDoorPP
import Derived.Laws.MakeOwn
namespace Go.Proofs.YtcaabaijkidmgaaDoor
open Go.RowKit
set_option linter.unusedVariables false

theorem pr4 {w : World} {g : Nat} {a b c d : Value} {T : TypeId} (h : w.heap[g]? = some (.cells #[a, b, c, d] T (0, 0))) : w.cell? ⟨g, 0, none⟩ = some a ∧ w.cell? ⟨g, 1, none⟩ = some b ∧ w.cell? ⟨g, 2, none⟩ = some c ∧ w.cell? ⟨g, 3, none⟩ = some d :=
  ⟨by rw [cell_of_row w _ 0 _ _ _ h]; rfl, by rw [cell_of_row w _ 1 _ _ _ h]; rfl, by rw [cell_of_row w _ 2 _ _ _ h]; rfl, by rw [cell_of_row w _ 3 _ _ _ h]; rfl⟩
/-- A block of N points, of which the first k are those of the list. -/
def Fill (w : World) (G N : Nat) (l : List (Int × Int)) (k : Nat) : Prop := ∃ cs : Array Value, w.heap[G]? = some (.cells cs 23 (0, 0)) ∧ cs.size = N * 2 ∧ ∀ j, j < k * 2 → cs[j]? = (ptCells l)[j]?
theorem Fill.at_ {w : World} {G N : Nat} {l : List (Int × Int)} {k : Nat} (h : Fill w G N l k) (hk : k < N) : ∃ u v, w.cell? ⟨G, k * 2, none⟩ = some u ∧ w.cell? ⟨G, k * 2 + 1, none⟩ = some v ∧ w.frozen? ⟨G, k * 2, none⟩ = false ∧ w.frozen? ⟨G, k * 2 + 1, none⟩ = false := by
  obtain ⟨cs, h1, h2, h3⟩ := h
  refine ⟨cs[k * 2]'(by omega), cs[k * 2 + 1]'(by omega), ?_, ?_, frozen_of_row w _ _ _ _ h1, frozen_of_row w _ _ _ _ h1⟩
  · rw [cell_of_row w G (k * 2) _ _ _ h1]; exact Array.getElem?_eq_getElem _
  · rw [cell_of_row w G (k * 2 + 1) _ _ _ h1]; exact Array.getElem?_eq_getElem _
theorem Fill.step {w : World} {G N : Nat} {l : List (Int × Int)} {k : Nat} {x y : Int} (h : Fill w G N l k) (hk : k < N) (hl : l[k]? = some (x, y)) : Fill ((w.setCell ⟨G, k * 2, none⟩ (.int .i64 x)).setCell ⟨G, k * 2 + 1, none⟩ (.int .i64 y)) G N l (k + 1) := by
  obtain ⟨cs, h1, h2, h3⟩ := h
  obtain ⟨hkl, he⟩ := List.getElem?_eq_some_iff.1 hl
  have hp := ptCells_at l k hkl
  rw [he] at hp
  refine ⟨_, heap_setCell_same _ _ _ _ _ _ (heap_setCell_same _ _ _ _ _ _ h1), by simpa using h2, fun j hj => ?_⟩
  rw [Array.getElem?_setIfInBounds, Array.getElem?_setIfInBounds]
  by_cases e1 : k * 2 + 1 = j
  · subst e1
    rw [if_pos rfl, if_pos (by simp; omega)]
    exact hp.2.symm
  · rw [if_neg e1]
    by_cases e0 : k * 2 = j
    · subst e0
      rw [if_pos rfl, if_pos (by omega)]
      exact hp.1.symm
    · rw [if_neg e0]
      exact h3 j (by omega)
theorem Fill.done {w : World} {G N : Nat} {l : List (Int × Int)} (h : Fill w G N l N) (hl : l.length = N) : Pts w (.slice (some ⟨G, 0, none⟩) N N) l := by
  obtain ⟨cs, h1, h2, h3⟩ := h
  subst hl
  refine ⟨_, _, rfl, Nat.le_refl _, ptCells_len l, fun hn => ⟨_, rfl, (Array.getElem?_eq_some_iff.1 h1).1, fun j u hu => ?_⟩⟩
  have e : (⟨G, 0, none⟩ : Addr).add j = ⟨G, j, none⟩ := by
    unfold Addr.add
    split
    · rename_i h0; rw [h0]
    · simp
  have hj : j < l.length * 2 := by
    have := (List.getElem?_eq_some_iff.1 hu).1
    rw [ptCells_len] at this
    exact this
  rw [e, cell_of_row w G j _ _ _ h1, h3 j hj]
  exact hu
theorem Fill.fresh (w : World) (cs : Array Value) (N : Nat) (l : List (Int × Int)) (h : cs.size = N * 2) : Fill (w.alloc (.cells cs 23)) w.heap.size N l 0 := ⟨cs, heap_alloc_new w _, h, fun j hj => by omega⟩
namespace Grf
/-- The positions of a line of the graticule. -/
def mer (c : Int) (l : List Int) : List (Int × Int) := l.map fun t => (c, t)
def par (c : Int) (l : List Int) : List (Int × Int) := l.map fun t => (t, c)
theorem mer_at (c : Int) (l : List Int) (k : Nat) (t : Int) (h : (l.map (Value.int .i64))[k]? = some (.int .i64 t)) : (mer c l)[k]? = some (c, t) := by
  rw [List.getElem?_map] at h
  unfold mer
  rw [List.getElem?_map]
  cases e : l[k]? with
  | none => rw [e] at h; cases h
  | some z => rw [e] at h; simp at h; subst h; rfl
theorem par_at (c : Int) (l : List Int) (k : Nat) (t : Int) (h : (l.map (Value.int .i64))[k]? = some (.int .i64 t)) : (par c l)[k]? = some (t, c) := by
  rw [List.getElem?_map] at h
  unfold par
  rw [List.getElem?_map]
  cases e : l[k]? with
  | none => rw [e] at h; cases h
  | some z => rw [e] at h; simp at h; subst h; rfl
end Grf
theorem int_at {l : List Int} {k : Nat} {u : Value} (h : (l.map (Value.int .i64))[k]? = some u) : ∃ t, u = .int .i64 t := by
  rw [List.getElem?_map] at h
  cases e : l[k]? with
  | none => rw [e] at h; cases h
  | some z => rw [e] at h; simp at h; exact ⟨z, h.symm⟩
theorem mer_err (K L A S c a b st er : Int) (her : (er != 0) = true) (w : World) (hs : ∀ w, Calls Tryd.prog 41 #[.agg #[.int .i64 K, .int .i64 L, .int .i64 A, .int .i64 S], .int .i64 a, .int .i64 b, .int .i64 st] w (StepPost [] er w)) :
    Calls Tryd.prog 20 #[.agg #[.int .i64 K, .int .i64 L, .int .i64 A, .int .i64 S], .int .i64 c, .int .i64 a, .int .i64 b, .int .i64 st] w (PathPost [] er w) := by
  have HS := Lib.hid hs
  clear hs
  go_enter Tryd.func20, Tryd.ntmps20
  go_wp2_with fail
  refine (HS.out _).mono ?_
  rintro e w1 ⟨v, rfl, hi, q1⟩
  go_wp2_with fail
  go_ret2
  exact ⟨_, rfl, Pts.nil _, q1.behind _⟩
set_option maxRecDepth 100000 in
set_option maxHeartbeats 4000000 in
theorem mer_in (K L A S c a b st : Int) (l : List Int) (w : World) (h : Prj.Ok K L A S) (hl0 : l.length ≤ 4096) (hs : ∀ w, Calls Tryd.prog 41 #[.agg #[.int .i64 K, .int .i64 L, .int .i64 A, .int .i64 S], .int .i64 a, .int .i64 b, .int .i64 st] w (StepPost l 0 w)) :
    Calls Tryd.prog 20 #[.agg #[.int .i64 K, .int .i64 L, .int .i64 A, .int .i64 S], .int .i64 c, .int .i64 a, .int .i64 b, .int .i64 st] w (PathPost (Prj.pl K L A S (Grf.mer c l)) (Prj.pe K L A S (Grf.mer c l)) w) := by
  have HS := Lib.hid hs
  have HP := Lib.hid (fun v W (hv : Pts W v (Grf.mer c l)) => Path_in K L A S v (Grf.mer c l) W h hv (by unfold Grf.mer; simpa using hl0))
  have HLN := Lib.hid (show (Grf.mer c l).length = l.length by unfold Grf.mer; simp)
  have HAT := Lib.hid (fun k t h => Grf.mer_at c l k t h)
  obtain ⟨i0, hi, hz0, hz1, hz2⟩ := info_parts infoPoint
  obtain ⟨N, hN⟩ : ∃ N, l.length = N := ⟨_, rfl⟩
  rw [hN] at hl0 HLN
  have HN := Lib.hid hN
  have hmk0 := fun W : World => run_make (P := Tryd.prog) W 48 23 i0 _ Tryd.underlying48 hi hz0 .i64 .i64 (N : Int) (N : Int) (by omega) (by omega) (by rw [hz2]; omega) (by omega)
  simp only [Int.toNat_natCast, hz1] at hmk0
  obtain ⟨Z, hZ⟩ : ∃ Z, madeCells (Value.agg #[.int .i64 0, .int .i64 0]).cells (N * 2) = Z := ⟨_, rfl⟩
  have HZ := Lib.hid (show Z.size = N * 2 by rw [← hZ]; exact size_madeCells _ _)
  rw [hZ] at hmk0
  have hmk := hmk0
  clear hs h hN hmk0 hZ hi hz0 hz1 hz2
  go_enter Tryd.func20, Tryd.ntmps20
  go_wp2_with fail
  refine (HS.out _).mono ?_
  rintro e w1 ⟨v, rfl, hi, q1⟩
  obtain ⟨A', c', rfl, hc, hrd⟩ := hi
  have HR := Lib.hid hrd
  rw [HN.out] at hc HR ⊢
  clear hrd
  go_wp2_with fail
  have HB := Lib.hid (b_next q1 (heap_alloc_new w (.cells #[.int .i64 K, .int .i64 L, .int .i64 A, .int .i64 S] 45)))
  obtain ⟨G, hG⟩ : ∃ G, w1.heap.size = G := ⟨_, rfl⟩
  have HG := Lib.hid hG
  have HF := Lib.hid (Fill.fresh w1 Z N (Grf.mer c l) HZ.out)
  have HQ := Lib.hid ((Q.refl w1).alloc (.cells Z 23))
  rw [hG] at HF ⊢
  clear hG hmk
  generalize w1.alloc (.cells Z 23) = w2 at *
  go_loopw [32] (fun i wr => ∃ k : Nat, k ≤ N ∧ i = .int .i64 k ∧ Hid (Fill wr G N (Grf.mer c l) k) ∧ Hid (Q w1 wr)) (fun i _ => N - (intOf i).toNat)
  case atStart => exact ⟨0, by omega, rfl, HF.out, HQ.out⟩
  case round =>
    obtain ⟨k, hk, rfl, hfill, hq⟩ := hrel
    by_cases hlt : k < N
    · obtain ⟨ad, u, rfl, had, hx, hcell⟩ := (HR.out.below hq.out).at_ hlt
      obtain ⟨t, rfl⟩ := int_at hx
      obtain ⟨u0, v0, f0, f1, f2, f3⟩ := hfill.out.at_ hlt
      have HFS := Lib.hid (hfill.out.step hlt (HAT.out k t hx))
      clear hx
      go_wp2_with fail
      go_roundw
      case rel => exact ⟨k + 1, by omega, by go_num, HFS.out, (hq.out.setCell (by have := HG.out; simp; omega) _).setCell (by have := HG.out; simp; omega) _⟩
      case measure => simp [intOf]; omega
    · have HK := Lib.hid (show k = N by omega)
      obtain ⟨p0, p1, p2, p3⟩ := pr4 (b_next hq.out HB.out)
      have HPT := Lib.hid (show Pts wr (.slice (some ⟨G, 0, none⟩) N N) (Grf.mer c l) by have := hfill.out; rw [HK.out] at this; exact this.done HLN.out)
      go_wp2_with fail
      refine (HP.out _ _ HPT.out).mono ?_
      rintro e w5 ⟨v5, rfl, hp5, q5⟩
      go_wp2_with fail
      go_ret2
      exact ⟨v5, rfl, hp5, ((q1.behind _).trans hq.out).trans q5⟩
theorem par_err (K L A S c a b st er : Int) (her : (er != 0) = true) (w : World) (hs : ∀ w, Calls Tryd.prog 41 #[.agg #[.int .i64 K, .int .i64 L, .int .i64 A, .int .i64 S], .int .i64 a, .int .i64 b, .int .i64 st] w (StepPost [] er w)) :
    Calls Tryd.prog 23 #[.agg #[.int .i64 K, .int .i64 L, .int .i64 A, .int .i64 S], .int .i64 c, .int .i64 a, .int .i64 b, .int .i64 st] w (PathPost [] er w) := by
  have HS := Lib.hid hs
  clear hs
  go_enter Tryd.func23, Tryd.ntmps23
  go_wp2_with fail
  refine (HS.out _).mono ?_
  rintro e w1 ⟨v, rfl, hi, q1⟩
  go_wp2_with fail
  go_ret2
  exact ⟨_, rfl, Pts.nil _, q1.behind _⟩
set_option maxRecDepth 100000 in
set_option maxHeartbeats 4000000 in
theorem par_in (K L A S c a b st : Int) (l : List Int) (w : World) (h : Prj.Ok K L A S) (hl0 : l.length ≤ 4096) (hs : ∀ w, Calls Tryd.prog 41 #[.agg #[.int .i64 K, .int .i64 L, .int .i64 A, .int .i64 S], .int .i64 a, .int .i64 b, .int .i64 st] w (StepPost l 0 w)) :
    Calls Tryd.prog 23 #[.agg #[.int .i64 K, .int .i64 L, .int .i64 A, .int .i64 S], .int .i64 c, .int .i64 a, .int .i64 b, .int .i64 st] w (PathPost (Prj.pl K L A S (Grf.par c l)) (Prj.pe K L A S (Grf.par c l)) w) := by
  have HS := Lib.hid hs
  have HP := Lib.hid (fun v W (hv : Pts W v (Grf.par c l)) => Path_in K L A S v (Grf.par c l) W h hv (by unfold Grf.par; simpa using hl0))
  have HLN := Lib.hid (show (Grf.par c l).length = l.length by unfold Grf.par; simp)
  have HAT := Lib.hid (fun k t h => Grf.par_at c l k t h)
  obtain ⟨i0, hi, hz0, hz1, hz2⟩ := info_parts infoPoint
  obtain ⟨N, hN⟩ : ∃ N, l.length = N := ⟨_, rfl⟩
  rw [hN] at hl0 HLN
  have HN := Lib.hid hN
  have hmk0 := fun W : World => run_make (P := Tryd.prog) W 48 23 i0 _ Tryd.underlying48 hi hz0 .i64 .i64 (N : Int) (N : Int) (by omega) (by omega) (by rw [hz2]; omega) (by omega)
  simp only [Int.toNat_natCast, hz1] at hmk0
  obtain ⟨Z, hZ⟩ : ∃ Z, madeCells (Value.agg #[.int .i64 0, .int .i64 0]).cells (N * 2) = Z := ⟨_, rfl⟩
  have HZ := Lib.hid (show Z.size = N * 2 by rw [← hZ]; exact size_madeCells _ _)
  rw [hZ] at hmk0
  have hmk := hmk0
  clear hs h hN hmk0 hZ hi hz0 hz1 hz2
  go_enter Tryd.func23, Tryd.ntmps23
  go_wp2_with fail
  refine (HS.out _).mono ?_
  rintro e w1 ⟨v, rfl, hi, q1⟩
  obtain ⟨A', c', rfl, hc, hrd⟩ := hi
  have HR := Lib.hid hrd
  rw [HN.out] at hc HR ⊢
  clear hrd
  go_wp2_with fail
  have HB := Lib.hid (b_next q1 (heap_alloc_new w (.cells #[.int .i64 K, .int .i64 L, .int .i64 A, .int .i64 S] 45)))
  obtain ⟨G, hG⟩ : ∃ G, w1.heap.size = G := ⟨_, rfl⟩
  have HG := Lib.hid hG
  have HF := Lib.hid (Fill.fresh w1 Z N (Grf.par c l) HZ.out)
  have HQ := Lib.hid ((Q.refl w1).alloc (.cells Z 23))
  rw [hG] at HF ⊢
  clear hG hmk
  generalize w1.alloc (.cells Z 23) = w2 at *
  go_loopw [32] (fun i wr => ∃ k : Nat, k ≤ N ∧ i = .int .i64 k ∧ Hid (Fill wr G N (Grf.par c l) k) ∧ Hid (Q w1 wr)) (fun i _ => N - (intOf i).toNat)
  case atStart => exact ⟨0, by omega, rfl, HF.out, HQ.out⟩
  case round =>
    obtain ⟨k, hk, rfl, hfill, hq⟩ := hrel
    by_cases hlt : k < N
    · obtain ⟨ad, u, rfl, had, hx, hcell⟩ := (HR.out.below hq.out).at_ hlt
      obtain ⟨t, rfl⟩ := int_at hx
      obtain ⟨u0, v0, f0, f1, f2, f3⟩ := hfill.out.at_ hlt
      have HFS := Lib.hid (hfill.out.step hlt (HAT.out k t hx))
      clear hx
      go_wp2_with fail
      go_roundw
      case rel => exact ⟨k + 1, by omega, by go_num, HFS.out, (hq.out.setCell (by have := HG.out; simp; omega) _).setCell (by have := HG.out; simp; omega) _⟩
      case measure => simp [intOf]; omega
    · have HK := Lib.hid (show k = N by omega)
      obtain ⟨p0, p1, p2, p3⟩ := pr4 (b_next hq.out HB.out)
      have HPT := Lib.hid (show Pts wr (.slice (some ⟨G, 0, none⟩) N N) (Grf.par c l) by have := hfill.out; rw [HK.out] at this; exact this.done HLN.out)
      go_wp2_with fail
      refine (HP.out _ _ HPT.out).mono ?_
      rintro e w5 ⟨v5, rfl, hp5, q5⟩
      go_wp2_with fail
      go_ret2
      exact ⟨v5, rfl, hp5, ((q1.behind _).trans hq.out).trans q5⟩
end Go.Proofs.YtcaabaijkidmgaaDoor
