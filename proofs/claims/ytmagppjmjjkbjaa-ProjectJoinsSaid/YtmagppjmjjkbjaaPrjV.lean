
/- Contracts of the reference's east, stretched and north (package mapsheetsref13). -/
import Derived.Test.YtmagppjmjjkbjaaPrjA
import Derived.Deep.RegionHeld3
namespace Go.Proofs.Ytmagppjmjjkbjaa
open Go.RowKit
set_option linter.unusedVariables false

theorem pr_next {K L A S : Int} {B : Nat} {wk u v : World} (h : (u.cell? ⟨B, 0, none⟩ = some (.int .i64 K) ∧ u.cell? ⟨B, 1, none⟩ = some (.int .i64 L) ∧ u.cell? ⟨B, 2, none⟩ = some (.int .i64 A) ∧ u.cell? ⟨B, 3, none⟩ = some (.int .i64 S) ∧ Q wk u)) (q : Q u v) : (v.cell? ⟨B, 0, none⟩ = some (.int .i64 K) ∧ v.cell? ⟨B, 1, none⟩ = some (.int .i64 L) ∧ v.cell? ⟨B, 2, none⟩ = some (.int .i64 A) ∧ v.cell? ⟨B, 3, none⟩ = some (.int .i64 S) ∧ Q wk v) := by
  obtain ⟨h0, h1, h2, h3, h9⟩ := h
  exact ⟨(q.cell (block_lt_of_cell h0)).trans h0, (q.cell (block_lt_of_cell h1)).trans h1, (q.cell (block_lt_of_cell h2)).trans h2, (q.cell (block_lt_of_cell h3)).trans h3, h9.trans q⟩
def PrS (K L A S : Int) (B : Nat) (wk v : World) : Prop := (v.cell? ⟨B, 0, none⟩ = some (.int .i64 K) ∧ v.cell? ⟨B, 1, none⟩ = some (.int .i64 L) ∧ v.cell? ⟨B, 2, none⟩ = some (.int .i64 A) ∧ v.cell? ⟨B, 3, none⟩ = some (.int .i64 S) ∧ Q wk v)
theorem pr_q {K L A S : Int} {B : Nat} {wk v : World} (h : (v.cell? ⟨B, 0, none⟩ = some (.int .i64 K) ∧ v.cell? ⟨B, 1, none⟩ = some (.int .i64 L) ∧ v.cell? ⟨B, 2, none⟩ = some (.int .i64 A) ∧ v.cell? ⟨B, 3, none⟩ = some (.int .i64 S) ∧ Q wk v)) : Q wk v := h.2.2.2.2
theorem prs_fresh (K L A S : Int) (w : World) : PrS K L A S w.heap.size (w.alloc (.cells #[.int .i64 K, .int .i64 L, .int .i64 A, .int .i64 S] 23)) (w.alloc (.cells #[.int .i64 K, .int .i64 L, .int .i64 A, .int .i64 S] 23)) :=
  ⟨by simp [go_sem], by simp [go_sem], by simp [go_sem], by simp [go_sem], Q.refl _⟩

theorem rstretched_any (y : Int) (w : World) (hx0 : -306000 ≤ y) (hx1 : y ≤ 306000) :
    Calls Try.prog 51 #[.int .i64 y] w fun e w' => e = .returned (.int .i64 (Prj.art y)) ∧ Q w w' := by
  have HS := Lib.hid (fun W => rsin_any y (by omega) (by omega) W)
  have hb := Prj.sin_lat y hx0 hx1
  have HA := Lib.hid (fun W => rartanh_any (Ser.sin y) hb.1 hb.2 W)
  unfold Prj.art
  generalize Ser.artanh (Ser.sin y) = r at *
  generalize Ser.sin y = c at *
  go_enter Try.func51, Try.ntmps51
  go_wp2_with fail
  refine (HS.out _).mono ?_
  rintro e w1 ⟨rfl, q1⟩
  go_wp2_with fail
  refine (HA.out _).mono ?_
  rintro e w2 ⟨rfl, q2⟩
  go_wp2_with fail
  go_ret
  exact ⟨rfl, q1.trans q2⟩

set_option maxHeartbeats 4000000 in
theorem reast_any (K L A S x y : Int) (w : World) (hs0 : 1 ≤ S) (hs1 : S ≤ 524288) (hx0 : -648000 ≤ x) (hx1 : x ≤ 648000) (hl0 : -648000 ≤ L) (hl1 : L ≤ 648000) (hy0 : -9223372036854775808 ≤ y) (hy1 : y ≤ 9223372036854775807) :
    Calls Try.prog 24 #[.agg #[.int .i64 K, .int .i64 L, .int .i64 A, .int .i64 S], .int .i64 x, .int .i64 y] w fun e w' => e = .returned (.int .i64 (Prj.east K L S x y)) ∧ Q w w' := by
  have HR := Lib.hid (fun W => rrad_any (x - L) (by omega) (by omega) W)
  have eb := Prj.eu_bd K L x y (by omega) (by omega)
  have HSC := Lib.hid (fun W => rscaled_any K L A S _ W hs0 hs1 (show -128000000000 ≤ Prj.eu K L x y by omega) (by omega))
  unfold Prj.east
  generalize Prj.scl S (Prj.eu K L x y) = out at *
  by_cases c : K = 2
  · have HC := Lib.hid (fun W => rcos_any y hy0 hy1 W)
    obtain ⟨b0, b1⟩ := Prj.sine_bd (x - L) y (by omega) (by omega)
    have HN := Lib.hid (fun W => rround_pos (Ser.rad (x - L) * Ser.cos y) 1073741824 (by omega) (by omega) (by omega) (by omega) W)
    rw [rnd_same] at HN
    unfold Prj.eu at HSC eb
    rw [if_pos c] at HSC eb
    generalize Ser.rad (x - L) = r at *
    generalize Ser.cos y = cs at *
    generalize Ser.rnd (r * cs) 1073741824 = n at *
    obtain ⟨p, hp⟩ : ∃ p, r * cs = p := ⟨_, rfl⟩
    rw [hp] at HN b0 b1
    have e1 : wrap64 (r * cs) = p := by rw [hp]; exact IntWalk.wrap64_in _ ⟨by omega, by omega⟩
    subst c
    clear hp
    go_enter Try.func24, Try.ntmps24
    go_wp2_with fail
    refine (HR.out _).mono ?_
    rintro e w1 ⟨rfl, rfl⟩
    go_wp2_with fail
    refine (HC.out _).mono ?_
    rintro e w2 ⟨rfl, q2⟩
    go_wp2_with fail
    refine (HN.out _).mono ?_
    rintro e w3 ⟨rfl, q3⟩
    obtain ⟨k0, k1, k2, k3, k4⟩ := pr_next (prs_fresh 2 L A S w) (q2.trans q3)
    clear k4
    go_wp2_with fail
    refine (HSC.out _).mono ?_
    rintro e w4 ⟨rfl, q4⟩
    go_wp2_with fail
    go_ret
    exact ⟨rfl, ((q2.trans q3).trans q4).behind _⟩
  · have d : (K == 2) = false := by simpa using c
    unfold Prj.eu at HSC
    rw [if_neg c] at HSC
    generalize Ser.rad (x - L) = r at *
    clear eb c
    go_enter Try.func24, Try.ntmps24
    go_wp2_with fail
    refine (HR.out _).mono ?_
    rintro e w1 ⟨rfl, rfl⟩
    go_wp2_with fail
    refine (HSC.out _).mono ?_
    rintro e w4 ⟨rfl, q4⟩
    go_wp2_with fail
    go_ret
    exact ⟨rfl, q4.behind _⟩

set_option maxHeartbeats 4000000 in
theorem rnorth_any (K L A S y : Int) (w : World) (hs0 : 1 ≤ S) (hs1 : S ≤ 524288) (hx0 : -306000 ≤ y) (hx1 : y ≤ 306000) (hl0 : -306000 ≤ A) (hl1 : A ≤ 306000) :
    Calls Try.prog 25 #[.agg #[.int .i64 K, .int .i64 L, .int .i64 A, .int .i64 S], .int .i64 y] w fun e w' => e = .returned (.int .i64 (Prj.north K A S y)) ∧ Q w w' := by
  have nb := Prj.nv_bd K A y hl0 hl1 hx0 hx1
  have HSC := Lib.hid (fun W => rscaled_any K L A S _ W hs0 hs1 nb.1 nb.2)
  unfold Prj.north
  generalize Prj.scl S (Prj.nv K A y) = out at *
  have HK := Lib.hid (prs_fresh K L A S w)
  by_cases c3 : K = 3
  · have HY := Lib.hid (fun W => rstretched_any y W hx0 hx1)
    have HA := Lib.hid (fun W => rstretched_any A W hl0 hl1)
    have by' := Prj.art_bd y hx0 hx1
    have ba := Prj.art_bd A hl0 hl1
    unfold Prj.nv at HSC
    rw [if_pos c3] at HSC
    generalize Prj.art y = ay at *
    generalize Prj.art A = aa at *
    have e1 : IntKind.i64.wrap (ay - aa) = ay - aa := IntWalk.i64_in _ (by omega)
    subst c3
    obtain ⟨k0, k1, k2, k3, _⟩ := HK.out
    go_enter Try.func25, Try.ntmps25
    go_wp2_with fail
    obtain ⟨wk, hwk⟩ : ∃ wk, w.alloc (.cells #[.int .i64 3, .int .i64 L, .int .i64 A, .int .i64 S] 23) = wk := ⟨_, rfl⟩
    have HQ := Lib.hid (show Q w wk by rw [← hwk]; exact (Q.refl _).alloc _)
    rw [hwk] at HK ⊢
    clear hwk k0 k1 k2 k3 nb by' ba
    go_region_held3 (fun v => (v.cell? ⟨w.heap.size, 0, none⟩ = some (.int .i64 3) ∧ v.cell? ⟨w.heap.size, 1, none⟩ = some (.int .i64 L) ∧ v.cell? ⟨w.heap.size, 2, none⟩ = some (.int .i64 A) ∧ v.cell? ⟨w.heap.size, 3, none⟩ = some (.int .i64 S) ∧ Q wk v)) ((first | (exact pr_next HK.out ((Q.refl _).drew)) | (refine pr_next ?_ (by assumption); assumption)))
      (first
        | (go_at_call 51; (first | (with_reducible refine (HY.out _).mono ?_) | (with_reducible refine (HA.out _).mono ?_)); (rintro e w' ⟨rfl, q⟩))
        | (go_at_call 50; refine (HSC.out _).mono ?_; (rintro e w' ⟨rfl, q⟩)))
    all_goals
      go_wp2_with fail
      go_ret
      exact ⟨rfl, HQ.out.trans (pr_q (by assumption))⟩
  have d3 : (K == 3) = false := by simpa using c3
  by_cases c4 : K = 4
  · have HY := Lib.hid (fun W => rsin_any y (by omega) (by omega) W)
    have HA := Lib.hid (fun W => rsin_any A (by omega) (by omega) W)
    have by' := Ser.sin_in y
    have ba := Ser.sin_in A
    unfold Prj.nv at HSC
    rw [if_neg c3, if_pos c4] at HSC
    generalize Ser.sin y = ay at *
    generalize Ser.sin A = aa at *
    have e1 : IntKind.i64.wrap (ay - aa) = ay - aa := IntWalk.i64_in _ (by omega)
    subst c4
    obtain ⟨k0, k1, k2, k3, _⟩ := HK.out
    go_enter Try.func25, Try.ntmps25
    go_wp2_with fail
    obtain ⟨wk, hwk⟩ : ∃ wk, w.alloc (.cells #[.int .i64 4, .int .i64 L, .int .i64 A, .int .i64 S] 23) = wk := ⟨_, rfl⟩
    have HQ := Lib.hid (show Q w wk by rw [← hwk]; exact (Q.refl _).alloc _)
    rw [hwk] at HK ⊢
    clear hwk k0 k1 k2 k3 nb by' ba c3 d3
    go_region_held3 (fun v => (v.cell? ⟨w.heap.size, 0, none⟩ = some (.int .i64 4) ∧ v.cell? ⟨w.heap.size, 1, none⟩ = some (.int .i64 L) ∧ v.cell? ⟨w.heap.size, 2, none⟩ = some (.int .i64 A) ∧ v.cell? ⟨w.heap.size, 3, none⟩ = some (.int .i64 S) ∧ Q wk v)) ((first | (exact pr_next HK.out ((Q.refl _).drew)) | (refine pr_next ?_ (by assumption); assumption)))
      (first
        | (go_at_call 52; (first | (with_reducible refine (HY.out _).mono ?_) | (with_reducible refine (HA.out _).mono ?_)); (rintro e w' ⟨rfl, q⟩))
        | (go_at_call 50; refine (HSC.out _).mono ?_; (rintro e w' ⟨rfl, q⟩)))
    all_goals
      go_wp2_with fail
      go_ret
      exact ⟨rfl, HQ.out.trans (pr_q (by assumption))⟩
  · have d4 : (K == 4) = false := by simpa using c4
    have HY := Lib.hid (fun W => rrad_any (y - A) (by omega) (by omega) W)
    have e1 : IntKind.i64.wrap (y - A) = y - A := IntWalk.i64_in _ (by omega)
    unfold Prj.nv at HSC
    rw [if_neg c3, if_neg c4] at HSC
    generalize Ser.rad (y - A) = r at *
    obtain ⟨k0, k1, k2, k3, _⟩ := HK.out
    go_enter Try.func25, Try.ntmps25
    go_wp2_with fail
    obtain ⟨wk, hwk⟩ : ∃ wk, w.alloc (.cells #[.int .i64 K, .int .i64 L, .int .i64 A, .int .i64 S] 23) = wk := ⟨_, rfl⟩
    have HQ := Lib.hid (show Q w wk by rw [← hwk]; exact (Q.refl _).alloc _)
    rw [hwk] at HK ⊢
    clear hwk k0 k1 k2 k3 nb c3 c4
    go_region_held3 (fun v => (v.cell? ⟨w.heap.size, 0, none⟩ = some (.int .i64 K) ∧ v.cell? ⟨w.heap.size, 1, none⟩ = some (.int .i64 L) ∧ v.cell? ⟨w.heap.size, 2, none⟩ = some (.int .i64 A) ∧ v.cell? ⟨w.heap.size, 3, none⟩ = some (.int .i64 S) ∧ Q wk v)) ((first | (exact pr_next HK.out ((Q.refl _).drew)) | (refine pr_next ?_ (by assumption); assumption)))
      (first
        | (go_at_call 47; refine (HY.out _).mono ?_; (rintro e w' ⟨rfl, rfl⟩))
        | (go_at_call 50; refine (HSC.out _).mono ?_; (rintro e w' ⟨rfl, q⟩)))
    all_goals
      go_wp2_with fail
      go_ret
      exact ⟨rfl, HQ.out.trans (pr_q (by assumption))⟩
end Go.Proofs.Ytmagppjmjjkbjaa
