
/- Contracts of the reference's latitude and longitude. -/
import Derived.Test.YtmagppjmjjkbjaaPrjN
namespace Go.Proofs.Ytmagppjmjjkbjaa
open Go.RowKit
set_option linter.unusedVariables false

set_option maxRecDepth 100000 in
set_option maxHeartbeats 8000000 in
theorem rlatitude (K L A S : Int) (F : Int → Int) (t : Int) (w : World) (ht0 : -1048576 ≤ t) (ht1 : t ≤ 1048576) (hF : ∀ m, -306000 ≤ m → m ≤ 306000 → -62500000 ≤ F m ∧ F m ≤ 62500000)
    (HF0 : Hid (∀ m, -306000 ≤ m → m ≤ 306000 → ∀ w, Calls Try.prog 25 #[.agg #[.int .i64 K, .int .i64 L, .int .i64 A, .int .i64 S], .int .i64 m] w fun e w' => e = .returned (.int .i64 (F m)) ∧ Q w w')) :
    Calls Try.prog 33 #[.agg #[.int .i64 K, .int .i64 L, .int .i64 A, .int .i64 S], .int .i64 t] w fun e w' => e = .returned (.int .i64 (Prj.near F t (-306000) 306000)) ∧ Q w w' := by
  have HFL := Lib.hid (fun (a : Int) (W : World) (h0 : -4000000 ≤ a) (h1 : a ≤ 4000000) => rfloor_pos a 2 (by omega) (by omega) (by omega) (by omega) W)
  have HFB := Lib.hid hF
  have HD := Lib.hid (fun (a b : Int) (W : World) (h0 : -100000000 ≤ a - b) (h1 : a - b ≤ 100000000) => far_any a b W (by omega) (by omega))
  obtain ⟨R, hR⟩ : ∃ R, Prj.bs F t 21 (-306000) 306000 = R := ⟨_, rfl⟩
  unfold Prj.near
  rw [hR]
  have HR := Lib.hid hR
  have HRB := Lib.hid (show -306000 ≤ R ∧ R ≤ 306000 by rw [← hR]; exact Prj.bs_bd F t 21 _ _ (by omega))
  clear hR hF
  obtain ⟨out, hout⟩ : ∃ out, Prj.pick F t (-306000) R = out := ⟨_, rfl⟩
  rw [hout]
  have HO := Lib.hid hout
  clear hout
  go_enter Try.func33, Try.ntmps33
  go_wp2_with fail
  obtain ⟨wk, hwk⟩ : ∃ wk, w.alloc (.cells #[.int .i64 K, .int .i64 L, .int .i64 A, .int .i64 S] 23) = wk := ⟨_, rfl⟩
  have HQ := Lib.hid (show Q w wk by rw [← hwk]; exact (Q.refl _).alloc _)
  have HKK := Lib.hid (prs_fresh K L A S w)
  rw [hwk] at HKK ⊢
  have HF := Lib.hid (fun m h0 h1 w' (q : Q wk w') => HF0.out m h0 h1 w')
  clear hwk
  go_loopw [5, 6] (fun a b wr => ∃ (f : Nat) (lo hi : Int), -306000 ≤ lo ∧ lo ≤ hi ∧ hi ≤ 306000 ∧ Hid (hi - lo < 2 ^ f ∧ Prj.bs F t f lo hi = R) ∧ a = .int .i64 lo ∧ b = .int .i64 hi ∧ Q wk wr) (fun a b _ => (intOf b - intOf a).toNat)
  case atStart => exact ⟨21, -306000, 306000, by omega, by omega, by omega, ⟨by decide, HR.out⟩, rfl, rfl, Q.refl _⟩
  case round =>
    obtain ⟨f, lo, hi, h0, h1, h2, HB, rfl, rfl, hq⟩ := hrel
    by_cases hlt : lo < hi
    · obtain ⟨g, rfl⟩ : ∃ g, f = g + 1 := by
        cases f with
        | zero => have := HB.out.1; omega
        | succ g => exact ⟨g, rfl⟩
      have hbs := HB.out.2
      have hbl := HB.out.1
      rw [Prj.bs, if_pos hlt] at hbs
      rw [Int.pow_succ] at hbl
      have HFL2 := Lib.hid (fun W => HFL.out (lo + hi) W (by omega) (by omega))
      obtain ⟨m, hm⟩ : ∃ m, (lo + hi) / 2 = m := ⟨_, rfl⟩
      have hm0 : lo ≤ m := by omega
      have hm1 : m < hi := by omega
      have HM := Lib.hid (show (m - lo < 2 ^ g ∧ hi - (m + 1) < 2 ^ g) by constructor <;> omega)
      rw [hm] at hbs HFL2
      clear hm
      have HC := Lib.hid (fun W q => HF.out m (by omega) (by omega) W q)
      generalize F m = s at *
      have HS := Lib.hid hbs
      clear hbs hbl HB
      by_cases c : s < t
      · have HN := Lib.hid (show (hi - (m + 1) < 2 ^ g ∧ Prj.bs F t g (m + 1) hi = R) from ⟨HM.out.2, by have := HS.out; rwa [if_pos c] at this⟩)
        go_wp2_with fail
        refine (HFL2.out _).mono ?_
        rintro e w2 ⟨rfl, q2⟩
        obtain ⟨k0, k1, k2, k3, k4⟩ := pr_next HKK.out (hq.trans q2)
        clear k4
        go_wp2_with fail
        refine (HC.out _ (hq.trans q2)).mono ?_
        rintro e w3 ⟨rfl, q3⟩
        go_wp2_with fail
        go_roundw
        case rel => exact ⟨g, m + 1, hi, by omega, by omega, h2, HN, rfl, rfl, hq.trans (q2.trans q3)⟩
        case measure => simp [intOf]; omega
      · have HN := Lib.hid (show (m - lo < 2 ^ g ∧ Prj.bs F t g lo m = R) from ⟨HM.out.1, by have := HS.out; rwa [if_neg c] at this⟩)
        go_wp2_with fail
        refine (HFL2.out _).mono ?_
        rintro e w2 ⟨rfl, q2⟩
        obtain ⟨k0, k1, k2, k3, k4⟩ := pr_next HKK.out (hq.trans q2)
        clear k4
        go_wp2_with fail
        refine (HC.out _ (hq.trans q2)).mono ?_
        rintro e w3 ⟨rfl, q3⟩
        go_wp2_with fail
        go_roundw
        case rel => exact ⟨g, lo, m, h0, by omega, by omega, HN, rfl, rfl, hq.trans (q2.trans q3)⟩
        case measure => simp [intOf]; omega
    · obtain rfl : hi = lo := by omega
      obtain rfl : R = hi := by rw [← HB.out.2]; exact Prj.bs_same F t f hi
      clear HB hlt
      unfold Prj.pick at HO
      have HKR : Hid (PrS K L A S w.heap.size wk wr) := pr_next HKK.out hq
      by_cases c : -306000 < R
      · have b1 := HFB.out (R - 1) (by omega) (by omega)
        have b2 := HFB.out R (by omega) (by omega)
        have HC1 := Lib.hid (fun W q => HF.out (R - 1) (by omega) (by omega) W q)
        have HC2 := Lib.hid (fun W q => HF.out R (by omega) (by omega) W q)
        have HD1 := Lib.hid (fun W => HD.out (F (R - 1)) t W (by omega) (by omega))
        have HD2 := Lib.hid (fun W => HD.out (F R) t W (by omega) (by omega))
        have e1 : IntKind.i64.wrap (R - 1) = R - 1 := IntWalk.i64_in _ (by omega)
        have dg : decide (-306000 < R) = true := by simpa using c
        generalize F (R - 1) = s1 at *
        generalize F R = s2 at *
        generalize Prj.far s1 t = d1 at *
        generalize Prj.far s2 t = d2 at *
        by_cases c2 : d1 < d2
        · obtain rfl : R - 1 = out := by have := HO.out; rwa [if_pos ⟨c, c2⟩] at this
          have dd : decide (d1 < d2) = true := by simpa using c2
          clear c2 HO
          go_wp2_with fail
          go_region_held3 (fun v => (v.cell? ⟨w.heap.size, 0, none⟩ = some (.int .i64 K) ∧ v.cell? ⟨w.heap.size, 1, none⟩ = some (.int .i64 L) ∧ v.cell? ⟨w.heap.size, 2, none⟩ = some (.int .i64 A) ∧ v.cell? ⟨w.heap.size, 3, none⟩ = some (.int .i64 S) ∧ Q wk v)) ((first | assumption | (exact pr_next HKR.out ((Q.refl _).drew)) | (refine pr_next ?_ (by assumption); assumption)))
            (first
              | (go_at_call 25; (first | (with_reducible refine (HC1.out _ ?_).mono ?_) | (with_reducible refine (HC2.out _ ?_).mono ?_)); (exact pr_q (by assumption)); (rintro e w' ⟨rfl, q⟩))
              | (go_at_call 35; (first | (with_reducible refine (HD1.out _).mono ?_) | (with_reducible refine (HD2.out _).mono ?_)); (rintro e w' ⟨rfl, rfl⟩)))
          all_goals
            go_wp2_with fail
            go_ret
            exact ⟨rfl, HQ.out.trans (pr_q (by assumption))⟩
        · obtain rfl : R = out := by have := HO.out; rwa [if_neg (fun h => c2 h.2)] at this
          have dd : decide (d1 < d2) = false := by simpa using c2
          clear c2 HO
          go_wp2_with fail
          go_region_held3 (fun v => (v.cell? ⟨w.heap.size, 0, none⟩ = some (.int .i64 K) ∧ v.cell? ⟨w.heap.size, 1, none⟩ = some (.int .i64 L) ∧ v.cell? ⟨w.heap.size, 2, none⟩ = some (.int .i64 A) ∧ v.cell? ⟨w.heap.size, 3, none⟩ = some (.int .i64 S) ∧ Q wk v)) ((first | assumption | (exact pr_next HKR.out ((Q.refl _).drew)) | (refine pr_next ?_ (by assumption); assumption)))
            (first
              | (go_at_call 25; (first | (with_reducible refine (HC1.out _ ?_).mono ?_) | (with_reducible refine (HC2.out _ ?_).mono ?_)); (exact pr_q (by assumption)); (rintro e w' ⟨rfl, q⟩))
              | (go_at_call 35; (first | (with_reducible refine (HD1.out _).mono ?_) | (with_reducible refine (HD2.out _).mono ?_)); (rintro e w' ⟨rfl, rfl⟩)))
          all_goals
            go_wp2_with fail
            go_ret
            exact ⟨rfl, HQ.out.trans (pr_q (by assumption))⟩
      · obtain rfl : R = out := by have := HO.out; rwa [if_neg (fun h => c h.1)] at this
        have dg : decide (-306000 < R) = false := by simpa using c
        clear HO
        go_wp2_with fail
        go_quiet (fail)
        go_wp2_with fail
        go_ret
        exact ⟨rfl, HQ.out.trans (hq.drewN _)⟩

set_option maxRecDepth 100000 in
set_option maxHeartbeats 8000000 in
theorem rlongitude (K L A S y : Int) (F : Int → Int) (t : Int) (w : World) (ht0 : -1048576 ≤ t) (ht1 : t ≤ 1048576) (hF : ∀ m, -648000 ≤ m → m ≤ 648000 → -62500000 ≤ F m ∧ F m ≤ 62500000)
    (HF0 : Hid (∀ m, -648000 ≤ m → m ≤ 648000 → ∀ w, Calls Try.prog 24 #[.agg #[.int .i64 K, .int .i64 L, .int .i64 A, .int .i64 S], .int .i64 m, .int .i64 y] w fun e w' => e = .returned (.int .i64 (F m)) ∧ Q w w')) :
    Calls Try.prog 34 #[.agg #[.int .i64 K, .int .i64 L, .int .i64 A, .int .i64 S], .int .i64 t, .int .i64 y] w fun e w' => e = .returned (.int .i64 (Prj.near F t (-648000) 648000)) ∧ Q w w' := by
  have HFL := Lib.hid (fun (a : Int) (W : World) (h0 : -4000000 ≤ a) (h1 : a ≤ 4000000) => rfloor_pos a 2 (by omega) (by omega) (by omega) (by omega) W)
  have HFB := Lib.hid hF
  have HD := Lib.hid (fun (a b : Int) (W : World) (h0 : -100000000 ≤ a - b) (h1 : a - b ≤ 100000000) => far_any a b W (by omega) (by omega))
  obtain ⟨R, hR⟩ : ∃ R, Prj.bs F t 21 (-648000) 648000 = R := ⟨_, rfl⟩
  unfold Prj.near
  rw [hR]
  have HR := Lib.hid hR
  have HRB := Lib.hid (show -648000 ≤ R ∧ R ≤ 648000 by rw [← hR]; exact Prj.bs_bd F t 21 _ _ (by omega))
  clear hR hF
  obtain ⟨out, hout⟩ : ∃ out, Prj.pick F t (-648000) R = out := ⟨_, rfl⟩
  rw [hout]
  have HO := Lib.hid hout
  clear hout
  go_enter Try.func34, Try.ntmps34
  go_wp2_with fail
  obtain ⟨wk, hwk⟩ : ∃ wk, w.alloc (.cells #[.int .i64 K, .int .i64 L, .int .i64 A, .int .i64 S] 23) = wk := ⟨_, rfl⟩
  have HQ := Lib.hid (show Q w wk by rw [← hwk]; exact (Q.refl _).alloc _)
  have HKK := Lib.hid (prs_fresh K L A S w)
  rw [hwk] at HKK ⊢
  have HF := Lib.hid (fun m h0 h1 w' (q : Q wk w') => HF0.out m h0 h1 w')
  clear hwk
  go_loopw [7, 8] (fun a b wr => ∃ (f : Nat) (lo hi : Int), -648000 ≤ lo ∧ lo ≤ hi ∧ hi ≤ 648000 ∧ Hid (hi - lo < 2 ^ f ∧ Prj.bs F t f lo hi = R) ∧ a = .int .i64 lo ∧ b = .int .i64 hi ∧ Q wk wr) (fun a b _ => (intOf b - intOf a).toNat)
  case atStart => exact ⟨21, -648000, 648000, by omega, by omega, by omega, ⟨by decide, HR.out⟩, rfl, rfl, Q.refl _⟩
  case round =>
    obtain ⟨f, lo, hi, h0, h1, h2, HB, rfl, rfl, hq⟩ := hrel
    by_cases hlt : lo < hi
    · obtain ⟨g, rfl⟩ : ∃ g, f = g + 1 := by
        cases f with
        | zero => have := HB.out.1; omega
        | succ g => exact ⟨g, rfl⟩
      have hbs := HB.out.2
      have hbl := HB.out.1
      rw [Prj.bs, if_pos hlt] at hbs
      rw [Int.pow_succ] at hbl
      have HFL2 := Lib.hid (fun W => HFL.out (lo + hi) W (by omega) (by omega))
      obtain ⟨m, hm⟩ : ∃ m, (lo + hi) / 2 = m := ⟨_, rfl⟩
      have hm0 : lo ≤ m := by omega
      have hm1 : m < hi := by omega
      have HM := Lib.hid (show (m - lo < 2 ^ g ∧ hi - (m + 1) < 2 ^ g) by constructor <;> omega)
      rw [hm] at hbs HFL2
      clear hm
      have HC := Lib.hid (fun W q => HF.out m (by omega) (by omega) W q)
      generalize F m = s at *
      have HS := Lib.hid hbs
      clear hbs hbl HB
      by_cases c : s < t
      · have HN := Lib.hid (show (hi - (m + 1) < 2 ^ g ∧ Prj.bs F t g (m + 1) hi = R) from ⟨HM.out.2, by have := HS.out; rwa [if_pos c] at this⟩)
        go_wp2_with fail
        refine (HFL2.out _).mono ?_
        rintro e w2 ⟨rfl, q2⟩
        obtain ⟨k0, k1, k2, k3, k4⟩ := pr_next HKK.out (hq.trans q2)
        clear k4
        go_wp2_with fail
        refine (HC.out _ (hq.trans q2)).mono ?_
        rintro e w3 ⟨rfl, q3⟩
        go_wp2_with fail
        go_roundw
        case rel => exact ⟨g, m + 1, hi, by omega, by omega, h2, HN, rfl, rfl, hq.trans (q2.trans q3)⟩
        case measure => simp [intOf]; omega
      · have HN := Lib.hid (show (m - lo < 2 ^ g ∧ Prj.bs F t g lo m = R) from ⟨HM.out.1, by have := HS.out; rwa [if_neg c] at this⟩)
        go_wp2_with fail
        refine (HFL2.out _).mono ?_
        rintro e w2 ⟨rfl, q2⟩
        obtain ⟨k0, k1, k2, k3, k4⟩ := pr_next HKK.out (hq.trans q2)
        clear k4
        go_wp2_with fail
        refine (HC.out _ (hq.trans q2)).mono ?_
        rintro e w3 ⟨rfl, q3⟩
        go_wp2_with fail
        go_roundw
        case rel => exact ⟨g, lo, m, h0, by omega, by omega, HN, rfl, rfl, hq.trans (q2.trans q3)⟩
        case measure => simp [intOf]; omega
    · obtain rfl : hi = lo := by omega
      obtain rfl : R = hi := by rw [← HB.out.2]; exact Prj.bs_same F t f hi
      clear HB hlt
      unfold Prj.pick at HO
      have HKR : Hid (PrS K L A S w.heap.size wk wr) := pr_next HKK.out hq
      by_cases c : -648000 < R
      · have b1 := HFB.out (R - 1) (by omega) (by omega)
        have b2 := HFB.out R (by omega) (by omega)
        have HC1 := Lib.hid (fun W q => HF.out (R - 1) (by omega) (by omega) W q)
        have HC2 := Lib.hid (fun W q => HF.out R (by omega) (by omega) W q)
        have HD1 := Lib.hid (fun W => HD.out (F (R - 1)) t W (by omega) (by omega))
        have HD2 := Lib.hid (fun W => HD.out (F R) t W (by omega) (by omega))
        have e1 : IntKind.i64.wrap (R - 1) = R - 1 := IntWalk.i64_in _ (by omega)
        have dg : decide (-648000 < R) = true := by simpa using c
        generalize F (R - 1) = s1 at *
        generalize F R = s2 at *
        generalize Prj.far s1 t = d1 at *
        generalize Prj.far s2 t = d2 at *
        by_cases c2 : d1 < d2
        · obtain rfl : R - 1 = out := by have := HO.out; rwa [if_pos ⟨c, c2⟩] at this
          have dd : decide (d1 < d2) = true := by simpa using c2
          clear c2 HO
          go_wp2_with fail
          go_region_held3 (fun v => (v.cell? ⟨w.heap.size, 0, none⟩ = some (.int .i64 K) ∧ v.cell? ⟨w.heap.size, 1, none⟩ = some (.int .i64 L) ∧ v.cell? ⟨w.heap.size, 2, none⟩ = some (.int .i64 A) ∧ v.cell? ⟨w.heap.size, 3, none⟩ = some (.int .i64 S) ∧ Q wk v)) ((first | assumption | (exact pr_next HKR.out ((Q.refl _).drew)) | (refine pr_next ?_ (by assumption); assumption)))
            (first
              | (go_at_call 24; (first | (with_reducible refine (HC1.out _ ?_).mono ?_) | (with_reducible refine (HC2.out _ ?_).mono ?_)); (exact pr_q (by assumption)); (rintro e w' ⟨rfl, q⟩))
              | (go_at_call 35; (first | (with_reducible refine (HD1.out _).mono ?_) | (with_reducible refine (HD2.out _).mono ?_)); (rintro e w' ⟨rfl, rfl⟩)))
          all_goals
            go_wp2_with fail
            go_ret
            exact ⟨rfl, HQ.out.trans (pr_q (by assumption))⟩
        · obtain rfl : R = out := by have := HO.out; rwa [if_neg (fun h => c2 h.2)] at this
          have dd : decide (d1 < d2) = false := by simpa using c2
          clear c2 HO
          go_wp2_with fail
          go_region_held3 (fun v => (v.cell? ⟨w.heap.size, 0, none⟩ = some (.int .i64 K) ∧ v.cell? ⟨w.heap.size, 1, none⟩ = some (.int .i64 L) ∧ v.cell? ⟨w.heap.size, 2, none⟩ = some (.int .i64 A) ∧ v.cell? ⟨w.heap.size, 3, none⟩ = some (.int .i64 S) ∧ Q wk v)) ((first | assumption | (exact pr_next HKR.out ((Q.refl _).drew)) | (refine pr_next ?_ (by assumption); assumption)))
            (first
              | (go_at_call 24; (first | (with_reducible refine (HC1.out _ ?_).mono ?_) | (with_reducible refine (HC2.out _ ?_).mono ?_)); (exact pr_q (by assumption)); (rintro e w' ⟨rfl, q⟩))
              | (go_at_call 35; (first | (with_reducible refine (HD1.out _).mono ?_) | (with_reducible refine (HD2.out _).mono ?_)); (rintro e w' ⟨rfl, rfl⟩)))
          all_goals
            go_wp2_with fail
            go_ret
            exact ⟨rfl, HQ.out.trans (pr_q (by assumption))⟩
      · obtain rfl : R = out := by have := HO.out; rwa [if_neg (fun h => c h.1)] at this
        have dg : decide (-648000 < R) = false := by simpa using c
        clear HO
        go_wp2_with fail
        go_quiet (fail)
        go_wp2_with fail
        go_ret
        exact ⟨rfl, HQ.out.trans (hq.drewN _)⟩

end Go.Proofs.Ytmagppjmjjkbjaa
