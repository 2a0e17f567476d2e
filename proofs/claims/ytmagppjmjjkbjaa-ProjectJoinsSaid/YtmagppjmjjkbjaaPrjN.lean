
/- Contracts of project.nearest and of the reference's latitude and longitude: the nearest place of a number. -/
import Derived.Test.YtmagppjmjjkbjaaPrjV
import Derived.Deep.LoopGhost
namespace Go.Proofs.Ytmagppjmjjkbjaa
open Go.RowKit
set_option linter.unusedVariables false

namespace Prj
/-- The search in halves: the first place from lo on whose number is not below t (if the numbers do not decrease). -/
def bs (F : Int → Int) (t : Int) : Nat → Int → Int → Int
  | 0, lo, _ => lo
  | f + 1, lo, hi => if lo < hi then (if F ((lo + hi) / 2) < t then bs F t f ((lo + hi) / 2 + 1) hi else bs F t f lo ((lo + hi) / 2)) else lo
theorem bs_same (F : Int → Int) (t : Int) (f : Nat) (lo : Int) : bs F t f lo lo = lo := by
  cases f with
  | zero => rfl
  | succ f => rw [bs, if_neg (by omega)]
theorem bs_bd (F : Int → Int) (t : Int) (f : Nat) : ∀ lo hi : Int, lo ≤ hi → lo ≤ bs F t f lo hi ∧ bs F t f lo hi ≤ hi := by
  induction f with
  | zero => intro lo hi h; exact ⟨Int.le_refl _, h⟩
  | succ f ih =>
    intro lo hi h
    rw [bs]
    split
    · split
      · have := ih ((lo + hi) / 2 + 1) hi (by omega)
        omega
      · have := ih lo ((lo + hi) / 2) (by omega)
        omega
    · omega
/-- Of the place found and the one before, the nearer one. -/
def pick (F : Int → Int) (t least r : Int) : Int := if least < r ∧ far (F (r - 1)) t < far (F r) t then r - 1 else r
def near (F : Int → Int) (t lo hi : Int) : Int := pick F t lo (bs F t 21 lo hi)
end Prj


set_option maxRecDepth 100000 in
set_option maxHeartbeats 8000000 in
theorem nearestY (k : FuncId) (c1 c2 : Value) (F : Int → Int) (t : Int) (w : World) (ht0 : -1048576 ≤ t) (ht1 : t ≤ 1048576) (hF : ∀ m, -306000 ≤ m → m ≤ 306000 → -62500000 ≤ F m ∧ F m ≤ 62500000) (bk : ∀ (args : Array Value) (w : World), (callFunc k args).run Try.prog w = .ok (.enter k args) w)
    (HF : Hid (∀ m, -306000 ≤ m → m ≤ 306000 → ∀ w', Q w w' → Calls Try.prog k #[.int .i64 m, c1, c2] w' fun e w'' => e = .returned (.int .i64 (F m)) ∧ Q w' w'')) :
    Calls Try.prog 28 #[.int .i64 t, .int .i64 (-306000), .int .i64 306000, .func (Fn.func k) #[] #[c1, c2]] w fun e w' => e = .returned (.int .i64 (Prj.near F t (-306000) 306000)) ∧ Q w w' := by
  have HFL := Lib.hid (fun (a : Int) (W : World) (h0 : -4000000 ≤ a) (h1 : a ≤ 4000000) => floor_pos a 2 (by omega) (by omega) (by omega) (by omega) W)
  have HFB := Lib.hid hF
  have HD := Lib.hid (fun (a b : Int) (W : World) (h0 : -100000000 ≤ a - b) (h1 : a - b ≤ 100000000) => distance_any a b W (by omega) (by omega))
  obtain ⟨R, hR⟩ : ∃ R, Prj.bs F t 21 (-306000) 306000 = R := ⟨_, rfl⟩
  unfold Prj.near
  rw [hR]
  have HR := Lib.hid hR
  have HRB := Lib.hid (show -306000 ≤ R ∧ R ≤ 306000 by rw [← hR]; exact Prj.bs_bd F t 21 _ _ (by omega))
  clear hR hF
  obtain ⟨out, hout⟩ : ∃ out, Prj.pick F t (-306000) R = out := ⟨_, rfl⟩
  rw [hout]
  have HO := Lib.hid hout
  clear hout
  go_enter Try.func28, Try.ntmps28
  go_wp2_with fail
  go_loopw [1, 2] (fun a b wr => ∃ (f : Nat) (lo hi : Int), -306000 ≤ lo ∧ lo ≤ hi ∧ hi ≤ 306000 ∧ Hid (hi - lo < 2 ^ f ∧ Prj.bs F t f lo hi = R) ∧ a = .int .i64 lo ∧ b = .int .i64 hi ∧ Q w wr) (fun a b _ => (intOf b - intOf a).toNat)
  case atStart => exact ⟨21, -306000, 306000, by omega, by omega, by omega, ⟨by decide, HR.out⟩, rfl, rfl, Q.refl _⟩
  case round =>
    obtain ⟨f, lo, hi, h0, h1, h2, HB, rfl, rfl, hq⟩ := hrel
    by_cases hlt : lo < hi
    · obtain ⟨g, rfl⟩ : ∃ g, f = g + 1 := by
        cases f with
        | zero => have := HB.out.1; omega
        | succ g => exact ⟨g, rfl⟩
      have hbs := HB.out.2
      have hbl := HB.out.1
      rw [Prj.bs, if_pos hlt] at hbs
      rw [Int.pow_succ] at hbl
      have HFL2 := Lib.hid (fun W => HFL.out (lo + hi) W (by omega) (by omega))
      obtain ⟨m, hm⟩ : ∃ m, (lo + hi) / 2 = m := ⟨_, rfl⟩
      have hm0 : lo ≤ m := by omega
      have hm1 : m < hi := by omega
      have HM := Lib.hid (show (m - lo < 2 ^ g ∧ hi - (m + 1) < 2 ^ g) by constructor <;> omega)
      rw [hm] at hbs HFL2
      clear hm
      have HC := Lib.hid (fun W q => HF.out m (by omega) (by omega) W q)
      generalize F m = s at *
      have HS := Lib.hid hbs
      clear hbs hbl HB
      by_cases c : s < t
      · have HN := Lib.hid (show (hi - (m + 1) < 2 ^ g ∧ Prj.bs F t g (m + 1) hi = R) from ⟨HM.out.2, by have := HS.out; rwa [if_pos c] at this⟩)
        go_wp2_with fail
        refine (HFL2.out _).mono ?_
        rintro e w2 ⟨rfl, rfl⟩
        go_wp2_with fail
        refine (HC.out _ (hq)).mono ?_
        rintro e w3 ⟨rfl, q3⟩
        go_wp2_with fail
        go_roundw
        case rel => exact ⟨g, m + 1, hi, by omega, by omega, h2, HN, rfl, rfl, hq.trans q3⟩
        case measure => simp [intOf]; omega
      · have HN := Lib.hid (show (m - lo < 2 ^ g ∧ Prj.bs F t g lo m = R) from ⟨HM.out.1, by have := HS.out; rwa [if_neg c] at this⟩)
        go_wp2_with fail
        refine (HFL2.out _).mono ?_
        rintro e w2 ⟨rfl, rfl⟩
        go_wp2_with fail
        refine (HC.out _ (hq)).mono ?_
        rintro e w3 ⟨rfl, q3⟩
        go_wp2_with fail
        go_roundw
        case rel => exact ⟨g, lo, m, h0, by omega, by omega, HN, rfl, rfl, hq.trans q3⟩
        case measure => simp [intOf]; omega
    · obtain rfl : hi = lo := by omega
      obtain rfl : R = hi := by rw [← HB.out.2]; exact Prj.bs_same F t f hi
      clear HB hlt
      unfold Prj.pick at HO
      by_cases c : -306000 < R
      · have b1 := HFB.out (R - 1) (by omega) (by omega)
        have b2 := HFB.out R (by omega) (by omega)
        have HC1 := Lib.hid (fun W q => HF.out (R - 1) (by omega) (by omega) W q)
        have HC2 := Lib.hid (fun W q => HF.out R (by omega) (by omega) W q)
        have HD1 := Lib.hid (fun W => HD.out (F (R - 1)) t W (by omega) (by omega))
        have HD2 := Lib.hid (fun W => HD.out (F R) t W (by omega) (by omega))
        generalize F (R - 1) = s1 at *
        generalize F R = s2 at *
        generalize Prj.far s1 t = d1 at *
        generalize Prj.far s2 t = d2 at *
        by_cases c2 : d1 < d2
        · obtain rfl : R - 1 = out := by have := HO.out; rwa [if_pos ⟨c, c2⟩] at this
          have dd : decide (d1 < d2) = true := by simpa using c2
          clear c2 HO
          go_wp2_with fail
          refine (HC1.out _ hq).mono ?_
          rintro e w1 ⟨rfl, q1⟩
          go_wp2_with fail
          refine (HD1.out _).mono ?_
          rintro e w2 ⟨rfl, rfl⟩
          go_wp2_with fail
          refine (HC2.out _ (hq.trans q1)).mono ?_
          rintro e w3 ⟨rfl, q3⟩
          go_wp2_with fail
          refine (HD2.out _).mono ?_
          rintro e w4 ⟨rfl, rfl⟩
          go_wp2_with fail
          go_ret
          exact ⟨rfl, hq.trans (q1.trans q3)⟩
        · obtain rfl : R = out := by have := HO.out; rwa [if_neg (fun h => c2 h.2)] at this
          have dd : decide (d1 < d2) = false := by simpa using c2
          clear c2 HO
          go_wp2_with fail
          refine (HC1.out _ hq).mono ?_
          rintro e w1 ⟨rfl, q1⟩
          go_wp2_with fail
          refine (HD1.out _).mono ?_
          rintro e w2 ⟨rfl, rfl⟩
          go_wp2_with fail
          refine (HC2.out _ (hq.trans q1)).mono ?_
          rintro e w3 ⟨rfl, q3⟩
          go_wp2_with fail
          refine (HD2.out _).mono ?_
          rintro e w4 ⟨rfl, rfl⟩
          go_wp2_with fail
          go_ret
          exact ⟨rfl, hq.trans (q1.trans q3)⟩
      · obtain rfl : R = out := by have := HO.out; rwa [if_neg (fun h => c h.1)] at this
        clear HO
        go_wp2_with fail
        go_ret
        exact ⟨rfl, hq⟩

set_option maxRecDepth 100000 in
set_option maxHeartbeats 8000000 in
theorem nearestX (k : FuncId) (c1 c2 c3 : Value) (F : Int → Int) (t : Int) (w : World) (ht0 : -1048576 ≤ t) (ht1 : t ≤ 1048576) (hF : ∀ m, -648000 ≤ m → m ≤ 648000 → -62500000 ≤ F m ∧ F m ≤ 62500000) (bk : ∀ (args : Array Value) (w : World), (callFunc k args).run Try.prog w = .ok (.enter k args) w)
    (HF : Hid (∀ m, -648000 ≤ m → m ≤ 648000 → ∀ w', Q w w' → Calls Try.prog k #[.int .i64 m, c1, c2, c3] w' fun e w'' => e = .returned (.int .i64 (F m)) ∧ Q w' w'')) :
    Calls Try.prog 28 #[.int .i64 t, .int .i64 (-648000), .int .i64 648000, .func (Fn.func k) #[] #[c1, c2, c3]] w fun e w' => e = .returned (.int .i64 (Prj.near F t (-648000) 648000)) ∧ Q w w' := by
  have HFL := Lib.hid (fun (a : Int) (W : World) (h0 : -4000000 ≤ a) (h1 : a ≤ 4000000) => floor_pos a 2 (by omega) (by omega) (by omega) (by omega) W)
  have HFB := Lib.hid hF
  have HD := Lib.hid (fun (a b : Int) (W : World) (h0 : -100000000 ≤ a - b) (h1 : a - b ≤ 100000000) => distance_any a b W (by omega) (by omega))
  obtain ⟨R, hR⟩ : ∃ R, Prj.bs F t 21 (-648000) 648000 = R := ⟨_, rfl⟩
  unfold Prj.near
  rw [hR]
  have HR := Lib.hid hR
  have HRB := Lib.hid (show -648000 ≤ R ∧ R ≤ 648000 by rw [← hR]; exact Prj.bs_bd F t 21 _ _ (by omega))
  clear hR hF
  obtain ⟨out, hout⟩ : ∃ out, Prj.pick F t (-648000) R = out := ⟨_, rfl⟩
  rw [hout]
  have HO := Lib.hid hout
  clear hout
  go_enter Try.func28, Try.ntmps28
  go_wp2_with fail
  go_loopw [1, 2] (fun a b wr => ∃ (f : Nat) (lo hi : Int), -648000 ≤ lo ∧ lo ≤ hi ∧ hi ≤ 648000 ∧ Hid (hi - lo < 2 ^ f ∧ Prj.bs F t f lo hi = R) ∧ a = .int .i64 lo ∧ b = .int .i64 hi ∧ Q w wr) (fun a b _ => (intOf b - intOf a).toNat)
  case atStart => exact ⟨21, -648000, 648000, by omega, by omega, by omega, ⟨by decide, HR.out⟩, rfl, rfl, Q.refl _⟩
  case round =>
    obtain ⟨f, lo, hi, h0, h1, h2, HB, rfl, rfl, hq⟩ := hrel
    by_cases hlt : lo < hi
    · obtain ⟨g, rfl⟩ : ∃ g, f = g + 1 := by
        cases f with
        | zero => have := HB.out.1; omega
        | succ g => exact ⟨g, rfl⟩
      have hbs := HB.out.2
      have hbl := HB.out.1
      rw [Prj.bs, if_pos hlt] at hbs
      rw [Int.pow_succ] at hbl
      have HFL2 := Lib.hid (fun W => HFL.out (lo + hi) W (by omega) (by omega))
      obtain ⟨m, hm⟩ : ∃ m, (lo + hi) / 2 = m := ⟨_, rfl⟩
      have hm0 : lo ≤ m := by omega
      have hm1 : m < hi := by omega
      have HM := Lib.hid (show (m - lo < 2 ^ g ∧ hi - (m + 1) < 2 ^ g) by constructor <;> omega)
      rw [hm] at hbs HFL2
      clear hm
      have HC := Lib.hid (fun W q => HF.out m (by omega) (by omega) W q)
      generalize F m = s at *
      have HS := Lib.hid hbs
      clear hbs hbl HB
      by_cases c : s < t
      · have HN := Lib.hid (show (hi - (m + 1) < 2 ^ g ∧ Prj.bs F t g (m + 1) hi = R) from ⟨HM.out.2, by have := HS.out; rwa [if_pos c] at this⟩)
        go_wp2_with fail
        refine (HFL2.out _).mono ?_
        rintro e w2 ⟨rfl, rfl⟩
        go_wp2_with fail
        refine (HC.out _ (hq)).mono ?_
        rintro e w3 ⟨rfl, q3⟩
        go_wp2_with fail
        go_roundw
        case rel => exact ⟨g, m + 1, hi, by omega, by omega, h2, HN, rfl, rfl, hq.trans q3⟩
        case measure => simp [intOf]; omega
      · have HN := Lib.hid (show (m - lo < 2 ^ g ∧ Prj.bs F t g lo m = R) from ⟨HM.out.1, by have := HS.out; rwa [if_neg c] at this⟩)
        go_wp2_with fail
        refine (HFL2.out _).mono ?_
        rintro e w2 ⟨rfl, rfl⟩
        go_wp2_with fail
        refine (HC.out _ (hq)).mono ?_
        rintro e w3 ⟨rfl, q3⟩
        go_wp2_with fail
        go_roundw
        case rel => exact ⟨g, lo, m, h0, by omega, by omega, HN, rfl, rfl, hq.trans q3⟩
        case measure => simp [intOf]; omega
    · obtain rfl : hi = lo := by omega
      obtain rfl : R = hi := by rw [← HB.out.2]; exact Prj.bs_same F t f hi
      clear HB hlt
      unfold Prj.pick at HO
      by_cases c : -648000 < R
      · have b1 := HFB.out (R - 1) (by omega) (by omega)
        have b2 := HFB.out R (by omega) (by omega)
        have HC1 := Lib.hid (fun W q => HF.out (R - 1) (by omega) (by omega) W q)
        have HC2 := Lib.hid (fun W q => HF.out R (by omega) (by omega) W q)
        have HD1 := Lib.hid (fun W => HD.out (F (R - 1)) t W (by omega) (by omega))
        have HD2 := Lib.hid (fun W => HD.out (F R) t W (by omega) (by omega))
        generalize F (R - 1) = s1 at *
        generalize F R = s2 at *
        generalize Prj.far s1 t = d1 at *
        generalize Prj.far s2 t = d2 at *
        by_cases c2 : d1 < d2
        · obtain rfl : R - 1 = out := by have := HO.out; rwa [if_pos ⟨c, c2⟩] at this
          have dd : decide (d1 < d2) = true := by simpa using c2
          clear c2 HO
          go_wp2_with fail
          refine (HC1.out _ hq).mono ?_
          rintro e w1 ⟨rfl, q1⟩
          go_wp2_with fail
          refine (HD1.out _).mono ?_
          rintro e w2 ⟨rfl, rfl⟩
          go_wp2_with fail
          refine (HC2.out _ (hq.trans q1)).mono ?_
          rintro e w3 ⟨rfl, q3⟩
          go_wp2_with fail
          refine (HD2.out _).mono ?_
          rintro e w4 ⟨rfl, rfl⟩
          go_wp2_with fail
          go_ret
          exact ⟨rfl, hq.trans (q1.trans q3)⟩
        · obtain rfl : R = out := by have := HO.out; rwa [if_neg (fun h => c2 h.2)] at this
          have dd : decide (d1 < d2) = false := by simpa using c2
          clear c2 HO
          go_wp2_with fail
          refine (HC1.out _ hq).mono ?_
          rintro e w1 ⟨rfl, q1⟩
          go_wp2_with fail
          refine (HD1.out _).mono ?_
          rintro e w2 ⟨rfl, rfl⟩
          go_wp2_with fail
          refine (HC2.out _ (hq.trans q1)).mono ?_
          rintro e w3 ⟨rfl, q3⟩
          go_wp2_with fail
          refine (HD2.out _).mono ?_
          rintro e w4 ⟨rfl, rfl⟩
          go_wp2_with fail
          go_ret
          exact ⟨rfl, hq.trans (q1.trans q3)⟩
      · obtain rfl : R = out := by have := HO.out; rwa [if_neg (fun h => c h.1)] at this
        clear HO
        go_wp2_with fail
        go_ret
        exact ⟨rfl, hq⟩

end Go.Proofs.Ytmagppjmjjkbjaa
