
/- Contracts of the closures that project.ruleOf makes. -/
import Derived.Test.YtmagppjmjjkbjaaPrjA
import Derived.Deep.RegionHeld3
namespace Go.Proofs.Ytmagppjmjjkbjaa
open Go.RowKit
set_option linter.unusedVariables false

theorem rule1 (x y L : Int) (B : Nat) (w : World) (hx0 : -648000 ≤ x) (hx1 : x ≤ 648000) (hl0 : -648000 ≤ L) (hl1 : L ≤ 648000) (hc : w.cell? ⟨B, 1, none⟩ = some (.int .i64 L)) :
    Calls Try.prog 36 #[.int .i64 x, .int .i64 y, .pointer (some ⟨B, 0, none⟩)] w fun e w' => e = .returned (.int .i64 (Ser.rad (x - L))) ∧ Q w w' := by
  have HR := Lib.hid (fun W => rad_any (x - L) (by omega) (by omega) W)
  generalize Ser.rad (x - L) = r at *
  go_enter Try.func36, Try.ntmps36
  go_wp2_with fail
  refine (HR.out _).mono ?_
  rintro e w1 ⟨rfl, rfl⟩
  go_wp2_with fail
  go_ret
  exact ⟨rfl, Q.refl _⟩
theorem rule2 (y A : Int) (B : Nat) (w : World) (hx0 : -306000 ≤ y) (hx1 : y ≤ 306000) (hl0 : -306000 ≤ A) (hl1 : A ≤ 306000) (hc : w.cell? ⟨B, 2, none⟩ = some (.int .i64 A)) :
    Calls Try.prog 38 #[.int .i64 y, .pointer (some ⟨B, 0, none⟩)] w fun e w' => e = .returned (.int .i64 (Ser.rad (y - A))) ∧ Q w w' := by
  have HR := Lib.hid (fun W => rad_any (y - A) (by omega) (by omega) W)
  generalize Ser.rad (y - A) = r at *
  go_enter Try.func38, Try.ntmps38
  go_wp2_with fail
  refine (HR.out _).mono ?_
  rintro e w1 ⟨rfl, rfl⟩
  go_wp2_with fail
  go_ret
  exact ⟨rfl, Q.refl _⟩
theorem rule3 (x y L : Int) (B : Nat) (w : World) (hx0 : -648000 ≤ x) (hx1 : x ≤ 648000) (hl0 : -648000 ≤ L) (hl1 : L ≤ 648000) (hy0 : -9223372036854775808 ≤ y) (hy1 : y ≤ 9223372036854775807) (hc : w.cell? ⟨B, 1, none⟩ = some (.int .i64 L)) :
    Calls Try.prog 39 #[.int .i64 x, .int .i64 y, .pointer (some ⟨B, 0, none⟩)] w fun e w' => e = .returned (.int .i64 (Ser.rnd (Ser.rad (x - L) * Ser.cos y) 1073741824)) ∧ Q w w' := by
  have HR := Lib.hid (fun W => rad_any (x - L) (by omega) (by omega) W)
  have HC := Lib.hid (fun W => cos_any y hy0 hy1 W)
  obtain ⟨b0, b1⟩ := Prj.sine_bd (x - L) y (by omega) (by omega)
  have HN := Lib.hid (fun W => round_pos (Ser.rad (x - L) * Ser.cos y) 1073741824 (by omega) (by omega) (by omega) (by omega) W)
  rw [rnd_same] at HN
  generalize Ser.rad (x - L) = r at *
  generalize Ser.cos y = c at *
  generalize Ser.rnd (r * c) 1073741824 = n at *
  obtain ⟨p, hp⟩ : ∃ p, r * c = p := ⟨_, rfl⟩
  rw [hp] at HN b0 b1
  have e1 : wrap64 (r * c) = p := by rw [hp]; exact IntWalk.wrap64_in _ ⟨by omega, by omega⟩
  clear hp
  go_enter Try.func39, Try.ntmps39
  go_wp2_with fail
  refine (HR.out _).mono ?_
  rintro e w1 ⟨rfl, rfl⟩
  go_wp2_with fail
  refine (HC.out _).mono ?_
  rintro e w2 ⟨rfl, q2⟩
  go_wp2_with fail
  refine (HN.out _).mono ?_
  rintro e w3 ⟨rfl, rfl⟩
  go_wp2_with fail
  go_ret
  exact ⟨rfl, q2⟩
theorem rule4 (y : Int) (w : World) (hx0 : -306000 ≤ y) (hx1 : y ≤ 306000) :
    Calls Try.prog 42 #[.int .i64 y] w fun e w' => e = .returned (.int .i64 (Prj.art y)) ∧ Q w w' := by
  have HS := Lib.hid (fun W => sin_any y (by omega) (by omega) W)
  have hb := Prj.sin_lat y hx0 hx1
  have HA := Lib.hid (fun W => artanh_any (Ser.sin y) hb.1 hb.2 W)
  unfold Prj.art
  generalize Ser.artanh (Ser.sin y) = r at *
  generalize Ser.sin y = c at *
  go_enter Try.func42, Try.ntmps42
  go_wp2_with fail
  refine (HS.out _).mono ?_
  rintro e w1 ⟨rfl, q1⟩
  go_wp2_with fail
  refine (HA.out _).mono ?_
  rintro e w2 ⟨rfl, q2⟩
  go_wp2_with fail
  go_ret
  exact ⟨rfl, q1.trans q2⟩
theorem one_next {c : Int} {B : Nat} {wk u v : World} (h : u.cell? ⟨B, 0, none⟩ = some (.int .i64 c) ∧ Q wk u) (q : Q u v) : v.cell? ⟨B, 0, none⟩ = some (.int .i64 c) ∧ Q wk v :=
  ⟨(q.cell (block_lt_of_cell h.1)).trans h.1, h.2.trans q⟩
theorem two_next {c : Int} {f : Value} {B D : Nat} {wk u v : World} (h : u.cell? ⟨D, 0, none⟩ = some f ∧ u.cell? ⟨B, 0, none⟩ = some (.int .i64 c) ∧ Q wk u) (q : Q u v) : v.cell? ⟨D, 0, none⟩ = some f ∧ v.cell? ⟨B, 0, none⟩ = some (.int .i64 c) ∧ Q wk v :=
  ⟨(q.cell (block_lt_of_cell h.1)).trans h.1, (q.cell (block_lt_of_cell h.2.1)).trans h.2.1, h.2.2.trans q⟩
theorem rule6 (y c : Int) (B : Nat) (w : World) (hx0 : -306000 ≤ y) (hx1 : y ≤ 306000) (hl0 : -1073741824 ≤ c) (hl1 : c ≤ 1073741824) (hc : w.cell? ⟨B, 0, none⟩ = some (.int .i64 c)) :
    Calls Try.prog 46 #[.int .i64 y, .pointer (some ⟨B, 0, none⟩)] w fun e w' => e = .returned (.int .i64 (Ser.sin y - c)) ∧ Q w w' := by
  have HS := Lib.hid (fun W => sin_any y (by omega) (by omega) W)
  have hb := Ser.sin_in y
  obtain ⟨b0, b1⟩ := hb
  generalize Ser.sin y = s at *
  have e1 : IntKind.i64.wrap (s - c) = s - c := IntWalk.i64_in _ (by omega)
  have HK := Lib.hid (And.intro hc (Q.refl w))
  go_enter Try.func46, Try.ntmps46
  go_wp2_with fail
  go_region_held3 (fun v => v.cell? ⟨B, 0, none⟩ = some (.int .i64 c) ∧ Q w v) ((first | (exact one_next HK.out ((Q.refl _).drew)) | (exact one_next HK.out (((Q.refl _).drew).trans (by assumption)))))
    (first | (go_at_call 44; refine (HS.out _).mono ?_; (rintro e w' ⟨rfl, q⟩)))
  all_goals
    go_wp2_with fail
    go_ret
    exact ⟨rfl, ((Q.refl _).drew).trans q⟩
theorem rule5 (y c : Int) (B D : Nat) (w : World) (hx0 : -306000 ≤ y) (hx1 : y ≤ 306000) (hl0 : -64000000000 ≤ c) (hl1 : c ≤ 64000000000) (hd : w.cell? ⟨D, 0, none⟩ = some (.func (Fn.func 42) #[] #[])) (hc : w.cell? ⟨B, 0, none⟩ = some (.int .i64 c)) :
    Calls Try.prog 45 #[.int .i64 y, .pointer (some ⟨D, 0, none⟩), .pointer (some ⟨B, 0, none⟩)] w fun e w' => e = .returned (.int .i64 (Prj.art y - c)) ∧ Q w w' := by
  have HS := Lib.hid (fun W => rule4 y W hx0 hx1)
  have hb := Prj.art_bd y hx0 hx1
  obtain ⟨b0, b1⟩ := hb
  generalize Prj.art y = s at *
  have e1 : IntKind.i64.wrap (s - c) = s - c := IntWalk.i64_in _ (by omega)
  have HK := Lib.hid (And.intro hd (And.intro hc (Q.refl w)))
  go_enter Try.func45, Try.ntmps45
  go_wp2_with fail
  go_region_held3 (fun v => v.cell? ⟨D, 0, none⟩ = some (.func (Fn.func 42) #[] #[]) ∧ v.cell? ⟨B, 0, none⟩ = some (.int .i64 c) ∧ Q w v) ((first | (exact two_next HK.out ((Q.refl _).drew)) | (exact two_next HK.out (((Q.refl _).drew).trans (by assumption)))))
    (first | (go_at_call 42; refine (HS.out _).mono ?_; (rintro e w' ⟨rfl, q⟩)))
  all_goals
    go_wp2_with fail
    go_ret
    exact ⟨rfl, ((Q.refl _).drew).trans q⟩
end Go.Proofs.Ytmagppjmjjkbjaa
