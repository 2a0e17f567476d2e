/- Contracts of the small functions of package project and of its reference. -/
import Derived.Test.YtmagppjmjjkbjaaRefN
import Derived.Test.YtmagppjmjjkbjaaRefS
import Derived.Test.YtmagppjmjjkbjaaRefL
import Derived.Test.YtmagppjmjjkbjaaPrj
namespace Go.Proofs.Ytmagppjmjjkbjaa
open Go.RowKit
set_option linter.unusedVariables false

namespace Prj
/-- A valid point of the plane. -/
def pt (x y : Int) : Prop := -1048576 ≤ x ∧ x ≤ 1048576 ∧ -1048576 ≤ y ∧ y ≤ 1048576
instance (x y : Int) : Decidable (pt x y) := by unfold pt; infer_instance
end Prj

theorem svalid_yes (x y : Int) (w : World) (h : Prj.vld x y) :
    Calls Try.prog 20 #[.agg #[.int .i64 x, .int .i64 y]] w fun e w' => e = .returned (.bool true) ∧ Q w w' := by
  unfold Prj.vld at h
  have d0 : decide (-648000 ≤ x) = true := by simp; omega
  have d1 : decide (x ≤ 648000) = true := by simp; omega
  have d2 : decide (-306000 ≤ y) = true := by simp; omega
  have d3 : decide (y ≤ 306000) = true := by simp; omega
  clear h
  go_enter Try.func20, Try.ntmps20
  go_wp2_with fail
  go_ret
  exact ⟨rfl, ((Q.refl w).alloc _)⟩
theorem svalid_no (x y : Int) (w : World) (h : ¬ (Prj.vld x y)) :
    Calls Try.prog 20 #[.agg #[.int .i64 x, .int .i64 y]] w fun e w' => e = .returned (.bool false) ∧ Q w w' := by
  unfold Prj.vld at h
  by_cases c0 : -648000 ≤ x
  rotate_left
  · have d0 : decide (-648000 ≤ x) = false := by simp; omega
    clear h
    go_enter Try.func20, Try.ntmps20
    go_wp2_with fail
    go_ret
    exact ⟨rfl, ((Q.refl w).alloc _)⟩
  have d0 : decide (-648000 ≤ x) = true := by simp; omega
  by_cases c1 : x ≤ 648000
  rotate_left
  · have d1 : decide (x ≤ 648000) = false := by simp; omega
    clear h
    go_enter Try.func20, Try.ntmps20
    go_wp2_with fail
    go_ret
    exact ⟨rfl, ((Q.refl w).alloc _)⟩
  have d1 : decide (x ≤ 648000) = true := by simp; omega
  by_cases c2 : -306000 ≤ y
  rotate_left
  · have d2 : decide (-306000 ≤ y) = false := by simp; omega
    clear h
    go_enter Try.func20, Try.ntmps20
    go_wp2_with fail
    go_ret
    exact ⟨rfl, ((Q.refl w).alloc _)⟩
  have d2 : decide (-306000 ≤ y) = true := by simp; omega
  by_cases c3 : y ≤ 306000
  rotate_left
  · have d3 : decide (y ≤ 306000) = false := by simp; omega
    clear h
    go_enter Try.func20, Try.ntmps20
    go_wp2_with fail
    go_ret
    exact ⟨rfl, ((Q.refl w).alloc _)⟩
  have d3 : decide (y ≤ 306000) = true := by simp; omega
  omega
theorem rvalid_yes (x y : Int) (w : World) (h : Prj.vld x y) :
    Calls Try.prog 21 #[.agg #[.int .i64 x, .int .i64 y]] w fun e w' => e = .returned (.bool true) ∧ Q w w' := by
  unfold Prj.vld at h
  have d0 : decide (-648000 ≤ x) = true := by simp; omega
  have d1 : decide (x ≤ 648000) = true := by simp; omega
  have d2 : decide (-306000 ≤ y) = true := by simp; omega
  have d3 : decide (y ≤ 306000) = true := by simp; omega
  clear h
  go_enter Try.func21, Try.ntmps21
  go_wp2_with fail
  go_ret
  exact ⟨rfl, ((Q.refl w).alloc _)⟩
theorem rvalid_no (x y : Int) (w : World) (h : ¬ (Prj.vld x y)) :
    Calls Try.prog 21 #[.agg #[.int .i64 x, .int .i64 y]] w fun e w' => e = .returned (.bool false) ∧ Q w w' := by
  unfold Prj.vld at h
  by_cases c0 : -648000 ≤ x
  rotate_left
  · have d0 : decide (-648000 ≤ x) = false := by simp; omega
    clear h
    go_enter Try.func21, Try.ntmps21
    go_wp2_with fail
    go_ret
    exact ⟨rfl, ((Q.refl w).alloc _)⟩
  have d0 : decide (-648000 ≤ x) = true := by simp; omega
  by_cases c1 : x ≤ 648000
  rotate_left
  · have d1 : decide (x ≤ 648000) = false := by simp; omega
    clear h
    go_enter Try.func21, Try.ntmps21
    go_wp2_with fail
    go_ret
    exact ⟨rfl, ((Q.refl w).alloc _)⟩
  have d1 : decide (x ≤ 648000) = true := by simp; omega
  by_cases c2 : -306000 ≤ y
  rotate_left
  · have d2 : decide (-306000 ≤ y) = false := by simp; omega
    clear h
    go_enter Try.func21, Try.ntmps21
    go_wp2_with fail
    go_ret
    exact ⟨rfl, ((Q.refl w).alloc _)⟩
  have d2 : decide (-306000 ≤ y) = true := by simp; omega
  by_cases c3 : y ≤ 306000
  rotate_left
  · have d3 : decide (y ≤ 306000) = false := by simp; omega
    clear h
    go_enter Try.func21, Try.ntmps21
    go_wp2_with fail
    go_ret
    exact ⟨rfl, ((Q.refl w).alloc _)⟩
  have d3 : decide (y ≤ 306000) = true := by simp; omega
  omega
theorem pvalid_yes (x y : Int) (w : World) (h : Prj.pt x y) :
    Calls Try.prog 27 #[.agg #[.int .i64 x, .int .i64 y]] w fun e w' => e = .returned (.bool true) ∧ Q w w' := by
  unfold Prj.pt at h
  have d0 : decide (-1048576 ≤ x) = true := by simp; omega
  have d1 : decide (x ≤ 1048576) = true := by simp; omega
  have d2 : decide (-1048576 ≤ y) = true := by simp; omega
  have d3 : decide (y ≤ 1048576) = true := by simp; omega
  clear h
  go_enter Try.func27, Try.ntmps27
  go_wp2_with fail
  go_ret
  exact ⟨rfl, ((Q.refl w).alloc _)⟩
theorem pvalid_no (x y : Int) (w : World) (h : ¬ (Prj.pt x y)) :
    Calls Try.prog 27 #[.agg #[.int .i64 x, .int .i64 y]] w fun e w' => e = .returned (.bool false) ∧ Q w w' := by
  unfold Prj.pt at h
  by_cases c0 : -1048576 ≤ x
  rotate_left
  · have d0 : decide (-1048576 ≤ x) = false := by simp; omega
    clear h
    go_enter Try.func27, Try.ntmps27
    go_wp2_with fail
    go_ret
    exact ⟨rfl, ((Q.refl w).alloc _)⟩
  have d0 : decide (-1048576 ≤ x) = true := by simp; omega
  by_cases c1 : x ≤ 1048576
  rotate_left
  · have d1 : decide (x ≤ 1048576) = false := by simp; omega
    clear h
    go_enter Try.func27, Try.ntmps27
    go_wp2_with fail
    go_ret
    exact ⟨rfl, ((Q.refl w).alloc _)⟩
  have d1 : decide (x ≤ 1048576) = true := by simp; omega
  by_cases c2 : -1048576 ≤ y
  rotate_left
  · have d2 : decide (-1048576 ≤ y) = false := by simp; omega
    clear h
    go_enter Try.func27, Try.ntmps27
    go_wp2_with fail
    go_ret
    exact ⟨rfl, ((Q.refl w).alloc _)⟩
  have d2 : decide (-1048576 ≤ y) = true := by simp; omega
  by_cases c3 : y ≤ 1048576
  rotate_left
  · have d3 : decide (y ≤ 1048576) = false := by simp; omega
    clear h
    go_enter Try.func27, Try.ntmps27
    go_wp2_with fail
    go_ret
    exact ⟨rfl, ((Q.refl w).alloc _)⟩
  have d3 : decide (y ≤ 1048576) = true := by simp; omega
  omega
theorem rpoint_yes (x y : Int) (w : World) (h : Prj.pt x y) :
    Calls Try.prog 26 #[.agg #[.int .i64 x, .int .i64 y]] w fun e w' => e = .returned (.bool true) ∧ Q w w' := by
  unfold Prj.pt at h
  have d0 : decide (-1048576 ≤ x) = true := by simp; omega
  have d1 : decide (x ≤ 1048576) = true := by simp; omega
  have d2 : decide (-1048576 ≤ y) = true := by simp; omega
  have d3 : decide (y ≤ 1048576) = true := by simp; omega
  clear h
  go_enter Try.func26, Try.ntmps26
  go_wp2_with fail
  go_ret
  exact ⟨rfl, ((Q.refl w).alloc _)⟩
theorem rpoint_no (x y : Int) (w : World) (h : ¬ (Prj.pt x y)) :
    Calls Try.prog 26 #[.agg #[.int .i64 x, .int .i64 y]] w fun e w' => e = .returned (.bool false) ∧ Q w w' := by
  unfold Prj.pt at h
  by_cases c0 : -1048576 ≤ x
  rotate_left
  · have d0 : decide (-1048576 ≤ x) = false := by simp; omega
    clear h
    go_enter Try.func26, Try.ntmps26
    go_wp2_with fail
    go_ret
    exact ⟨rfl, ((Q.refl w).alloc _)⟩
  have d0 : decide (-1048576 ≤ x) = true := by simp; omega
  by_cases c1 : x ≤ 1048576
  rotate_left
  · have d1 : decide (x ≤ 1048576) = false := by simp; omega
    clear h
    go_enter Try.func26, Try.ntmps26
    go_wp2_with fail
    go_ret
    exact ⟨rfl, ((Q.refl w).alloc _)⟩
  have d1 : decide (x ≤ 1048576) = true := by simp; omega
  by_cases c2 : -1048576 ≤ y
  rotate_left
  · have d2 : decide (-1048576 ≤ y) = false := by simp; omega
    clear h
    go_enter Try.func26, Try.ntmps26
    go_wp2_with fail
    go_ret
    exact ⟨rfl, ((Q.refl w).alloc _)⟩
  have d2 : decide (-1048576 ≤ y) = true := by simp; omega
  by_cases c3 : y ≤ 1048576
  rotate_left
  · have d3 : decide (y ≤ 1048576) = false := by simp; omega
    clear h
    go_enter Try.func26, Try.ntmps26
    go_wp2_with fail
    go_ret
    exact ⟨rfl, ((Q.refl w).alloc _)⟩
  have d3 : decide (y ≤ 1048576) = true := by simp; omega
  omega

theorem pcheck_yes (K L A S : Int) (w : World) (h : Prj.Ok K L A S) :
    Calls Try.prog 11 #[.agg #[.int .i64 K, .int .i64 L, .int .i64 A, .int .i64 S]] w fun e w' => e = .returned (.int .i64 0) ∧ Q w w' := by
  obtain ⟨k0, k1, v, s0, s1⟩ := h
  have HV := Lib.hid (fun W => svalid_yes L A W v)
  have d0 : decide (K < 1) = false := by simp; omega
  have d1 : decide (4 < K) = false := by simp; omega
  have d2 : decide (S < 1) = false := by simp; omega
  have d3 : decide (524288 < S) = false := by simp; omega
  clear v k0 k1 s0 s1
  go_enter Try.func11, Try.ntmps11
  go_wp2_with fail
  refine (HV.out _).mono ?_
  rintro e w1 ⟨rfl, q1⟩
  have c3 := (q1.cell (b := w.heap.size) (o := 3) (by simp)).trans (show _ = some (Value.int .i64 S) by simp [go_sem])
  go_wp2_with fail
  go_ret
  exact ⟨rfl, q1.behind _⟩
theorem pcheck_kind (K L A S : Int) (w : World) (h : K < 1 ∨ 4 < K) :
    Calls Try.prog 11 #[.agg #[.int .i64 K, .int .i64 L, .int .i64 A, .int .i64 S]] w fun e w' => e = .returned (.int .i64 9) ∧ Q w w' := by
  by_cases c : K < 1
  · have d0 : decide (K < 1) = true := by simpa using c
    go_enter Try.func11, Try.ntmps11
    go_wp2_with fail
    go_ret
    exact ⟨rfl, (Q.refl _).alloc _⟩
  · have d0 : decide (K < 1) = false := by simpa using c
    have d1 : decide (4 < K) = true := by simp; omega
    go_enter Try.func11, Try.ntmps11
    go_wp2_with fail
    go_ret
    exact ⟨rfl, (Q.refl _).alloc _⟩
theorem pcheck_range (K L A S : Int) (w : World) (h0 : 1 ≤ K) (h1 : K ≤ 4) (h : ¬ Prj.Ok K L A S) :
    Calls Try.prog 11 #[.agg #[.int .i64 K, .int .i64 L, .int .i64 A, .int .i64 S]] w fun e w' => e = .returned (.int .i64 2) ∧ Q w w' := by
  rw [Prj.ok_iff] at h
  have d0 : decide (K < 1) = false := by simp; omega
  have d1 : decide (4 < K) = false := by simp; omega
  by_cases v : Prj.vld L A
  · have HV := Lib.hid (fun W => svalid_yes L A W v)
    by_cases c : S < 1
    · have d2 : decide (S < 1) = true := by simpa using c
      clear h v
      go_enter Try.func11, Try.ntmps11
      go_wp2_with fail
      refine (HV.out _).mono ?_
      rintro e w1 ⟨rfl, q1⟩
      have c3 := (q1.cell (b := w.heap.size) (o := 3) (by simp)).trans (show _ = some (Value.int .i64 S) by simp [go_sem])
      go_wp2_with fail
      go_ret
      exact ⟨rfl, q1.behind _⟩
    · have d2 : decide (S < 1) = false := by simpa using c
      have d3 : decide (524288 < S) = true := by
        simp only [decide_eq_true_eq]
        exact Int.not_le.1 (fun hh => h ⟨⟨h0, h1⟩, v, by omega, hh⟩)
      clear h v
      go_enter Try.func11, Try.ntmps11
      go_wp2_with fail
      refine (HV.out _).mono ?_
      rintro e w1 ⟨rfl, q1⟩
      have c3 := (q1.cell (b := w.heap.size) (o := 3) (by simp)).trans (show _ = some (Value.int .i64 S) by simp [go_sem])
      go_wp2_with fail
      go_ret
      exact ⟨rfl, q1.behind _⟩
  · have HV := Lib.hid (fun W => svalid_no L A W v)
    clear h v
    go_enter Try.func11, Try.ntmps11
    go_wp2_with fail
    refine (HV.out _).mono ?_
    rintro e w1 ⟨rfl, q1⟩
    go_wp2_with fail
    go_ret
    exact ⟨rfl, q1.behind _⟩

theorem rpcheck_yes (K L A S : Int) (w : World) (h : Prj.Ok K L A S) :
    Calls Try.prog 12 #[.agg #[.int .i64 K, .int .i64 L, .int .i64 A, .int .i64 S]] w fun e w' => e = .returned (.int .i64 0) ∧ Q w w' := by
  obtain ⟨k0, k1, v, s0, s1⟩ := h
  have HV := Lib.hid (fun W => rvalid_yes L A W v)
  have d0 : decide (K < 1) = false := by simp; omega
  have d1 : decide (4 < K) = false := by simp; omega
  have d2 : decide (S < 1) = false := by simp; omega
  have d3 : decide (524288 < S) = false := by simp; omega
  clear v k0 k1 s0 s1
  go_enter Try.func12, Try.ntmps12
  go_wp2_with fail
  refine (HV.out _).mono ?_
  rintro e w1 ⟨rfl, q1⟩
  have c3 := (q1.cell (b := w.heap.size) (o := 3) (by simp)).trans (show _ = some (Value.int .i64 S) by simp [go_sem])
  go_wp2_with fail
  go_ret
  exact ⟨rfl, q1.behind _⟩
theorem rpcheck_kind (K L A S : Int) (w : World) (h : K < 1 ∨ 4 < K) :
    Calls Try.prog 12 #[.agg #[.int .i64 K, .int .i64 L, .int .i64 A, .int .i64 S]] w fun e w' => e = .returned (.int .i64 9) ∧ Q w w' := by
  by_cases c : K < 1
  · have d0 : decide (K < 1) = true := by simpa using c
    go_enter Try.func12, Try.ntmps12
    go_wp2_with fail
    go_ret
    exact ⟨rfl, (Q.refl _).alloc _⟩
  · have d0 : decide (K < 1) = false := by simpa using c
    have d1 : decide (4 < K) = true := by simp; omega
    go_enter Try.func12, Try.ntmps12
    go_wp2_with fail
    go_ret
    exact ⟨rfl, (Q.refl _).alloc _⟩
theorem rpcheck_range (K L A S : Int) (w : World) (h0 : 1 ≤ K) (h1 : K ≤ 4) (h : ¬ Prj.Ok K L A S) :
    Calls Try.prog 12 #[.agg #[.int .i64 K, .int .i64 L, .int .i64 A, .int .i64 S]] w fun e w' => e = .returned (.int .i64 2) ∧ Q w w' := by
  rw [Prj.ok_iff] at h
  have d0 : decide (K < 1) = false := by simp; omega
  have d1 : decide (4 < K) = false := by simp; omega
  by_cases v : Prj.vld L A
  · have HV := Lib.hid (fun W => rvalid_yes L A W v)
    by_cases c : S < 1
    · have d2 : decide (S < 1) = true := by simpa using c
      clear h v
      go_enter Try.func12, Try.ntmps12
      go_wp2_with fail
      refine (HV.out _).mono ?_
      rintro e w1 ⟨rfl, q1⟩
      have c3 := (q1.cell (b := w.heap.size) (o := 3) (by simp)).trans (show _ = some (Value.int .i64 S) by simp [go_sem])
      go_wp2_with fail
      go_ret
      exact ⟨rfl, q1.behind _⟩
    · have d2 : decide (S < 1) = false := by simpa using c
      have d3 : decide (524288 < S) = true := by
        simp only [decide_eq_true_eq]
        exact Int.not_le.1 (fun hh => h ⟨⟨h0, h1⟩, v, by omega, hh⟩)
      clear h v
      go_enter Try.func12, Try.ntmps12
      go_wp2_with fail
      refine (HV.out _).mono ?_
      rintro e w1 ⟨rfl, q1⟩
      have c3 := (q1.cell (b := w.heap.size) (o := 3) (by simp)).trans (show _ = some (Value.int .i64 S) by simp [go_sem])
      go_wp2_with fail
      go_ret
      exact ⟨rfl, q1.behind _⟩
  · have HV := Lib.hid (fun W => rvalid_no L A W v)
    clear h v
    go_enter Try.func12, Try.ntmps12
    go_wp2_with fail
    refine (HV.out _).mono ?_
    rintro e w1 ⟨rfl, q1⟩
    go_wp2_with fail
    go_ret
    exact ⟨rfl, q1.behind _⟩

/-- The product that is scaled, as the walk spells it. -/
theorem scaled_any (K L A S n : Int) (w : World) (hs0 : 1 ≤ S) (hs1 : S ≤ 524288) (h0 : -128000000000 ≤ n) (h1 : n ≤ 128000000000) :
    Calls Try.prog 30 #[.agg #[.int .i64 K, .int .i64 L, .int .i64 A, .int .i64 S], .int .i64 n] w fun e w' => e = .returned (.int .i64 (Prj.scl S n)) ∧ Q w w' := by
  obtain ⟨b0, b1⟩ := Prj.scl_in S n hs0 hs1 h0 h1
  have HR := Lib.hid (fun W => round_pos (S * n) 1073741824 (by omega) (by omega) (by omega) (by omega) W)
  unfold Prj.scl
  rw [← rnd_same]
  generalize Num.rnd (S * n) 1073741824 = r at *
  obtain ⟨p, hp⟩ : ∃ p, S * n = p := ⟨_, rfl⟩
  rw [hp] at HR b0 b1
  have e1 : wrap64 (S * n) = p := by rw [hp]; exact IntWalk.wrap64_in _ ⟨by omega, by omega⟩
  clear hp
  go_enter Try.func30, Try.ntmps30
  go_wp2_with fail
  refine (HR.out _).mono ?_
  rintro e w1 ⟨rfl, rfl⟩
  go_wp2_with fail
  go_ret
  exact ⟨rfl, (Q.refl _).alloc _⟩
theorem rscaled_any (K L A S n : Int) (w : World) (hs0 : 1 ≤ S) (hs1 : S ≤ 524288) (h0 : -128000000000 ≤ n) (h1 : n ≤ 128000000000) :
    Calls Try.prog 50 #[.agg #[.int .i64 K, .int .i64 L, .int .i64 A, .int .i64 S], .int .i64 n] w fun e w' => e = .returned (.int .i64 (Prj.scl S n)) ∧ Q w w' := by
  obtain ⟨b0, b1⟩ := Prj.scl_in S n hs0 hs1 h0 h1
  have HR := Lib.hid (fun W => rround_pos (S * n) 1073741824 (by omega) (by omega) (by omega) (by omega) W)
  unfold Prj.scl
  rw [← rnd_same]
  generalize Num.rnd (S * n) 1073741824 = r at *
  obtain ⟨p, hp⟩ : ∃ p, S * n = p := ⟨_, rfl⟩
  rw [hp] at HR b0 b1
  have e1 : wrap64 (S * n) = p := by rw [hp]; exact IntWalk.wrap64_in _ ⟨by omega, by omega⟩
  clear hp
  go_enter Try.func50, Try.ntmps50
  go_wp2_with fail
  refine (HR.out _).mono ?_
  rintro e w1 ⟨rfl, q1⟩
  go_wp2_with fail
  go_ret
  exact ⟨rfl, q1.behind _⟩
namespace Prj
/-- The distance of two numbers. -/
def far (a b : Int) : Int := max (a - b) (b - a)
end Prj
theorem distance_any (a b : Int) (w : World) (h0 : -4611686018427387904 ≤ a - b) (h1 : a - b ≤ 4611686018427387904) :
    Calls Try.prog 32 #[.int .i64 a, .int .i64 b] w fun e w' => e = .returned (.int .i64 (Prj.far a b)) ∧ w = w' := by
  unfold Prj.far
  go_enter Try.func32, Try.ntmps32
  go_wp2_with fail
  go_ret
  exact ⟨rfl, rfl⟩
theorem far_any (a b : Int) (w : World) (h0 : -4611686018427387904 ≤ a - b) (h1 : a - b ≤ 4611686018427387904) :
    Calls Try.prog 35 #[.int .i64 a, .int .i64 b] w fun e w' => e = .returned (.int .i64 (Prj.far a b)) ∧ w = w' := by
  unfold Prj.far
  go_enter Try.func35, Try.ntmps35
  go_wp2_with fail
  go_ret
  exact ⟨rfl, rfl⟩
end Go.Proofs.Ytmagppjmjjkbjaa
