
/- Contracts of the closures of project.From. -/
import Derived.Test.YtmagppjmjjkbjaaPrjW
namespace Go.Proofs.Ytmagppjmjjkbjaa
open Go.RowKit
set_option linter.unusedVariables false

theorem sn_next {K L A S : Int} {N : Value} {B D : Nat} {w u v : World} (h : (u.cell? ⟨B, 0, none⟩ = some (.int .i64 K) ∧ u.cell? ⟨B, 1, none⟩ = some (.int .i64 L) ∧ u.cell? ⟨B, 2, none⟩ = some (.int .i64 A) ∧ u.cell? ⟨B, 3, none⟩ = some (.int .i64 S) ∧ u.cell? ⟨D, 1, none⟩ = some (N) ∧ Q w u)) (q : Q u v) : (v.cell? ⟨B, 0, none⟩ = some (.int .i64 K) ∧ v.cell? ⟨B, 1, none⟩ = some (.int .i64 L) ∧ v.cell? ⟨B, 2, none⟩ = some (.int .i64 A) ∧ v.cell? ⟨B, 3, none⟩ = some (.int .i64 S) ∧ v.cell? ⟨D, 1, none⟩ = some (N) ∧ Q w v) := by
  obtain ⟨h0, h1, h2, h3, h4, h9⟩ := h
  exact ⟨t_next q h0, t_next q h1, t_next q h2, t_next q h3, t_next q h4, h9.trans q⟩
theorem se_next {K L A S y : Int} {E : Value} {B D G : Nat} {w u v : World} (h : (u.cell? ⟨B, 0, none⟩ = some (.int .i64 K) ∧ u.cell? ⟨B, 1, none⟩ = some (.int .i64 L) ∧ u.cell? ⟨B, 2, none⟩ = some (.int .i64 A) ∧ u.cell? ⟨B, 3, none⟩ = some (.int .i64 S) ∧ u.cell? ⟨D, 0, none⟩ = some (E) ∧ u.cell? ⟨G, 1, none⟩ = some (.int .i64 y) ∧ Q w u)) (q : Q u v) : (v.cell? ⟨B, 0, none⟩ = some (.int .i64 K) ∧ v.cell? ⟨B, 1, none⟩ = some (.int .i64 L) ∧ v.cell? ⟨B, 2, none⟩ = some (.int .i64 A) ∧ v.cell? ⟨B, 3, none⟩ = some (.int .i64 S) ∧ v.cell? ⟨D, 0, none⟩ = some (E) ∧ v.cell? ⟨G, 1, none⟩ = some (.int .i64 y) ∧ Q w v) := by
  obtain ⟨h0, h1, h2, h3, h4, h5, h9⟩ := h
  exact ⟨t_next q h0, t_next q h1, t_next q h2, t_next q h3, t_next q h4, t_next q h5, h9.trans q⟩
theorem sn_q {K L A S : Int} {N : Value} {B D : Nat} {w v : World} (h : (v.cell? ⟨B, 0, none⟩ = some (.int .i64 K) ∧ v.cell? ⟨B, 1, none⟩ = some (.int .i64 L) ∧ v.cell? ⟨B, 2, none⟩ = some (.int .i64 A) ∧ v.cell? ⟨B, 3, none⟩ = some (.int .i64 S) ∧ v.cell? ⟨D, 1, none⟩ = some (N) ∧ Q w v)) : Q w v := h.2.2.2.2.2
theorem se_q {K L A S y : Int} {E : Value} {B D G : Nat} {w v : World} (h : (v.cell? ⟨B, 0, none⟩ = some (.int .i64 K) ∧ v.cell? ⟨B, 1, none⟩ = some (.int .i64 L) ∧ v.cell? ⟨B, 2, none⟩ = some (.int .i64 A) ∧ v.cell? ⟨B, 3, none⟩ = some (.int .i64 S) ∧ v.cell? ⟨D, 0, none⟩ = some (E) ∧ v.cell? ⟨G, 1, none⟩ = some (.int .i64 y) ∧ Q w v)) : Q w v := h.2.2.2.2.2.2

set_option maxHeartbeats 4000000 in
theorem from1_1 (K L A S y v sv : Int) (B D : Nat) (nf : FuncId) (c1 : Value) (w : World) (bn : ∀ (args : Array Value) (w : World), (callFunc nf args).run Try.prog w = .ok (.enter nf args) w)
    (hS : Hid (w.cell? ⟨B, 0, none⟩ = some (.int .i64 K) ∧ w.cell? ⟨B, 1, none⟩ = some (.int .i64 L) ∧ w.cell? ⟨B, 2, none⟩ = some (.int .i64 A) ∧ w.cell? ⟨B, 3, none⟩ = some (.int .i64 S) ∧ w.cell? ⟨D, 1, none⟩ = some (.func (Fn.func nf) #[] #[c1]) ∧ Q w w))
    (HN : Hid (∀ w', Q w w' → Calls Try.prog nf #[.int .i64 y, c1] w' fun e w'' => e = .returned (.int .i64 v) ∧ Q w' w''))
    (HSv : Hid (∀ w, Calls Try.prog 30 #[.agg #[.int .i64 K, .int .i64 L, .int .i64 A, .int .i64 S], .int .i64 v] w fun e w' => e = .returned (.int .i64 sv) ∧ Q w w')) :
    Calls Try.prog 29 #[.int .i64 y, .pointer (some ⟨B, 0, none⟩), .pointer (some ⟨D, 0, none⟩)] w fun e w' => e = .returned (.int .i64 sv) ∧ Q w w' := by
  go_enter Try.func29, Try.ntmps29
  go_wp2_with fail
  go_region_held3 (fun v => (v.cell? ⟨B, 0, none⟩ = some (.int .i64 K) ∧ v.cell? ⟨B, 1, none⟩ = some (.int .i64 L) ∧ v.cell? ⟨B, 2, none⟩ = some (.int .i64 A) ∧ v.cell? ⟨B, 3, none⟩ = some (.int .i64 S) ∧ v.cell? ⟨D, 1, none⟩ = some (.func (Fn.func nf) #[] #[c1]) ∧ Q w v)) ((first | (exact sn_next hS.out ((Q.refl _).drew)) | (refine sn_next ?_ (by assumption); assumption)))
    (first
      | (go_at_call 30; refine (HSv.out _).mono ?_; (rintro e w' ⟨rfl, q⟩))
      | (refine (HN.out _ ?_).mono ?_; (exact sn_q (by assumption)); (rintro e w' ⟨rfl, q⟩)))
  all_goals
    go_wp2_with fail
    go_ret
    exact ⟨rfl, sn_q (by assumption)⟩

set_option maxHeartbeats 4000000 in
theorem from1_2 (K L A S y v sv : Int) (B D : Nat) (nf : FuncId) (c1 c2 : Value) (w : World) (bn : ∀ (args : Array Value) (w : World), (callFunc nf args).run Try.prog w = .ok (.enter nf args) w)
    (hS : Hid (w.cell? ⟨B, 0, none⟩ = some (.int .i64 K) ∧ w.cell? ⟨B, 1, none⟩ = some (.int .i64 L) ∧ w.cell? ⟨B, 2, none⟩ = some (.int .i64 A) ∧ w.cell? ⟨B, 3, none⟩ = some (.int .i64 S) ∧ w.cell? ⟨D, 1, none⟩ = some (.func (Fn.func nf) #[] #[c1, c2]) ∧ Q w w))
    (HN : Hid (∀ w', Q w w' → Calls Try.prog nf #[.int .i64 y, c1, c2] w' fun e w'' => e = .returned (.int .i64 v) ∧ Q w' w''))
    (HSv : Hid (∀ w, Calls Try.prog 30 #[.agg #[.int .i64 K, .int .i64 L, .int .i64 A, .int .i64 S], .int .i64 v] w fun e w' => e = .returned (.int .i64 sv) ∧ Q w w')) :
    Calls Try.prog 29 #[.int .i64 y, .pointer (some ⟨B, 0, none⟩), .pointer (some ⟨D, 0, none⟩)] w fun e w' => e = .returned (.int .i64 sv) ∧ Q w w' := by
  go_enter Try.func29, Try.ntmps29
  go_wp2_with fail
  go_region_held3 (fun v => (v.cell? ⟨B, 0, none⟩ = some (.int .i64 K) ∧ v.cell? ⟨B, 1, none⟩ = some (.int .i64 L) ∧ v.cell? ⟨B, 2, none⟩ = some (.int .i64 A) ∧ v.cell? ⟨B, 3, none⟩ = some (.int .i64 S) ∧ v.cell? ⟨D, 1, none⟩ = some (.func (Fn.func nf) #[] #[c1, c2]) ∧ Q w v)) ((first | (exact sn_next hS.out ((Q.refl _).drew)) | (refine sn_next ?_ (by assumption); assumption)))
    (first
      | (go_at_call 30; refine (HSv.out _).mono ?_; (rintro e w' ⟨rfl, q⟩))
      | (refine (HN.out _ ?_).mono ?_; (exact sn_q (by assumption)); (rintro e w' ⟨rfl, q⟩)))
  all_goals
    go_wp2_with fail
    go_ret
    exact ⟨rfl, sn_q (by assumption)⟩

set_option maxHeartbeats 4000000 in
theorem from2_any (K L A S x y v sv : Int) (B D G : Nat) (ef : FuncId) (c1 : Value) (w : World) (be : ∀ (args : Array Value) (w : World), (callFunc ef args).run Try.prog w = .ok (.enter ef args) w)
    (hS : Hid (w.cell? ⟨B, 0, none⟩ = some (.int .i64 K) ∧ w.cell? ⟨B, 1, none⟩ = some (.int .i64 L) ∧ w.cell? ⟨B, 2, none⟩ = some (.int .i64 A) ∧ w.cell? ⟨B, 3, none⟩ = some (.int .i64 S) ∧ w.cell? ⟨D, 0, none⟩ = some (.func (Fn.func ef) #[] #[c1]) ∧ w.cell? ⟨G, 1, none⟩ = some (.int .i64 y) ∧ Q w w))
    (HE : Hid (∀ w', Q w w' → Calls Try.prog ef #[.int .i64 x, .int .i64 y, c1] w' fun e w'' => e = .returned (.int .i64 v) ∧ Q w' w''))
    (HSv : Hid (∀ w, Calls Try.prog 30 #[.agg #[.int .i64 K, .int .i64 L, .int .i64 A, .int .i64 S], .int .i64 v] w fun e w' => e = .returned (.int .i64 sv) ∧ Q w w')) :
    Calls Try.prog 31 #[.int .i64 x, .pointer (some ⟨B, 0, none⟩), .pointer (some ⟨D, 0, none⟩), .pointer (some ⟨G, 0, none⟩)] w fun e w' => e = .returned (.int .i64 sv) ∧ Q w w' := by
  go_enter Try.func31, Try.ntmps31
  go_wp2_with fail
  go_region_held3 (fun v => (v.cell? ⟨B, 0, none⟩ = some (.int .i64 K) ∧ v.cell? ⟨B, 1, none⟩ = some (.int .i64 L) ∧ v.cell? ⟨B, 2, none⟩ = some (.int .i64 A) ∧ v.cell? ⟨B, 3, none⟩ = some (.int .i64 S) ∧ v.cell? ⟨D, 0, none⟩ = some (.func (Fn.func ef) #[] #[c1]) ∧ v.cell? ⟨G, 1, none⟩ = some (.int .i64 y) ∧ Q w v)) ((first | (exact se_next hS.out ((Q.refl _).drew)) | (refine se_next ?_ (by assumption); assumption)))
    (first
      | (go_at_call 30; refine (HSv.out _).mono ?_; (rintro e w' ⟨rfl, q⟩))
      | (refine (HE.out _ ?_).mono ?_; (exact se_q (by assumption)); (rintro e w' ⟨rfl, q⟩)))
  all_goals
    go_wp2_with fail
    go_ret
    exact ⟨rfl, se_q (by assumption)⟩

theorem body_from1 : Body 29 := fun _ _ => rfl
theorem body_from2 : Body 31 := fun _ _ => rfl
/-- The first closure computes the north of a latitude. -/
theorem from1_north (K L A S : Int) (h : Prj.Ok K L A S) (B D : Nat) (N : Value) (base : Nat) (w0 : World) (hN : NorthOk base w0 N K A) (m : Int) (h0 : -306000 ≤ m) (h1 : m ≤ 306000) (w : World) (q0 : Keep base w0 w)
    (c0 : w.cell? ⟨B, 0, none⟩ = some (.int .i64 K)) (c1 : w.cell? ⟨B, 1, none⟩ = some (.int .i64 L)) (c2 : w.cell? ⟨B, 2, none⟩ = some (.int .i64 A)) (c3 : w.cell? ⟨B, 3, none⟩ = some (.int .i64 S)) (d1 : w.cell? ⟨D, 1, none⟩ = some N) :
    Calls Try.prog 29 #[.int .i64 m, .pointer (some ⟨B, 0, none⟩), .pointer (some ⟨D, 0, none⟩)] w fun e w' => e = .returned (.int .i64 (Prj.north K A S m)) ∧ Q w w' := by
  have nb := Prj.nv_bd K A m h.v.2.2.1 h.v.2.2.2 h0 h1
  have HSv := fun W => scaled_any K L A S _ W h.s0 h.s1 nb.1 nb.2
  rcases hN with ⟨g, k1, rfl, b2, H2⟩ | ⟨g, k1, k2, rfl, b2, H2⟩
  · exact from1_1 K L A S m _ _ B D g k1 w b2 ⟨c0, c1, c2, c3, d1, Q.refl _⟩ (fun w' q => H2 w' (q0.trans (.of q)) m h0 h1) HSv
  · exact from1_2 K L A S m _ _ B D g k1 k2 w b2 ⟨c0, c1, c2, c3, d1, Q.refl _⟩ (fun w' q => H2 w' (q0.trans (.of q)) m h0 h1) HSv
theorem from2_east (K L A S y : Int) (h : Prj.Ok K L A S) (B D G : Nat) (E : Value) (base : Nat) (w0 : World) (hE : EastOk base w0 E K L) (m : Int) (h0 : -648000 ≤ m) (h1 : m ≤ 648000) (hy0 : -306000 ≤ y) (hy1 : y ≤ 306000) (w : World) (q0 : Keep base w0 w)
    (c0 : w.cell? ⟨B, 0, none⟩ = some (.int .i64 K)) (c1 : w.cell? ⟨B, 1, none⟩ = some (.int .i64 L)) (c2 : w.cell? ⟨B, 2, none⟩ = some (.int .i64 A)) (c3 : w.cell? ⟨B, 3, none⟩ = some (.int .i64 S)) (d0 : w.cell? ⟨D, 0, none⟩ = some E) (g1 : w.cell? ⟨G, 1, none⟩ = some (.int .i64 y)) :
    Calls Try.prog 31 #[.int .i64 m, .pointer (some ⟨B, 0, none⟩), .pointer (some ⟨D, 0, none⟩), .pointer (some ⟨G, 0, none⟩)] w fun e w' => e = .returned (.int .i64 (Prj.east K L S m y)) ∧ Q w w' := by
  have eb := Prj.eu_bd K L m y (by have := h.v.2.1; omega) (by have := h.v.1; omega)
  have HSv := fun W => scaled_any K L A S _ W h.s0 h.s1 (show -128000000000 ≤ Prj.eu K L m y by omega) (by omega)
  obtain ⟨f, c, rfl, b, H⟩ := hE
  exact from2_any K L A S m y _ _ B D G f c w b ⟨c0, c1, c2, c3, d0, g1, Q.refl _⟩ (fun w' q => H w' (q0.trans (.of q)) m y ⟨h0, h1, hy0, hy1⟩) HSv
end Go.Proofs.Ytmagppjmjjkbjaa
