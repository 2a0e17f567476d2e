
/- What awake (package mapsheetslaw12) calls, reckoned. -/
import Derived.Test.YtmcobpgdledkdaaDoorSphZ
import Derived.Test.YtmcobpgdledkdaaDoorSphV
import Derived.Test.YtmcobpgdledkdaaDoorSphK
namespace Go.Proofs.YtmcobpgdledkdaaDoor
open Go.RowKit
set_option linter.unusedVariables false

theorem spc1 : Spc ⟨#[52, 56, 45, 49, 50, 45, 51, 48, 78, 32, 49, 54, 45, 50, 50, 45, 48, 48, 69]⟩ 9 := ⟨by decide +kernel, by decide +kernel, by decide +kernel⟩
theorem spc2 : Spc ⟨#[48, 45, 48, 48, 45, 48, 48, 83, 32, 48, 45, 48, 48, 45, 48, 48, 69]⟩ 8 := ⟨by decide +kernel, by decide +kernel, by decide +kernel⟩
theorem spc3 : Spc ⟨#[48, 45, 54, 48, 45, 48, 48, 78, 32, 48, 45, 48, 48, 45, 48, 48, 69]⟩ 8 := ⟨by decide +kernel, by decide +kernel, by decide +kernel⟩
theorem val1 : Sph.pval ((⟨#[52, 56, 45, 49, 50, 45, 51, 48, 78, 32, 49, 54, 45, 50, 50, 45, 48, 48, 69]⟩ : ByteArray).extract 0 9) ((⟨#[52, 56, 45, 49, 50, 45, 51, 48, 78, 32, 49, 54, 45, 50, 50, 45, 48, 48, 69]⟩ : ByteArray).extract (9 + 1) (⟨#[52, 56, 45, 49, 50, 45, 51, 48, 78, 32, 49, 54, 45, 50, 50, 45, 48, 48, 69]⟩ : ByteArray).size) = (58920, 173550, 0) := by decide +kernel
theorem val2 : Sph.pval ((⟨#[48, 45, 48, 48, 45, 48, 48, 83, 32, 48, 45, 48, 48, 45, 48, 48, 69]⟩ : ByteArray).extract 0 8) ((⟨#[48, 45, 48, 48, 45, 48, 48, 83, 32, 48, 45, 48, 48, 45, 48, 48, 69]⟩ : ByteArray).extract (8 + 1) (⟨#[48, 45, 48, 48, 45, 48, 48, 83, 32, 48, 45, 48, 48, 45, 48, 48, 69]⟩ : ByteArray).size) = (0, 0, 20) := by decide +kernel
theorem val3 : Sph.pval ((⟨#[48, 45, 54, 48, 45, 48, 48, 78, 32, 48, 45, 48, 48, 45, 48, 48, 69]⟩ : ByteArray).extract 0 8) ((⟨#[48, 45, 54, 48, 45, 48, 48, 78, 32, 48, 45, 48, 48, 45, 48, 48, 69]⟩ : ByteArray).extract (8 + 1) (⟨#[48, 45, 54, 48, 45, 48, 48, 78, 32, 48, 45, 48, 48, 45, 48, 48, 69]⟩ : ByteArray).size) = (0, 0, 2) := by decide +kernel
theorem ch1 (r : Int) (h : IsSqrt (Sph.D 0 0 648000 0) r) : r = 2147483648 := by
  have e : Sph.D 0 0 648000 0 = 4611686018427387904 := by decide +kernel
  rw [e] at h
  exact h.uniq ⟨by omega, by omega, by omega⟩
theorem ch2 (r : Int) (h : IsSqrt (Sph.D 0 0 324000 0) r) : r = 1518500249 := by
  have e : Sph.D 0 0 324000 0 = 2305843009213693952 := by decide +kernel
  rw [e] at h
  exact h.uniq ⟨by omega, by omega, by omega⟩
theorem prt1 : (⟨(Sph.prt (-1) 0).toArray⟩ : ByteArray) = ⟨#[48, 45, 48, 48, 45, 48, 48, 78, 32, 48, 45, 48, 48, 45, 48, 49, 87]⟩ := by decide +kernel
theorem wrp1 : Sph.wrp 648001 = -647999 := by decide +kernel

theorem aw1 : ∀ w, Calls Tryd.prog 15 #[.string ⟨#[52, 56, 45, 49, 50, 45, 51, 48, 78, 32, 49, 54, 45, 50, 50, 45, 48, 48, 69]⟩] w fun e w' => e = .returned (.tuple #[.agg #[.int .i64 58920, .int .i64 173550], .int .i64 0]) ∧ Q w w' := fun w => by have := sparse_at _ (by decide +kernel) _ spc1 w; rw [val1] at this; exact this
theorem aw2 : ∀ w, Calls Tryd.prog 15 #[.string ⟨#[48, 45, 48, 48, 45, 48, 48, 83, 32, 48, 45, 48, 48, 45, 48, 48, 69]⟩] w fun e w' => e = .returned (.tuple #[.agg #[.int .i64 0, .int .i64 0], .int .i64 20]) ∧ Q w w' := fun w => by have := sparse_at _ (by decide +kernel) _ spc2 w; rw [val2] at this; exact this
theorem aw3 : ∀ w, Calls Tryd.prog 15 #[.string ⟨#[48, 45, 54, 48, 45, 48, 48, 78, 32, 48, 45, 48, 48, 45, 48, 48, 69]⟩] w fun e w' => e = .returned (.tuple #[.agg #[.int .i64 0, .int .i64 0], .int .i64 2]) ∧ Q w w' := fun w => by have := sparse_at _ (by decide +kernel) _ spc3 w; rw [val3] at this; exact this
theorem aw4 : ∀ w, Calls Tryd.prog 17 #[.agg #[.int .i64 (-1), .int .i64 0]] w fun e w' => e = .returned (.string ⟨#[48, 45, 48, 48, 45, 48, 48, 78, 32, 48, 45, 48, 48, 45, 48, 49, 87]⟩) ∧ Q w w' := fun w => by have := sprint_any (-1) 0 w (.inl (by decide +kernel)); rw [prt1] at this; exact this
theorem aw5 : ∀ w, Calls Tryd.prog 12 #[.agg #[.int .i64 648001, .int .i64 5]] w fun e w' => e = .returned (.agg #[.int .i64 (-647999), .int .i64 5]) ∧ Q w w' := fun w => by have := swrap_any 648001 5 w; rw [wrp1] at this; exact this
theorem aw6 : ∀ w, Calls Tryd.prog 10 #[.agg #[.int .i64 648000, .int .i64 0]] w fun e w' => e = .returned (.bool true) ∧ Q w w' := fun w => svalid_yes 648000 0 w (by decide +kernel)
theorem aw7 : ∀ w, Calls Tryd.prog 10 #[.agg #[.int .i64 0, .int .i64 306001]] w fun e w' => e = .returned (.bool false) ∧ Q w w' := fun w => svalid_no 0 306001 w (by decide +kernel)
theorem aw8 : ∀ w, Calls Tryd.prog 19 #[.agg #[.int .i64 0, .int .i64 0], .agg #[.int .i64 648000, .int .i64 0]] w fun e w' => e = .returned (.int .i64 2147483648) ∧ Q w w' := fun w => (schord_ok 0 0 648000 0 w (by decide +kernel) (by decide +kernel)).mono fun e w' ⟨⟨r, h1, h2⟩, q⟩ => ⟨by rw [h1, ch1 r h2], q⟩
theorem aw9 : ∀ w, Calls Tryd.prog 19 #[.agg #[.int .i64 0, .int .i64 0], .agg #[.int .i64 324000, .int .i64 0]] w fun e w' => e = .returned (.int .i64 1518500249) ∧ Q w w' := fun w => (schord_ok 0 0 324000 0 w (by decide +kernel) (by decide +kernel)).mono fun e w' ⟨⟨r, h1, h2⟩, q⟩ => ⟨by rw [h1, ch2 r h2], q⟩
end Go.Proofs.YtmcobpgdledkdaaDoor
