/- What the rows' lists say of the table of the powers of ten. -/
import Derived.Test.YtmcobpgdledkdaaDoorRows
import Derived.Test.YtmcobpgdledkdaaDoorSphV
import Derived.Lib.LaidTab
import Derived.ProofKit
import Derived.OpenShut
namespace Go.Proofs.YtmcobpgdledkdaaDoor
open Go.ChangeShapes Go.WideShapes Go.ChangeAt Go.RowKit
set_option linter.unusedVariables false

/-- The table of the powers of ten stands. -/
def Tens (w : World) : Prop := ∀ n, Ten n w
theorem gTenType : (Tryd.prog.globals[1]?).map (·.type) = some 85 := by kernel_rfl
theorem tab_data {H : Type} : (Rows.laid_internal_strconv_uint64pow10 : DataW H) = Lib.tabData .u64 Lib.pow10Tab := by rfl
theorem mv_of_laid {W : World} (h : laidMetH Tryd.prog [("math/bits.deBruijn32tab", Rows.laid_math_bits_deBruijn32tab), ("math/bits.deBruijn64tab", Rows.laid_math_bits_deBruijn64tab), ("internal/strconv.uint64pow10", Rows.laid_internal_strconv_uint64pow10)] W) : Tens W := by
  have h' : laidMet Tryd.prog [("math/bits.deBruijn32tab", Rows.laid_math_bits_deBruijn32tab), ("math/bits.deBruijn64tab", Rows.laid_math_bits_deBruijn64tab), ("internal/strconv.uint64pow10", Rows.laid_internal_strconv_uint64pow10)] W := h
  obtain ⟨ps, h1, _⟩ := h'
  obtain ⟨_, _, _, _, _, _, _, _, _, _, h2, _⟩ := h1
  obtain ⟨_, _, _, _, _, _, _, _, _, _, h3, _⟩ := h2
  obtain ⟨g', t', cs, fuel, p, q, hg', ht', hvar, hd, _, _⟩ := h3
  obtain rfl := Option.some.inj (gTen.symm.trans hg')
  obtain rfl := Option.some.inj (gTenType.symm.trans ht')
  intro n
  right
  unfold Lib.TabIs
  rw [tab_data] at hd
  rw [hvar, ← Lib.cells_of_tab Tryd.underlying85 Tryd.underlying58 (by kernel_rfl) (by kernel_rfl) hd]
end Go.Proofs.YtmcobpgdledkdaaDoor
