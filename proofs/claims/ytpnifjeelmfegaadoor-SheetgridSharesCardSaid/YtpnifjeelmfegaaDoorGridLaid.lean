/- What the rows' lists say of the table of moves: its cells. -/
import Derived.Test.YtpnifjeelmfegaaDoorRows
import Derived.Test.YtpnifjeelmfegaaDoorGridNb
import Derived.ProofKit
import Derived.OpenShut
namespace Go.Proofs.YtpnifjeelmfegaaDoor
open Go.ChangeShapes Go.WideShapes Go.ChangeAt Go.RowKit
set_option linter.unusedVariables false

theorem gMoves : Tryd.prog.globalNamed "mapsheets/sheetgrid.moves" = some 0 := by kernel_rfl
theorem gMovesType : (Tryd.prog.globals[0]?).map (·.type) = some 58 := by kernel_rfl
theorem cellsPoint : Tryd.prog.cellsOf 23 = 2 := by kernel_rfl
theorem cellsInt : Tryd.prog.cellsOf 3 = 1 := by kernel_rfl

/-- A reading of a point gives its two cells. -/
theorem cells_point {H : Type} {enc : TypeId × Value → H} {w : World} {base : Nat} {sp : Nat → Bool} {held : Bool} {fuel : Nat} {cs : List Value} {a b : Int} {x : DataW H × List MemPlace} (h : DataW.trod enc Tryd.prog w base sp held fuel 23 cs = some x) (hx : x.1 = .agg [.lit (.int .i64 a), .lit (.int .i64 b)]) : cs = [.int .i64 a, .int .i64 b] := by
  obtain ⟨y0, y1, n, e, hl, h0, h1⟩ := trod_struct2 Tryd.underlying23 h
  subst e
  obtain ⟨z0, e0, rfl, _⟩ := DataW.trod_int Tryd.underlying3 h0
  obtain ⟨z1, e1, rfl, _⟩ := DataW.trod_int Tryd.underlying3 h1
  rw [cellsPoint] at hl
  match cs, hl with
  | [c0, c1], _ =>
    simp [cellsInt] at e0 e1 hx
    rw [e0, e1, hx.1, hx.2]

theorem mv_of_laid {W : World} (h : laidMetH Tryd.prog [("math/bits.deBruijn32tab", Rows.laid_math_bits_deBruijn32tab), ("math/bits.deBruijn64tab", Rows.laid_math_bits_deBruijn64tab), ("internal/strconv.uint64pow10", Rows.laid_internal_strconv_uint64pow10), ("mapsheets/sheetgrid.moves", Rows.laid_mapsheets_sheetgrid_moves)] W) : Mv W := by
  have h' : laidMet Tryd.prog [("math/bits.deBruijn32tab", Rows.laid_math_bits_deBruijn32tab), ("math/bits.deBruijn64tab", Rows.laid_math_bits_deBruijn64tab), ("internal/strconv.uint64pow10", Rows.laid_internal_strconv_uint64pow10), ("mapsheets/sheetgrid.moves", Rows.laid_mapsheets_sheetgrid_moves)] W := h
  obtain ⟨ps, h1, _⟩ := h'
  obtain ⟨_, _, _, _, _, _, _, _, _, _, h2, _⟩ := h1
  obtain ⟨_, _, _, _, _, _, _, _, _, _, h3, _⟩ := h2
  obtain ⟨_, _, _, _, _, _, _, _, _, _, h4, _⟩ := h3
  obtain ⟨g', t', cs, fuel, p, q, hg', ht', hvar, hd, _, _⟩ := h4
  obtain rfl := Option.some.inj (gMoves.symm.trans hg')
  obtain rfl := Option.some.inj (gMovesType.symm.trans ht')
  obtain ⟨xs, m, _, hx, hl, hlen, hf⟩ := DataW.trod_array Tryd.underlying58 hd
  have hx1 : xs.map (·.1) = [.agg [.lit (.int .i64 (-1)), .lit (.int .i64 0)], .agg [.lit (.int .i64 0), .lit (.int .i64 (-1))], .agg [.lit (.int .i64 1), .lit (.int .i64 0)], .agg [.lit (.int .i64 0), .lit (.int .i64 1)]] := by
    have := congrArg Prod.fst hx
    simp only [Rows.laid_mapsheets_sheetgrid_moves] at this
    injection this with e
    exact e.symm
  have hc : Tryd.prog.cellsOf 58 = 8 := by kernel_rfl
  rw [hc] at hl
  have key : ∀ i : Nat, i < 4 → ∃ x, xs[i]? = some x ∧ DataW.trod (fun _ => ()) Tryd.prog W 0 (fun _ => true) false m 23 ((cs.toList.drop (i * 2)).take 2) = some x := by
    intro i hi
    have e := hf i hi
    rw [cellsPoint] at e
    exact ⟨xs[i], List.getElem?_eq_getElem (by omega), by rw [e]; exact List.getElem?_eq_getElem (by omega)⟩
  obtain ⟨cs⟩ := cs
  match cs, hl, xs, hlen, hx1 with
  | [a0, a1, a2, a3, a4, a5, a6, a7], _, [x0, x1, x2, x3], _, hx1 =>
    simp only [List.map_cons, List.map_nil, List.cons.injEq, and_true] at hx1
    obtain ⟨y, ey, ty⟩ := key 0 (by omega)
    simp at ey ty; subst ey
    have c0 := cells_point ty hx1.1
    clear ty
    obtain ⟨y, ey, ty⟩ := key 1 (by omega)
    simp at ey ty; subst ey
    have c1 := cells_point ty hx1.2.1
    clear ty
    obtain ⟨y, ey, ty⟩ := key 2 (by omega)
    simp at ey ty; subst ey
    have c2 := cells_point ty hx1.2.2.1
    clear ty
    obtain ⟨y, ey, ty⟩ := key 3 (by omega)
    simp at ey ty; subst ey
    have c3 := cells_point ty hx1.2.2.2
    simp at c0 c1 c2 c3
    obtain ⟨rfl, rfl⟩ := c0
    obtain ⟨rfl, rfl⟩ := c1
    obtain ⟨rfl, rfl⟩ := c2
    obtain ⟨rfl, rfl⟩ := c3
    have hv := fun i => World.var?_cell gMoves hvar i
    exact ⟨by simpa using hv 0, by simpa using hv 1, by simpa using hv 2, by simpa using hv 3, by simpa using hv 4, by simpa using hv 5, by simpa using hv 6, by simpa using hv 7⟩
end Go.Proofs.YtpnifjeelmfegaaDoor
