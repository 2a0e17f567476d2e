/-
  NARROWER THAN 'FOR EVERY INPUT', by the rows' own cells (each row's printed sentence says how): GridrefSquares: laid · GridrefParses: laid · GridrefContains: laid · GridrefCovers: laid · GridrefLines: laid · GridrefEnds: laid.
  DERIVED. THE GIVEN ROWS OF THIS SEAT. 6 by the template 'for every input the law returns true; each argument reads behind the call as it read before'; 0 by the template 'total and deterministic' (their statements: YtcaabaijkidmgaaDoorTotals.lean).
  GIVEN WITH THE SEED: the statements are not yours to turn. If you find one false, say at which input.
  Laid BY PROGRAM, IN A SANDBOX (cutbox-rows.mjs): the forced cells as the released guide's own fill.sh prints them over the translation f89aef54dabd1c5f… (all of the seat's roots in one cut). By AI agents, Wed Nov 11 2026. No macro, syntax, notation, axiom, sorry.
-/
import Derived.Test.YtcaabaijkidmgaaDoorChecked
import GoSem.Claim
import GoSem.ClaimJoined
import GoSem.ClaimMapViews
import Derived.JoinedTies
import Derived.KernelRfl
namespace Go.Proofs.YtcaabaijkidmgaaDoor
/- THE CELL 'sum', in the pinned program and in every row, IS THE sha256 OF THE DUMP (.gsa) THAT YtcaabaijkidmgaaDoorProg.lean LOADS. Nothing in Lean hashes anything: it is a label: what it is worth is what the hold of that sum in a sandbox is worth. -/
noncomputable def Tryd.pinned : Pinned := { name := "ytcaabaijkidmgaadoor", sum := "f89aef54dabd1c5fe4e1555427a40a7085fff0bd881c3a06708cee941c42112a", checked := Tryd.checked }
namespace Rows
def none {H : Type} : Left H := { results := [], args := [] }

/- WHAT THE LISTED PACKAGE-LEVEL VARIABLES READ AS WHEN THE CALL BEGINS. Each datum BY PROGRAM (the guide's laid-datum.mjs) off the statement by which the dump's own 'gosem.cut.vars' lays the variable. In a bare row this is a premise. The card (YtcaabaijkidmgaaDoorCards.lean) ties it to the program's text. -/
def laid_math_bits_deBruijn32tab {H : Type} : DataW H := .agg [.lit (.int .u8 0), .lit (.int .u8 1), .lit (.int .u8 28), .lit (.int .u8 2), .lit (.int .u8 29), .lit (.int .u8 14), .lit (.int .u8 24), .lit (.int .u8 3), .lit (.int .u8 30), .lit (.int .u8 22), .lit (.int .u8 20), .lit (.int .u8 15), .lit (.int .u8 25), .lit (.int .u8 17), .lit (.int .u8 4), .lit (.int .u8 8), .lit (.int .u8 31), .lit (.int .u8 27), .lit (.int .u8 13), .lit (.int .u8 23), .lit (.int .u8 21), .lit (.int .u8 19), .lit (.int .u8 16), .lit (.int .u8 7), .lit (.int .u8 26), .lit (.int .u8 12), .lit (.int .u8 18), .lit (.int .u8 6), .lit (.int .u8 11), .lit (.int .u8 5), .lit (.int .u8 10), .lit (.int .u8 9)]
def laid_math_bits_deBruijn64tab {H : Type} : DataW H := .agg [.lit (.int .u8 0), .lit (.int .u8 1), .lit (.int .u8 56), .lit (.int .u8 2), .lit (.int .u8 57), .lit (.int .u8 49), .lit (.int .u8 28), .lit (.int .u8 3), .lit (.int .u8 61), .lit (.int .u8 58), .lit (.int .u8 42), .lit (.int .u8 50), .lit (.int .u8 38), .lit (.int .u8 29), .lit (.int .u8 17), .lit (.int .u8 4), .lit (.int .u8 62), .lit (.int .u8 47), .lit (.int .u8 59), .lit (.int .u8 36), .lit (.int .u8 45), .lit (.int .u8 43), .lit (.int .u8 51), .lit (.int .u8 22), .lit (.int .u8 53), .lit (.int .u8 39), .lit (.int .u8 33), .lit (.int .u8 30), .lit (.int .u8 24), .lit (.int .u8 18), .lit (.int .u8 12), .lit (.int .u8 5), .lit (.int .u8 63), .lit (.int .u8 55), .lit (.int .u8 48), .lit (.int .u8 27), .lit (.int .u8 60), .lit (.int .u8 41), .lit (.int .u8 37), .lit (.int .u8 16), .lit (.int .u8 46), .lit (.int .u8 35), .lit (.int .u8 44), .lit (.int .u8 21), .lit (.int .u8 52), .lit (.int .u8 32), .lit (.int .u8 23), .lit (.int .u8 11), .lit (.int .u8 54), .lit (.int .u8 26), .lit (.int .u8 40), .lit (.int .u8 15), .lit (.int .u8 34), .lit (.int .u8 20), .lit (.int .u8 31), .lit (.int .u8 10), .lit (.int .u8 25), .lit (.int .u8 14), .lit (.int .u8 19), .lit (.int .u8 9), .lit (.int .u8 13), .lit (.int .u8 8), .lit (.int .u8 7), .lit (.int .u8 6)]
def laid_internal_strconv_uint64pow10 {H : Type} : DataW H := .agg [.lit (.int .u64 1), .lit (.int .u64 10), .lit (.int .u64 100), .lit (.int .u64 1000), .lit (.int .u64 10000), .lit (.int .u64 100000), .lit (.int .u64 1000000), .lit (.int .u64 10000000), .lit (.int .u64 100000000), .lit (.int .u64 1000000000), .lit (.int .u64 10000000000), .lit (.int .u64 100000000000), .lit (.int .u64 1000000000000), .lit (.int .u64 10000000000000), .lit (.int .u64 100000000000000), .lit (.int .u64 1000000000000000), .lit (.int .u64 10000000000000000), .lit (.int .u64 100000000000000000), .lit (.int .u64 1000000000000000000), .lit (.int .u64 10000000000000000000)]

/-- 'mapsheetslaw51.GridrefSquares': WHATEVER THE INPUT: true; the input reads as it did. -/
def gridrefSquaresSpec : ChangeSpec := { name := "gridrefSquares", fn := fun _ => fun
  | [d1, d2] => { results := [.lit (.bool true)], args := [d1, d2] }
  | _ => none }
def gridrefSquaresRow : OpenClaim := { program := "ytcaabaijkidmgaadoor", sum := "f89aef54dabd1c5fe4e1555427a40a7085fff0bd881c3a06708cee941c42112a", func := "mapsheets/mapsheetslaw51.GridrefSquares", spec := "gridrefSquares", unfollowed := true, recurses := true, named := ["internal/strconv.uint64pow10", "math/bits.deBruijn32tab", "math/bits.deBruijn64tab", "math/bits.divideError", "math/bits.overflowError"], apart := false, laid := [("math/bits.deBruijn32tab", laid_math_bits_deBruijn32tab), ("math/bits.deBruijn64tab", laid_math_bits_deBruijn64tab), ("internal/strconv.uint64pow10", laid_internal_strconv_uint64pow10)] }
def GridrefSquaresSaid : Prop := gridrefSquaresRow.holds Tryd.pinned (OpenSpec.ofChange gridrefSquaresSpec)

/-- ITS FALSE NEIGHBOUR: 'it returns false'. Refute it at one input. -/
def gridrefSquaresWrong : ChangeSpec := { name := "gridrefSquares", fn := fun _ => fun
  | [d1, d2] => { results := [.lit (.bool false)], args := [d1, d2] }
  | _ => none }
def GridrefSquaresWrongFalsely : Prop := gridrefSquaresRow.holds Tryd.pinned (OpenSpec.ofChange gridrefSquaresWrong)

/-- 'mapsheetslaw51.GridrefParses': WHATEVER THE INPUT: true; the input reads as it did. -/
def gridrefParsesSpec : ChangeSpec := { name := "gridrefParses", fn := fun _ => fun
  | [d1, d2] => { results := [.lit (.bool true)], args := [d1, d2] }
  | _ => none }
def gridrefParsesRow : OpenClaim := { program := "ytcaabaijkidmgaadoor", sum := "f89aef54dabd1c5fe4e1555427a40a7085fff0bd881c3a06708cee941c42112a", func := "mapsheets/mapsheetslaw51.GridrefParses", spec := "gridrefParses", unfollowed := true, recurses := true, named := ["internal/strconv.uint64pow10", "math/bits.deBruijn32tab", "math/bits.deBruijn64tab", "math/bits.divideError", "math/bits.overflowError"], apart := false, laid := [("math/bits.deBruijn32tab", laid_math_bits_deBruijn32tab), ("math/bits.deBruijn64tab", laid_math_bits_deBruijn64tab), ("internal/strconv.uint64pow10", laid_internal_strconv_uint64pow10)] }
def GridrefParsesSaid : Prop := gridrefParsesRow.holds Tryd.pinned (OpenSpec.ofChange gridrefParsesSpec)

/-- ITS FALSE NEIGHBOUR: 'it returns false'. Refute it at one input. -/
def gridrefParsesWrong : ChangeSpec := { name := "gridrefParses", fn := fun _ => fun
  | [d1, d2] => { results := [.lit (.bool false)], args := [d1, d2] }
  | _ => none }
def GridrefParsesWrongFalsely : Prop := gridrefParsesRow.holds Tryd.pinned (OpenSpec.ofChange gridrefParsesWrong)

/-- 'mapsheetslaw51.GridrefContains': WHATEVER THE INPUT: true; the input reads as it did. -/
def gridrefContainsSpec : ChangeSpec := { name := "gridrefContains", fn := fun _ => fun
  | [d1, d2, d3] => { results := [.lit (.bool true)], args := [d1, d2, d3] }
  | _ => none }
def gridrefContainsRow : OpenClaim := { program := "ytcaabaijkidmgaadoor", sum := "f89aef54dabd1c5fe4e1555427a40a7085fff0bd881c3a06708cee941c42112a", func := "mapsheets/mapsheetslaw51.GridrefContains", spec := "gridrefContains", unfollowed := true, recurses := true, named := ["internal/strconv.uint64pow10", "math/bits.deBruijn32tab", "math/bits.deBruijn64tab", "math/bits.divideError", "math/bits.overflowError"], apart := false, laid := [("math/bits.deBruijn32tab", laid_math_bits_deBruijn32tab), ("math/bits.deBruijn64tab", laid_math_bits_deBruijn64tab), ("internal/strconv.uint64pow10", laid_internal_strconv_uint64pow10)] }
def GridrefContainsSaid : Prop := gridrefContainsRow.holds Tryd.pinned (OpenSpec.ofChange gridrefContainsSpec)

/-- ITS FALSE NEIGHBOUR: 'it returns false'. Refute it at one input. -/
def gridrefContainsWrong : ChangeSpec := { name := "gridrefContains", fn := fun _ => fun
  | [d1, d2, d3] => { results := [.lit (.bool false)], args := [d1, d2, d3] }
  | _ => none }
def GridrefContainsWrongFalsely : Prop := gridrefContainsRow.holds Tryd.pinned (OpenSpec.ofChange gridrefContainsWrong)

/-- 'mapsheetslaw51.GridrefCovers': WHATEVER THE INPUT: true; the input reads as it did. -/
def gridrefCoversSpec : ChangeSpec := { name := "gridrefCovers", fn := fun _ => fun
  | [d1, d2] => { results := [.lit (.bool true)], args := [d1, d2] }
  | _ => none }
def gridrefCoversRow : OpenClaim := { program := "ytcaabaijkidmgaadoor", sum := "f89aef54dabd1c5fe4e1555427a40a7085fff0bd881c3a06708cee941c42112a", func := "mapsheets/mapsheetslaw51.GridrefCovers", spec := "gridrefCovers", unfollowed := true, recurses := true, named := ["internal/strconv.uint64pow10", "math/bits.deBruijn32tab", "math/bits.deBruijn64tab", "math/bits.divideError", "math/bits.overflowError"], apart := false, laid := [("math/bits.deBruijn32tab", laid_math_bits_deBruijn32tab), ("math/bits.deBruijn64tab", laid_math_bits_deBruijn64tab), ("internal/strconv.uint64pow10", laid_internal_strconv_uint64pow10)] }
def GridrefCoversSaid : Prop := gridrefCoversRow.holds Tryd.pinned (OpenSpec.ofChange gridrefCoversSpec)

/-- ITS FALSE NEIGHBOUR: 'it returns false'. Refute it at one input. -/
def gridrefCoversWrong : ChangeSpec := { name := "gridrefCovers", fn := fun _ => fun
  | [d1, d2] => { results := [.lit (.bool false)], args := [d1, d2] }
  | _ => none }
def GridrefCoversWrongFalsely : Prop := gridrefCoversRow.holds Tryd.pinned (OpenSpec.ofChange gridrefCoversWrong)

/-- 'mapsheetslaw51.GridrefLines': WHATEVER THE INPUT: true; the input reads as it did. -/
def gridrefLinesSpec : ChangeSpec := { name := "gridrefLines", fn := fun _ => fun
  | [d1, d2] => { results := [.lit (.bool true)], args := [d1, d2] }
  | _ => none }
def gridrefLinesRow : OpenClaim := { program := "ytcaabaijkidmgaadoor", sum := "f89aef54dabd1c5fe4e1555427a40a7085fff0bd881c3a06708cee941c42112a", func := "mapsheets/mapsheetslaw51.GridrefLines", spec := "gridrefLines", unfollowed := true, recurses := true, named := ["math/bits.divideError", "math/bits.overflowError", "internal/strconv.uint64pow10", "math/bits.deBruijn32tab", "math/bits.deBruijn64tab"], apart := false, laid := [("math/bits.deBruijn32tab", laid_math_bits_deBruijn32tab), ("math/bits.deBruijn64tab", laid_math_bits_deBruijn64tab), ("internal/strconv.uint64pow10", laid_internal_strconv_uint64pow10)] }
def GridrefLinesSaid : Prop := gridrefLinesRow.holds Tryd.pinned (OpenSpec.ofChange gridrefLinesSpec)

/-- ITS FALSE NEIGHBOUR: 'it returns false'. Refute it at one input. -/
def gridrefLinesWrong : ChangeSpec := { name := "gridrefLines", fn := fun _ => fun
  | [d1, d2] => { results := [.lit (.bool false)], args := [d1, d2] }
  | _ => none }
def GridrefLinesWrongFalsely : Prop := gridrefLinesRow.holds Tryd.pinned (OpenSpec.ofChange gridrefLinesWrong)

/-- 'mapsheetslaw51.GridrefEnds': WHATEVER THE INPUT: true; the input reads as it did. -/
def gridrefEndsSpec : ChangeSpec := { name := "gridrefEnds", fn := fun _ => fun
  | [d1, d2] => { results := [.lit (.bool true)], args := [d1, d2] }
  | _ => none }
def gridrefEndsRow : OpenClaim := { program := "ytcaabaijkidmgaadoor", sum := "f89aef54dabd1c5fe4e1555427a40a7085fff0bd881c3a06708cee941c42112a", func := "mapsheets/mapsheetslaw51.GridrefEnds", spec := "gridrefEnds", unfollowed := true, recurses := true, named := ["math/bits.divideError", "math/bits.overflowError", "internal/strconv.uint64pow10", "math/bits.deBruijn32tab", "math/bits.deBruijn64tab"], apart := false, laid := [("math/bits.deBruijn32tab", laid_math_bits_deBruijn32tab), ("math/bits.deBruijn64tab", laid_math_bits_deBruijn64tab), ("internal/strconv.uint64pow10", laid_internal_strconv_uint64pow10)] }
def GridrefEndsSaid : Prop := gridrefEndsRow.holds Tryd.pinned (OpenSpec.ofChange gridrefEndsSpec)

/-- ITS FALSE NEIGHBOUR: 'it returns false'. Refute it at one input. -/
def gridrefEndsWrong : ChangeSpec := { name := "gridrefEnds", fn := fun _ => fun
  | [d1, d2] => { results := [.lit (.bool false)], args := [d1, d2] }
  | _ => none }
def GridrefEndsWrongFalsely : Prop := gridrefEndsRow.holds Tryd.pinned (OpenSpec.ofChange gridrefEndsWrong)

/- THE SECOND FORM. 'bulk': how many values and letters a reading holds, each counted each time it is reached (what is shared counts as often as it is met; a slice's spare places count too). A statement '..UptoSaid' is the law's where the arguments, and the package variables that the reading takes, are together of bulk at most 1048576: NARROWER than '..Said'. Prove '..Said' where nothing that the law and all that it calls make is longer than what came in: it says more and counts as full. Else prove '..UptoSaid'. A law counts once. -/
mutual
def uptoBulk {H : Type} : DataW H → Nat
  | .lit (.string bytes) => bytes.length + 1
  | .lit _ => 1
  | .nil => 1
  | .ptr d => uptoBulk d + 1
  | .slice elems spare => uptoBulkAll elems + uptoBulkAll spare + 1
  | .agg parts => uptoBulkAll parts + 1
  | .iface _ d => uptoBulk d + 1
  | .map entries => uptoBulkEntries entries + 1
  | .held _ => 1
def uptoBulkAll {H : Type} : List (DataW H) → Nat
  | [] => 0
  | d :: r => uptoBulk d + uptoBulkAll r
def uptoBulkEntries {H : Type} : List (Lit × DataW H) → Nat
  | [] => 0
  | x :: r => uptoBulkEntry x + uptoBulkEntries r
def uptoBulkEntry {H : Type} : Lit × DataW H → Nat
  | (.string bytes, d) => bytes.length + uptoBulk d + 1
  | (_, d) => uptoBulk d + 1
 end
def uptoSmall : (H : Type) → List (DataW H) → Bool := fun _ ds => decide (uptoBulkAll ds ≤ 1048576)
def OpenSpec.upto (s : _root_.Go.ChangeSpec) : _root_.Go.OpenSpec := { _root_.Go.OpenSpec.ofChange s with cond := some uptoSmall }

/-- 'mapsheetslaw51.GridrefSquares', WHERE WHAT IT READS IS OF BULK AT MOST 1048576: true; the input reads as it did. -/
def gridrefSquaresUptoRow : OpenClaim := { program := "ytcaabaijkidmgaadoor", sum := "f89aef54dabd1c5fe4e1555427a40a7085fff0bd881c3a06708cee941c42112a", func := "mapsheets/mapsheetslaw51.GridrefSquares", spec := "gridrefSquares", unfollowed := true, recurses := true, named := ["internal/strconv.uint64pow10", "math/bits.deBruijn32tab", "math/bits.deBruijn64tab", "math/bits.divideError", "math/bits.overflowError"], apart := false, laid := [("math/bits.deBruijn32tab", laid_math_bits_deBruijn32tab), ("math/bits.deBruijn64tab", laid_math_bits_deBruijn64tab), ("internal/strconv.uint64pow10", laid_internal_strconv_uint64pow10)], narrowed := true }
def GridrefSquaresUptoSaid : Prop := gridrefSquaresUptoRow.holds Tryd.pinned (OpenSpec.upto gridrefSquaresSpec)

/-- 'mapsheetslaw51.GridrefParses', WHERE WHAT IT READS IS OF BULK AT MOST 1048576: true; the input reads as it did. -/
def gridrefParsesUptoRow : OpenClaim := { program := "ytcaabaijkidmgaadoor", sum := "f89aef54dabd1c5fe4e1555427a40a7085fff0bd881c3a06708cee941c42112a", func := "mapsheets/mapsheetslaw51.GridrefParses", spec := "gridrefParses", unfollowed := true, recurses := true, named := ["internal/strconv.uint64pow10", "math/bits.deBruijn32tab", "math/bits.deBruijn64tab", "math/bits.divideError", "math/bits.overflowError"], apart := false, laid := [("math/bits.deBruijn32tab", laid_math_bits_deBruijn32tab), ("math/bits.deBruijn64tab", laid_math_bits_deBruijn64tab), ("internal/strconv.uint64pow10", laid_internal_strconv_uint64pow10)], narrowed := true }
def GridrefParsesUptoSaid : Prop := gridrefParsesUptoRow.holds Tryd.pinned (OpenSpec.upto gridrefParsesSpec)

/-- 'mapsheetslaw51.GridrefContains', WHERE WHAT IT READS IS OF BULK AT MOST 1048576: true; the input reads as it did. -/
def gridrefContainsUptoRow : OpenClaim := { program := "ytcaabaijkidmgaadoor", sum := "f89aef54dabd1c5fe4e1555427a40a7085fff0bd881c3a06708cee941c42112a", func := "mapsheets/mapsheetslaw51.GridrefContains", spec := "gridrefContains", unfollowed := true, recurses := true, named := ["internal/strconv.uint64pow10", "math/bits.deBruijn32tab", "math/bits.deBruijn64tab", "math/bits.divideError", "math/bits.overflowError"], apart := false, laid := [("math/bits.deBruijn32tab", laid_math_bits_deBruijn32tab), ("math/bits.deBruijn64tab", laid_math_bits_deBruijn64tab), ("internal/strconv.uint64pow10", laid_internal_strconv_uint64pow10)], narrowed := true }
def GridrefContainsUptoSaid : Prop := gridrefContainsUptoRow.holds Tryd.pinned (OpenSpec.upto gridrefContainsSpec)

/-- 'mapsheetslaw51.GridrefCovers', WHERE WHAT IT READS IS OF BULK AT MOST 1048576: true; the input reads as it did. -/
def gridrefCoversUptoRow : OpenClaim := { program := "ytcaabaijkidmgaadoor", sum := "f89aef54dabd1c5fe4e1555427a40a7085fff0bd881c3a06708cee941c42112a", func := "mapsheets/mapsheetslaw51.GridrefCovers", spec := "gridrefCovers", unfollowed := true, recurses := true, named := ["internal/strconv.uint64pow10", "math/bits.deBruijn32tab", "math/bits.deBruijn64tab", "math/bits.divideError", "math/bits.overflowError"], apart := false, laid := [("math/bits.deBruijn32tab", laid_math_bits_deBruijn32tab), ("math/bits.deBruijn64tab", laid_math_bits_deBruijn64tab), ("internal/strconv.uint64pow10", laid_internal_strconv_uint64pow10)], narrowed := true }
def GridrefCoversUptoSaid : Prop := gridrefCoversUptoRow.holds Tryd.pinned (OpenSpec.upto gridrefCoversSpec)

/-- 'mapsheetslaw51.GridrefLines', WHERE WHAT IT READS IS OF BULK AT MOST 1048576: true; the input reads as it did. -/
def gridrefLinesUptoRow : OpenClaim := { program := "ytcaabaijkidmgaadoor", sum := "f89aef54dabd1c5fe4e1555427a40a7085fff0bd881c3a06708cee941c42112a", func := "mapsheets/mapsheetslaw51.GridrefLines", spec := "gridrefLines", unfollowed := true, recurses := true, named := ["math/bits.divideError", "math/bits.overflowError", "internal/strconv.uint64pow10", "math/bits.deBruijn32tab", "math/bits.deBruijn64tab"], apart := false, laid := [("math/bits.deBruijn32tab", laid_math_bits_deBruijn32tab), ("math/bits.deBruijn64tab", laid_math_bits_deBruijn64tab), ("internal/strconv.uint64pow10", laid_internal_strconv_uint64pow10)], narrowed := true }
def GridrefLinesUptoSaid : Prop := gridrefLinesUptoRow.holds Tryd.pinned (OpenSpec.upto gridrefLinesSpec)

/-- 'mapsheetslaw51.GridrefEnds', WHERE WHAT IT READS IS OF BULK AT MOST 1048576: true; the input reads as it did. -/
def gridrefEndsUptoRow : OpenClaim := { program := "ytcaabaijkidmgaadoor", sum := "f89aef54dabd1c5fe4e1555427a40a7085fff0bd881c3a06708cee941c42112a", func := "mapsheets/mapsheetslaw51.GridrefEnds", spec := "gridrefEnds", unfollowed := true, recurses := true, named := ["math/bits.divideError", "math/bits.overflowError", "internal/strconv.uint64pow10", "math/bits.deBruijn32tab", "math/bits.deBruijn64tab"], apart := false, laid := [("math/bits.deBruijn32tab", laid_math_bits_deBruijn32tab), ("math/bits.deBruijn64tab", laid_math_bits_deBruijn64tab), ("internal/strconv.uint64pow10", laid_internal_strconv_uint64pow10)], narrowed := true }
def GridrefEndsUptoSaid : Prop := gridrefEndsUptoRow.holds Tryd.pinned (OpenSpec.upto gridrefEndsSpec)

end Rows
end Go.Proofs.YtcaabaijkidmgaaDoor
