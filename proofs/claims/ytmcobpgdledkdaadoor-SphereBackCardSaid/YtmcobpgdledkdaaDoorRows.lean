/-
  NARROWER THAN 'FOR EVERY INPUT', by the rows' own cells (each row's printed sentence says how): SpherePlaces: laid · SphereWraps: laid · SphereParses: laid · SpherePrints: laid · SphereBack: laid · SphereChords: laid · SphereTriangle: laid.
  DERIVED. THE GIVEN ROWS OF THIS SEAT. 7 by the template 'for every input the law returns true; each argument reads behind the call as it read before'; 0 by the template 'total and deterministic' (their statements: YtmcobpgdledkdaaDoorTotals.lean).
  GIVEN WITH THE SEED: the statements are not yours to turn. If you find one false, say at which input.
  Laid BY PROGRAM, IN A SANDBOX (cutbox-rows.mjs): the forced cells as the released guide's own fill.sh prints them over the translation ba50139db23977ce… (all of the seat's roots in one cut). By AI agents, Wed Nov 11 2026. No macro, syntax, notation, axiom, sorry.
-/
import Derived.Test.YtmcobpgdledkdaaDoorChecked
import GoSem.Claim
import GoSem.ClaimJoined
import GoSem.ClaimMapViews
import Derived.JoinedTies
import Derived.KernelRfl
namespace Go.Proofs.YtmcobpgdledkdaaDoor
/- THE CELL 'sum', in the pinned program and in every row, IS THE sha256 OF THE DUMP (.gsa) THAT YtmcobpgdledkdaaDoorProg.lean LOADS. Nothing in Lean hashes anything: it is a label: what it is worth is what the hold of that sum in a sandbox is worth. -/
noncomputable def Tryd.pinned : Pinned := { name := "ytmcobpgdledkdaadoor", sum := "ba50139db23977ce02b41a40bd838d9d75d3d7bd0e423c8d6348a3982b2fa13d", checked := Tryd.checked }
namespace Rows
def none {H : Type} : Left H := { results := [], args := [] }

/- WHAT THE LISTED PACKAGE-LEVEL VARIABLES READ AS WHEN THE CALL BEGINS. Each datum BY PROGRAM (the guide's laid-datum.mjs) off the statement by which the dump's own 'gosem.cut.vars' lays the variable. In a bare row this is a premise. The card (YtmcobpgdledkdaaDoorCards.lean) ties it to the program's text. -/
def laid_math_bits_deBruijn32tab {H : Type} : DataW H := .agg [.lit (.int .u8 0), .lit (.int .u8 1), .lit (.int .u8 28), .lit (.int .u8 2), .lit (.int .u8 29), .lit (.int .u8 14), .lit (.int .u8 24), .lit (.int .u8 3), .lit (.int .u8 30), .lit (.int .u8 22), .lit (.int .u8 20), .lit (.int .u8 15), .lit (.int .u8 25), .lit (.int .u8 17), .lit (.int .u8 4), .lit (.int .u8 8), .lit (.int .u8 31), .lit (.int .u8 27), .lit (.int .u8 13), .lit (.int .u8 23), .lit (.int .u8 21), .lit (.int .u8 19), .lit (.int .u8 16), .lit (.int .u8 7), .lit (.int .u8 26), .lit (.int .u8 12), .lit (.int .u8 18), .lit (.int .u8 6), .lit (.int .u8 11), .lit (.int .u8 5), .lit (.int .u8 10), .lit (.int .u8 9)]
def laid_math_bits_deBruijn64tab {H : Type} : DataW H := .agg [.lit (.int .u8 0), .lit (.int .u8 1), .lit (.int .u8 56), .lit (.int .u8 2), .lit (.int .u8 57), .lit (.int .u8 49), .lit (.int .u8 28), .lit (.int .u8 3), .lit (.int .u8 61), .lit (.int .u8 58), .lit (.int .u8 42), .lit (.int .u8 50), .lit (.int .u8 38), .lit (.int .u8 29), .lit (.int .u8 17), .lit (.int .u8 4), .lit (.int .u8 62), .lit (.int .u8 47), .lit (.int .u8 59), .lit (.int .u8 36), .lit (.int .u8 45), .lit (.int .u8 43), .lit (.int .u8 51), .lit (.int .u8 22), .lit (.int .u8 53), .lit (.int .u8 39), .lit (.int .u8 33), .lit (.int .u8 30), .lit (.int .u8 24), .lit (.int .u8 18), .lit (.int .u8 12), .lit (.int .u8 5), .lit (.int .u8 63), .lit (.int .u8 55), .lit (.int .u8 48), .lit (.int .u8 27), .lit (.int .u8 60), .lit (.int .u8 41), .lit (.int .u8 37), .lit (.int .u8 16), .lit (.int .u8 46), .lit (.int .u8 35), .lit (.int .u8 44), .lit (.int .u8 21), .lit (.int .u8 52), .lit (.int .u8 32), .lit (.int .u8 23), .lit (.int .u8 11), .lit (.int .u8 54), .lit (.int .u8 26), .lit (.int .u8 40), .lit (.int .u8 15), .lit (.int .u8 34), .lit (.int .u8 20), .lit (.int .u8 31), .lit (.int .u8 10), .lit (.int .u8 25), .lit (.int .u8 14), .lit (.int .u8 19), .lit (.int .u8 9), .lit (.int .u8 13), .lit (.int .u8 8), .lit (.int .u8 7), .lit (.int .u8 6)]
def laid_internal_strconv_uint64pow10 {H : Type} : DataW H := .agg [.lit (.int .u64 1), .lit (.int .u64 10), .lit (.int .u64 100), .lit (.int .u64 1000), .lit (.int .u64 10000), .lit (.int .u64 100000), .lit (.int .u64 1000000), .lit (.int .u64 10000000), .lit (.int .u64 100000000), .lit (.int .u64 1000000000), .lit (.int .u64 10000000000), .lit (.int .u64 100000000000), .lit (.int .u64 1000000000000), .lit (.int .u64 10000000000000), .lit (.int .u64 100000000000000), .lit (.int .u64 1000000000000000), .lit (.int .u64 10000000000000000), .lit (.int .u64 100000000000000000), .lit (.int .u64 1000000000000000000), .lit (.int .u64 10000000000000000000)]

/-- 'mapsheetslaw12.SpherePlaces': WHATEVER THE INPUT: true; the input reads as it did. -/
def spherePlacesSpec : ChangeSpec := { name := "spherePlaces", fn := fun _ => fun
  | [d] => { results := [.lit (.bool true)], args := [d] }
  | _ => none }
def spherePlacesRow : OpenClaim := { program := "ytmcobpgdledkdaadoor", sum := "ba50139db23977ce02b41a40bd838d9d75d3d7bd0e423c8d6348a3982b2fa13d", func := "mapsheets/mapsheetslaw12.SpherePlaces", spec := "spherePlaces", inPlace := ["internal/bytealg.IndexByteString", "internal/bytealg.IndexString"], unfollowed := true, recurses := true, named := ["internal/bytealg.MaxLen", "internal/strconv.uint64pow10", "math/bits.deBruijn32tab", "math/bits.deBruijn64tab", "math/bits.divideError", "math/bits.overflowError"], apart := false, laid := [("math/bits.deBruijn32tab", laid_math_bits_deBruijn32tab), ("math/bits.deBruijn64tab", laid_math_bits_deBruijn64tab), ("internal/strconv.uint64pow10", laid_internal_strconv_uint64pow10)] }
def SpherePlacesSaid : Prop := spherePlacesRow.holds Tryd.pinned (OpenSpec.ofChange spherePlacesSpec)

/-- ITS FALSE NEIGHBOUR: 'it returns false'. Refute it at one input. -/
def spherePlacesWrong : ChangeSpec := { name := "spherePlaces", fn := fun _ => fun
  | [d] => { results := [.lit (.bool false)], args := [d] }
  | _ => none }
def SpherePlacesWrongFalsely : Prop := spherePlacesRow.holds Tryd.pinned (OpenSpec.ofChange spherePlacesWrong)

/-- 'mapsheetslaw12.SphereWraps': WHATEVER THE INPUT: true; the input reads as it did. -/
def sphereWrapsSpec : ChangeSpec := { name := "sphereWraps", fn := fun _ => fun
  | [d] => { results := [.lit (.bool true)], args := [d] }
  | _ => none }
def sphereWrapsRow : OpenClaim := { program := "ytmcobpgdledkdaadoor", sum := "ba50139db23977ce02b41a40bd838d9d75d3d7bd0e423c8d6348a3982b2fa13d", func := "mapsheets/mapsheetslaw12.SphereWraps", spec := "sphereWraps", inPlace := ["internal/bytealg.IndexByteString", "internal/bytealg.IndexString"], unfollowed := true, recurses := true, named := ["internal/bytealg.MaxLen", "internal/strconv.uint64pow10", "math/bits.deBruijn32tab", "math/bits.deBruijn64tab", "math/bits.divideError", "math/bits.overflowError"], apart := false, laid := [("math/bits.deBruijn32tab", laid_math_bits_deBruijn32tab), ("math/bits.deBruijn64tab", laid_math_bits_deBruijn64tab), ("internal/strconv.uint64pow10", laid_internal_strconv_uint64pow10)] }
def SphereWrapsSaid : Prop := sphereWrapsRow.holds Tryd.pinned (OpenSpec.ofChange sphereWrapsSpec)

/-- ITS FALSE NEIGHBOUR: 'it returns false'. Refute it at one input. -/
def sphereWrapsWrong : ChangeSpec := { name := "sphereWraps", fn := fun _ => fun
  | [d] => { results := [.lit (.bool false)], args := [d] }
  | _ => none }
def SphereWrapsWrongFalsely : Prop := sphereWrapsRow.holds Tryd.pinned (OpenSpec.ofChange sphereWrapsWrong)

/-- 'mapsheetslaw12.SphereParses': WHATEVER THE INPUT: true; the input reads as it did. -/
def sphereParsesSpec : ChangeSpec := { name := "sphereParses", fn := fun _ => fun
  | [d] => { results := [.lit (.bool true)], args := [d] }
  | _ => none }
def sphereParsesRow : OpenClaim := { program := "ytmcobpgdledkdaadoor", sum := "ba50139db23977ce02b41a40bd838d9d75d3d7bd0e423c8d6348a3982b2fa13d", func := "mapsheets/mapsheetslaw12.SphereParses", spec := "sphereParses", inPlace := ["internal/bytealg.IndexByteString", "internal/bytealg.IndexString"], unfollowed := true, recurses := true, named := ["internal/bytealg.MaxLen", "internal/strconv.uint64pow10", "math/bits.deBruijn32tab", "math/bits.deBruijn64tab", "math/bits.divideError", "math/bits.overflowError"], apart := false, laid := [("math/bits.deBruijn32tab", laid_math_bits_deBruijn32tab), ("math/bits.deBruijn64tab", laid_math_bits_deBruijn64tab), ("internal/strconv.uint64pow10", laid_internal_strconv_uint64pow10)] }
def SphereParsesSaid : Prop := sphereParsesRow.holds Tryd.pinned (OpenSpec.ofChange sphereParsesSpec)

/-- ITS FALSE NEIGHBOUR: 'it returns false'. Refute it at one input. -/
def sphereParsesWrong : ChangeSpec := { name := "sphereParses", fn := fun _ => fun
  | [d] => { results := [.lit (.bool false)], args := [d] }
  | _ => none }
def SphereParsesWrongFalsely : Prop := sphereParsesRow.holds Tryd.pinned (OpenSpec.ofChange sphereParsesWrong)

/-- 'mapsheetslaw12.SpherePrints': WHATEVER THE INPUT: true; the input reads as it did. -/
def spherePrintsSpec : ChangeSpec := { name := "spherePrints", fn := fun _ => fun
  | [d] => { results := [.lit (.bool true)], args := [d] }
  | _ => none }
def spherePrintsRow : OpenClaim := { program := "ytmcobpgdledkdaadoor", sum := "ba50139db23977ce02b41a40bd838d9d75d3d7bd0e423c8d6348a3982b2fa13d", func := "mapsheets/mapsheetslaw12.SpherePrints", spec := "spherePrints", inPlace := ["internal/bytealg.IndexByteString", "internal/bytealg.IndexString"], unfollowed := true, recurses := true, named := ["internal/strconv.uint64pow10", "math/bits.deBruijn32tab", "math/bits.deBruijn64tab", "internal/bytealg.MaxLen", "math/bits.divideError", "math/bits.overflowError"], apart := false, laid := [("math/bits.deBruijn32tab", laid_math_bits_deBruijn32tab), ("math/bits.deBruijn64tab", laid_math_bits_deBruijn64tab), ("internal/strconv.uint64pow10", laid_internal_strconv_uint64pow10)] }
def SpherePrintsSaid : Prop := spherePrintsRow.holds Tryd.pinned (OpenSpec.ofChange spherePrintsSpec)

/-- ITS FALSE NEIGHBOUR: 'it returns false'. Refute it at one input. -/
def spherePrintsWrong : ChangeSpec := { name := "spherePrints", fn := fun _ => fun
  | [d] => { results := [.lit (.bool false)], args := [d] }
  | _ => none }
def SpherePrintsWrongFalsely : Prop := spherePrintsRow.holds Tryd.pinned (OpenSpec.ofChange spherePrintsWrong)

/-- 'mapsheetslaw12.SphereBack': WHATEVER THE INPUT: true; the input reads as it did. -/
def sphereBackSpec : ChangeSpec := { name := "sphereBack", fn := fun _ => fun
  | [d1, d2] => { results := [.lit (.bool true)], args := [d1, d2] }
  | _ => none }
def sphereBackRow : OpenClaim := { program := "ytmcobpgdledkdaadoor", sum := "ba50139db23977ce02b41a40bd838d9d75d3d7bd0e423c8d6348a3982b2fa13d", func := "mapsheets/mapsheetslaw12.SphereBack", spec := "sphereBack", inPlace := ["internal/bytealg.IndexByteString", "internal/bytealg.IndexString"], unfollowed := true, recurses := true, named := ["internal/strconv.uint64pow10", "math/bits.deBruijn32tab", "math/bits.deBruijn64tab", "internal/bytealg.MaxLen", "math/bits.divideError", "math/bits.overflowError"], apart := false, laid := [("math/bits.deBruijn32tab", laid_math_bits_deBruijn32tab), ("math/bits.deBruijn64tab", laid_math_bits_deBruijn64tab), ("internal/strconv.uint64pow10", laid_internal_strconv_uint64pow10)] }
def SphereBackSaid : Prop := sphereBackRow.holds Tryd.pinned (OpenSpec.ofChange sphereBackSpec)

/-- ITS FALSE NEIGHBOUR: 'it returns false'. Refute it at one input. -/
def sphereBackWrong : ChangeSpec := { name := "sphereBack", fn := fun _ => fun
  | [d1, d2] => { results := [.lit (.bool false)], args := [d1, d2] }
  | _ => none }
def SphereBackWrongFalsely : Prop := sphereBackRow.holds Tryd.pinned (OpenSpec.ofChange sphereBackWrong)

/-- 'mapsheetslaw12.SphereChords': WHATEVER THE INPUT: true; the input reads as it did. -/
def sphereChordsSpec : ChangeSpec := { name := "sphereChords", fn := fun _ => fun
  | [d1, d2] => { results := [.lit (.bool true)], args := [d1, d2] }
  | _ => none }
def sphereChordsRow : OpenClaim := { program := "ytmcobpgdledkdaadoor", sum := "ba50139db23977ce02b41a40bd838d9d75d3d7bd0e423c8d6348a3982b2fa13d", func := "mapsheets/mapsheetslaw12.SphereChords", spec := "sphereChords", inPlace := ["internal/bytealg.IndexByteString", "internal/bytealg.IndexString"], unfollowed := true, recurses := true, named := ["math/bits.divideError", "math/bits.overflowError", "internal/bytealg.MaxLen", "internal/strconv.uint64pow10", "math/bits.deBruijn32tab", "math/bits.deBruijn64tab"], apart := false, laid := [("math/bits.deBruijn32tab", laid_math_bits_deBruijn32tab), ("math/bits.deBruijn64tab", laid_math_bits_deBruijn64tab), ("internal/strconv.uint64pow10", laid_internal_strconv_uint64pow10)] }
def SphereChordsSaid : Prop := sphereChordsRow.holds Tryd.pinned (OpenSpec.ofChange sphereChordsSpec)

/-- ITS FALSE NEIGHBOUR: 'it returns false'. Refute it at one input. -/
def sphereChordsWrong : ChangeSpec := { name := "sphereChords", fn := fun _ => fun
  | [d1, d2] => { results := [.lit (.bool false)], args := [d1, d2] }
  | _ => none }
def SphereChordsWrongFalsely : Prop := sphereChordsRow.holds Tryd.pinned (OpenSpec.ofChange sphereChordsWrong)

/-- 'mapsheetslaw12.SphereTriangle': WHATEVER THE INPUT: true; the input reads as it did. -/
def sphereTriangleSpec : ChangeSpec := { name := "sphereTriangle", fn := fun _ => fun
  | [d1, d2, d3] => { results := [.lit (.bool true)], args := [d1, d2, d3] }
  | _ => none }
def sphereTriangleRow : OpenClaim := { program := "ytmcobpgdledkdaadoor", sum := "ba50139db23977ce02b41a40bd838d9d75d3d7bd0e423c8d6348a3982b2fa13d", func := "mapsheets/mapsheetslaw12.SphereTriangle", spec := "sphereTriangle", inPlace := ["internal/bytealg.IndexByteString", "internal/bytealg.IndexString"], unfollowed := true, recurses := true, named := ["internal/bytealg.MaxLen", "internal/strconv.uint64pow10", "math/bits.deBruijn32tab", "math/bits.deBruijn64tab", "math/bits.divideError", "math/bits.overflowError"], apart := false, laid := [("math/bits.deBruijn32tab", laid_math_bits_deBruijn32tab), ("math/bits.deBruijn64tab", laid_math_bits_deBruijn64tab), ("internal/strconv.uint64pow10", laid_internal_strconv_uint64pow10)] }
def SphereTriangleSaid : Prop := sphereTriangleRow.holds Tryd.pinned (OpenSpec.ofChange sphereTriangleSpec)

/-- ITS FALSE NEIGHBOUR: 'it returns false'. Refute it at one input. -/
def sphereTriangleWrong : ChangeSpec := { name := "sphereTriangle", fn := fun _ => fun
  | [d1, d2, d3] => { results := [.lit (.bool false)], args := [d1, d2, d3] }
  | _ => none }
def SphereTriangleWrongFalsely : Prop := sphereTriangleRow.holds Tryd.pinned (OpenSpec.ofChange sphereTriangleWrong)

/- THE SECOND FORM. 'bulk': how many values and letters a reading holds, each counted each time it is reached (what is shared counts as often as it is met; a slice's spare places count too). A statement '..UptoSaid' is the law's where the arguments, and the package variables that the reading takes, are together of bulk at most 1048576: NARROWER than '..Said'. Prove '..Said' where nothing that the law and all that it calls make is longer than what came in: it says more and counts as full. Else prove '..UptoSaid'. A law counts once. -/
mutual
def uptoBulk {H : Type} : DataW H → Nat
  | .lit (.string bytes) => bytes.length + 1
  | .lit _ => 1
  | .nil => 1
  | .ptr d => uptoBulk d + 1
  | .slice elems spare => uptoBulkAll elems + uptoBulkAll spare + 1
  | .agg parts => uptoBulkAll parts + 1
  | .iface _ d => uptoBulk d + 1
  | .map entries => uptoBulkEntries entries + 1
  | .held _ => 1
def uptoBulkAll {H : Type} : List (DataW H) → Nat
  | [] => 0
  | d :: r => uptoBulk d + uptoBulkAll r
def uptoBulkEntries {H : Type} : List (Lit × DataW H) → Nat
  | [] => 0
  | x :: r => uptoBulkEntry x + uptoBulkEntries r
def uptoBulkEntry {H : Type} : Lit × DataW H → Nat
  | (.string bytes, d) => bytes.length + uptoBulk d + 1
  | (_, d) => uptoBulk d + 1
 end
def uptoSmall : (H : Type) → List (DataW H) → Bool := fun _ ds => decide (uptoBulkAll ds ≤ 1048576)
def OpenSpec.upto (s : _root_.Go.ChangeSpec) : _root_.Go.OpenSpec := { _root_.Go.OpenSpec.ofChange s with cond := some uptoSmall }

/-- 'mapsheetslaw12.SpherePlaces', WHERE WHAT IT READS IS OF BULK AT MOST 1048576: true; the input reads as it did. -/
def spherePlacesUptoRow : OpenClaim := { program := "ytmcobpgdledkdaadoor", sum := "ba50139db23977ce02b41a40bd838d9d75d3d7bd0e423c8d6348a3982b2fa13d", func := "mapsheets/mapsheetslaw12.SpherePlaces", spec := "spherePlaces", inPlace := ["internal/bytealg.IndexByteString", "internal/bytealg.IndexString"], unfollowed := true, recurses := true, named := ["internal/bytealg.MaxLen", "internal/strconv.uint64pow10", "math/bits.deBruijn32tab", "math/bits.deBruijn64tab", "math/bits.divideError", "math/bits.overflowError"], apart := false, laid := [("math/bits.deBruijn32tab", laid_math_bits_deBruijn32tab), ("math/bits.deBruijn64tab", laid_math_bits_deBruijn64tab), ("internal/strconv.uint64pow10", laid_internal_strconv_uint64pow10)], narrowed := true }
def SpherePlacesUptoSaid : Prop := spherePlacesUptoRow.holds Tryd.pinned (OpenSpec.upto spherePlacesSpec)

/-- 'mapsheetslaw12.SphereWraps', WHERE WHAT IT READS IS OF BULK AT MOST 1048576: true; the input reads as it did. -/
def sphereWrapsUptoRow : OpenClaim := { program := "ytmcobpgdledkdaadoor", sum := "ba50139db23977ce02b41a40bd838d9d75d3d7bd0e423c8d6348a3982b2fa13d", func := "mapsheets/mapsheetslaw12.SphereWraps", spec := "sphereWraps", inPlace := ["internal/bytealg.IndexByteString", "internal/bytealg.IndexString"], unfollowed := true, recurses := true, named := ["internal/bytealg.MaxLen", "internal/strconv.uint64pow10", "math/bits.deBruijn32tab", "math/bits.deBruijn64tab", "math/bits.divideError", "math/bits.overflowError"], apart := false, laid := [("math/bits.deBruijn32tab", laid_math_bits_deBruijn32tab), ("math/bits.deBruijn64tab", laid_math_bits_deBruijn64tab), ("internal/strconv.uint64pow10", laid_internal_strconv_uint64pow10)], narrowed := true }
def SphereWrapsUptoSaid : Prop := sphereWrapsUptoRow.holds Tryd.pinned (OpenSpec.upto sphereWrapsSpec)

/-- 'mapsheetslaw12.SphereParses', WHERE WHAT IT READS IS OF BULK AT MOST 1048576: true; the input reads as it did. -/
def sphereParsesUptoRow : OpenClaim := { program := "ytmcobpgdledkdaadoor", sum := "ba50139db23977ce02b41a40bd838d9d75d3d7bd0e423c8d6348a3982b2fa13d", func := "mapsheets/mapsheetslaw12.SphereParses", spec := "sphereParses", inPlace := ["internal/bytealg.IndexByteString", "internal/bytealg.IndexString"], unfollowed := true, recurses := true, named := ["internal/bytealg.MaxLen", "internal/strconv.uint64pow10", "math/bits.deBruijn32tab", "math/bits.deBruijn64tab", "math/bits.divideError", "math/bits.overflowError"], apart := false, laid := [("math/bits.deBruijn32tab", laid_math_bits_deBruijn32tab), ("math/bits.deBruijn64tab", laid_math_bits_deBruijn64tab), ("internal/strconv.uint64pow10", laid_internal_strconv_uint64pow10)], narrowed := true }
def SphereParsesUptoSaid : Prop := sphereParsesUptoRow.holds Tryd.pinned (OpenSpec.upto sphereParsesSpec)

/-- 'mapsheetslaw12.SpherePrints', WHERE WHAT IT READS IS OF BULK AT MOST 1048576: true; the input reads as it did. -/
def spherePrintsUptoRow : OpenClaim := { program := "ytmcobpgdledkdaadoor", sum := "ba50139db23977ce02b41a40bd838d9d75d3d7bd0e423c8d6348a3982b2fa13d", func := "mapsheets/mapsheetslaw12.SpherePrints", spec := "spherePrints", inPlace := ["internal/bytealg.IndexByteString", "internal/bytealg.IndexString"], unfollowed := true, recurses := true, named := ["internal/strconv.uint64pow10", "math/bits.deBruijn32tab", "math/bits.deBruijn64tab", "internal/bytealg.MaxLen", "math/bits.divideError", "math/bits.overflowError"], apart := false, laid := [("math/bits.deBruijn32tab", laid_math_bits_deBruijn32tab), ("math/bits.deBruijn64tab", laid_math_bits_deBruijn64tab), ("internal/strconv.uint64pow10", laid_internal_strconv_uint64pow10)], narrowed := true }
def SpherePrintsUptoSaid : Prop := spherePrintsUptoRow.holds Tryd.pinned (OpenSpec.upto spherePrintsSpec)

/-- 'mapsheetslaw12.SphereBack', WHERE WHAT IT READS IS OF BULK AT MOST 1048576: true; the input reads as it did. -/
def sphereBackUptoRow : OpenClaim := { program := "ytmcobpgdledkdaadoor", sum := "ba50139db23977ce02b41a40bd838d9d75d3d7bd0e423c8d6348a3982b2fa13d", func := "mapsheets/mapsheetslaw12.SphereBack", spec := "sphereBack", inPlace := ["internal/bytealg.IndexByteString", "internal/bytealg.IndexString"], unfollowed := true, recurses := true, named := ["internal/strconv.uint64pow10", "math/bits.deBruijn32tab", "math/bits.deBruijn64tab", "internal/bytealg.MaxLen", "math/bits.divideError", "math/bits.overflowError"], apart := false, laid := [("math/bits.deBruijn32tab", laid_math_bits_deBruijn32tab), ("math/bits.deBruijn64tab", laid_math_bits_deBruijn64tab), ("internal/strconv.uint64pow10", laid_internal_strconv_uint64pow10)], narrowed := true }
def SphereBackUptoSaid : Prop := sphereBackUptoRow.holds Tryd.pinned (OpenSpec.upto sphereBackSpec)

/-- 'mapsheetslaw12.SphereChords', WHERE WHAT IT READS IS OF BULK AT MOST 1048576: true; the input reads as it did. -/
def sphereChordsUptoRow : OpenClaim := { program := "ytmcobpgdledkdaadoor", sum := "ba50139db23977ce02b41a40bd838d9d75d3d7bd0e423c8d6348a3982b2fa13d", func := "mapsheets/mapsheetslaw12.SphereChords", spec := "sphereChords", inPlace := ["internal/bytealg.IndexByteString", "internal/bytealg.IndexString"], unfollowed := true, recurses := true, named := ["math/bits.divideError", "math/bits.overflowError", "internal/bytealg.MaxLen", "internal/strconv.uint64pow10", "math/bits.deBruijn32tab", "math/bits.deBruijn64tab"], apart := false, laid := [("math/bits.deBruijn32tab", laid_math_bits_deBruijn32tab), ("math/bits.deBruijn64tab", laid_math_bits_deBruijn64tab), ("internal/strconv.uint64pow10", laid_internal_strconv_uint64pow10)], narrowed := true }
def SphereChordsUptoSaid : Prop := sphereChordsUptoRow.holds Tryd.pinned (OpenSpec.upto sphereChordsSpec)

/-- 'mapsheetslaw12.SphereTriangle', WHERE WHAT IT READS IS OF BULK AT MOST 1048576: true; the input reads as it did. -/
def sphereTriangleUptoRow : OpenClaim := { program := "ytmcobpgdledkdaadoor", sum := "ba50139db23977ce02b41a40bd838d9d75d3d7bd0e423c8d6348a3982b2fa13d", func := "mapsheets/mapsheetslaw12.SphereTriangle", spec := "sphereTriangle", inPlace := ["internal/bytealg.IndexByteString", "internal/bytealg.IndexString"], unfollowed := true, recurses := true, named := ["internal/bytealg.MaxLen", "internal/strconv.uint64pow10", "math/bits.deBruijn32tab", "math/bits.deBruijn64tab", "math/bits.divideError", "math/bits.overflowError"], apart := false, laid := [("math/bits.deBruijn32tab", laid_math_bits_deBruijn32tab), ("math/bits.deBruijn64tab", laid_math_bits_deBruijn64tab), ("internal/strconv.uint64pow10", laid_internal_strconv_uint64pow10)], narrowed := true }
def SphereTriangleUptoSaid : Prop := sphereTriangleUptoRow.holds Tryd.pinned (OpenSpec.upto sphereTriangleSpec)

end Rows
end Go.Proofs.YtmcobpgdledkdaaDoor
