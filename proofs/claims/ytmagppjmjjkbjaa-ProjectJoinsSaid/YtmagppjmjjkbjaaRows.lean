/-
  No cell of these rows narrows 'for every input' (looked for: loops, veiled, ifaces, maps, wideKeys, modest, calm, conditions, laid).
  DERIVED. THE GIVEN ROWS OF THIS SEAT. 7 by the template 'for every input the law returns true; each argument reads behind the call as it read before'; 0 by the template 'total and deterministic' (their statements: YtmagppjmjjkbjaaTotals.lean).
  GIVEN WITH THE SEED: the statements are not yours to turn. If you find one false, say at which input.
  Laid BY PROGRAM, IN A SANDBOX (cutbox-rows.mjs): the forced cells as the released guide's own fill.sh prints them over the translation cc1f3cd12a6d1ac0… (all of the seat's roots in one cut). By AI agents, Wed Nov 11 2026. No macro, syntax, notation, axiom, sorry.
-/
import Derived.Test.YtmagppjmjjkbjaaChecked
import GoSem.Claim
import GoSem.ClaimJoined
import GoSem.ClaimMapViews
import Derived.JoinedTies
import Derived.KernelRfl
namespace Go.Proofs.Ytmagppjmjjkbjaa
/- THE CELL 'sum', in the pinned program and in every row, IS THE sha256 OF THE DUMP (.gsa) THAT YtmagppjmjjkbjaaProg.lean LOADS. Nothing in Lean hashes anything: it is a label: what it is worth is what the hold of that sum in a sandbox is worth. -/
noncomputable def Try.pinned : Pinned := { name := "ytmagppjmjjkbjaa", sum := "cc1f3cd12a6d1ac0081fec9642cd889eae2c29bdd4bb2893f30e3984a5e6410b", checked := Try.checked }
namespace Rows
def none {H : Type} : Left H := { results := [], args := [] }

/-- 'mapsheetslaw13.ProjectChecks': WHATEVER THE INPUT: true; the input reads as it did. -/
def projectChecksSpec : ChangeSpec := { name := "projectChecks", fn := fun _ => fun
  | [d] => { results := [.lit (.bool true)], args := [d] }
  | _ => none }
def projectChecksRow : OpenClaim := { program := "ytmagppjmjjkbjaa", sum := "cc1f3cd12a6d1ac0081fec9642cd889eae2c29bdd4bb2893f30e3984a5e6410b", func := "mapsheets/mapsheetslaw13.ProjectChecks", spec := "projectChecks", unfollowed := true, recurses := true, named := ["math/bits.divideError", "math/bits.overflowError"], apart := false }
def ProjectChecksSaid : Prop := projectChecksRow.holds Try.pinned (OpenSpec.ofChange projectChecksSpec)

/-- ITS FALSE NEIGHBOUR: 'it returns false'. Refute it at one input. -/
def projectChecksWrong : ChangeSpec := { name := "projectChecks", fn := fun _ => fun
  | [d] => { results := [.lit (.bool false)], args := [d] }
  | _ => none }
def ProjectChecksWrongFalsely : Prop := projectChecksRow.holds Try.pinned (OpenSpec.ofChange projectChecksWrong)

/-- 'mapsheetslaw13.ProjectTo': WHATEVER THE INPUT: true; the input reads as it did. -/
def projectToSpec : ChangeSpec := { name := "projectTo", fn := fun _ => fun
  | [d1, d2] => { results := [.lit (.bool true)], args := [d1, d2] }
  | _ => none }
def projectToRow : OpenClaim := { program := "ytmagppjmjjkbjaa", sum := "cc1f3cd12a6d1ac0081fec9642cd889eae2c29bdd4bb2893f30e3984a5e6410b", func := "mapsheets/mapsheetslaw13.ProjectTo", spec := "projectTo", unfollowed := true, recurses := true, named := ["math/bits.divideError", "math/bits.overflowError"], apart := false }
def ProjectToSaid : Prop := projectToRow.holds Try.pinned (OpenSpec.ofChange projectToSpec)

/-- ITS FALSE NEIGHBOUR: 'it returns false'. Refute it at one input. -/
def projectToWrong : ChangeSpec := { name := "projectTo", fn := fun _ => fun
  | [d1, d2] => { results := [.lit (.bool false)], args := [d1, d2] }
  | _ => none }
def ProjectToWrongFalsely : Prop := projectToRow.holds Try.pinned (OpenSpec.ofChange projectToWrong)

/-- 'mapsheetslaw13.ProjectFrom': WHATEVER THE INPUT: true; the input reads as it did. -/
def projectFromSpec : ChangeSpec := { name := "projectFrom", fn := fun _ => fun
  | [d1, d2] => { results := [.lit (.bool true)], args := [d1, d2] }
  | _ => none }
def projectFromRow : OpenClaim := { program := "ytmagppjmjjkbjaa", sum := "cc1f3cd12a6d1ac0081fec9642cd889eae2c29bdd4bb2893f30e3984a5e6410b", func := "mapsheets/mapsheetslaw13.ProjectFrom", spec := "projectFrom", unfollowed := true, recurses := true, named := ["math/bits.divideError", "math/bits.overflowError"], apart := false }
def ProjectFromSaid : Prop := projectFromRow.holds Try.pinned (OpenSpec.ofChange projectFromSpec)

/-- ITS FALSE NEIGHBOUR: 'it returns false'. Refute it at one input. -/
def projectFromWrong : ChangeSpec := { name := "projectFrom", fn := fun _ => fun
  | [d1, d2] => { results := [.lit (.bool false)], args := [d1, d2] }
  | _ => none }
def ProjectFromWrongFalsely : Prop := projectFromRow.holds Try.pinned (OpenSpec.ofChange projectFromWrong)

/-- 'mapsheetslaw13.ProjectPaths': WHATEVER THE INPUT: true; the input reads as it did. -/
def projectPathsSpec : ChangeSpec := { name := "projectPaths", fn := fun _ => fun
  | [d1, d2] => { results := [.lit (.bool true)], args := [d1, d2] }
  | _ => none }
def projectPathsRow : OpenClaim := { program := "ytmagppjmjjkbjaa", sum := "cc1f3cd12a6d1ac0081fec9642cd889eae2c29bdd4bb2893f30e3984a5e6410b", func := "mapsheets/mapsheetslaw13.ProjectPaths", spec := "projectPaths", unfollowed := true, recurses := true, named := ["math/bits.divideError", "math/bits.overflowError"], apart := false }
def ProjectPathsSaid : Prop := projectPathsRow.holds Try.pinned (OpenSpec.ofChange projectPathsSpec)

/-- ITS FALSE NEIGHBOUR: 'it returns false'. Refute it at one input. -/
def projectPathsWrong : ChangeSpec := { name := "projectPaths", fn := fun _ => fun
  | [d1, d2] => { results := [.lit (.bool false)], args := [d1, d2] }
  | _ => none }
def ProjectPathsWrongFalsely : Prop := projectPathsRow.holds Try.pinned (OpenSpec.ofChange projectPathsWrong)

/-- 'mapsheetslaw13.ProjectInverts': WHATEVER THE INPUT: true; the input reads as it did. -/
def projectInvertsSpec : ChangeSpec := { name := "projectInverts", fn := fun _ => fun
  | [d1, d2] => { results := [.lit (.bool true)], args := [d1, d2] }
  | _ => none }
def projectInvertsRow : OpenClaim := { program := "ytmagppjmjjkbjaa", sum := "cc1f3cd12a6d1ac0081fec9642cd889eae2c29bdd4bb2893f30e3984a5e6410b", func := "mapsheets/mapsheetslaw13.ProjectInverts", spec := "projectInverts", unfollowed := true, recurses := true, named := ["math/bits.divideError", "math/bits.overflowError"], apart := false }
def ProjectInvertsSaid : Prop := projectInvertsRow.holds Try.pinned (OpenSpec.ofChange projectInvertsSpec)

/-- ITS FALSE NEIGHBOUR: 'it returns false'. Refute it at one input. -/
def projectInvertsWrong : ChangeSpec := { name := "projectInverts", fn := fun _ => fun
  | [d1, d2] => { results := [.lit (.bool false)], args := [d1, d2] }
  | _ => none }
def ProjectInvertsWrongFalsely : Prop := projectInvertsRow.holds Try.pinned (OpenSpec.ofChange projectInvertsWrong)

/-- 'mapsheetslaw13.ProjectOrders': WHATEVER THE INPUT: true; the input reads as it did. -/
def projectOrdersSpec : ChangeSpec := { name := "projectOrders", fn := fun _ => fun
  | [d1, d2, d3] => { results := [.lit (.bool true)], args := [d1, d2, d3] }
  | _ => none }
def projectOrdersRow : OpenClaim := { program := "ytmagppjmjjkbjaa", sum := "cc1f3cd12a6d1ac0081fec9642cd889eae2c29bdd4bb2893f30e3984a5e6410b", func := "mapsheets/mapsheetslaw13.ProjectOrders", spec := "projectOrders", unfollowed := true, recurses := true, named := ["math/bits.divideError", "math/bits.overflowError"], apart := false }
def ProjectOrdersSaid : Prop := projectOrdersRow.holds Try.pinned (OpenSpec.ofChange projectOrdersSpec)

/-- ITS FALSE NEIGHBOUR: 'it returns false'. Refute it at one input. -/
def projectOrdersWrong : ChangeSpec := { name := "projectOrders", fn := fun _ => fun
  | [d1, d2, d3] => { results := [.lit (.bool false)], args := [d1, d2, d3] }
  | _ => none }
def ProjectOrdersWrongFalsely : Prop := projectOrdersRow.holds Try.pinned (OpenSpec.ofChange projectOrdersWrong)

/-- 'mapsheetslaw13.ProjectJoins': WHATEVER THE INPUT: true; the input reads as it did. -/
def projectJoinsSpec : ChangeSpec := { name := "projectJoins", fn := fun _ => fun
  | [d1, d2, d3] => { results := [.lit (.bool true)], args := [d1, d2, d3] }
  | _ => none }
def projectJoinsRow : OpenClaim := { program := "ytmagppjmjjkbjaa", sum := "cc1f3cd12a6d1ac0081fec9642cd889eae2c29bdd4bb2893f30e3984a5e6410b", func := "mapsheets/mapsheetslaw13.ProjectJoins", spec := "projectJoins", unfollowed := true, recurses := true, named := ["math/bits.divideError", "math/bits.overflowError"], apart := false }
def ProjectJoinsSaid : Prop := projectJoinsRow.holds Try.pinned (OpenSpec.ofChange projectJoinsSpec)

/-- ITS FALSE NEIGHBOUR: 'it returns false'. Refute it at one input. -/
def projectJoinsWrong : ChangeSpec := { name := "projectJoins", fn := fun _ => fun
  | [d1, d2, d3] => { results := [.lit (.bool false)], args := [d1, d2, d3] }
  | _ => none }
def ProjectJoinsWrongFalsely : Prop := projectJoinsRow.holds Try.pinned (OpenSpec.ofChange projectJoinsWrong)

/- THE SECOND FORM. 'bulk': how many values and letters a reading holds, each counted each time it is reached (what is shared counts as often as it is met; a slice's spare places count too). A statement '..UptoSaid' is the law's where the arguments, and the package variables that the reading takes, are together of bulk at most 1048576: NARROWER than '..Said'. Prove '..Said' where nothing that the law and all that it calls make is longer than what came in: it says more and counts as full. Else prove '..UptoSaid'. A law counts once. -/
mutual
def uptoBulk {H : Type} : DataW H → Nat
  | .lit (.string bytes) => bytes.length + 1
  | .lit _ => 1
  | .nil => 1
  | .ptr d => uptoBulk d + 1
  | .slice elems spare => uptoBulkAll elems + uptoBulkAll spare + 1
  | .agg parts => uptoBulkAll parts + 1
  | .iface _ d => uptoBulk d + 1
  | .map entries => uptoBulkEntries entries + 1
  | .held _ => 1
def uptoBulkAll {H : Type} : List (DataW H) → Nat
  | [] => 0
  | d :: r => uptoBulk d + uptoBulkAll r
def uptoBulkEntries {H : Type} : List (Lit × DataW H) → Nat
  | [] => 0
  | x :: r => uptoBulkEntry x + uptoBulkEntries r
def uptoBulkEntry {H : Type} : Lit × DataW H → Nat
  | (.string bytes, d) => bytes.length + uptoBulk d + 1
  | (_, d) => uptoBulk d + 1
 end
def uptoSmall : (H : Type) → List (DataW H) → Bool := fun _ ds => decide (uptoBulkAll ds ≤ 1048576)
def OpenSpec.upto (s : _root_.Go.ChangeSpec) : _root_.Go.OpenSpec := { _root_.Go.OpenSpec.ofChange s with cond := some uptoSmall }

/-- 'mapsheetslaw13.ProjectChecks', WHERE WHAT IT READS IS OF BULK AT MOST 1048576: true; the input reads as it did. -/
def projectChecksUptoRow : OpenClaim := { program := "ytmagppjmjjkbjaa", sum := "cc1f3cd12a6d1ac0081fec9642cd889eae2c29bdd4bb2893f30e3984a5e6410b", func := "mapsheets/mapsheetslaw13.ProjectChecks", spec := "projectChecks", unfollowed := true, recurses := true, named := ["math/bits.divideError", "math/bits.overflowError"], apart := false, narrowed := true }
def ProjectChecksUptoSaid : Prop := projectChecksUptoRow.holds Try.pinned (OpenSpec.upto projectChecksSpec)

/-- 'mapsheetslaw13.ProjectTo', WHERE WHAT IT READS IS OF BULK AT MOST 1048576: true; the input reads as it did. -/
def projectToUptoRow : OpenClaim := { program := "ytmagppjmjjkbjaa", sum := "cc1f3cd12a6d1ac0081fec9642cd889eae2c29bdd4bb2893f30e3984a5e6410b", func := "mapsheets/mapsheetslaw13.ProjectTo", spec := "projectTo", unfollowed := true, recurses := true, named := ["math/bits.divideError", "math/bits.overflowError"], apart := false, narrowed := true }
def ProjectToUptoSaid : Prop := projectToUptoRow.holds Try.pinned (OpenSpec.upto projectToSpec)

/-- 'mapsheetslaw13.ProjectFrom', WHERE WHAT IT READS IS OF BULK AT MOST 1048576: true; the input reads as it did. -/
def projectFromUptoRow : OpenClaim := { program := "ytmagppjmjjkbjaa", sum := "cc1f3cd12a6d1ac0081fec9642cd889eae2c29bdd4bb2893f30e3984a5e6410b", func := "mapsheets/mapsheetslaw13.ProjectFrom", spec := "projectFrom", unfollowed := true, recurses := true, named := ["math/bits.divideError", "math/bits.overflowError"], apart := false, narrowed := true }
def ProjectFromUptoSaid : Prop := projectFromUptoRow.holds Try.pinned (OpenSpec.upto projectFromSpec)

/-- 'mapsheetslaw13.ProjectPaths', WHERE WHAT IT READS IS OF BULK AT MOST 1048576: true; the input reads as it did. -/
def projectPathsUptoRow : OpenClaim := { program := "ytmagppjmjjkbjaa", sum := "cc1f3cd12a6d1ac0081fec9642cd889eae2c29bdd4bb2893f30e3984a5e6410b", func := "mapsheets/mapsheetslaw13.ProjectPaths", spec := "projectPaths", unfollowed := true, recurses := true, named := ["math/bits.divideError", "math/bits.overflowError"], apart := false, narrowed := true }
def ProjectPathsUptoSaid : Prop := projectPathsUptoRow.holds Try.pinned (OpenSpec.upto projectPathsSpec)

/-- 'mapsheetslaw13.ProjectInverts', WHERE WHAT IT READS IS OF BULK AT MOST 1048576: true; the input reads as it did. -/
def projectInvertsUptoRow : OpenClaim := { program := "ytmagppjmjjkbjaa", sum := "cc1f3cd12a6d1ac0081fec9642cd889eae2c29bdd4bb2893f30e3984a5e6410b", func := "mapsheets/mapsheetslaw13.ProjectInverts", spec := "projectInverts", unfollowed := true, recurses := true, named := ["math/bits.divideError", "math/bits.overflowError"], apart := false, narrowed := true }
def ProjectInvertsUptoSaid : Prop := projectInvertsUptoRow.holds Try.pinned (OpenSpec.upto projectInvertsSpec)

/-- 'mapsheetslaw13.ProjectOrders', WHERE WHAT IT READS IS OF BULK AT MOST 1048576: true; the input reads as it did. -/
def projectOrdersUptoRow : OpenClaim := { program := "ytmagppjmjjkbjaa", sum := "cc1f3cd12a6d1ac0081fec9642cd889eae2c29bdd4bb2893f30e3984a5e6410b", func := "mapsheets/mapsheetslaw13.ProjectOrders", spec := "projectOrders", unfollowed := true, recurses := true, named := ["math/bits.divideError", "math/bits.overflowError"], apart := false, narrowed := true }
def ProjectOrdersUptoSaid : Prop := projectOrdersUptoRow.holds Try.pinned (OpenSpec.upto projectOrdersSpec)

/-- 'mapsheetslaw13.ProjectJoins', WHERE WHAT IT READS IS OF BULK AT MOST 1048576: true; the input reads as it did. -/
def projectJoinsUptoRow : OpenClaim := { program := "ytmagppjmjjkbjaa", sum := "cc1f3cd12a6d1ac0081fec9642cd889eae2c29bdd4bb2893f30e3984a5e6410b", func := "mapsheets/mapsheetslaw13.ProjectJoins", spec := "projectJoins", unfollowed := true, recurses := true, named := ["math/bits.divideError", "math/bits.overflowError"], apart := false, narrowed := true }
def ProjectJoinsUptoSaid : Prop := projectJoinsUptoRow.holds Try.pinned (OpenSpec.upto projectJoinsSpec)

end Rows
end Go.Proofs.Ytmagppjmjjkbjaa
