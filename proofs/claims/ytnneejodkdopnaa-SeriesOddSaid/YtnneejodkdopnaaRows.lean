/-
  No cell of these rows narrows 'for every input' (looked for: loops, veiled, ifaces, maps, wideKeys, modest, calm, conditions, laid).
  DERIVED. THE GIVEN ROWS OF THIS SEAT. 9 by the template 'for every input the law returns true; each argument reads behind the call as it read before'; 0 by the template 'total and deterministic' (their statements: YtnneejodkdopnaaTotals.lean).
  GIVEN WITH THE SEED: the statements are not yours to turn. If you find one false, say at which input.
  Laid BY PROGRAM, IN A SANDBOX (cutbox-rows.mjs): the forced cells as the released guide's own fill.sh prints them over the translation 57efcb23d8eb8cf1… (all of the seat's roots in one cut). By AI agents, Wed Nov 11 2026. No macro, syntax, notation, axiom, sorry.
-/
import Derived.Test.YtnneejodkdopnaaChecked
import GoSem.Claim
import GoSem.ClaimJoined
import GoSem.ClaimMapViews
import Derived.JoinedTies
import Derived.KernelRfl
namespace Go.Proofs.Ytnneejodkdopnaa
/- THE CELL 'sum', in the pinned program and in every row, IS THE sha256 OF THE DUMP (.gsa) THAT YtnneejodkdopnaaProg.lean LOADS. Nothing in Lean hashes anything: it is a label: what it is worth is what the hold of that sum in a sandbox is worth. -/
noncomputable def Try.pinned : Pinned := { name := "ytnneejodkdopnaa", sum := "57efcb23d8eb8cf1ecd8996a2e262884e7cdf0f3b9648b02bf36dced19180896", checked := Try.checked }
namespace Rows
def none {H : Type} : Left H := { results := [], args := [] }

/-- 'mapsheetslaw11.SeriesSines': WHATEVER THE INPUT: true; the input reads as it did. -/
def seriesSinesSpec : ChangeSpec := { name := "seriesSines", fn := fun _ => fun
  | [d] => { results := [.lit (.bool true)], args := [d] }
  | _ => none }
def seriesSinesRow : OpenClaim := { program := "ytnneejodkdopnaa", sum := "57efcb23d8eb8cf1ecd8996a2e262884e7cdf0f3b9648b02bf36dced19180896", func := "mapsheets/mapsheetslaw11.SeriesSines", spec := "seriesSines", recurses := true, named := ["math/bits.divideError", "math/bits.overflowError"], apart := false }
def SeriesSinesSaid : Prop := seriesSinesRow.holds Try.pinned (OpenSpec.ofChange seriesSinesSpec)

/-- ITS FALSE NEIGHBOUR: 'it returns false'. Refute it at one input. -/
def seriesSinesWrong : ChangeSpec := { name := "seriesSines", fn := fun _ => fun
  | [d] => { results := [.lit (.bool false)], args := [d] }
  | _ => none }
def SeriesSinesWrongFalsely : Prop := seriesSinesRow.holds Try.pinned (OpenSpec.ofChange seriesSinesWrong)

/-- 'mapsheetslaw11.SeriesArcs': WHATEVER THE INPUT: true; the input reads as it did. -/
def seriesArcsSpec : ChangeSpec := { name := "seriesArcs", fn := fun _ => fun
  | [d] => { results := [.lit (.bool true)], args := [d] }
  | _ => none }
def seriesArcsRow : OpenClaim := { program := "ytnneejodkdopnaa", sum := "57efcb23d8eb8cf1ecd8996a2e262884e7cdf0f3b9648b02bf36dced19180896", func := "mapsheets/mapsheetslaw11.SeriesArcs", spec := "seriesArcs", recurses := true, named := ["math/bits.divideError", "math/bits.overflowError"], apart := false }
def SeriesArcsSaid : Prop := seriesArcsRow.holds Try.pinned (OpenSpec.ofChange seriesArcsSpec)

/-- ITS FALSE NEIGHBOUR: 'it returns false'. Refute it at one input. -/
def seriesArcsWrong : ChangeSpec := { name := "seriesArcs", fn := fun _ => fun
  | [d] => { results := [.lit (.bool false)], args := [d] }
  | _ => none }
def SeriesArcsWrongFalsely : Prop := seriesArcsRow.holds Try.pinned (OpenSpec.ofChange seriesArcsWrong)

/-- 'mapsheetslaw11.SeriesLogs': WHATEVER THE INPUT: true; the input reads as it did. -/
def seriesLogsSpec : ChangeSpec := { name := "seriesLogs", fn := fun _ => fun
  | [d1, d2] => { results := [.lit (.bool true)], args := [d1, d2] }
  | _ => none }
def seriesLogsRow : OpenClaim := { program := "ytnneejodkdopnaa", sum := "57efcb23d8eb8cf1ecd8996a2e262884e7cdf0f3b9648b02bf36dced19180896", func := "mapsheets/mapsheetslaw11.SeriesLogs", spec := "seriesLogs", recurses := true, named := ["math/bits.divideError", "math/bits.overflowError"], apart := false }
def SeriesLogsSaid : Prop := seriesLogsRow.holds Try.pinned (OpenSpec.ofChange seriesLogsSpec)

/-- ITS FALSE NEIGHBOUR: 'it returns false'. Refute it at one input. -/
def seriesLogsWrong : ChangeSpec := { name := "seriesLogs", fn := fun _ => fun
  | [d1, d2] => { results := [.lit (.bool false)], args := [d1, d2] }
  | _ => none }
def SeriesLogsWrongFalsely : Prop := seriesLogsRow.holds Try.pinned (OpenSpec.ofChange seriesLogsWrong)

/-- 'mapsheetslaw11.SeriesCircle': WHATEVER THE INPUT: true; the input reads as it did. -/
def seriesCircleSpec : ChangeSpec := { name := "seriesCircle", fn := fun _ => fun
  | [d] => { results := [.lit (.bool true)], args := [d] }
  | _ => none }
def seriesCircleRow : OpenClaim := { program := "ytnneejodkdopnaa", sum := "57efcb23d8eb8cf1ecd8996a2e262884e7cdf0f3b9648b02bf36dced19180896", func := "mapsheets/mapsheetslaw11.SeriesCircle", spec := "seriesCircle", recurses := true, named := ["math/bits.divideError", "math/bits.overflowError"], apart := false }
def SeriesCircleSaid : Prop := seriesCircleRow.holds Try.pinned (OpenSpec.ofChange seriesCircleSpec)

/-- ITS FALSE NEIGHBOUR: 'it returns false'. Refute it at one input. -/
def seriesCircleWrong : ChangeSpec := { name := "seriesCircle", fn := fun _ => fun
  | [d] => { results := [.lit (.bool false)], args := [d] }
  | _ => none }
def SeriesCircleWrongFalsely : Prop := seriesCircleRow.holds Try.pinned (OpenSpec.ofChange seriesCircleWrong)

/-- 'mapsheetslaw11.SeriesRises': WHATEVER THE INPUT: true; the input reads as it did. -/
def seriesRisesSpec : ChangeSpec := { name := "seriesRises", fn := fun _ => fun
  | [d1, d2] => { results := [.lit (.bool true)], args := [d1, d2] }
  | _ => none }
def seriesRisesRow : OpenClaim := { program := "ytnneejodkdopnaa", sum := "57efcb23d8eb8cf1ecd8996a2e262884e7cdf0f3b9648b02bf36dced19180896", func := "mapsheets/mapsheetslaw11.SeriesRises", spec := "seriesRises", recurses := true, named := ["math/bits.divideError", "math/bits.overflowError"], apart := false }
def SeriesRisesSaid : Prop := seriesRisesRow.holds Try.pinned (OpenSpec.ofChange seriesRisesSpec)

/-- ITS FALSE NEIGHBOUR: 'it returns false'. Refute it at one input. -/
def seriesRisesWrong : ChangeSpec := { name := "seriesRises", fn := fun _ => fun
  | [d1, d2] => { results := [.lit (.bool false)], args := [d1, d2] }
  | _ => none }
def SeriesRisesWrongFalsely : Prop := seriesRisesRow.holds Try.pinned (OpenSpec.ofChange seriesRisesWrong)

/-- 'mapsheetslaw11.SeriesNearest': WHATEVER THE INPUT: true; the input reads as it did. -/
def seriesNearestSpec : ChangeSpec := { name := "seriesNearest", fn := fun _ => fun
  | [d1, d2] => { results := [.lit (.bool true)], args := [d1, d2] }
  | _ => none }
def seriesNearestRow : OpenClaim := { program := "ytnneejodkdopnaa", sum := "57efcb23d8eb8cf1ecd8996a2e262884e7cdf0f3b9648b02bf36dced19180896", func := "mapsheets/mapsheetslaw11.SeriesNearest", spec := "seriesNearest", recurses := true, named := ["math/bits.divideError", "math/bits.overflowError"], apart := false }
def SeriesNearestSaid : Prop := seriesNearestRow.holds Try.pinned (OpenSpec.ofChange seriesNearestSpec)

/-- ITS FALSE NEIGHBOUR: 'it returns false'. Refute it at one input. -/
def seriesNearestWrong : ChangeSpec := { name := "seriesNearest", fn := fun _ => fun
  | [d1, d2] => { results := [.lit (.bool false)], args := [d1, d2] }
  | _ => none }
def SeriesNearestWrongFalsely : Prop := seriesNearestRow.holds Try.pinned (OpenSpec.ofChange seriesNearestWrong)

/-- 'mapsheetslaw11.SeriesDoubles': WHATEVER THE INPUT: true; the input reads as it did. -/
def seriesDoublesSpec : ChangeSpec := { name := "seriesDoubles", fn := fun _ => fun
  | [d1, d2] => { results := [.lit (.bool true)], args := [d1, d2] }
  | _ => none }
def seriesDoublesRow : OpenClaim := { program := "ytnneejodkdopnaa", sum := "57efcb23d8eb8cf1ecd8996a2e262884e7cdf0f3b9648b02bf36dced19180896", func := "mapsheets/mapsheetslaw11.SeriesDoubles", spec := "seriesDoubles", recurses := true, named := ["math/bits.divideError", "math/bits.overflowError"], apart := false }
def SeriesDoublesSaid : Prop := seriesDoublesRow.holds Try.pinned (OpenSpec.ofChange seriesDoublesSpec)

/-- ITS FALSE NEIGHBOUR: 'it returns false'. Refute it at one input. -/
def seriesDoublesWrong : ChangeSpec := { name := "seriesDoubles", fn := fun _ => fun
  | [d1, d2] => { results := [.lit (.bool false)], args := [d1, d2] }
  | _ => none }
def SeriesDoublesWrongFalsely : Prop := seriesDoublesRow.holds Try.pinned (OpenSpec.ofChange seriesDoublesWrong)

/-- 'mapsheetslaw11.SeriesOdd': WHATEVER THE INPUT: true; the input reads as it did. -/
def seriesOddSpec : ChangeSpec := { name := "seriesOdd", fn := fun _ => fun
  | [d] => { results := [.lit (.bool true)], args := [d] }
  | _ => none }
def seriesOddRow : OpenClaim := { program := "ytnneejodkdopnaa", sum := "57efcb23d8eb8cf1ecd8996a2e262884e7cdf0f3b9648b02bf36dced19180896", func := "mapsheets/mapsheetslaw11.SeriesOdd", spec := "seriesOdd", recurses := true, named := ["math/bits.divideError", "math/bits.overflowError"], apart := false }
def SeriesOddSaid : Prop := seriesOddRow.holds Try.pinned (OpenSpec.ofChange seriesOddSpec)

/-- ITS FALSE NEIGHBOUR: 'it returns false'. Refute it at one input. -/
def seriesOddWrong : ChangeSpec := { name := "seriesOdd", fn := fun _ => fun
  | [d] => { results := [.lit (.bool false)], args := [d] }
  | _ => none }
def SeriesOddWrongFalsely : Prop := seriesOddRow.holds Try.pinned (OpenSpec.ofChange seriesOddWrong)

/-- 'mapsheetslaw11.SeriesSteps': WHATEVER THE INPUT: true; the input reads as it did. -/
def seriesStepsSpec : ChangeSpec := { name := "seriesSteps", fn := fun _ => fun
  | [d1, d2] => { results := [.lit (.bool true)], args := [d1, d2] }
  | _ => none }
def seriesStepsRow : OpenClaim := { program := "ytnneejodkdopnaa", sum := "57efcb23d8eb8cf1ecd8996a2e262884e7cdf0f3b9648b02bf36dced19180896", func := "mapsheets/mapsheetslaw11.SeriesSteps", spec := "seriesSteps", recurses := true, named := ["math/bits.divideError", "math/bits.overflowError"], apart := false }
def SeriesStepsSaid : Prop := seriesStepsRow.holds Try.pinned (OpenSpec.ofChange seriesStepsSpec)

/-- ITS FALSE NEIGHBOUR: 'it returns false'. Refute it at one input. -/
def seriesStepsWrong : ChangeSpec := { name := "seriesSteps", fn := fun _ => fun
  | [d1, d2] => { results := [.lit (.bool false)], args := [d1, d2] }
  | _ => none }
def SeriesStepsWrongFalsely : Prop := seriesStepsRow.holds Try.pinned (OpenSpec.ofChange seriesStepsWrong)

/- THE SECOND FORM. 'bulk': how many values and letters a reading holds, each counted each time it is reached (what is shared counts as often as it is met; a slice's spare places count too). A statement '..UptoSaid' is the law's where the arguments, and the package variables that the reading takes, are together of bulk at most 1048576: NARROWER than '..Said'. Prove '..Said' where nothing that the law and all that it calls make is longer than what came in: it says more and counts as full. Else prove '..UptoSaid'. A law counts once. -/
mutual
def uptoBulk {H : Type} : DataW H → Nat
  | .lit (.string bytes) => bytes.length + 1
  | .lit _ => 1
  | .nil => 1
  | .ptr d => uptoBulk d + 1
  | .slice elems spare => uptoBulkAll elems + uptoBulkAll spare + 1
  | .agg parts => uptoBulkAll parts + 1
  | .iface _ d => uptoBulk d + 1
  | .map entries => uptoBulkEntries entries + 1
  | .held _ => 1
def uptoBulkAll {H : Type} : List (DataW H) → Nat
  | [] => 0
  | d :: r => uptoBulk d + uptoBulkAll r
def uptoBulkEntries {H : Type} : List (Lit × DataW H) → Nat
  | [] => 0
  | x :: r => uptoBulkEntry x + uptoBulkEntries r
def uptoBulkEntry {H : Type} : Lit × DataW H → Nat
  | (.string bytes, d) => bytes.length + uptoBulk d + 1
  | (_, d) => uptoBulk d + 1
 end
def uptoSmall : (H : Type) → List (DataW H) → Bool := fun _ ds => decide (uptoBulkAll ds ≤ 1048576)
def OpenSpec.upto (s : _root_.Go.ChangeSpec) : _root_.Go.OpenSpec := { _root_.Go.OpenSpec.ofChange s with cond := some uptoSmall }

/-- 'mapsheetslaw11.SeriesSines', WHERE WHAT IT READS IS OF BULK AT MOST 1048576: true; the input reads as it did. -/
def seriesSinesUptoRow : OpenClaim := { program := "ytnneejodkdopnaa", sum := "57efcb23d8eb8cf1ecd8996a2e262884e7cdf0f3b9648b02bf36dced19180896", func := "mapsheets/mapsheetslaw11.SeriesSines", spec := "seriesSines", recurses := true, named := ["math/bits.divideError", "math/bits.overflowError"], apart := false, narrowed := true }
def SeriesSinesUptoSaid : Prop := seriesSinesUptoRow.holds Try.pinned (OpenSpec.upto seriesSinesSpec)

/-- 'mapsheetslaw11.SeriesArcs', WHERE WHAT IT READS IS OF BULK AT MOST 1048576: true; the input reads as it did. -/
def seriesArcsUptoRow : OpenClaim := { program := "ytnneejodkdopnaa", sum := "57efcb23d8eb8cf1ecd8996a2e262884e7cdf0f3b9648b02bf36dced19180896", func := "mapsheets/mapsheetslaw11.SeriesArcs", spec := "seriesArcs", recurses := true, named := ["math/bits.divideError", "math/bits.overflowError"], apart := false, narrowed := true }
def SeriesArcsUptoSaid : Prop := seriesArcsUptoRow.holds Try.pinned (OpenSpec.upto seriesArcsSpec)

/-- 'mapsheetslaw11.SeriesLogs', WHERE WHAT IT READS IS OF BULK AT MOST 1048576: true; the input reads as it did. -/
def seriesLogsUptoRow : OpenClaim := { program := "ytnneejodkdopnaa", sum := "57efcb23d8eb8cf1ecd8996a2e262884e7cdf0f3b9648b02bf36dced19180896", func := "mapsheets/mapsheetslaw11.SeriesLogs", spec := "seriesLogs", recurses := true, named := ["math/bits.divideError", "math/bits.overflowError"], apart := false, narrowed := true }
def SeriesLogsUptoSaid : Prop := seriesLogsUptoRow.holds Try.pinned (OpenSpec.upto seriesLogsSpec)

/-- 'mapsheetslaw11.SeriesCircle', WHERE WHAT IT READS IS OF BULK AT MOST 1048576: true; the input reads as it did. -/
def seriesCircleUptoRow : OpenClaim := { program := "ytnneejodkdopnaa", sum := "57efcb23d8eb8cf1ecd8996a2e262884e7cdf0f3b9648b02bf36dced19180896", func := "mapsheets/mapsheetslaw11.SeriesCircle", spec := "seriesCircle", recurses := true, named := ["math/bits.divideError", "math/bits.overflowError"], apart := false, narrowed := true }
def SeriesCircleUptoSaid : Prop := seriesCircleUptoRow.holds Try.pinned (OpenSpec.upto seriesCircleSpec)

/-- 'mapsheetslaw11.SeriesRises', WHERE WHAT IT READS IS OF BULK AT MOST 1048576: true; the input reads as it did. -/
def seriesRisesUptoRow : OpenClaim := { program := "ytnneejodkdopnaa", sum := "57efcb23d8eb8cf1ecd8996a2e262884e7cdf0f3b9648b02bf36dced19180896", func := "mapsheets/mapsheetslaw11.SeriesRises", spec := "seriesRises", recurses := true, named := ["math/bits.divideError", "math/bits.overflowError"], apart := false, narrowed := true }
def SeriesRisesUptoSaid : Prop := seriesRisesUptoRow.holds Try.pinned (OpenSpec.upto seriesRisesSpec)

/-- 'mapsheetslaw11.SeriesNearest', WHERE WHAT IT READS IS OF BULK AT MOST 1048576: true; the input reads as it did. -/
def seriesNearestUptoRow : OpenClaim := { program := "ytnneejodkdopnaa", sum := "57efcb23d8eb8cf1ecd8996a2e262884e7cdf0f3b9648b02bf36dced19180896", func := "mapsheets/mapsheetslaw11.SeriesNearest", spec := "seriesNearest", recurses := true, named := ["math/bits.divideError", "math/bits.overflowError"], apart := false, narrowed := true }
def SeriesNearestUptoSaid : Prop := seriesNearestUptoRow.holds Try.pinned (OpenSpec.upto seriesNearestSpec)

/-- 'mapsheetslaw11.SeriesDoubles', WHERE WHAT IT READS IS OF BULK AT MOST 1048576: true; the input reads as it did. -/
def seriesDoublesUptoRow : OpenClaim := { program := "ytnneejodkdopnaa", sum := "57efcb23d8eb8cf1ecd8996a2e262884e7cdf0f3b9648b02bf36dced19180896", func := "mapsheets/mapsheetslaw11.SeriesDoubles", spec := "seriesDoubles", recurses := true, named := ["math/bits.divideError", "math/bits.overflowError"], apart := false, narrowed := true }
def SeriesDoublesUptoSaid : Prop := seriesDoublesUptoRow.holds Try.pinned (OpenSpec.upto seriesDoublesSpec)

/-- 'mapsheetslaw11.SeriesOdd', WHERE WHAT IT READS IS OF BULK AT MOST 1048576: true; the input reads as it did. -/
def seriesOddUptoRow : OpenClaim := { program := "ytnneejodkdopnaa", sum := "57efcb23d8eb8cf1ecd8996a2e262884e7cdf0f3b9648b02bf36dced19180896", func := "mapsheets/mapsheetslaw11.SeriesOdd", spec := "seriesOdd", recurses := true, named := ["math/bits.divideError", "math/bits.overflowError"], apart := false, narrowed := true }
def SeriesOddUptoSaid : Prop := seriesOddUptoRow.holds Try.pinned (OpenSpec.upto seriesOddSpec)

/-- 'mapsheetslaw11.SeriesSteps', WHERE WHAT IT READS IS OF BULK AT MOST 1048576: true; the input reads as it did. -/
def seriesStepsUptoRow : OpenClaim := { program := "ytnneejodkdopnaa", sum := "57efcb23d8eb8cf1ecd8996a2e262884e7cdf0f3b9648b02bf36dced19180896", func := "mapsheets/mapsheetslaw11.SeriesSteps", spec := "seriesSteps", recurses := true, named := ["math/bits.divideError", "math/bits.overflowError"], apart := false, narrowed := true }
def SeriesStepsUptoSaid : Prop := seriesStepsUptoRow.holds Try.pinned (OpenSpec.upto seriesStepsSpec)

end Rows
end Go.Proofs.Ytnneejodkdopnaa
