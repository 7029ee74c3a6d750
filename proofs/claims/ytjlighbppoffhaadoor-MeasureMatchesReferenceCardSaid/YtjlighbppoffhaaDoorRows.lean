/-
  NARROWER THAN 'FOR EVERY INPUT', by the rows' own cells (each row's printed sentence says how): MeasureMatchesReference: laid · MeasureMetric: laid · MeasureParts: laid · MeasureSimilar: laid · MeasureJaro: laid · MeasureValues: laid · MeasureNears: laid · MeasureSets: laid.
  DERIVED. THE GIVEN ROWS OF THIS SEAT. 8 by the template 'for every input the law returns true; each argument reads behind the call as it read before'; 0 by the template 'total and deterministic' (their statements: YtjlighbppoffhaaDoorTotals.lean).
  GIVEN WITH THE SEED: the statements are not yours to turn. If you find one false, say at which input.
  Laid BY PROGRAM, IN A SANDBOX (cutbox-rows.mjs): the forced cells as the released guide's own fill.sh prints them over the translation badef07b600d8750… (all of the seat's roots in one cut). By AI agents, Wed Nov 11 2026. No macro, syntax, notation, axiom, sorry.
-/
import Derived.Test.YtjlighbppoffhaaDoorChecked
import GoSem.Claim
import GoSem.ClaimJoined
import GoSem.ClaimMapViews
import Derived.JoinedTies
import Derived.KernelRfl
namespace Go.Proofs.YtjlighbppoffhaaDoor
/- THE CELL 'sum', in the pinned program and in every row, IS THE sha256 OF THE DUMP (.gsa) THAT YtjlighbppoffhaaDoorProg.lean LOADS. Nothing in Lean hashes anything: it is a label: what it is worth is what the hold of that sum in a sandbox is worth. -/
noncomputable def Tryd.pinned : Pinned := { name := "ytjlighbppoffhaadoor", sum := "badef07b600d8750e909634ed4ddde7b871a0ddc0b5ee14aa05e6d66a64300ea", checked := Tryd.checked }
namespace Rows
def none {H : Type} : Left H := { results := [], args := [] }

/- WHAT THE LISTED PACKAGE-LEVEL VARIABLES READ AS WHEN THE CALL BEGINS. Each datum BY PROGRAM (the guide's laid-datum.mjs) off the statement by which the dump's own 'gosem.cut.vars' lays the variable. In a bare row this is a premise. The card (YtjlighbppoffhaaDoorCards.lean) ties it to the program's text. -/
def laid_cleanse_measure_none {H : Type} : DataW H := .agg [.lit (.int .i64 0), .lit (.int .i64 1)]
def laid_cleanse_measure_full {H : Type} : DataW H := .agg [.lit (.int .i64 1), .lit (.int .i64 1)]

/-- 'cleanselaw04.MeasureMatchesReference': WHATEVER THE INPUT: true; the input reads as it did. -/
def measureMatchesReferenceSpec : ChangeSpec := { name := "measureMatchesReference", fn := fun _ => fun
  | [d1, d2, d3, d4] => { results := [.lit (.bool true)], args := [d1, d2, d3, d4] }
  | _ => none }
def measureMatchesReferenceRow : OpenClaim := { program := "ytjlighbppoffhaadoor", sum := "badef07b600d8750e909634ed4ddde7b871a0ddc0b5ee14aa05e6d66a64300ea", func := "cleanse/cleanselaw04.MeasureMatchesReference", spec := "measureMatchesReference", inPlace := ["internal/abi.NoEscape", "internal/bytealg.MakeNoZero"], unfollowed := true, recurses := true, named := ["cleanse/measure.full", "cleanse/measure.none"], apart := false, laid := [("cleanse/measure.none", laid_cleanse_measure_none), ("cleanse/measure.full", laid_cleanse_measure_full)] }
def MeasureMatchesReferenceSaid : Prop := measureMatchesReferenceRow.holds Tryd.pinned (OpenSpec.ofChange measureMatchesReferenceSpec)

/-- ITS FALSE NEIGHBOUR: 'it returns false'. Refute it at one input. -/
def measureMatchesReferenceWrong : ChangeSpec := { name := "measureMatchesReference", fn := fun _ => fun
  | [d1, d2, d3, d4] => { results := [.lit (.bool false)], args := [d1, d2, d3, d4] }
  | _ => none }
def MeasureMatchesReferenceWrongFalsely : Prop := measureMatchesReferenceRow.holds Tryd.pinned (OpenSpec.ofChange measureMatchesReferenceWrong)

/-- 'cleanselaw04.MeasureMetric': WHATEVER THE INPUT: true; the input reads as it did. -/
def measureMetricSpec : ChangeSpec := { name := "measureMetric", fn := fun _ => fun
  | [d1, d2, d3] => { results := [.lit (.bool true)], args := [d1, d2, d3] }
  | _ => none }
def measureMetricRow : OpenClaim := { program := "ytjlighbppoffhaadoor", sum := "badef07b600d8750e909634ed4ddde7b871a0ddc0b5ee14aa05e6d66a64300ea", func := "cleanse/cleanselaw04.MeasureMetric", spec := "measureMetric", inPlace := ["internal/abi.NoEscape", "internal/bytealg.MakeNoZero"], unfollowed := true, recurses := true, named := ["cleanse/measure.full", "cleanse/measure.none"], apart := false, laid := [("cleanse/measure.none", laid_cleanse_measure_none), ("cleanse/measure.full", laid_cleanse_measure_full)] }
def MeasureMetricSaid : Prop := measureMetricRow.holds Tryd.pinned (OpenSpec.ofChange measureMetricSpec)

/-- ITS FALSE NEIGHBOUR: 'it returns false'. Refute it at one input. -/
def measureMetricWrong : ChangeSpec := { name := "measureMetric", fn := fun _ => fun
  | [d1, d2, d3] => { results := [.lit (.bool false)], args := [d1, d2, d3] }
  | _ => none }
def MeasureMetricWrongFalsely : Prop := measureMetricRow.holds Tryd.pinned (OpenSpec.ofChange measureMetricWrong)

/-- 'cleanselaw04.MeasureParts': WHATEVER THE INPUT: true; the input reads as it did. -/
def measurePartsSpec : ChangeSpec := { name := "measureParts", fn := fun _ => fun
  | [d1, d2, d3, d4, d5] => { results := [.lit (.bool true)], args := [d1, d2, d3, d4, d5] }
  | _ => none }
def measurePartsRow : OpenClaim := { program := "ytjlighbppoffhaadoor", sum := "badef07b600d8750e909634ed4ddde7b871a0ddc0b5ee14aa05e6d66a64300ea", func := "cleanse/cleanselaw04.MeasureParts", spec := "measureParts", inPlace := ["internal/abi.NoEscape", "internal/bytealg.MakeNoZero"], unfollowed := true, recurses := true, named := ["cleanse/measure.full", "cleanse/measure.none"], apart := false, laid := [("cleanse/measure.none", laid_cleanse_measure_none), ("cleanse/measure.full", laid_cleanse_measure_full)] }
def MeasurePartsSaid : Prop := measurePartsRow.holds Tryd.pinned (OpenSpec.ofChange measurePartsSpec)

/-- ITS FALSE NEIGHBOUR: 'it returns false'. Refute it at one input. -/
def measurePartsWrong : ChangeSpec := { name := "measureParts", fn := fun _ => fun
  | [d1, d2, d3, d4, d5] => { results := [.lit (.bool false)], args := [d1, d2, d3, d4, d5] }
  | _ => none }
def MeasurePartsWrongFalsely : Prop := measurePartsRow.holds Tryd.pinned (OpenSpec.ofChange measurePartsWrong)

/-- 'cleanselaw04.MeasureSimilar': WHATEVER THE INPUT: true; the input reads as it did. -/
def measureSimilarSpec : ChangeSpec := { name := "measureSimilar", fn := fun _ => fun
  | [d] => { results := [.lit (.bool true)], args := [d] }
  | _ => none }
def measureSimilarRow : OpenClaim := { program := "ytjlighbppoffhaadoor", sum := "badef07b600d8750e909634ed4ddde7b871a0ddc0b5ee14aa05e6d66a64300ea", func := "cleanse/cleanselaw04.MeasureSimilar", spec := "measureSimilar", inPlace := ["internal/abi.NoEscape", "internal/bytealg.MakeNoZero"], unfollowed := true, recurses := true, named := ["cleanse/measure.full", "cleanse/measure.none"], apart := false, laid := [("cleanse/measure.none", laid_cleanse_measure_none), ("cleanse/measure.full", laid_cleanse_measure_full)] }
def MeasureSimilarSaid : Prop := measureSimilarRow.holds Tryd.pinned (OpenSpec.ofChange measureSimilarSpec)

/-- ITS FALSE NEIGHBOUR: 'it returns false'. Refute it at one input. -/
def measureSimilarWrong : ChangeSpec := { name := "measureSimilar", fn := fun _ => fun
  | [d] => { results := [.lit (.bool false)], args := [d] }
  | _ => none }
def MeasureSimilarWrongFalsely : Prop := measureSimilarRow.holds Tryd.pinned (OpenSpec.ofChange measureSimilarWrong)

/-- 'cleanselaw04.MeasureJaro': WHATEVER THE INPUT: true; the input reads as it did. -/
def measureJaroSpec : ChangeSpec := { name := "measureJaro", fn := fun _ => fun
  | [d1, d2] => { results := [.lit (.bool true)], args := [d1, d2] }
  | _ => none }
def measureJaroRow : OpenClaim := { program := "ytjlighbppoffhaadoor", sum := "badef07b600d8750e909634ed4ddde7b871a0ddc0b5ee14aa05e6d66a64300ea", func := "cleanse/cleanselaw04.MeasureJaro", spec := "measureJaro", inPlace := ["internal/abi.NoEscape", "internal/bytealg.MakeNoZero"], unfollowed := true, recurses := true, named := ["cleanse/measure.full", "cleanse/measure.none"], apart := false, laid := [("cleanse/measure.none", laid_cleanse_measure_none), ("cleanse/measure.full", laid_cleanse_measure_full)] }
def MeasureJaroSaid : Prop := measureJaroRow.holds Tryd.pinned (OpenSpec.ofChange measureJaroSpec)

/-- ITS FALSE NEIGHBOUR: 'it returns false'. Refute it at one input. -/
def measureJaroWrong : ChangeSpec := { name := "measureJaro", fn := fun _ => fun
  | [d1, d2] => { results := [.lit (.bool false)], args := [d1, d2] }
  | _ => none }
def MeasureJaroWrongFalsely : Prop := measureJaroRow.holds Tryd.pinned (OpenSpec.ofChange measureJaroWrong)

/-- 'cleanselaw04.MeasureValues': WHATEVER THE INPUT: true; the input reads as it did. -/
def measureValuesSpec : ChangeSpec := { name := "measureValues", fn := fun _ => fun
  | [d1, d2, d3, d4] => { results := [.lit (.bool true)], args := [d1, d2, d3, d4] }
  | _ => none }
def measureValuesRow : OpenClaim := { program := "ytjlighbppoffhaadoor", sum := "badef07b600d8750e909634ed4ddde7b871a0ddc0b5ee14aa05e6d66a64300ea", func := "cleanse/cleanselaw04.MeasureValues", spec := "measureValues", inPlace := ["internal/abi.NoEscape", "internal/bytealg.MakeNoZero"], unfollowed := true, recurses := true, named := ["cleanse/measure.full", "cleanse/measure.none"], apart := false, laid := [("cleanse/measure.none", laid_cleanse_measure_none), ("cleanse/measure.full", laid_cleanse_measure_full)] }
def MeasureValuesSaid : Prop := measureValuesRow.holds Tryd.pinned (OpenSpec.ofChange measureValuesSpec)

/-- ITS FALSE NEIGHBOUR: 'it returns false'. Refute it at one input. -/
def measureValuesWrong : ChangeSpec := { name := "measureValues", fn := fun _ => fun
  | [d1, d2, d3, d4] => { results := [.lit (.bool false)], args := [d1, d2, d3, d4] }
  | _ => none }
def MeasureValuesWrongFalsely : Prop := measureValuesRow.holds Tryd.pinned (OpenSpec.ofChange measureValuesWrong)

/-- 'cleanselaw04.MeasureNears': WHATEVER THE INPUT: true; the input reads as it did. -/
def measureNearsSpec : ChangeSpec := { name := "measureNears", fn := fun _ => fun
  | [d1, d2, d3, d4, d5] => { results := [.lit (.bool true)], args := [d1, d2, d3, d4, d5] }
  | _ => none }
def measureNearsRow : OpenClaim := { program := "ytjlighbppoffhaadoor", sum := "badef07b600d8750e909634ed4ddde7b871a0ddc0b5ee14aa05e6d66a64300ea", func := "cleanse/cleanselaw04.MeasureNears", spec := "measureNears", inPlace := ["internal/abi.NoEscape", "internal/bytealg.MakeNoZero"], unfollowed := true, recurses := true, named := ["cleanse/measure.full", "cleanse/measure.none"], apart := false, laid := [("cleanse/measure.none", laid_cleanse_measure_none), ("cleanse/measure.full", laid_cleanse_measure_full)] }
def MeasureNearsSaid : Prop := measureNearsRow.holds Tryd.pinned (OpenSpec.ofChange measureNearsSpec)

/-- ITS FALSE NEIGHBOUR: 'it returns false'. Refute it at one input. -/
def measureNearsWrong : ChangeSpec := { name := "measureNears", fn := fun _ => fun
  | [d1, d2, d3, d4, d5] => { results := [.lit (.bool false)], args := [d1, d2, d3, d4, d5] }
  | _ => none }
def MeasureNearsWrongFalsely : Prop := measureNearsRow.holds Tryd.pinned (OpenSpec.ofChange measureNearsWrong)

/-- 'cleanselaw04.MeasureSets': WHATEVER THE INPUT: true; the input reads as it did. -/
def measureSetsSpec : ChangeSpec := { name := "measureSets", fn := fun _ => fun
  | [d1, d2, d3] => { results := [.lit (.bool true)], args := [d1, d2, d3] }
  | _ => none }
def measureSetsRow : OpenClaim := { program := "ytjlighbppoffhaadoor", sum := "badef07b600d8750e909634ed4ddde7b871a0ddc0b5ee14aa05e6d66a64300ea", func := "cleanse/cleanselaw04.MeasureSets", spec := "measureSets", inPlace := ["internal/abi.NoEscape", "internal/bytealg.MakeNoZero"], unfollowed := true, recurses := true, named := ["cleanse/measure.full", "cleanse/measure.none"], apart := false, laid := [("cleanse/measure.none", laid_cleanse_measure_none), ("cleanse/measure.full", laid_cleanse_measure_full)] }
def MeasureSetsSaid : Prop := measureSetsRow.holds Tryd.pinned (OpenSpec.ofChange measureSetsSpec)

/-- ITS FALSE NEIGHBOUR: 'it returns false'. Refute it at one input. -/
def measureSetsWrong : ChangeSpec := { name := "measureSets", fn := fun _ => fun
  | [d1, d2, d3] => { results := [.lit (.bool false)], args := [d1, d2, d3] }
  | _ => none }
def MeasureSetsWrongFalsely : Prop := measureSetsRow.holds Tryd.pinned (OpenSpec.ofChange measureSetsWrong)

/- THE SECOND FORM. 'bulk': how many values and letters a reading holds, each counted each time it is reached (what is shared counts as often as it is met; a slice's spare places count too). A statement '..UptoSaid' is the law's where the arguments, and the package variables that the reading takes, are together of bulk at most 1048576: NARROWER than '..Said'. Prove '..Said' where nothing that the law and all that it calls make is longer than what came in: it says more and counts as full. Else prove '..UptoSaid'. A law counts once. -/
mutual
def uptoBulk {H : Type} : DataW H → Nat
  | .lit (.string bytes) => bytes.length + 1
  | .lit _ => 1
  | .nil => 1
  | .ptr d => uptoBulk d + 1
  | .slice elems spare => uptoBulkAll elems + uptoBulkAll spare + 1
  | .agg parts => uptoBulkAll parts + 1
  | .iface _ d => uptoBulk d + 1
  | .map entries => uptoBulkEntries entries + 1
  | .held _ => 1
def uptoBulkAll {H : Type} : List (DataW H) → Nat
  | [] => 0
  | d :: r => uptoBulk d + uptoBulkAll r
def uptoBulkEntries {H : Type} : List (Lit × DataW H) → Nat
  | [] => 0
  | x :: r => uptoBulkEntry x + uptoBulkEntries r
def uptoBulkEntry {H : Type} : Lit × DataW H → Nat
  | (.string bytes, d) => bytes.length + uptoBulk d + 1
  | (_, d) => uptoBulk d + 1
 end
def uptoSmall : (H : Type) → List (DataW H) → Bool := fun _ ds => decide (uptoBulkAll ds ≤ 1048576)
def OpenSpec.upto (s : _root_.Go.ChangeSpec) : _root_.Go.OpenSpec := { _root_.Go.OpenSpec.ofChange s with cond := some uptoSmall }

/-- 'cleanselaw04.MeasureMatchesReference', WHERE WHAT IT READS IS OF BULK AT MOST 1048576: true; the input reads as it did. -/
def measureMatchesReferenceUptoRow : OpenClaim := { program := "ytjlighbppoffhaadoor", sum := "badef07b600d8750e909634ed4ddde7b871a0ddc0b5ee14aa05e6d66a64300ea", func := "cleanse/cleanselaw04.MeasureMatchesReference", spec := "measureMatchesReference", inPlace := ["internal/abi.NoEscape", "internal/bytealg.MakeNoZero"], unfollowed := true, recurses := true, named := ["cleanse/measure.full", "cleanse/measure.none"], apart := false, laid := [("cleanse/measure.none", laid_cleanse_measure_none), ("cleanse/measure.full", laid_cleanse_measure_full)], narrowed := true }
def MeasureMatchesReferenceUptoSaid : Prop := measureMatchesReferenceUptoRow.holds Tryd.pinned (OpenSpec.upto measureMatchesReferenceSpec)

/-- 'cleanselaw04.MeasureMetric', WHERE WHAT IT READS IS OF BULK AT MOST 1048576: true; the input reads as it did. -/
def measureMetricUptoRow : OpenClaim := { program := "ytjlighbppoffhaadoor", sum := "badef07b600d8750e909634ed4ddde7b871a0ddc0b5ee14aa05e6d66a64300ea", func := "cleanse/cleanselaw04.MeasureMetric", spec := "measureMetric", inPlace := ["internal/abi.NoEscape", "internal/bytealg.MakeNoZero"], unfollowed := true, recurses := true, named := ["cleanse/measure.full", "cleanse/measure.none"], apart := false, laid := [("cleanse/measure.none", laid_cleanse_measure_none), ("cleanse/measure.full", laid_cleanse_measure_full)], narrowed := true }
def MeasureMetricUptoSaid : Prop := measureMetricUptoRow.holds Tryd.pinned (OpenSpec.upto measureMetricSpec)

/-- 'cleanselaw04.MeasureParts', WHERE WHAT IT READS IS OF BULK AT MOST 1048576: true; the input reads as it did. -/
def measurePartsUptoRow : OpenClaim := { program := "ytjlighbppoffhaadoor", sum := "badef07b600d8750e909634ed4ddde7b871a0ddc0b5ee14aa05e6d66a64300ea", func := "cleanse/cleanselaw04.MeasureParts", spec := "measureParts", inPlace := ["internal/abi.NoEscape", "internal/bytealg.MakeNoZero"], unfollowed := true, recurses := true, named := ["cleanse/measure.full", "cleanse/measure.none"], apart := false, laid := [("cleanse/measure.none", laid_cleanse_measure_none), ("cleanse/measure.full", laid_cleanse_measure_full)], narrowed := true }
def MeasurePartsUptoSaid : Prop := measurePartsUptoRow.holds Tryd.pinned (OpenSpec.upto measurePartsSpec)

/-- 'cleanselaw04.MeasureSimilar', WHERE WHAT IT READS IS OF BULK AT MOST 1048576: true; the input reads as it did. -/
def measureSimilarUptoRow : OpenClaim := { program := "ytjlighbppoffhaadoor", sum := "badef07b600d8750e909634ed4ddde7b871a0ddc0b5ee14aa05e6d66a64300ea", func := "cleanse/cleanselaw04.MeasureSimilar", spec := "measureSimilar", inPlace := ["internal/abi.NoEscape", "internal/bytealg.MakeNoZero"], unfollowed := true, recurses := true, named := ["cleanse/measure.full", "cleanse/measure.none"], apart := false, laid := [("cleanse/measure.none", laid_cleanse_measure_none), ("cleanse/measure.full", laid_cleanse_measure_full)], narrowed := true }
def MeasureSimilarUptoSaid : Prop := measureSimilarUptoRow.holds Tryd.pinned (OpenSpec.upto measureSimilarSpec)

/-- 'cleanselaw04.MeasureJaro', WHERE WHAT IT READS IS OF BULK AT MOST 1048576: true; the input reads as it did. -/
def measureJaroUptoRow : OpenClaim := { program := "ytjlighbppoffhaadoor", sum := "badef07b600d8750e909634ed4ddde7b871a0ddc0b5ee14aa05e6d66a64300ea", func := "cleanse/cleanselaw04.MeasureJaro", spec := "measureJaro", inPlace := ["internal/abi.NoEscape", "internal/bytealg.MakeNoZero"], unfollowed := true, recurses := true, named := ["cleanse/measure.full", "cleanse/measure.none"], apart := false, laid := [("cleanse/measure.none", laid_cleanse_measure_none), ("cleanse/measure.full", laid_cleanse_measure_full)], narrowed := true }
def MeasureJaroUptoSaid : Prop := measureJaroUptoRow.holds Tryd.pinned (OpenSpec.upto measureJaroSpec)

/-- 'cleanselaw04.MeasureValues', WHERE WHAT IT READS IS OF BULK AT MOST 1048576: true; the input reads as it did. -/
def measureValuesUptoRow : OpenClaim := { program := "ytjlighbppoffhaadoor", sum := "badef07b600d8750e909634ed4ddde7b871a0ddc0b5ee14aa05e6d66a64300ea", func := "cleanse/cleanselaw04.MeasureValues", spec := "measureValues", inPlace := ["internal/abi.NoEscape", "internal/bytealg.MakeNoZero"], unfollowed := true, recurses := true, named := ["cleanse/measure.full", "cleanse/measure.none"], apart := false, laid := [("cleanse/measure.none", laid_cleanse_measure_none), ("cleanse/measure.full", laid_cleanse_measure_full)], narrowed := true }
def MeasureValuesUptoSaid : Prop := measureValuesUptoRow.holds Tryd.pinned (OpenSpec.upto measureValuesSpec)

/-- 'cleanselaw04.MeasureNears', WHERE WHAT IT READS IS OF BULK AT MOST 1048576: true; the input reads as it did. -/
def measureNearsUptoRow : OpenClaim := { program := "ytjlighbppoffhaadoor", sum := "badef07b600d8750e909634ed4ddde7b871a0ddc0b5ee14aa05e6d66a64300ea", func := "cleanse/cleanselaw04.MeasureNears", spec := "measureNears", inPlace := ["internal/abi.NoEscape", "internal/bytealg.MakeNoZero"], unfollowed := true, recurses := true, named := ["cleanse/measure.full", "cleanse/measure.none"], apart := false, laid := [("cleanse/measure.none", laid_cleanse_measure_none), ("cleanse/measure.full", laid_cleanse_measure_full)], narrowed := true }
def MeasureNearsUptoSaid : Prop := measureNearsUptoRow.holds Tryd.pinned (OpenSpec.upto measureNearsSpec)

/-- 'cleanselaw04.MeasureSets', WHERE WHAT IT READS IS OF BULK AT MOST 1048576: true; the input reads as it did. -/
def measureSetsUptoRow : OpenClaim := { program := "ytjlighbppoffhaadoor", sum := "badef07b600d8750e909634ed4ddde7b871a0ddc0b5ee14aa05e6d66a64300ea", func := "cleanse/cleanselaw04.MeasureSets", spec := "measureSets", inPlace := ["internal/abi.NoEscape", "internal/bytealg.MakeNoZero"], unfollowed := true, recurses := true, named := ["cleanse/measure.full", "cleanse/measure.none"], apart := false, laid := [("cleanse/measure.none", laid_cleanse_measure_none), ("cleanse/measure.full", laid_cleanse_measure_full)], narrowed := true }
def MeasureSetsUptoSaid : Prop := measureSetsUptoRow.holds Tryd.pinned (OpenSpec.upto measureSetsSpec)

end Rows
end Go.Proofs.YtjlighbppoffhaaDoor
