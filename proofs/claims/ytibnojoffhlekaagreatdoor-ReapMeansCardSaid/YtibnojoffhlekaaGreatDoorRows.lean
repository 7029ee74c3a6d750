/-
  NARROWER THAN 'FOR EVERY INPUT', by the rows' own cells (each row's printed sentence says how): ReapMeans: laid · CircuitMatchesReference: laid · CircuitPolys: laid · CircuitShares: laid · CircuitMeans: laid · CircuitTruth: laid · CircuitCosts: laid · CircuitValues: laid.
  DERIVED. THE GIVEN ROWS OF THIS SEAT. 8 by the template 'for every input the law returns true; each argument reads behind the call as it read before'; 0 by the template 'total and deterministic' (their statements: YtibnojoffhlekaaGreatDoorTotals.lean).
  GIVEN WITH THE SEED: the statements are not yours to turn. If you find one false, say at which input.
  Laid BY PROGRAM, IN A SANDBOX (cutbox-rows.mjs): the forced cells as the released guide's own fill.sh prints them over the translation 7ca099a0001c24e6… (all of the seat's roots in one cut). By AI agents, Wed Nov 11 2026. No macro, syntax, notation, axiom, sorry.
-/
import Derived.Test.YtibnojoffhlekaaGreatDoorChecked
import GoSem.Claim
import GoSem.ClaimJoined
import GoSem.ClaimMapViews
import Derived.JoinedTies
import Derived.KernelRfl
namespace Go.Proofs.YtibnojoffhlekaaGreatDoor
/- THE CELL 'sum', in the pinned program and in every row, IS THE sha256 OF THE DUMP (.gsa) THAT YtibnojoffhlekaaGreatDoorProg.lean LOADS. Nothing in Lean hashes anything: it is a label: what it is worth is what the hold of that sum in a sandbox is worth. -/
noncomputable def Tryz.pinned : Pinned := { name := "ytibnojoffhlekaagreatdoor", sum := "7ca099a0001c24e67ac123182815261c087edccfae0658b8fcd73221add15608", checked := Tryz.checked }
namespace Rows
def none {H : Type} : Left H := { results := [], args := [] }

/- WHAT THE LISTED PACKAGE-LEVEL VARIABLES READ AS WHEN THE CALL BEGINS. Each datum BY PROGRAM (the guide's laid-datum.mjs) off the statement by which the dump's own 'gosem.cut.vars' lays the variable. In a bare row this is a premise. The card (YtibnojoffhlekaaGreatDoorCards.lean) ties it to the program's text. -/
def laid_math_bits_deBruijn32tab {H : Type} : DataW H := .agg [.lit (.int .u8 0), .lit (.int .u8 1), .lit (.int .u8 28), .lit (.int .u8 2), .lit (.int .u8 29), .lit (.int .u8 14), .lit (.int .u8 24), .lit (.int .u8 3), .lit (.int .u8 30), .lit (.int .u8 22), .lit (.int .u8 20), .lit (.int .u8 15), .lit (.int .u8 25), .lit (.int .u8 17), .lit (.int .u8 4), .lit (.int .u8 8), .lit (.int .u8 31), .lit (.int .u8 27), .lit (.int .u8 13), .lit (.int .u8 23), .lit (.int .u8 21), .lit (.int .u8 19), .lit (.int .u8 16), .lit (.int .u8 7), .lit (.int .u8 26), .lit (.int .u8 12), .lit (.int .u8 18), .lit (.int .u8 6), .lit (.int .u8 11), .lit (.int .u8 5), .lit (.int .u8 10), .lit (.int .u8 9)]
def laid_math_bits_deBruijn64tab {H : Type} : DataW H := .agg [.lit (.int .u8 0), .lit (.int .u8 1), .lit (.int .u8 56), .lit (.int .u8 2), .lit (.int .u8 57), .lit (.int .u8 49), .lit (.int .u8 28), .lit (.int .u8 3), .lit (.int .u8 61), .lit (.int .u8 58), .lit (.int .u8 42), .lit (.int .u8 50), .lit (.int .u8 38), .lit (.int .u8 29), .lit (.int .u8 17), .lit (.int .u8 4), .lit (.int .u8 62), .lit (.int .u8 47), .lit (.int .u8 59), .lit (.int .u8 36), .lit (.int .u8 45), .lit (.int .u8 43), .lit (.int .u8 51), .lit (.int .u8 22), .lit (.int .u8 53), .lit (.int .u8 39), .lit (.int .u8 33), .lit (.int .u8 30), .lit (.int .u8 24), .lit (.int .u8 18), .lit (.int .u8 12), .lit (.int .u8 5), .lit (.int .u8 63), .lit (.int .u8 55), .lit (.int .u8 48), .lit (.int .u8 27), .lit (.int .u8 60), .lit (.int .u8 41), .lit (.int .u8 37), .lit (.int .u8 16), .lit (.int .u8 46), .lit (.int .u8 35), .lit (.int .u8 44), .lit (.int .u8 21), .lit (.int .u8 52), .lit (.int .u8 32), .lit (.int .u8 23), .lit (.int .u8 11), .lit (.int .u8 54), .lit (.int .u8 26), .lit (.int .u8 40), .lit (.int .u8 15), .lit (.int .u8 34), .lit (.int .u8 20), .lit (.int .u8 31), .lit (.int .u8 10), .lit (.int .u8 25), .lit (.int .u8 14), .lit (.int .u8 19), .lit (.int .u8 9), .lit (.int .u8 13), .lit (.int .u8 8), .lit (.int .u8 7), .lit (.int .u8 6)]
def laid_internal_strconv_uint64pow10 {H : Type} : DataW H := .agg [.lit (.int .u64 1), .lit (.int .u64 10), .lit (.int .u64 100), .lit (.int .u64 1000), .lit (.int .u64 10000), .lit (.int .u64 100000), .lit (.int .u64 1000000), .lit (.int .u64 10000000), .lit (.int .u64 100000000), .lit (.int .u64 1000000000), .lit (.int .u64 10000000000), .lit (.int .u64 100000000000), .lit (.int .u64 1000000000000), .lit (.int .u64 10000000000000), .lit (.int .u64 100000000000000), .lit (.int .u64 1000000000000000), .lit (.int .u64 10000000000000000), .lit (.int .u64 100000000000000000), .lit (.int .u64 1000000000000000000), .lit (.int .u64 10000000000000000000)]

/-- 'cleanselaw18.ReapMeans': WHATEVER THE INPUT: true; the input reads as it did. -/
def reapMeansSpec : ChangeSpec := { name := "reapMeans", fn := fun _ => fun
  | [d1, d2, d3] => { results := [.lit (.bool true)], args := [d1, d2, d3] }
  | _ => none }
def reapMeansRow : OpenClaim := { program := "ytibnojoffhlekaagreatdoor", sum := "7ca099a0001c24e67ac123182815261c087edccfae0658b8fcd73221add15608", func := "cleanse/cleanselaw18.ReapMeans", spec := "reapMeans", inPlace := ["internal/abi.NoEscape", "internal/bytealg.MakeNoZero"], unfollowed := true, recurses := true, named := ["internal/strconv.uint64pow10", "math/bits.deBruijn32tab", "math/bits.deBruijn64tab"], apart := false, laid := [("math/bits.deBruijn32tab", laid_math_bits_deBruijn32tab), ("math/bits.deBruijn64tab", laid_math_bits_deBruijn64tab), ("internal/strconv.uint64pow10", laid_internal_strconv_uint64pow10)] }
def ReapMeansSaid : Prop := reapMeansRow.holds Tryz.pinned (OpenSpec.ofChange reapMeansSpec)

/-- ITS FALSE NEIGHBOUR: 'it returns false'. Refute it at one input. -/
def reapMeansWrong : ChangeSpec := { name := "reapMeans", fn := fun _ => fun
  | [d1, d2, d3] => { results := [.lit (.bool false)], args := [d1, d2, d3] }
  | _ => none }
def ReapMeansWrongFalsely : Prop := reapMeansRow.holds Tryz.pinned (OpenSpec.ofChange reapMeansWrong)

/-- 'cleanselaw16.CircuitMatchesReference': WHATEVER THE INPUT: true; the input reads as it did. -/
def circuitMatchesReferenceSpec : ChangeSpec := { name := "circuitMatchesReference", fn := fun _ => fun
  | [d1, d2, d3, d4, d5] => { results := [.lit (.bool true)], args := [d1, d2, d3, d4, d5] }
  | _ => none }
def circuitMatchesReferenceRow : OpenClaim := { program := "ytibnojoffhlekaagreatdoor", sum := "7ca099a0001c24e67ac123182815261c087edccfae0658b8fcd73221add15608", func := "cleanse/cleanselaw16.CircuitMatchesReference", spec := "circuitMatchesReference", inPlace := ["internal/abi.NoEscape", "internal/bytealg.MakeNoZero"], unfollowed := true, recurses := true, named := ["internal/strconv.uint64pow10", "math/bits.deBruijn32tab", "math/bits.deBruijn64tab"], apart := false, laid := [("math/bits.deBruijn32tab", laid_math_bits_deBruijn32tab), ("math/bits.deBruijn64tab", laid_math_bits_deBruijn64tab), ("internal/strconv.uint64pow10", laid_internal_strconv_uint64pow10)] }
def CircuitMatchesReferenceSaid : Prop := circuitMatchesReferenceRow.holds Tryz.pinned (OpenSpec.ofChange circuitMatchesReferenceSpec)

/-- ITS FALSE NEIGHBOUR: 'it returns false'. Refute it at one input. -/
def circuitMatchesReferenceWrong : ChangeSpec := { name := "circuitMatchesReference", fn := fun _ => fun
  | [d1, d2, d3, d4, d5] => { results := [.lit (.bool false)], args := [d1, d2, d3, d4, d5] }
  | _ => none }
def CircuitMatchesReferenceWrongFalsely : Prop := circuitMatchesReferenceRow.holds Tryz.pinned (OpenSpec.ofChange circuitMatchesReferenceWrong)

/-- 'cleanselaw16.CircuitPolys': WHATEVER THE INPUT: true; the input reads as it did. -/
def circuitPolysSpec : ChangeSpec := { name := "circuitPolys", fn := fun _ => fun
  | [d1, d2] => { results := [.lit (.bool true)], args := [d1, d2] }
  | _ => none }
def circuitPolysRow : OpenClaim := { program := "ytibnojoffhlekaagreatdoor", sum := "7ca099a0001c24e67ac123182815261c087edccfae0658b8fcd73221add15608", func := "cleanse/cleanselaw16.CircuitPolys", spec := "circuitPolys", inPlace := ["internal/abi.NoEscape", "internal/bytealg.MakeNoZero"], unfollowed := true, recurses := true, named := ["internal/strconv.uint64pow10", "math/bits.deBruijn32tab", "math/bits.deBruijn64tab"], apart := false, laid := [("math/bits.deBruijn32tab", laid_math_bits_deBruijn32tab), ("math/bits.deBruijn64tab", laid_math_bits_deBruijn64tab), ("internal/strconv.uint64pow10", laid_internal_strconv_uint64pow10)] }
def CircuitPolysSaid : Prop := circuitPolysRow.holds Tryz.pinned (OpenSpec.ofChange circuitPolysSpec)

/-- ITS FALSE NEIGHBOUR: 'it returns false'. Refute it at one input. -/
def circuitPolysWrong : ChangeSpec := { name := "circuitPolys", fn := fun _ => fun
  | [d1, d2] => { results := [.lit (.bool false)], args := [d1, d2] }
  | _ => none }
def CircuitPolysWrongFalsely : Prop := circuitPolysRow.holds Tryz.pinned (OpenSpec.ofChange circuitPolysWrong)

/-- 'cleanselaw16.CircuitShares': WHATEVER THE INPUT: true; the input reads as it did. -/
def circuitSharesSpec : ChangeSpec := { name := "circuitShares", fn := fun _ => fun
  | [d1, d2] => { results := [.lit (.bool true)], args := [d1, d2] }
  | _ => none }
def circuitSharesRow : OpenClaim := { program := "ytibnojoffhlekaagreatdoor", sum := "7ca099a0001c24e67ac123182815261c087edccfae0658b8fcd73221add15608", func := "cleanse/cleanselaw16.CircuitShares", spec := "circuitShares", inPlace := ["internal/abi.NoEscape", "internal/bytealg.MakeNoZero"], unfollowed := true, recurses := true, named := ["internal/strconv.uint64pow10", "math/bits.deBruijn32tab", "math/bits.deBruijn64tab"], apart := false, laid := [("math/bits.deBruijn32tab", laid_math_bits_deBruijn32tab), ("math/bits.deBruijn64tab", laid_math_bits_deBruijn64tab), ("internal/strconv.uint64pow10", laid_internal_strconv_uint64pow10)] }
def CircuitSharesSaid : Prop := circuitSharesRow.holds Tryz.pinned (OpenSpec.ofChange circuitSharesSpec)

/-- ITS FALSE NEIGHBOUR: 'it returns false'. Refute it at one input. -/
def circuitSharesWrong : ChangeSpec := { name := "circuitShares", fn := fun _ => fun
  | [d1, d2] => { results := [.lit (.bool false)], args := [d1, d2] }
  | _ => none }
def CircuitSharesWrongFalsely : Prop := circuitSharesRow.holds Tryz.pinned (OpenSpec.ofChange circuitSharesWrong)

/-- 'cleanselaw16.CircuitMeans': WHATEVER THE INPUT: true; the input reads as it did. -/
def circuitMeansSpec : ChangeSpec := { name := "circuitMeans", fn := fun _ => fun
  | [d1, d2] => { results := [.lit (.bool true)], args := [d1, d2] }
  | _ => none }
def circuitMeansRow : OpenClaim := { program := "ytibnojoffhlekaagreatdoor", sum := "7ca099a0001c24e67ac123182815261c087edccfae0658b8fcd73221add15608", func := "cleanse/cleanselaw16.CircuitMeans", spec := "circuitMeans", inPlace := ["internal/abi.NoEscape", "internal/bytealg.MakeNoZero"], unfollowed := true, recurses := true, named := ["internal/strconv.uint64pow10", "math/bits.deBruijn32tab", "math/bits.deBruijn64tab"], apart := false, laid := [("math/bits.deBruijn32tab", laid_math_bits_deBruijn32tab), ("math/bits.deBruijn64tab", laid_math_bits_deBruijn64tab), ("internal/strconv.uint64pow10", laid_internal_strconv_uint64pow10)] }
def CircuitMeansSaid : Prop := circuitMeansRow.holds Tryz.pinned (OpenSpec.ofChange circuitMeansSpec)

/-- ITS FALSE NEIGHBOUR: 'it returns false'. Refute it at one input. -/
def circuitMeansWrong : ChangeSpec := { name := "circuitMeans", fn := fun _ => fun
  | [d1, d2] => { results := [.lit (.bool false)], args := [d1, d2] }
  | _ => none }
def CircuitMeansWrongFalsely : Prop := circuitMeansRow.holds Tryz.pinned (OpenSpec.ofChange circuitMeansWrong)

/-- 'cleanselaw16.CircuitTruth': WHATEVER THE INPUT: true; the input reads as it did. -/
def circuitTruthSpec : ChangeSpec := { name := "circuitTruth", fn := fun _ => fun
  | [d1, d2, d3, d4] => { results := [.lit (.bool true)], args := [d1, d2, d3, d4] }
  | _ => none }
def circuitTruthRow : OpenClaim := { program := "ytibnojoffhlekaagreatdoor", sum := "7ca099a0001c24e67ac123182815261c087edccfae0658b8fcd73221add15608", func := "cleanse/cleanselaw16.CircuitTruth", spec := "circuitTruth", inPlace := ["internal/abi.NoEscape", "internal/bytealg.MakeNoZero"], unfollowed := true, recurses := true, named := ["internal/strconv.uint64pow10", "math/bits.deBruijn32tab", "math/bits.deBruijn64tab"], apart := false, laid := [("math/bits.deBruijn32tab", laid_math_bits_deBruijn32tab), ("math/bits.deBruijn64tab", laid_math_bits_deBruijn64tab), ("internal/strconv.uint64pow10", laid_internal_strconv_uint64pow10)] }
def CircuitTruthSaid : Prop := circuitTruthRow.holds Tryz.pinned (OpenSpec.ofChange circuitTruthSpec)

/-- ITS FALSE NEIGHBOUR: 'it returns false'. Refute it at one input. -/
def circuitTruthWrong : ChangeSpec := { name := "circuitTruth", fn := fun _ => fun
  | [d1, d2, d3, d4] => { results := [.lit (.bool false)], args := [d1, d2, d3, d4] }
  | _ => none }
def CircuitTruthWrongFalsely : Prop := circuitTruthRow.holds Tryz.pinned (OpenSpec.ofChange circuitTruthWrong)

/-- 'cleanselaw16.CircuitCosts': WHATEVER THE INPUT: true; the input reads as it did. -/
def circuitCostsSpec : ChangeSpec := { name := "circuitCosts", fn := fun _ => fun
  | [d1, d2, d3] => { results := [.lit (.bool true)], args := [d1, d2, d3] }
  | _ => none }
def circuitCostsRow : OpenClaim := { program := "ytibnojoffhlekaagreatdoor", sum := "7ca099a0001c24e67ac123182815261c087edccfae0658b8fcd73221add15608", func := "cleanse/cleanselaw16.CircuitCosts", spec := "circuitCosts", inPlace := ["internal/abi.NoEscape", "internal/bytealg.MakeNoZero"], unfollowed := true, recurses := true, named := ["internal/strconv.uint64pow10", "math/bits.deBruijn32tab", "math/bits.deBruijn64tab"], apart := false, laid := [("math/bits.deBruijn32tab", laid_math_bits_deBruijn32tab), ("math/bits.deBruijn64tab", laid_math_bits_deBruijn64tab), ("internal/strconv.uint64pow10", laid_internal_strconv_uint64pow10)] }
def CircuitCostsSaid : Prop := circuitCostsRow.holds Tryz.pinned (OpenSpec.ofChange circuitCostsSpec)

/-- ITS FALSE NEIGHBOUR: 'it returns false'. Refute it at one input. -/
def circuitCostsWrong : ChangeSpec := { name := "circuitCosts", fn := fun _ => fun
  | [d1, d2, d3] => { results := [.lit (.bool false)], args := [d1, d2, d3] }
  | _ => none }
def CircuitCostsWrongFalsely : Prop := circuitCostsRow.holds Tryz.pinned (OpenSpec.ofChange circuitCostsWrong)

/-- 'cleanselaw16.CircuitValues': WHATEVER THE INPUT: true; the input reads as it did. -/
def circuitValuesSpec : ChangeSpec := { name := "circuitValues", fn := fun _ => fun
  | [d1, d2, d3] => { results := [.lit (.bool true)], args := [d1, d2, d3] }
  | _ => none }
def circuitValuesRow : OpenClaim := { program := "ytibnojoffhlekaagreatdoor", sum := "7ca099a0001c24e67ac123182815261c087edccfae0658b8fcd73221add15608", func := "cleanse/cleanselaw16.CircuitValues", spec := "circuitValues", inPlace := ["internal/abi.NoEscape", "internal/bytealg.MakeNoZero"], unfollowed := true, recurses := true, named := ["internal/strconv.uint64pow10", "math/bits.deBruijn32tab", "math/bits.deBruijn64tab"], apart := false, laid := [("math/bits.deBruijn32tab", laid_math_bits_deBruijn32tab), ("math/bits.deBruijn64tab", laid_math_bits_deBruijn64tab), ("internal/strconv.uint64pow10", laid_internal_strconv_uint64pow10)] }
def CircuitValuesSaid : Prop := circuitValuesRow.holds Tryz.pinned (OpenSpec.ofChange circuitValuesSpec)

/-- ITS FALSE NEIGHBOUR: 'it returns false'. Refute it at one input. -/
def circuitValuesWrong : ChangeSpec := { name := "circuitValues", fn := fun _ => fun
  | [d1, d2, d3] => { results := [.lit (.bool false)], args := [d1, d2, d3] }
  | _ => none }
def CircuitValuesWrongFalsely : Prop := circuitValuesRow.holds Tryz.pinned (OpenSpec.ofChange circuitValuesWrong)

/- THE SECOND FORM. 'bulk': how many values and letters a reading holds, each counted each time it is reached (what is shared counts as often as it is met; a slice's spare places count too). A statement '..UptoSaid' is the law's where the arguments, and the package variables that the reading takes, are together of bulk at most 1048576: NARROWER than '..Said'. Prove '..Said' where nothing that the law and all that it calls make is longer than what came in: it says more and counts as full. Else prove '..UptoSaid'. A law counts once. -/
mutual
def uptoBulk {H : Type} : DataW H → Nat
  | .lit (.string bytes) => bytes.length + 1
  | .lit _ => 1
  | .nil => 1
  | .ptr d => uptoBulk d + 1
  | .slice elems spare => uptoBulkAll elems + uptoBulkAll spare + 1
  | .agg parts => uptoBulkAll parts + 1
  | .iface _ d => uptoBulk d + 1
  | .map entries => uptoBulkEntries entries + 1
  | .held _ => 1
def uptoBulkAll {H : Type} : List (DataW H) → Nat
  | [] => 0
  | d :: r => uptoBulk d + uptoBulkAll r
def uptoBulkEntries {H : Type} : List (Lit × DataW H) → Nat
  | [] => 0
  | x :: r => uptoBulkEntry x + uptoBulkEntries r
def uptoBulkEntry {H : Type} : Lit × DataW H → Nat
  | (.string bytes, d) => bytes.length + uptoBulk d + 1
  | (_, d) => uptoBulk d + 1
 end
def uptoSmall : (H : Type) → List (DataW H) → Bool := fun _ ds => decide (uptoBulkAll ds ≤ 1048576)
def OpenSpec.upto (s : _root_.Go.ChangeSpec) : _root_.Go.OpenSpec := { _root_.Go.OpenSpec.ofChange s with cond := some uptoSmall }

/-- 'cleanselaw18.ReapMeans', WHERE WHAT IT READS IS OF BULK AT MOST 1048576: true; the input reads as it did. -/
def reapMeansUptoRow : OpenClaim := { program := "ytibnojoffhlekaagreatdoor", sum := "7ca099a0001c24e67ac123182815261c087edccfae0658b8fcd73221add15608", func := "cleanse/cleanselaw18.ReapMeans", spec := "reapMeans", inPlace := ["internal/abi.NoEscape", "internal/bytealg.MakeNoZero"], unfollowed := true, recurses := true, named := ["internal/strconv.uint64pow10", "math/bits.deBruijn32tab", "math/bits.deBruijn64tab"], apart := false, laid := [("math/bits.deBruijn32tab", laid_math_bits_deBruijn32tab), ("math/bits.deBruijn64tab", laid_math_bits_deBruijn64tab), ("internal/strconv.uint64pow10", laid_internal_strconv_uint64pow10)], narrowed := true }
def ReapMeansUptoSaid : Prop := reapMeansUptoRow.holds Tryz.pinned (OpenSpec.upto reapMeansSpec)

/-- 'cleanselaw16.CircuitMatchesReference', WHERE WHAT IT READS IS OF BULK AT MOST 1048576: true; the input reads as it did. -/
def circuitMatchesReferenceUptoRow : OpenClaim := { program := "ytibnojoffhlekaagreatdoor", sum := "7ca099a0001c24e67ac123182815261c087edccfae0658b8fcd73221add15608", func := "cleanse/cleanselaw16.CircuitMatchesReference", spec := "circuitMatchesReference", inPlace := ["internal/abi.NoEscape", "internal/bytealg.MakeNoZero"], unfollowed := true, recurses := true, named := ["internal/strconv.uint64pow10", "math/bits.deBruijn32tab", "math/bits.deBruijn64tab"], apart := false, laid := [("math/bits.deBruijn32tab", laid_math_bits_deBruijn32tab), ("math/bits.deBruijn64tab", laid_math_bits_deBruijn64tab), ("internal/strconv.uint64pow10", laid_internal_strconv_uint64pow10)], narrowed := true }
def CircuitMatchesReferenceUptoSaid : Prop := circuitMatchesReferenceUptoRow.holds Tryz.pinned (OpenSpec.upto circuitMatchesReferenceSpec)

/-- 'cleanselaw16.CircuitPolys', WHERE WHAT IT READS IS OF BULK AT MOST 1048576: true; the input reads as it did. -/
def circuitPolysUptoRow : OpenClaim := { program := "ytibnojoffhlekaagreatdoor", sum := "7ca099a0001c24e67ac123182815261c087edccfae0658b8fcd73221add15608", func := "cleanse/cleanselaw16.CircuitPolys", spec := "circuitPolys", inPlace := ["internal/abi.NoEscape", "internal/bytealg.MakeNoZero"], unfollowed := true, recurses := true, named := ["internal/strconv.uint64pow10", "math/bits.deBruijn32tab", "math/bits.deBruijn64tab"], apart := false, laid := [("math/bits.deBruijn32tab", laid_math_bits_deBruijn32tab), ("math/bits.deBruijn64tab", laid_math_bits_deBruijn64tab), ("internal/strconv.uint64pow10", laid_internal_strconv_uint64pow10)], narrowed := true }
def CircuitPolysUptoSaid : Prop := circuitPolysUptoRow.holds Tryz.pinned (OpenSpec.upto circuitPolysSpec)

/-- 'cleanselaw16.CircuitShares', WHERE WHAT IT READS IS OF BULK AT MOST 1048576: true; the input reads as it did. -/
def circuitSharesUptoRow : OpenClaim := { program := "ytibnojoffhlekaagreatdoor", sum := "7ca099a0001c24e67ac123182815261c087edccfae0658b8fcd73221add15608", func := "cleanse/cleanselaw16.CircuitShares", spec := "circuitShares", inPlace := ["internal/abi.NoEscape", "internal/bytealg.MakeNoZero"], unfollowed := true, recurses := true, named := ["internal/strconv.uint64pow10", "math/bits.deBruijn32tab", "math/bits.deBruijn64tab"], apart := false, laid := [("math/bits.deBruijn32tab", laid_math_bits_deBruijn32tab), ("math/bits.deBruijn64tab", laid_math_bits_deBruijn64tab), ("internal/strconv.uint64pow10", laid_internal_strconv_uint64pow10)], narrowed := true }
def CircuitSharesUptoSaid : Prop := circuitSharesUptoRow.holds Tryz.pinned (OpenSpec.upto circuitSharesSpec)

/-- 'cleanselaw16.CircuitMeans', WHERE WHAT IT READS IS OF BULK AT MOST 1048576: true; the input reads as it did. -/
def circuitMeansUptoRow : OpenClaim := { program := "ytibnojoffhlekaagreatdoor", sum := "7ca099a0001c24e67ac123182815261c087edccfae0658b8fcd73221add15608", func := "cleanse/cleanselaw16.CircuitMeans", spec := "circuitMeans", inPlace := ["internal/abi.NoEscape", "internal/bytealg.MakeNoZero"], unfollowed := true, recurses := true, named := ["internal/strconv.uint64pow10", "math/bits.deBruijn32tab", "math/bits.deBruijn64tab"], apart := false, laid := [("math/bits.deBruijn32tab", laid_math_bits_deBruijn32tab), ("math/bits.deBruijn64tab", laid_math_bits_deBruijn64tab), ("internal/strconv.uint64pow10", laid_internal_strconv_uint64pow10)], narrowed := true }
def CircuitMeansUptoSaid : Prop := circuitMeansUptoRow.holds Tryz.pinned (OpenSpec.upto circuitMeansSpec)

/-- 'cleanselaw16.CircuitTruth', WHERE WHAT IT READS IS OF BULK AT MOST 1048576: true; the input reads as it did. -/
def circuitTruthUptoRow : OpenClaim := { program := "ytibnojoffhlekaagreatdoor", sum := "7ca099a0001c24e67ac123182815261c087edccfae0658b8fcd73221add15608", func := "cleanse/cleanselaw16.CircuitTruth", spec := "circuitTruth", inPlace := ["internal/abi.NoEscape", "internal/bytealg.MakeNoZero"], unfollowed := true, recurses := true, named := ["internal/strconv.uint64pow10", "math/bits.deBruijn32tab", "math/bits.deBruijn64tab"], apart := false, laid := [("math/bits.deBruijn32tab", laid_math_bits_deBruijn32tab), ("math/bits.deBruijn64tab", laid_math_bits_deBruijn64tab), ("internal/strconv.uint64pow10", laid_internal_strconv_uint64pow10)], narrowed := true }
def CircuitTruthUptoSaid : Prop := circuitTruthUptoRow.holds Tryz.pinned (OpenSpec.upto circuitTruthSpec)

/-- 'cleanselaw16.CircuitCosts', WHERE WHAT IT READS IS OF BULK AT MOST 1048576: true; the input reads as it did. -/
def circuitCostsUptoRow : OpenClaim := { program := "ytibnojoffhlekaagreatdoor", sum := "7ca099a0001c24e67ac123182815261c087edccfae0658b8fcd73221add15608", func := "cleanse/cleanselaw16.CircuitCosts", spec := "circuitCosts", inPlace := ["internal/abi.NoEscape", "internal/bytealg.MakeNoZero"], unfollowed := true, recurses := true, named := ["internal/strconv.uint64pow10", "math/bits.deBruijn32tab", "math/bits.deBruijn64tab"], apart := false, laid := [("math/bits.deBruijn32tab", laid_math_bits_deBruijn32tab), ("math/bits.deBruijn64tab", laid_math_bits_deBruijn64tab), ("internal/strconv.uint64pow10", laid_internal_strconv_uint64pow10)], narrowed := true }
def CircuitCostsUptoSaid : Prop := circuitCostsUptoRow.holds Tryz.pinned (OpenSpec.upto circuitCostsSpec)

/-- 'cleanselaw16.CircuitValues', WHERE WHAT IT READS IS OF BULK AT MOST 1048576: true; the input reads as it did. -/
def circuitValuesUptoRow : OpenClaim := { program := "ytibnojoffhlekaagreatdoor", sum := "7ca099a0001c24e67ac123182815261c087edccfae0658b8fcd73221add15608", func := "cleanse/cleanselaw16.CircuitValues", spec := "circuitValues", inPlace := ["internal/abi.NoEscape", "internal/bytealg.MakeNoZero"], unfollowed := true, recurses := true, named := ["internal/strconv.uint64pow10", "math/bits.deBruijn32tab", "math/bits.deBruijn64tab"], apart := false, laid := [("math/bits.deBruijn32tab", laid_math_bits_deBruijn32tab), ("math/bits.deBruijn64tab", laid_math_bits_deBruijn64tab), ("internal/strconv.uint64pow10", laid_internal_strconv_uint64pow10)], narrowed := true }
def CircuitValuesUptoSaid : Prop := circuitValuesUptoRow.holds Tryz.pinned (OpenSpec.upto circuitValuesSpec)

end Rows
end Go.Proofs.YtibnojoffhlekaaGreatDoor
