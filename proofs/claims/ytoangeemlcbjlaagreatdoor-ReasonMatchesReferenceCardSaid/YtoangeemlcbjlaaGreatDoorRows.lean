/-
  NARROWER THAN 'FOR EVERY INPUT', by the rows' own cells (each row's printed sentence says how): ReasonMatchesReference: laid · ReasonEnough: laid · ReasonAll: laid · ReasonNeeded: laid · ReasonWhyNot: laid · ReasonEffects: laid · ReasonSums: laid.
  DERIVED. THE GIVEN ROWS OF THIS SEAT. 7 by the template 'for every input the law returns true; each argument reads behind the call as it read before'; 0 by the template 'total and deterministic' (their statements: YtoangeemlcbjlaaGreatDoorTotals.lean).
  GIVEN WITH THE SEED: the statements are not yours to turn. If you find one false, say at which input.
  Laid BY PROGRAM, IN A SANDBOX (cutbox-rows.mjs): the forced cells as the released guide's own fill.sh prints them over the translation afb05a1cefe9f62e… (all of the seat's roots in one cut). By AI agents, Wed Nov 11 2026. No macro, syntax, notation, axiom, sorry.
-/
import Derived.Test.YtoangeemlcbjlaaGreatDoorChecked
import GoSem.Claim
import GoSem.ClaimJoined
import GoSem.ClaimMapViews
import Derived.JoinedTies
import Derived.KernelRfl
namespace Go.Proofs.YtoangeemlcbjlaaGreatDoor
/- THE CELL 'sum', in the pinned program and in every row, IS THE sha256 OF THE DUMP (.gsa) THAT YtoangeemlcbjlaaGreatDoorProg.lean LOADS. Nothing in Lean hashes anything: it is a label: what it is worth is what the hold of that sum in a sandbox is worth. -/
noncomputable def Tryz.pinned : Pinned := { name := "ytoangeemlcbjlaagreatdoor", sum := "afb05a1cefe9f62e0ec457bf078d148ae9cd04c6e867de515320990e6866e6db", checked := Tryz.checked }
namespace Rows
def none {H : Type} : Left H := { results := [], args := [] }

/- WHAT THE LISTED PACKAGE-LEVEL VARIABLES READ AS WHEN THE CALL BEGINS. Each datum BY PROGRAM (the guide's laid-datum.mjs) off the statement by which the dump's own 'gosem.cut.vars' lays the variable. In a bare row this is a premise. The card (YtoangeemlcbjlaaGreatDoorCards.lean) ties it to the program's text. -/
def laid_math_bits_deBruijn32tab {H : Type} : DataW H := .agg [.lit (.int .u8 0), .lit (.int .u8 1), .lit (.int .u8 28), .lit (.int .u8 2), .lit (.int .u8 29), .lit (.int .u8 14), .lit (.int .u8 24), .lit (.int .u8 3), .lit (.int .u8 30), .lit (.int .u8 22), .lit (.int .u8 20), .lit (.int .u8 15), .lit (.int .u8 25), .lit (.int .u8 17), .lit (.int .u8 4), .lit (.int .u8 8), .lit (.int .u8 31), .lit (.int .u8 27), .lit (.int .u8 13), .lit (.int .u8 23), .lit (.int .u8 21), .lit (.int .u8 19), .lit (.int .u8 16), .lit (.int .u8 7), .lit (.int .u8 26), .lit (.int .u8 12), .lit (.int .u8 18), .lit (.int .u8 6), .lit (.int .u8 11), .lit (.int .u8 5), .lit (.int .u8 10), .lit (.int .u8 9)]
def laid_math_bits_deBruijn64tab {H : Type} : DataW H := .agg [.lit (.int .u8 0), .lit (.int .u8 1), .lit (.int .u8 56), .lit (.int .u8 2), .lit (.int .u8 57), .lit (.int .u8 49), .lit (.int .u8 28), .lit (.int .u8 3), .lit (.int .u8 61), .lit (.int .u8 58), .lit (.int .u8 42), .lit (.int .u8 50), .lit (.int .u8 38), .lit (.int .u8 29), .lit (.int .u8 17), .lit (.int .u8 4), .lit (.int .u8 62), .lit (.int .u8 47), .lit (.int .u8 59), .lit (.int .u8 36), .lit (.int .u8 45), .lit (.int .u8 43), .lit (.int .u8 51), .lit (.int .u8 22), .lit (.int .u8 53), .lit (.int .u8 39), .lit (.int .u8 33), .lit (.int .u8 30), .lit (.int .u8 24), .lit (.int .u8 18), .lit (.int .u8 12), .lit (.int .u8 5), .lit (.int .u8 63), .lit (.int .u8 55), .lit (.int .u8 48), .lit (.int .u8 27), .lit (.int .u8 60), .lit (.int .u8 41), .lit (.int .u8 37), .lit (.int .u8 16), .lit (.int .u8 46), .lit (.int .u8 35), .lit (.int .u8 44), .lit (.int .u8 21), .lit (.int .u8 52), .lit (.int .u8 32), .lit (.int .u8 23), .lit (.int .u8 11), .lit (.int .u8 54), .lit (.int .u8 26), .lit (.int .u8 40), .lit (.int .u8 15), .lit (.int .u8 34), .lit (.int .u8 20), .lit (.int .u8 31), .lit (.int .u8 10), .lit (.int .u8 25), .lit (.int .u8 14), .lit (.int .u8 19), .lit (.int .u8 9), .lit (.int .u8 13), .lit (.int .u8 8), .lit (.int .u8 7), .lit (.int .u8 6)]
def laid_internal_strconv_uint64pow10 {H : Type} : DataW H := .agg [.lit (.int .u64 1), .lit (.int .u64 10), .lit (.int .u64 100), .lit (.int .u64 1000), .lit (.int .u64 10000), .lit (.int .u64 100000), .lit (.int .u64 1000000), .lit (.int .u64 10000000), .lit (.int .u64 100000000), .lit (.int .u64 1000000000), .lit (.int .u64 10000000000), .lit (.int .u64 100000000000), .lit (.int .u64 1000000000000), .lit (.int .u64 10000000000000), .lit (.int .u64 100000000000000), .lit (.int .u64 1000000000000000), .lit (.int .u64 10000000000000000), .lit (.int .u64 100000000000000000), .lit (.int .u64 1000000000000000000), .lit (.int .u64 10000000000000000000)]

/-- 'cleanselaw17.ReasonMatchesReference': WHATEVER THE INPUT: true; the input reads as it did. -/
def reasonMatchesReferenceSpec : ChangeSpec := { name := "reasonMatchesReference", fn := fun _ => fun
  | [d1, d2, d3, d4, d5] => { results := [.lit (.bool true)], args := [d1, d2, d3, d4, d5] }
  | _ => none }
def reasonMatchesReferenceRow : OpenClaim := { program := "ytoangeemlcbjlaagreatdoor", sum := "afb05a1cefe9f62e0ec457bf078d148ae9cd04c6e867de515320990e6866e6db", func := "cleanse/cleanselaw17.ReasonMatchesReference", spec := "reasonMatchesReference", unfollowed := true, recurses := true, named := ["internal/strconv.uint64pow10", "math/bits.deBruijn32tab", "math/bits.deBruijn64tab"], apart := false, laid := [("math/bits.deBruijn32tab", laid_math_bits_deBruijn32tab), ("math/bits.deBruijn64tab", laid_math_bits_deBruijn64tab), ("internal/strconv.uint64pow10", laid_internal_strconv_uint64pow10)] }
def ReasonMatchesReferenceSaid : Prop := reasonMatchesReferenceRow.holds Tryz.pinned (OpenSpec.ofChange reasonMatchesReferenceSpec)

/-- ITS FALSE NEIGHBOUR: 'it returns false'. Refute it at one input. -/
def reasonMatchesReferenceWrong : ChangeSpec := { name := "reasonMatchesReference", fn := fun _ => fun
  | [d1, d2, d3, d4, d5] => { results := [.lit (.bool false)], args := [d1, d2, d3, d4, d5] }
  | _ => none }
def ReasonMatchesReferenceWrongFalsely : Prop := reasonMatchesReferenceRow.holds Tryz.pinned (OpenSpec.ofChange reasonMatchesReferenceWrong)

/-- 'cleanselaw17.ReasonEnough': WHATEVER THE INPUT: true; the input reads as it did. -/
def reasonEnoughSpec : ChangeSpec := { name := "reasonEnough", fn := fun _ => fun
  | [d1, d2] => { results := [.lit (.bool true)], args := [d1, d2] }
  | _ => none }
def reasonEnoughRow : OpenClaim := { program := "ytoangeemlcbjlaagreatdoor", sum := "afb05a1cefe9f62e0ec457bf078d148ae9cd04c6e867de515320990e6866e6db", func := "cleanse/cleanselaw17.ReasonEnough", spec := "reasonEnough", unfollowed := true, recurses := true, named := ["internal/strconv.uint64pow10", "math/bits.deBruijn32tab", "math/bits.deBruijn64tab"], apart := false, laid := [("math/bits.deBruijn32tab", laid_math_bits_deBruijn32tab), ("math/bits.deBruijn64tab", laid_math_bits_deBruijn64tab), ("internal/strconv.uint64pow10", laid_internal_strconv_uint64pow10)] }
def ReasonEnoughSaid : Prop := reasonEnoughRow.holds Tryz.pinned (OpenSpec.ofChange reasonEnoughSpec)

/-- ITS FALSE NEIGHBOUR: 'it returns false'. Refute it at one input. -/
def reasonEnoughWrong : ChangeSpec := { name := "reasonEnough", fn := fun _ => fun
  | [d1, d2] => { results := [.lit (.bool false)], args := [d1, d2] }
  | _ => none }
def ReasonEnoughWrongFalsely : Prop := reasonEnoughRow.holds Tryz.pinned (OpenSpec.ofChange reasonEnoughWrong)

/-- 'cleanselaw17.ReasonAll': WHATEVER THE INPUT: true; the input reads as it did. -/
def reasonAllSpec : ChangeSpec := { name := "reasonAll", fn := fun _ => fun
  | [d1, d2, d3] => { results := [.lit (.bool true)], args := [d1, d2, d3] }
  | _ => none }
def reasonAllRow : OpenClaim := { program := "ytoangeemlcbjlaagreatdoor", sum := "afb05a1cefe9f62e0ec457bf078d148ae9cd04c6e867de515320990e6866e6db", func := "cleanse/cleanselaw17.ReasonAll", spec := "reasonAll", unfollowed := true, recurses := true, named := ["internal/strconv.uint64pow10", "math/bits.deBruijn32tab", "math/bits.deBruijn64tab"], apart := false, laid := [("math/bits.deBruijn32tab", laid_math_bits_deBruijn32tab), ("math/bits.deBruijn64tab", laid_math_bits_deBruijn64tab), ("internal/strconv.uint64pow10", laid_internal_strconv_uint64pow10)] }
def ReasonAllSaid : Prop := reasonAllRow.holds Tryz.pinned (OpenSpec.ofChange reasonAllSpec)

/-- ITS FALSE NEIGHBOUR: 'it returns false'. Refute it at one input. -/
def reasonAllWrong : ChangeSpec := { name := "reasonAll", fn := fun _ => fun
  | [d1, d2, d3] => { results := [.lit (.bool false)], args := [d1, d2, d3] }
  | _ => none }
def ReasonAllWrongFalsely : Prop := reasonAllRow.holds Tryz.pinned (OpenSpec.ofChange reasonAllWrong)

/-- 'cleanselaw17.ReasonNeeded': WHATEVER THE INPUT: true; the input reads as it did. -/
def reasonNeededSpec : ChangeSpec := { name := "reasonNeeded", fn := fun _ => fun
  | [d1, d2] => { results := [.lit (.bool true)], args := [d1, d2] }
  | _ => none }
def reasonNeededRow : OpenClaim := { program := "ytoangeemlcbjlaagreatdoor", sum := "afb05a1cefe9f62e0ec457bf078d148ae9cd04c6e867de515320990e6866e6db", func := "cleanse/cleanselaw17.ReasonNeeded", spec := "reasonNeeded", unfollowed := true, recurses := true, named := ["internal/strconv.uint64pow10", "math/bits.deBruijn32tab", "math/bits.deBruijn64tab"], apart := false, laid := [("math/bits.deBruijn32tab", laid_math_bits_deBruijn32tab), ("math/bits.deBruijn64tab", laid_math_bits_deBruijn64tab), ("internal/strconv.uint64pow10", laid_internal_strconv_uint64pow10)] }
def ReasonNeededSaid : Prop := reasonNeededRow.holds Tryz.pinned (OpenSpec.ofChange reasonNeededSpec)

/-- ITS FALSE NEIGHBOUR: 'it returns false'. Refute it at one input. -/
def reasonNeededWrong : ChangeSpec := { name := "reasonNeeded", fn := fun _ => fun
  | [d1, d2] => { results := [.lit (.bool false)], args := [d1, d2] }
  | _ => none }
def ReasonNeededWrongFalsely : Prop := reasonNeededRow.holds Tryz.pinned (OpenSpec.ofChange reasonNeededWrong)

/-- 'cleanselaw17.ReasonWhyNot': WHATEVER THE INPUT: true; the input reads as it did. -/
def reasonWhyNotSpec : ChangeSpec := { name := "reasonWhyNot", fn := fun _ => fun
  | [d1, d2, d3] => { results := [.lit (.bool true)], args := [d1, d2, d3] }
  | _ => none }
def reasonWhyNotRow : OpenClaim := { program := "ytoangeemlcbjlaagreatdoor", sum := "afb05a1cefe9f62e0ec457bf078d148ae9cd04c6e867de515320990e6866e6db", func := "cleanse/cleanselaw17.ReasonWhyNot", spec := "reasonWhyNot", unfollowed := true, recurses := true, named := ["internal/strconv.uint64pow10", "math/bits.deBruijn32tab", "math/bits.deBruijn64tab"], apart := false, laid := [("math/bits.deBruijn32tab", laid_math_bits_deBruijn32tab), ("math/bits.deBruijn64tab", laid_math_bits_deBruijn64tab), ("internal/strconv.uint64pow10", laid_internal_strconv_uint64pow10)] }
def ReasonWhyNotSaid : Prop := reasonWhyNotRow.holds Tryz.pinned (OpenSpec.ofChange reasonWhyNotSpec)

/-- ITS FALSE NEIGHBOUR: 'it returns false'. Refute it at one input. -/
def reasonWhyNotWrong : ChangeSpec := { name := "reasonWhyNot", fn := fun _ => fun
  | [d1, d2, d3] => { results := [.lit (.bool false)], args := [d1, d2, d3] }
  | _ => none }
def ReasonWhyNotWrongFalsely : Prop := reasonWhyNotRow.holds Tryz.pinned (OpenSpec.ofChange reasonWhyNotWrong)

/-- 'cleanselaw17.ReasonEffects': WHATEVER THE INPUT: true; the input reads as it did. -/
def reasonEffectsSpec : ChangeSpec := { name := "reasonEffects", fn := fun _ => fun
  | [d1, d2, d3, d4] => { results := [.lit (.bool true)], args := [d1, d2, d3, d4] }
  | _ => none }
def reasonEffectsRow : OpenClaim := { program := "ytoangeemlcbjlaagreatdoor", sum := "afb05a1cefe9f62e0ec457bf078d148ae9cd04c6e867de515320990e6866e6db", func := "cleanse/cleanselaw17.ReasonEffects", spec := "reasonEffects", unfollowed := true, recurses := true, named := ["internal/strconv.uint64pow10", "math/bits.deBruijn32tab", "math/bits.deBruijn64tab"], apart := false, laid := [("math/bits.deBruijn32tab", laid_math_bits_deBruijn32tab), ("math/bits.deBruijn64tab", laid_math_bits_deBruijn64tab), ("internal/strconv.uint64pow10", laid_internal_strconv_uint64pow10)] }
def ReasonEffectsSaid : Prop := reasonEffectsRow.holds Tryz.pinned (OpenSpec.ofChange reasonEffectsSpec)

/-- ITS FALSE NEIGHBOUR: 'it returns false'. Refute it at one input. -/
def reasonEffectsWrong : ChangeSpec := { name := "reasonEffects", fn := fun _ => fun
  | [d1, d2, d3, d4] => { results := [.lit (.bool false)], args := [d1, d2, d3, d4] }
  | _ => none }
def ReasonEffectsWrongFalsely : Prop := reasonEffectsRow.holds Tryz.pinned (OpenSpec.ofChange reasonEffectsWrong)

/-- 'cleanselaw17.ReasonSums': WHATEVER THE INPUT: true; the input reads as it did. -/
def reasonSumsSpec : ChangeSpec := { name := "reasonSums", fn := fun _ => fun
  | [d1, d2, d3] => { results := [.lit (.bool true)], args := [d1, d2, d3] }
  | _ => none }
def reasonSumsRow : OpenClaim := { program := "ytoangeemlcbjlaagreatdoor", sum := "afb05a1cefe9f62e0ec457bf078d148ae9cd04c6e867de515320990e6866e6db", func := "cleanse/cleanselaw17.ReasonSums", spec := "reasonSums", unfollowed := true, recurses := true, named := ["internal/strconv.uint64pow10", "math/bits.deBruijn32tab", "math/bits.deBruijn64tab"], apart := false, laid := [("math/bits.deBruijn32tab", laid_math_bits_deBruijn32tab), ("math/bits.deBruijn64tab", laid_math_bits_deBruijn64tab), ("internal/strconv.uint64pow10", laid_internal_strconv_uint64pow10)] }
def ReasonSumsSaid : Prop := reasonSumsRow.holds Tryz.pinned (OpenSpec.ofChange reasonSumsSpec)

/-- ITS FALSE NEIGHBOUR: 'it returns false'. Refute it at one input. -/
def reasonSumsWrong : ChangeSpec := { name := "reasonSums", fn := fun _ => fun
  | [d1, d2, d3] => { results := [.lit (.bool false)], args := [d1, d2, d3] }
  | _ => none }
def ReasonSumsWrongFalsely : Prop := reasonSumsRow.holds Tryz.pinned (OpenSpec.ofChange reasonSumsWrong)

/- THE SECOND FORM. 'bulk': how many values and letters a reading holds, each counted each time it is reached (what is shared counts as often as it is met; a slice's spare places count too). A statement '..UptoSaid' is the law's where the arguments, and the package variables that the reading takes, are together of bulk at most 1048576: NARROWER than '..Said'. Prove '..Said' where nothing that the law and all that it calls make is longer than what came in: it says more and counts as full. Else prove '..UptoSaid'. A law counts once. -/
mutual
def uptoBulk {H : Type} : DataW H → Nat
  | .lit (.string bytes) => bytes.length + 1
  | .lit _ => 1
  | .nil => 1
  | .ptr d => uptoBulk d + 1
  | .slice elems spare => uptoBulkAll elems + uptoBulkAll spare + 1
  | .agg parts => uptoBulkAll parts + 1
  | .iface _ d => uptoBulk d + 1
  | .map entries => uptoBulkEntries entries + 1
  | .held _ => 1
def uptoBulkAll {H : Type} : List (DataW H) → Nat
  | [] => 0
  | d :: r => uptoBulk d + uptoBulkAll r
def uptoBulkEntries {H : Type} : List (Lit × DataW H) → Nat
  | [] => 0
  | x :: r => uptoBulkEntry x + uptoBulkEntries r
def uptoBulkEntry {H : Type} : Lit × DataW H → Nat
  | (.string bytes, d) => bytes.length + uptoBulk d + 1
  | (_, d) => uptoBulk d + 1
 end
def uptoSmall : (H : Type) → List (DataW H) → Bool := fun _ ds => decide (uptoBulkAll ds ≤ 1048576)
def OpenSpec.upto (s : _root_.Go.ChangeSpec) : _root_.Go.OpenSpec := { _root_.Go.OpenSpec.ofChange s with cond := some uptoSmall }

/-- 'cleanselaw17.ReasonMatchesReference', WHERE WHAT IT READS IS OF BULK AT MOST 1048576: true; the input reads as it did. -/
def reasonMatchesReferenceUptoRow : OpenClaim := { program := "ytoangeemlcbjlaagreatdoor", sum := "afb05a1cefe9f62e0ec457bf078d148ae9cd04c6e867de515320990e6866e6db", func := "cleanse/cleanselaw17.ReasonMatchesReference", spec := "reasonMatchesReference", unfollowed := true, recurses := true, named := ["internal/strconv.uint64pow10", "math/bits.deBruijn32tab", "math/bits.deBruijn64tab"], apart := false, laid := [("math/bits.deBruijn32tab", laid_math_bits_deBruijn32tab), ("math/bits.deBruijn64tab", laid_math_bits_deBruijn64tab), ("internal/strconv.uint64pow10", laid_internal_strconv_uint64pow10)], narrowed := true }
def ReasonMatchesReferenceUptoSaid : Prop := reasonMatchesReferenceUptoRow.holds Tryz.pinned (OpenSpec.upto reasonMatchesReferenceSpec)

/-- 'cleanselaw17.ReasonEnough', WHERE WHAT IT READS IS OF BULK AT MOST 1048576: true; the input reads as it did. -/
def reasonEnoughUptoRow : OpenClaim := { program := "ytoangeemlcbjlaagreatdoor", sum := "afb05a1cefe9f62e0ec457bf078d148ae9cd04c6e867de515320990e6866e6db", func := "cleanse/cleanselaw17.ReasonEnough", spec := "reasonEnough", unfollowed := true, recurses := true, named := ["internal/strconv.uint64pow10", "math/bits.deBruijn32tab", "math/bits.deBruijn64tab"], apart := false, laid := [("math/bits.deBruijn32tab", laid_math_bits_deBruijn32tab), ("math/bits.deBruijn64tab", laid_math_bits_deBruijn64tab), ("internal/strconv.uint64pow10", laid_internal_strconv_uint64pow10)], narrowed := true }
def ReasonEnoughUptoSaid : Prop := reasonEnoughUptoRow.holds Tryz.pinned (OpenSpec.upto reasonEnoughSpec)

/-- 'cleanselaw17.ReasonAll', WHERE WHAT IT READS IS OF BULK AT MOST 1048576: true; the input reads as it did. -/
def reasonAllUptoRow : OpenClaim := { program := "ytoangeemlcbjlaagreatdoor", sum := "afb05a1cefe9f62e0ec457bf078d148ae9cd04c6e867de515320990e6866e6db", func := "cleanse/cleanselaw17.ReasonAll", spec := "reasonAll", unfollowed := true, recurses := true, named := ["internal/strconv.uint64pow10", "math/bits.deBruijn32tab", "math/bits.deBruijn64tab"], apart := false, laid := [("math/bits.deBruijn32tab", laid_math_bits_deBruijn32tab), ("math/bits.deBruijn64tab", laid_math_bits_deBruijn64tab), ("internal/strconv.uint64pow10", laid_internal_strconv_uint64pow10)], narrowed := true }
def ReasonAllUptoSaid : Prop := reasonAllUptoRow.holds Tryz.pinned (OpenSpec.upto reasonAllSpec)

/-- 'cleanselaw17.ReasonNeeded', WHERE WHAT IT READS IS OF BULK AT MOST 1048576: true; the input reads as it did. -/
def reasonNeededUptoRow : OpenClaim := { program := "ytoangeemlcbjlaagreatdoor", sum := "afb05a1cefe9f62e0ec457bf078d148ae9cd04c6e867de515320990e6866e6db", func := "cleanse/cleanselaw17.ReasonNeeded", spec := "reasonNeeded", unfollowed := true, recurses := true, named := ["internal/strconv.uint64pow10", "math/bits.deBruijn32tab", "math/bits.deBruijn64tab"], apart := false, laid := [("math/bits.deBruijn32tab", laid_math_bits_deBruijn32tab), ("math/bits.deBruijn64tab", laid_math_bits_deBruijn64tab), ("internal/strconv.uint64pow10", laid_internal_strconv_uint64pow10)], narrowed := true }
def ReasonNeededUptoSaid : Prop := reasonNeededUptoRow.holds Tryz.pinned (OpenSpec.upto reasonNeededSpec)

/-- 'cleanselaw17.ReasonWhyNot', WHERE WHAT IT READS IS OF BULK AT MOST 1048576: true; the input reads as it did. -/
def reasonWhyNotUptoRow : OpenClaim := { program := "ytoangeemlcbjlaagreatdoor", sum := "afb05a1cefe9f62e0ec457bf078d148ae9cd04c6e867de515320990e6866e6db", func := "cleanse/cleanselaw17.ReasonWhyNot", spec := "reasonWhyNot", unfollowed := true, recurses := true, named := ["internal/strconv.uint64pow10", "math/bits.deBruijn32tab", "math/bits.deBruijn64tab"], apart := false, laid := [("math/bits.deBruijn32tab", laid_math_bits_deBruijn32tab), ("math/bits.deBruijn64tab", laid_math_bits_deBruijn64tab), ("internal/strconv.uint64pow10", laid_internal_strconv_uint64pow10)], narrowed := true }
def ReasonWhyNotUptoSaid : Prop := reasonWhyNotUptoRow.holds Tryz.pinned (OpenSpec.upto reasonWhyNotSpec)

/-- 'cleanselaw17.ReasonEffects', WHERE WHAT IT READS IS OF BULK AT MOST 1048576: true; the input reads as it did. -/
def reasonEffectsUptoRow : OpenClaim := { program := "ytoangeemlcbjlaagreatdoor", sum := "afb05a1cefe9f62e0ec457bf078d148ae9cd04c6e867de515320990e6866e6db", func := "cleanse/cleanselaw17.ReasonEffects", spec := "reasonEffects", unfollowed := true, recurses := true, named := ["internal/strconv.uint64pow10", "math/bits.deBruijn32tab", "math/bits.deBruijn64tab"], apart := false, laid := [("math/bits.deBruijn32tab", laid_math_bits_deBruijn32tab), ("math/bits.deBruijn64tab", laid_math_bits_deBruijn64tab), ("internal/strconv.uint64pow10", laid_internal_strconv_uint64pow10)], narrowed := true }
def ReasonEffectsUptoSaid : Prop := reasonEffectsUptoRow.holds Tryz.pinned (OpenSpec.upto reasonEffectsSpec)

/-- 'cleanselaw17.ReasonSums', WHERE WHAT IT READS IS OF BULK AT MOST 1048576: true; the input reads as it did. -/
def reasonSumsUptoRow : OpenClaim := { program := "ytoangeemlcbjlaagreatdoor", sum := "afb05a1cefe9f62e0ec457bf078d148ae9cd04c6e867de515320990e6866e6db", func := "cleanse/cleanselaw17.ReasonSums", spec := "reasonSums", unfollowed := true, recurses := true, named := ["internal/strconv.uint64pow10", "math/bits.deBruijn32tab", "math/bits.deBruijn64tab"], apart := false, laid := [("math/bits.deBruijn32tab", laid_math_bits_deBruijn32tab), ("math/bits.deBruijn64tab", laid_math_bits_deBruijn64tab), ("internal/strconv.uint64pow10", laid_internal_strconv_uint64pow10)], narrowed := true }
def ReasonSumsUptoSaid : Prop := reasonSumsUptoRow.holds Tryz.pinned (OpenSpec.upto reasonSumsSpec)

end Rows
end Go.Proofs.YtoangeemlcbjlaaGreatDoor
