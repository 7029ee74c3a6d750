/-
  No cell of these rows narrows 'for every input' (looked for: loops, veiled, ifaces, maps, wideKeys, modest, calm, conditions, laid).
  DERIVED. THE GIVEN ROWS OF THIS SEAT. 7 by the template 'for every input the law returns true; each argument reads behind the call as it read before'; 0 by the template 'total and deterministic' (their statements: YtcioglingkccpaaTotals.lean).
  GIVEN WITH THE SEED: the statements are not yours to turn. If you find one false, say at which input.
  Laid BY PROGRAM, IN A SANDBOX (cutbox-rows.mjs): the forced cells as the released guide's own fill.sh prints them over the translation fb1c02502f355bd3… (all of the seat's roots in one cut). By AI agents, Wed Nov 11 2026. No macro, syntax, notation, axiom, sorry.
-/
import Derived.Test.YtcioglingkccpaaChecked
import GoSem.Claim
import GoSem.ClaimJoined
import GoSem.ClaimMapViews
import Derived.JoinedTies
import Derived.KernelRfl
namespace Go.Proofs.Ytcioglingkccpaa
/- THE CELL 'sum', in the pinned program and in every row, IS THE sha256 OF THE DUMP (.gsa) THAT YtcioglingkccpaaProg.lean LOADS. Nothing in Lean hashes anything: it is a label: what it is worth is what the hold of that sum in a sandbox is worth. -/
noncomputable def Try.pinned : Pinned := { name := "ytcioglingkccpaa", sum := "fb1c02502f355bd39b7d3e7c7b3e2842fbe10c8840742e960a0d43da1e68be39", checked := Try.checked }
namespace Rows
def none {H : Type} : Left H := { results := [], args := [] }

/-- 'cleanselaw03.WordsMatchesReference': WHATEVER THE INPUT: true; the input reads as it did. -/
def wordsMatchesReferenceSpec : ChangeSpec := { name := "wordsMatchesReference", fn := fun _ => fun
  | [d1, d2, d3, d4] => { results := [.lit (.bool true)], args := [d1, d2, d3, d4] }
  | _ => none }
def wordsMatchesReferenceRow : OpenClaim := { program := "ytcioglingkccpaa", sum := "fb1c02502f355bd39b7d3e7c7b3e2842fbe10c8840742e960a0d43da1e68be39", func := "cleanse/cleanselaw03.WordsMatchesReference", spec := "wordsMatchesReference", inPlace := ["internal/abi.NoEscape", "internal/bytealg.MakeNoZero"], unfollowed := true, recurses := true, apart := false }
def WordsMatchesReferenceSaid : Prop := wordsMatchesReferenceRow.holds Try.pinned (OpenSpec.ofChange wordsMatchesReferenceSpec)

/-- ITS FALSE NEIGHBOUR: 'it returns false'. Refute it at one input. -/
def wordsMatchesReferenceWrong : ChangeSpec := { name := "wordsMatchesReference", fn := fun _ => fun
  | [d1, d2, d3, d4] => { results := [.lit (.bool false)], args := [d1, d2, d3, d4] }
  | _ => none }
def WordsMatchesReferenceWrongFalsely : Prop := wordsMatchesReferenceRow.holds Try.pinned (OpenSpec.ofChange wordsMatchesReferenceWrong)

/-- 'cleanselaw03.WordsFold': WHATEVER THE INPUT: true; the input reads as it did. -/
def wordsFoldSpec : ChangeSpec := { name := "wordsFold", fn := fun _ => fun
  | [d] => { results := [.lit (.bool true)], args := [d] }
  | _ => none }
def wordsFoldRow : OpenClaim := { program := "ytcioglingkccpaa", sum := "fb1c02502f355bd39b7d3e7c7b3e2842fbe10c8840742e960a0d43da1e68be39", func := "cleanse/cleanselaw03.WordsFold", spec := "wordsFold", inPlace := ["internal/abi.NoEscape", "internal/bytealg.MakeNoZero"], unfollowed := true, recurses := true, apart := false }
def WordsFoldSaid : Prop := wordsFoldRow.holds Try.pinned (OpenSpec.ofChange wordsFoldSpec)

/-- ITS FALSE NEIGHBOUR: 'it returns false'. Refute it at one input. -/
def wordsFoldWrong : ChangeSpec := { name := "wordsFold", fn := fun _ => fun
  | [d] => { results := [.lit (.bool false)], args := [d] }
  | _ => none }
def WordsFoldWrongFalsely : Prop := wordsFoldRow.holds Try.pinned (OpenSpec.ofChange wordsFoldWrong)

/-- 'cleanselaw03.WordsJoins': WHATEVER THE INPUT: true; the input reads as it did. -/
def wordsJoinsSpec : ChangeSpec := { name := "wordsJoins", fn := fun _ => fun
  | [d1, d2, d3] => { results := [.lit (.bool true)], args := [d1, d2, d3] }
  | _ => none }
def wordsJoinsRow : OpenClaim := { program := "ytcioglingkccpaa", sum := "fb1c02502f355bd39b7d3e7c7b3e2842fbe10c8840742e960a0d43da1e68be39", func := "cleanse/cleanselaw03.WordsJoins", spec := "wordsJoins", inPlace := ["internal/abi.NoEscape", "internal/bytealg.MakeNoZero"], unfollowed := true, recurses := true, apart := false }
def WordsJoinsSaid : Prop := wordsJoinsRow.holds Try.pinned (OpenSpec.ofChange wordsJoinsSpec)

/-- ITS FALSE NEIGHBOUR: 'it returns false'. Refute it at one input. -/
def wordsJoinsWrong : ChangeSpec := { name := "wordsJoins", fn := fun _ => fun
  | [d1, d2, d3] => { results := [.lit (.bool false)], args := [d1, d2, d3] }
  | _ => none }
def WordsJoinsWrongFalsely : Prop := wordsJoinsRow.holds Try.pinned (OpenSpec.ofChange wordsJoinsWrong)

/-- 'cleanselaw03.WordsTokens': WHATEVER THE INPUT: true; the input reads as it did. -/
def wordsTokensSpec : ChangeSpec := { name := "wordsTokens", fn := fun _ => fun
  | [d] => { results := [.lit (.bool true)], args := [d] }
  | _ => none }
def wordsTokensRow : OpenClaim := { program := "ytcioglingkccpaa", sum := "fb1c02502f355bd39b7d3e7c7b3e2842fbe10c8840742e960a0d43da1e68be39", func := "cleanse/cleanselaw03.WordsTokens", spec := "wordsTokens", inPlace := ["internal/abi.NoEscape", "internal/bytealg.MakeNoZero"], unfollowed := true, recurses := true, apart := false }
def WordsTokensSaid : Prop := wordsTokensRow.holds Try.pinned (OpenSpec.ofChange wordsTokensSpec)

/-- ITS FALSE NEIGHBOUR: 'it returns false'. Refute it at one input. -/
def wordsTokensWrong : ChangeSpec := { name := "wordsTokens", fn := fun _ => fun
  | [d] => { results := [.lit (.bool false)], args := [d] }
  | _ => none }
def WordsTokensWrongFalsely : Prop := wordsTokensRow.holds Try.pinned (OpenSpec.ofChange wordsTokensWrong)

/-- 'cleanselaw03.WordsGrams': WHATEVER THE INPUT: true; the input reads as it did. -/
def wordsGramsSpec : ChangeSpec := { name := "wordsGrams", fn := fun _ => fun
  | [d1, d2] => { results := [.lit (.bool true)], args := [d1, d2] }
  | _ => none }
def wordsGramsRow : OpenClaim := { program := "ytcioglingkccpaa", sum := "fb1c02502f355bd39b7d3e7c7b3e2842fbe10c8840742e960a0d43da1e68be39", func := "cleanse/cleanselaw03.WordsGrams", spec := "wordsGrams", inPlace := ["internal/abi.NoEscape", "internal/bytealg.MakeNoZero"], unfollowed := true, recurses := true, apart := false }
def WordsGramsSaid : Prop := wordsGramsRow.holds Try.pinned (OpenSpec.ofChange wordsGramsSpec)

/-- ITS FALSE NEIGHBOUR: 'it returns false'. Refute it at one input. -/
def wordsGramsWrong : ChangeSpec := { name := "wordsGrams", fn := fun _ => fun
  | [d1, d2] => { results := [.lit (.bool false)], args := [d1, d2] }
  | _ => none }
def WordsGramsWrongFalsely : Prop := wordsGramsRow.holds Try.pinned (OpenSpec.ofChange wordsGramsWrong)

/-- 'cleanselaw03.WordsCommon': WHATEVER THE INPUT: true; the input reads as it did. -/
def wordsCommonSpec : ChangeSpec := { name := "wordsCommon", fn := fun _ => fun
  | [d1, d2] => { results := [.lit (.bool true)], args := [d1, d2] }
  | _ => none }
def wordsCommonRow : OpenClaim := { program := "ytcioglingkccpaa", sum := "fb1c02502f355bd39b7d3e7c7b3e2842fbe10c8840742e960a0d43da1e68be39", func := "cleanse/cleanselaw03.WordsCommon", spec := "wordsCommon", inPlace := ["internal/abi.NoEscape", "internal/bytealg.MakeNoZero"], unfollowed := true, recurses := true, apart := false }
def WordsCommonSaid : Prop := wordsCommonRow.holds Try.pinned (OpenSpec.ofChange wordsCommonSpec)

/-- ITS FALSE NEIGHBOUR: 'it returns false'. Refute it at one input. -/
def wordsCommonWrong : ChangeSpec := { name := "wordsCommon", fn := fun _ => fun
  | [d1, d2] => { results := [.lit (.bool false)], args := [d1, d2] }
  | _ => none }
def WordsCommonWrongFalsely : Prop := wordsCommonRow.holds Try.pinned (OpenSpec.ofChange wordsCommonWrong)

/-- 'cleanselaw03.WordsCase': WHATEVER THE INPUT: true; the input reads as it did. -/
def wordsCaseSpec : ChangeSpec := { name := "wordsCase", fn := fun _ => fun
  | [d1, d2] => { results := [.lit (.bool true)], args := [d1, d2] }
  | _ => none }
def wordsCaseRow : OpenClaim := { program := "ytcioglingkccpaa", sum := "fb1c02502f355bd39b7d3e7c7b3e2842fbe10c8840742e960a0d43da1e68be39", func := "cleanse/cleanselaw03.WordsCase", spec := "wordsCase", inPlace := ["internal/abi.NoEscape", "internal/bytealg.MakeNoZero"], unfollowed := true, recurses := true, apart := false }
def WordsCaseSaid : Prop := wordsCaseRow.holds Try.pinned (OpenSpec.ofChange wordsCaseSpec)

/-- ITS FALSE NEIGHBOUR: 'it returns false'. Refute it at one input. -/
def wordsCaseWrong : ChangeSpec := { name := "wordsCase", fn := fun _ => fun
  | [d1, d2] => { results := [.lit (.bool false)], args := [d1, d2] }
  | _ => none }
def WordsCaseWrongFalsely : Prop := wordsCaseRow.holds Try.pinned (OpenSpec.ofChange wordsCaseWrong)

/- THE SECOND FORM. 'bulk': how many values and letters a reading holds, each counted each time it is reached (what is shared counts as often as it is met; a slice's spare places count too). A statement '..UptoSaid' is the law's where the arguments, and the package variables that the reading takes, are together of bulk at most 1048576: NARROWER than '..Said'. Prove '..Said' where nothing that the law and all that it calls make is longer than what came in: it says more and counts as full. Else prove '..UptoSaid'. A law counts once. -/
mutual
def uptoBulk {H : Type} : DataW H → Nat
  | .lit (.string bytes) => bytes.length + 1
  | .lit _ => 1
  | .nil => 1
  | .ptr d => uptoBulk d + 1
  | .slice elems spare => uptoBulkAll elems + uptoBulkAll spare + 1
  | .agg parts => uptoBulkAll parts + 1
  | .iface _ d => uptoBulk d + 1
  | .map entries => uptoBulkEntries entries + 1
  | .held _ => 1
def uptoBulkAll {H : Type} : List (DataW H) → Nat
  | [] => 0
  | d :: r => uptoBulk d + uptoBulkAll r
def uptoBulkEntries {H : Type} : List (Lit × DataW H) → Nat
  | [] => 0
  | x :: r => uptoBulkEntry x + uptoBulkEntries r
def uptoBulkEntry {H : Type} : Lit × DataW H → Nat
  | (.string bytes, d) => bytes.length + uptoBulk d + 1
  | (_, d) => uptoBulk d + 1
 end
def uptoSmall : (H : Type) → List (DataW H) → Bool := fun _ ds => decide (uptoBulkAll ds ≤ 1048576)
def OpenSpec.upto (s : _root_.Go.ChangeSpec) : _root_.Go.OpenSpec := { _root_.Go.OpenSpec.ofChange s with cond := some uptoSmall }

/-- 'cleanselaw03.WordsMatchesReference', WHERE WHAT IT READS IS OF BULK AT MOST 1048576: true; the input reads as it did. -/
def wordsMatchesReferenceUptoRow : OpenClaim := { program := "ytcioglingkccpaa", sum := "fb1c02502f355bd39b7d3e7c7b3e2842fbe10c8840742e960a0d43da1e68be39", func := "cleanse/cleanselaw03.WordsMatchesReference", spec := "wordsMatchesReference", inPlace := ["internal/abi.NoEscape", "internal/bytealg.MakeNoZero"], unfollowed := true, recurses := true, apart := false, narrowed := true }
def WordsMatchesReferenceUptoSaid : Prop := wordsMatchesReferenceUptoRow.holds Try.pinned (OpenSpec.upto wordsMatchesReferenceSpec)

/-- 'cleanselaw03.WordsFold', WHERE WHAT IT READS IS OF BULK AT MOST 1048576: true; the input reads as it did. -/
def wordsFoldUptoRow : OpenClaim := { program := "ytcioglingkccpaa", sum := "fb1c02502f355bd39b7d3e7c7b3e2842fbe10c8840742e960a0d43da1e68be39", func := "cleanse/cleanselaw03.WordsFold", spec := "wordsFold", inPlace := ["internal/abi.NoEscape", "internal/bytealg.MakeNoZero"], unfollowed := true, recurses := true, apart := false, narrowed := true }
def WordsFoldUptoSaid : Prop := wordsFoldUptoRow.holds Try.pinned (OpenSpec.upto wordsFoldSpec)

/-- 'cleanselaw03.WordsJoins', WHERE WHAT IT READS IS OF BULK AT MOST 1048576: true; the input reads as it did. -/
def wordsJoinsUptoRow : OpenClaim := { program := "ytcioglingkccpaa", sum := "fb1c02502f355bd39b7d3e7c7b3e2842fbe10c8840742e960a0d43da1e68be39", func := "cleanse/cleanselaw03.WordsJoins", spec := "wordsJoins", inPlace := ["internal/abi.NoEscape", "internal/bytealg.MakeNoZero"], unfollowed := true, recurses := true, apart := false, narrowed := true }
def WordsJoinsUptoSaid : Prop := wordsJoinsUptoRow.holds Try.pinned (OpenSpec.upto wordsJoinsSpec)

/-- 'cleanselaw03.WordsTokens', WHERE WHAT IT READS IS OF BULK AT MOST 1048576: true; the input reads as it did. -/
def wordsTokensUptoRow : OpenClaim := { program := "ytcioglingkccpaa", sum := "fb1c02502f355bd39b7d3e7c7b3e2842fbe10c8840742e960a0d43da1e68be39", func := "cleanse/cleanselaw03.WordsTokens", spec := "wordsTokens", inPlace := ["internal/abi.NoEscape", "internal/bytealg.MakeNoZero"], unfollowed := true, recurses := true, apart := false, narrowed := true }
def WordsTokensUptoSaid : Prop := wordsTokensUptoRow.holds Try.pinned (OpenSpec.upto wordsTokensSpec)

/-- 'cleanselaw03.WordsGrams', WHERE WHAT IT READS IS OF BULK AT MOST 1048576: true; the input reads as it did. -/
def wordsGramsUptoRow : OpenClaim := { program := "ytcioglingkccpaa", sum := "fb1c02502f355bd39b7d3e7c7b3e2842fbe10c8840742e960a0d43da1e68be39", func := "cleanse/cleanselaw03.WordsGrams", spec := "wordsGrams", inPlace := ["internal/abi.NoEscape", "internal/bytealg.MakeNoZero"], unfollowed := true, recurses := true, apart := false, narrowed := true }
def WordsGramsUptoSaid : Prop := wordsGramsUptoRow.holds Try.pinned (OpenSpec.upto wordsGramsSpec)

/-- 'cleanselaw03.WordsCommon', WHERE WHAT IT READS IS OF BULK AT MOST 1048576: true; the input reads as it did. -/
def wordsCommonUptoRow : OpenClaim := { program := "ytcioglingkccpaa", sum := "fb1c02502f355bd39b7d3e7c7b3e2842fbe10c8840742e960a0d43da1e68be39", func := "cleanse/cleanselaw03.WordsCommon", spec := "wordsCommon", inPlace := ["internal/abi.NoEscape", "internal/bytealg.MakeNoZero"], unfollowed := true, recurses := true, apart := false, narrowed := true }
def WordsCommonUptoSaid : Prop := wordsCommonUptoRow.holds Try.pinned (OpenSpec.upto wordsCommonSpec)

/-- 'cleanselaw03.WordsCase', WHERE WHAT IT READS IS OF BULK AT MOST 1048576: true; the input reads as it did. -/
def wordsCaseUptoRow : OpenClaim := { program := "ytcioglingkccpaa", sum := "fb1c02502f355bd39b7d3e7c7b3e2842fbe10c8840742e960a0d43da1e68be39", func := "cleanse/cleanselaw03.WordsCase", spec := "wordsCase", inPlace := ["internal/abi.NoEscape", "internal/bytealg.MakeNoZero"], unfollowed := true, recurses := true, apart := false, narrowed := true }
def WordsCaseUptoSaid : Prop := wordsCaseUptoRow.holds Try.pinned (OpenSpec.upto wordsCaseSpec)

end Rows
end Go.Proofs.Ytcioglingkccpaa
