/-
  NARROWER THAN 'FOR EVERY INPUT', by the rows' own cells (each row's printed sentence says how): MatchBothWays: laid · MatchTerms: laid · MatchLists: laid · MatchEqual: laid · MatchEdges: laid · MatchStrict: laid.
  DERIVED. THE GIVEN ROWS OF THIS SEAT. 6 by the template 'for every input the law returns true; each argument reads behind the call as it read before'; 0 by the template 'total and deterministic' (their statements: YtganngkllfpgiaaDoorTotals.lean).
  GIVEN WITH THE SEED: the statements are not yours to turn. If you find one false, say at which input.
  Laid BY PROGRAM, IN A SANDBOX (cutbox-rows.mjs): the forced cells as the released guide's own fill.sh prints them over the translation 318cd2b9866bf524… (all of the seat's roots in one cut). By AI agents, Wed Nov 11 2026. No macro, syntax, notation, axiom, sorry.
-/
import Derived.Test.YtganngkllfpgiaaDoorChecked
import GoSem.Claim
import GoSem.ClaimJoined
import GoSem.ClaimMapViews
import Derived.JoinedTies
import Derived.KernelRfl
namespace Go.Proofs.YtganngkllfpgiaaDoor
/- THE CELL 'sum', in the pinned program and in every row, IS THE sha256 OF THE DUMP (.gsa) THAT YtganngkllfpgiaaDoorProg.lean LOADS. Nothing in Lean hashes anything: it is a label: what it is worth is what the hold of that sum in a sandbox is worth. -/
noncomputable def Tryd.pinned : Pinned := { name := "ytganngkllfpgiaadoor", sum := "318cd2b9866bf52423c9d5d6ae3b75d418befc2b8222901568a21d016134b029", checked := Tryd.checked }
namespace Rows
def none {H : Type} : Left H := { results := [], args := [] }

/- WHAT THE LISTED PACKAGE-LEVEL VARIABLES READ AS WHEN THE CALL BEGINS. Each datum BY PROGRAM (the guide's laid-datum.mjs) off the statement by which the dump's own 'gosem.cut.vars' lays the variable. In a bare row this is a premise. The card (YtganngkllfpgiaaDoorCards.lean) ties it to the program's text. -/
def laid_cleanse_measure_none {H : Type} : DataW H := .agg [.lit (.int .i64 0), .lit (.int .i64 1)]
def laid_cleanse_measure_full {H : Type} : DataW H := .agg [.lit (.int .i64 1), .lit (.int .i64 1)]

/-- 'cleanselaw20.MatchBothWays': WHATEVER THE INPUT: true; the input reads as it did. -/
def matchBothWaysSpec : ChangeSpec := { name := "matchBothWays", fn := fun _ => fun
  | [d1, d2, d3] => { results := [.lit (.bool true)], args := [d1, d2, d3] }
  | _ => none }
def matchBothWaysRow : OpenClaim := { program := "ytganngkllfpgiaadoor", sum := "318cd2b9866bf52423c9d5d6ae3b75d418befc2b8222901568a21d016134b029", func := "cleanse/cleanselaw20.MatchBothWays", spec := "matchBothWays", inPlace := ["internal/abi.NoEscape", "internal/bytealg.MakeNoZero"], unfollowed := true, recurses := true, named := ["cleanse/measure.none", "cleanse/measure.full"], plainKeys := false, apart := false, laid := [("cleanse/measure.none", laid_cleanse_measure_none), ("cleanse/measure.full", laid_cleanse_measure_full)] }
def MatchBothWaysSaid : Prop := matchBothWaysRow.holds Tryd.pinned (OpenSpec.ofChange matchBothWaysSpec)

/-- ITS FALSE NEIGHBOUR: 'it returns false'. Refute it at one input. -/
def matchBothWaysWrong : ChangeSpec := { name := "matchBothWays", fn := fun _ => fun
  | [d1, d2, d3] => { results := [.lit (.bool false)], args := [d1, d2, d3] }
  | _ => none }
def MatchBothWaysWrongFalsely : Prop := matchBothWaysRow.holds Tryd.pinned (OpenSpec.ofChange matchBothWaysWrong)

/-- 'cleanselaw20.MatchTerms': WHATEVER THE INPUT: true; the input reads as it did. -/
def matchTermsSpec : ChangeSpec := { name := "matchTerms", fn := fun _ => fun
  | [d1, d2, d3] => { results := [.lit (.bool true)], args := [d1, d2, d3] }
  | _ => none }
def matchTermsRow : OpenClaim := { program := "ytganngkllfpgiaadoor", sum := "318cd2b9866bf52423c9d5d6ae3b75d418befc2b8222901568a21d016134b029", func := "cleanse/cleanselaw20.MatchTerms", spec := "matchTerms", inPlace := ["internal/abi.NoEscape", "internal/bytealg.MakeNoZero"], unfollowed := true, recurses := true, named := ["cleanse/measure.none", "cleanse/measure.full"], plainKeys := false, apart := false, laid := [("cleanse/measure.none", laid_cleanse_measure_none), ("cleanse/measure.full", laid_cleanse_measure_full)] }
def MatchTermsSaid : Prop := matchTermsRow.holds Tryd.pinned (OpenSpec.ofChange matchTermsSpec)

/-- ITS FALSE NEIGHBOUR: 'it returns false'. Refute it at one input. -/
def matchTermsWrong : ChangeSpec := { name := "matchTerms", fn := fun _ => fun
  | [d1, d2, d3] => { results := [.lit (.bool false)], args := [d1, d2, d3] }
  | _ => none }
def MatchTermsWrongFalsely : Prop := matchTermsRow.holds Tryd.pinned (OpenSpec.ofChange matchTermsWrong)

/-- 'cleanselaw20.MatchLists': WHATEVER THE INPUT: true; the input reads as it did. -/
def matchListsSpec : ChangeSpec := { name := "matchLists", fn := fun _ => fun
  | [d1, d2, d3, d4] => { results := [.lit (.bool true)], args := [d1, d2, d3, d4] }
  | _ => none }
def matchListsRow : OpenClaim := { program := "ytganngkllfpgiaadoor", sum := "318cd2b9866bf52423c9d5d6ae3b75d418befc2b8222901568a21d016134b029", func := "cleanse/cleanselaw20.MatchLists", spec := "matchLists", inPlace := ["internal/abi.NoEscape", "internal/bytealg.MakeNoZero"], unfollowed := true, recurses := true, named := ["cleanse/measure.none", "cleanse/measure.full"], plainKeys := false, apart := false, laid := [("cleanse/measure.none", laid_cleanse_measure_none), ("cleanse/measure.full", laid_cleanse_measure_full)] }
def MatchListsSaid : Prop := matchListsRow.holds Tryd.pinned (OpenSpec.ofChange matchListsSpec)

/-- ITS FALSE NEIGHBOUR: 'it returns false'. Refute it at one input. -/
def matchListsWrong : ChangeSpec := { name := "matchLists", fn := fun _ => fun
  | [d1, d2, d3, d4] => { results := [.lit (.bool false)], args := [d1, d2, d3, d4] }
  | _ => none }
def MatchListsWrongFalsely : Prop := matchListsRow.holds Tryd.pinned (OpenSpec.ofChange matchListsWrong)

/-- 'cleanselaw20.MatchEqual': WHATEVER THE INPUT: true; the input reads as it did. -/
def matchEqualSpec : ChangeSpec := { name := "matchEqual", fn := fun _ => fun
  | [d1, d2] => { results := [.lit (.bool true)], args := [d1, d2] }
  | _ => none }
def matchEqualRow : OpenClaim := { program := "ytganngkllfpgiaadoor", sum := "318cd2b9866bf52423c9d5d6ae3b75d418befc2b8222901568a21d016134b029", func := "cleanse/cleanselaw20.MatchEqual", spec := "matchEqual", inPlace := ["internal/abi.NoEscape", "internal/bytealg.MakeNoZero"], unfollowed := true, recurses := true, named := ["cleanse/measure.none", "cleanse/measure.full"], plainKeys := false, apart := false, laid := [("cleanse/measure.none", laid_cleanse_measure_none), ("cleanse/measure.full", laid_cleanse_measure_full)] }
def MatchEqualSaid : Prop := matchEqualRow.holds Tryd.pinned (OpenSpec.ofChange matchEqualSpec)

/-- ITS FALSE NEIGHBOUR: 'it returns false'. Refute it at one input. -/
def matchEqualWrong : ChangeSpec := { name := "matchEqual", fn := fun _ => fun
  | [d1, d2] => { results := [.lit (.bool false)], args := [d1, d2] }
  | _ => none }
def MatchEqualWrongFalsely : Prop := matchEqualRow.holds Tryd.pinned (OpenSpec.ofChange matchEqualWrong)

/-- 'cleanselaw20.MatchEdges': WHATEVER THE INPUT: true; the input reads as it did. -/
def matchEdgesSpec : ChangeSpec := { name := "matchEdges", fn := fun _ => fun
  | [d1, d2, d3] => { results := [.lit (.bool true)], args := [d1, d2, d3] }
  | _ => none }
def matchEdgesRow : OpenClaim := { program := "ytganngkllfpgiaadoor", sum := "318cd2b9866bf52423c9d5d6ae3b75d418befc2b8222901568a21d016134b029", func := "cleanse/cleanselaw20.MatchEdges", spec := "matchEdges", inPlace := ["internal/abi.NoEscape", "internal/bytealg.MakeNoZero"], unfollowed := true, recurses := true, named := ["cleanse/measure.none", "cleanse/measure.full"], plainKeys := false, apart := false, laid := [("cleanse/measure.none", laid_cleanse_measure_none), ("cleanse/measure.full", laid_cleanse_measure_full)] }
def MatchEdgesSaid : Prop := matchEdgesRow.holds Tryd.pinned (OpenSpec.ofChange matchEdgesSpec)

/-- ITS FALSE NEIGHBOUR: 'it returns false'. Refute it at one input. -/
def matchEdgesWrong : ChangeSpec := { name := "matchEdges", fn := fun _ => fun
  | [d1, d2, d3] => { results := [.lit (.bool false)], args := [d1, d2, d3] }
  | _ => none }
def MatchEdgesWrongFalsely : Prop := matchEdgesRow.holds Tryd.pinned (OpenSpec.ofChange matchEdgesWrong)

/-- 'cleanselaw20.MatchStrict': WHATEVER THE INPUT: true; the input reads as it did. -/
def matchStrictSpec : ChangeSpec := { name := "matchStrict", fn := fun _ => fun
  | [d1, d2, d3, d4, d5] => { results := [.lit (.bool true)], args := [d1, d2, d3, d4, d5] }
  | _ => none }
def matchStrictRow : OpenClaim := { program := "ytganngkllfpgiaadoor", sum := "318cd2b9866bf52423c9d5d6ae3b75d418befc2b8222901568a21d016134b029", func := "cleanse/cleanselaw20.MatchStrict", spec := "matchStrict", inPlace := ["internal/abi.NoEscape", "internal/bytealg.MakeNoZero"], unfollowed := true, recurses := true, named := ["cleanse/measure.none", "cleanse/measure.full"], plainKeys := false, apart := false, laid := [("cleanse/measure.none", laid_cleanse_measure_none), ("cleanse/measure.full", laid_cleanse_measure_full)] }
def MatchStrictSaid : Prop := matchStrictRow.holds Tryd.pinned (OpenSpec.ofChange matchStrictSpec)

/-- ITS FALSE NEIGHBOUR: 'it returns false'. Refute it at one input. -/
def matchStrictWrong : ChangeSpec := { name := "matchStrict", fn := fun _ => fun
  | [d1, d2, d3, d4, d5] => { results := [.lit (.bool false)], args := [d1, d2, d3, d4, d5] }
  | _ => none }
def MatchStrictWrongFalsely : Prop := matchStrictRow.holds Tryd.pinned (OpenSpec.ofChange matchStrictWrong)

/- THE SECOND FORM. 'bulk': how many values and letters a reading holds, each counted each time it is reached (what is shared counts as often as it is met; a slice's spare places count too). A statement '..UptoSaid' is the law's where the arguments, and the package variables that the reading takes, are together of bulk at most 1048576: NARROWER than '..Said'. Prove '..Said' where nothing that the law and all that it calls make is longer than what came in: it says more and counts as full. Else prove '..UptoSaid'. A law counts once. -/
mutual
def uptoBulk {H : Type} : DataW H → Nat
  | .lit (.string bytes) => bytes.length + 1
  | .lit _ => 1
  | .nil => 1
  | .ptr d => uptoBulk d + 1
  | .slice elems spare => uptoBulkAll elems + uptoBulkAll spare + 1
  | .agg parts => uptoBulkAll parts + 1
  | .iface _ d => uptoBulk d + 1
  | .map entries => uptoBulkEntries entries + 1
  | .held _ => 1
def uptoBulkAll {H : Type} : List (DataW H) → Nat
  | [] => 0
  | d :: r => uptoBulk d + uptoBulkAll r
def uptoBulkEntries {H : Type} : List (Lit × DataW H) → Nat
  | [] => 0
  | x :: r => uptoBulkEntry x + uptoBulkEntries r
def uptoBulkEntry {H : Type} : Lit × DataW H → Nat
  | (.string bytes, d) => bytes.length + uptoBulk d + 1
  | (_, d) => uptoBulk d + 1
 end
def uptoSmall : (H : Type) → List (DataW H) → Bool := fun _ ds => decide (uptoBulkAll ds ≤ 1048576)
def OpenSpec.upto (s : _root_.Go.ChangeSpec) : _root_.Go.OpenSpec := { _root_.Go.OpenSpec.ofChange s with cond := some uptoSmall }

/-- 'cleanselaw20.MatchBothWays', WHERE WHAT IT READS IS OF BULK AT MOST 1048576: true; the input reads as it did. -/
def matchBothWaysUptoRow : OpenClaim := { program := "ytganngkllfpgiaadoor", sum := "318cd2b9866bf52423c9d5d6ae3b75d418befc2b8222901568a21d016134b029", func := "cleanse/cleanselaw20.MatchBothWays", spec := "matchBothWays", inPlace := ["internal/abi.NoEscape", "internal/bytealg.MakeNoZero"], unfollowed := true, recurses := true, named := ["cleanse/measure.none", "cleanse/measure.full"], plainKeys := false, apart := false, laid := [("cleanse/measure.none", laid_cleanse_measure_none), ("cleanse/measure.full", laid_cleanse_measure_full)], narrowed := true }
def MatchBothWaysUptoSaid : Prop := matchBothWaysUptoRow.holds Tryd.pinned (OpenSpec.upto matchBothWaysSpec)

/-- 'cleanselaw20.MatchTerms', WHERE WHAT IT READS IS OF BULK AT MOST 1048576: true; the input reads as it did. -/
def matchTermsUptoRow : OpenClaim := { program := "ytganngkllfpgiaadoor", sum := "318cd2b9866bf52423c9d5d6ae3b75d418befc2b8222901568a21d016134b029", func := "cleanse/cleanselaw20.MatchTerms", spec := "matchTerms", inPlace := ["internal/abi.NoEscape", "internal/bytealg.MakeNoZero"], unfollowed := true, recurses := true, named := ["cleanse/measure.none", "cleanse/measure.full"], plainKeys := false, apart := false, laid := [("cleanse/measure.none", laid_cleanse_measure_none), ("cleanse/measure.full", laid_cleanse_measure_full)], narrowed := true }
def MatchTermsUptoSaid : Prop := matchTermsUptoRow.holds Tryd.pinned (OpenSpec.upto matchTermsSpec)

/-- 'cleanselaw20.MatchLists', WHERE WHAT IT READS IS OF BULK AT MOST 1048576: true; the input reads as it did. -/
def matchListsUptoRow : OpenClaim := { program := "ytganngkllfpgiaadoor", sum := "318cd2b9866bf52423c9d5d6ae3b75d418befc2b8222901568a21d016134b029", func := "cleanse/cleanselaw20.MatchLists", spec := "matchLists", inPlace := ["internal/abi.NoEscape", "internal/bytealg.MakeNoZero"], unfollowed := true, recurses := true, named := ["cleanse/measure.none", "cleanse/measure.full"], plainKeys := false, apart := false, laid := [("cleanse/measure.none", laid_cleanse_measure_none), ("cleanse/measure.full", laid_cleanse_measure_full)], narrowed := true }
def MatchListsUptoSaid : Prop := matchListsUptoRow.holds Tryd.pinned (OpenSpec.upto matchListsSpec)

/-- 'cleanselaw20.MatchEqual', WHERE WHAT IT READS IS OF BULK AT MOST 1048576: true; the input reads as it did. -/
def matchEqualUptoRow : OpenClaim := { program := "ytganngkllfpgiaadoor", sum := "318cd2b9866bf52423c9d5d6ae3b75d418befc2b8222901568a21d016134b029", func := "cleanse/cleanselaw20.MatchEqual", spec := "matchEqual", inPlace := ["internal/abi.NoEscape", "internal/bytealg.MakeNoZero"], unfollowed := true, recurses := true, named := ["cleanse/measure.none", "cleanse/measure.full"], plainKeys := false, apart := false, laid := [("cleanse/measure.none", laid_cleanse_measure_none), ("cleanse/measure.full", laid_cleanse_measure_full)], narrowed := true }
def MatchEqualUptoSaid : Prop := matchEqualUptoRow.holds Tryd.pinned (OpenSpec.upto matchEqualSpec)

/-- 'cleanselaw20.MatchEdges', WHERE WHAT IT READS IS OF BULK AT MOST 1048576: true; the input reads as it did. -/
def matchEdgesUptoRow : OpenClaim := { program := "ytganngkllfpgiaadoor", sum := "318cd2b9866bf52423c9d5d6ae3b75d418befc2b8222901568a21d016134b029", func := "cleanse/cleanselaw20.MatchEdges", spec := "matchEdges", inPlace := ["internal/abi.NoEscape", "internal/bytealg.MakeNoZero"], unfollowed := true, recurses := true, named := ["cleanse/measure.none", "cleanse/measure.full"], plainKeys := false, apart := false, laid := [("cleanse/measure.none", laid_cleanse_measure_none), ("cleanse/measure.full", laid_cleanse_measure_full)], narrowed := true }
def MatchEdgesUptoSaid : Prop := matchEdgesUptoRow.holds Tryd.pinned (OpenSpec.upto matchEdgesSpec)

/-- 'cleanselaw20.MatchStrict', WHERE WHAT IT READS IS OF BULK AT MOST 1048576: true; the input reads as it did. -/
def matchStrictUptoRow : OpenClaim := { program := "ytganngkllfpgiaadoor", sum := "318cd2b9866bf52423c9d5d6ae3b75d418befc2b8222901568a21d016134b029", func := "cleanse/cleanselaw20.MatchStrict", spec := "matchStrict", inPlace := ["internal/abi.NoEscape", "internal/bytealg.MakeNoZero"], unfollowed := true, recurses := true, named := ["cleanse/measure.none", "cleanse/measure.full"], plainKeys := false, apart := false, laid := [("cleanse/measure.none", laid_cleanse_measure_none), ("cleanse/measure.full", laid_cleanse_measure_full)], narrowed := true }
def MatchStrictUptoSaid : Prop := matchStrictUptoRow.holds Tryd.pinned (OpenSpec.upto matchStrictSpec)

end Rows
end Go.Proofs.YtganngkllfpgiaaDoor
