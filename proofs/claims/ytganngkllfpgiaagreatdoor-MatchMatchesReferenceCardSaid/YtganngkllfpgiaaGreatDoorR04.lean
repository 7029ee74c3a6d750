/- Chapter 4: sizes of the statements' arguments; validity of ratios by the reference. -/
import Derived.Test.YtganngkllfpgiaaGreatDoorC04e
set_option linter.all false
namespace Go.Gv
open Go Go.Proofs Go.Proofs.YtganngkllfpgiaaGreatDoor
set_option maxRecDepth 100000
set_option maxHeartbeats 4000000

def shortL (n : Int) (l : List (List UInt8)) : Prop := ∀ s ∈ l, (s.length : Int) ≤ n


def fewL (l : List (List (List UInt8))) : Prop := ∀ m ∈ l, m.length ≤ 40 ∧ shortL 100 m




end Go.Gv
