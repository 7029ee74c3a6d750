/- The statements of chapter 4: similar, near, values, Jaro. -/
import Derived.Test.YtganngkllfpgiaaGreatDoorR04
import Derived.Test.YtganngkllfpgiaaGreatDoorR04b
set_option linter.all false
namespace Go.Gv
open Go Go.Proofs Go.Proofs.YtganngkllfpgiaaGreatDoor
set_option maxRecDepth 100000
set_option maxHeartbeats 4000000

@[reducible] def tRaw : Ty := .st (.cs .str (.cs .str (.cs .str (.cs (.sl .str) (.cs (.sl .str) (.cs tInt (.cs tInt (.cs tInt .nl))))))))
abbrev Raw := List UInt8 × List UInt8 × List UInt8 × List (List UInt8) × List (List UInt8) × Int × Int × Int × Unit
def smallX (x : Raw) : Prop := shortL 300 [x.1, x.2.1, x.2.2.1] ∧ fewL [x.2.2.2.1, x.2.2.2.2.1]


end Go.Gv
