/- Chapter 15: the program's values. -/
import Derived.Test.YtibnojoffhlekaaGreatDoorC15b
set_option linter.all false
namespace Go.Gv
open Go Go.Proofs Go.Proofs.YtibnojoffhlekaaGreatDoor
set_option maxRecDepth 100000
set_option maxHeartbeats 4000000
end Go.Gv
