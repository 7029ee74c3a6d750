/- Chapter 17: the reference: what is needed, and what a removal changes. -/
import Derived.Test.YtoangeemlcbjlaaGreatDoorR17c
import Derived.Test.YtoangeemlcbjlaaGreatDoorQ17h
set_option linter.all false
namespace Go.Gv
open Go Go.Proofs Go.Proofs.YtoangeemlcbjlaaGreatDoor
set_option maxRecDepth 100000
set_option maxHeartbeats 4000000
end Go.Gv
