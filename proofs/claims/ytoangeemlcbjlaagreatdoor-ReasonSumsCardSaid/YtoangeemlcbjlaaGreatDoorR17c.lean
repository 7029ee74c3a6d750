/- Chapter 17: the reference: a circuit's reasons. -/
import Derived.Test.YtoangeemlcbjlaaGreatDoorR17b
import Derived.Test.YtoangeemlcbjlaaGreatDoorQ17f
import Derived.Test.YtoangeemlcbjlaaGreatDoorC17e
set_option linter.all false
namespace Go.Gv
open Go Go.Proofs Go.Proofs.YtoangeemlcbjlaaGreatDoor
set_option maxRecDepth 100000
set_option maxHeartbeats 4000000
end Go.Gv
