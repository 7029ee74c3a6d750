/- Chapter 15: texts. -/
import Derived.Test.YtibnojoffhlekaaGreatDoorGh
import Derived.Test.YtibnojoffhlekaaGreatDoorC15b
set_option linter.all false
namespace Go.Gv
open Go Go.Proofs Go.Proofs.YtibnojoffhlekaaGreatDoor
set_option maxRecDepth 100000
set_option maxHeartbeats 4000000
def dgs (n:Int):List UInt8:=if n=0 then [] else Lib.decDigits n.toNat
end Go.Gv
