/- The plain law of polynomials: values. -/
import Derived.Test.YtibnojoffhlekaaGreatDoorP19
import Derived.Test.YtibnojoffhlekaaGreatDoorC15c
set_option linter.all false
namespace Go.Gv
open Go Go.Proofs Go.Proofs.YtibnojoffhlekaaGreatDoor
set_option maxRecDepth 100000
set_option maxHeartbeats 4000000
def valA (vs:List Int):List Pw→Int
 |[]=>1
 |x::l=>(vs.getD x.1.toNat 0) ^ x.2.1.toNat * valA vs l
def varsIn (vs:List Int) (p:List Mo):Prop:=∀ m∈p,∀ x∈m.2.1,x.1<vs.length
end Go.Gv
