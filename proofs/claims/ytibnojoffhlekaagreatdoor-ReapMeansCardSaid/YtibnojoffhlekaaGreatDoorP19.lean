/- The plain law of polynomials: order, grouping, distribution, values. -/
import Derived.Test.YtibnojoffhlekaaGreatDoorP18
set_option linter.all false
namespace Go.Gv
open Go Go.Proofs Go.Proofs.YtibnojoffhlekaaGreatDoor
set_option maxRecDepth 100000
set_option maxHeartbeats 4000000
def mulX (m n:Mo):Mo:=(m.1 * n.1,mulP m.2.1 n.2.1,())
def prodsX (p q:List Mo):List Mo:=p.flatMap fun m=>q.map (mulX m)
def satM (m:Mo):Mo:=(min m.1 1000000001,m.2.1,())
end Go.Gv
