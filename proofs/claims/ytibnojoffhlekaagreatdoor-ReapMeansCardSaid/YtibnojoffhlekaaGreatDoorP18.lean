/- The plain law of polynomials: sums and products as linear forms. -/
import Derived.Test.YtibnojoffhlekaaGreatDoorP17
set_option linter.all false
namespace Go.Gv
open Go Go.Proofs Go.Proofs.YtibnojoffhlekaaGreatDoor
set_option maxRecDepth 100000
set_option maxHeartbeats 4000000
def lin (f:List Pw→Int):List Mo→Int
 |[]=>0
 |m::l=>m.1 * f m.2.1+lin f l
def one (P Q:List Pw):Int:=if Q=P then 1 else 0
def tot (P:List Pw) (l:List Mo):Int:=lin (one P) l
end Go.Gv
