/- Chapter 16: the reference: Poly. -/
import Derived.Test.YtibnojoffhlekaaGreatDoorR16d
import Derived.Test.YtibnojoffhlekaaGreatDoorC15k
set_option linter.all false
namespace Go.Gv
open Go Go.Proofs Go.Proofs.YtibnojoffhlekaaGreatDoor
set_option maxRecDepth 100000
set_option maxHeartbeats 4000000
structure PolJ (gs:List Gate) (all all':List (List Mo)) (k:Nat) (idx e:Int) (j:Nat):Prop where
 ix:idx=(j:Int)
 le:j≤((List.getD gs k ((0,0,[],()):Gate))).2.2.1.length
 ln:all'.length=all.length
 st:(j=0∧all'=all∧e=0)∨∃ t,j=t+1∧((e=0∧EvK srP (fun _=>True) all ((List.getD gs k ((0,0,[],()):Gate))) k t all')∨(¬ e=0∧gateS srP all ((List.getD gs k ((0,0,[],()):Gate)))=([],e)))
end Go.Gv
