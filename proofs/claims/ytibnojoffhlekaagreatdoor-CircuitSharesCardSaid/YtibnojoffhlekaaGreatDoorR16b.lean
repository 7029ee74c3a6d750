/- Chapter 16: the reference: gates put, what is reached. -/
import Derived.Test.YtibnojoffhlekaaGreatDoorR16
import Derived.Test.YtibnojoffhlekaaGreatDoorC16c
set_option linter.all false
namespace Go.Gv
open Go Go.Proofs Go.Proofs.YtibnojoffhlekaaGreatDoor
set_option maxRecDepth 100000
set_option maxHeartbeats 4000000
noncomputable def reachB (gs:List Gate) (i:Int):List Bool:=(List.range gs.length).map fun k=>boolOf (Rch gs i.toNat k)
structure NoG (gs:List Gate) (g':Gate) (m:Nat):Prop where
 le:m≤gs.length
 no:∀ k,k<m→(List.getD gs k ((0,0,[],()):Gate))≠g'
end Go.Gv
