/- The plain law of circuits: the same gates under other numbers have the same values. -/
import Derived.Test.YtibnojoffhlekaaGreatDoorP16f
set_option linter.all false
namespace Go.Gv
open Go Go.Proofs Go.Proofs.YtibnojoffhlekaaGreatDoor
set_option maxRecDepth 100000
set_option maxHeartbeats 4000000
variable {T:Type}
structure Iso (gs ds:List Gate) (r:Nat) (f:Nat→Nat):Prop where
 v:ValidC gs
 hr:r<gs.length
 mono:∀ a∈reachT gs r,∀ b∈reachT gs r,a<b→f a<f b
 at':∀ k∈reachT gs r,(ds.getD (f k) ((0,0,[],()):Gate)).1=((List.getD gs k ((0,0,[],()):Gate))).1∧(ds.getD (f k) ((0,0,[],()):Gate)).2.1=((List.getD gs k ((0,0,[],()):Gate))).2.1∧(ds.getD (f k) ((0,0,[],()):Gate)).2.2.1=((List.getD gs k ((0,0,[],()):Gate))).2.2.1.map fun j=>((f j.toNat:Nat):Int)
end Go.Gv
