/- Chapter 16: the reference: sorted lists, gates put, what is reached. -/
import Derived.Test.YtibnojoffhlekaaGreatDoorP16j
set_option linter.all false
namespace Go.Gv
open Go Go.Proofs Go.Proofs.YtibnojoffhlekaaGreatDoor
set_option maxRecDepth 100000
set_option maxHeartbeats 4000000
structure SwO (l L:List Int) (i:Nat):Prop where
 p:L.Perm l
 a:∀ a b,a<b→b<i→L.getD a 0≤L.getD b 0
structure SwI (l L:List Int) (i k:Nat):Prop where
 p:L.Perm l
 a:∀ a b,a<b→b≤i→a≠k→b≠k→L.getD a 0≤L.getD b 0
 b:∀ b,k<b→b≤i→L.getD k 0<L.getD b 0
end Go.Gv
