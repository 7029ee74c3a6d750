/- Chapter 16: the reference: Count and Poly. -/
import Derived.Test.YtibnojoffhlekaaGreatDoorR16c
set_option linter.all false
namespace Go.Gv
open Go Go.Proofs Go.Proofs.YtibnojoffhlekaaGreatDoor
set_option maxRecDepth 100000
set_option maxHeartbeats 4000000
section
variable {T:Type}
structure EvF (S:GE T) (Q:T→Prop) (gs:List Gate) (n k:Nat) (all:List T):Prop where
 le:k≤n+1
 ln:all.length=n+1
 run:runR S gs (n:Int)=runE S gs (reachF gs n k) all
 qs:∀ m,Q (all.getD m S.z)
end
def opN (gk x y:Int):Int:=if gk=3 then x+y else x * y
def initN (vs:List Int) (k v:Int):Int:=if k=2∧v<(vs.length:Int) then vs.getD v.toNat 0 else if k=1∨k=4 then 1 else 0
structure ZerJ (all l:List Int) (gk x0 idx x:Int) (j:Nat):Prop where
 ix:idx=(j:Int)
 le:j≤l.length
 eq:x=if gk=4∧0∈(l.take j).map (atL 0 all) then 0 else x0
structure NumJ (all l:List Int) (gk x1 idx x:Int) (j:Nat):Prop where
 ix:idx=(j:Int)
 le:j≤l.length
 eq:x=((l.take j).map (atL 0 all)).foldl (opN gk) x1
 nn:0≤x
def okN (gs:List Gate) (i:Int) (vs:List Int) (v:Nat):Prop:=GoodI gs i∧∀ x∈vs.take v,0≤x
end Go.Gv
