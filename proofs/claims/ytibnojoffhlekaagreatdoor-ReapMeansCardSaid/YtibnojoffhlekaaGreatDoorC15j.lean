/- Chapter 15: the reference's sorted sums. -/
import Derived.Test.YtibnojoffhlekaaGreatDoorC15f
import Derived.Test.YtibnojoffhlekaaGreatDoorP15
set_option linter.all false
namespace Go.Gv
open Go Go.Proofs Go.Proofs.YtibnojoffhlekaaGreatDoor
set_option maxRecDepth 100000
set_option maxHeartbeats 4000000
def insP:List Mo→Mo→List Mo
 |[],m=>[m]
 |x::l,m=>if cmpP x.2.1 m.2.1<0 then x::insP l m else if cmpP x.2.1 m.2.1=0 then (min (x.1+m.1) 1000000001,x.2.1,())::l else m::x::l
def srtM (l:List Mo):Prop:=l.Pairwise fun x y=>cmpP x.2.1 y.2.1<0
def coM (m:Mo):Prop:=0≤m.1∧m.1≤1000000001
end Go.Gv
