/- The plain law of circuits: polynomials of gates, and what follows from them. -/
import Derived.Test.YtibnojoffhlekaaGreatDoorP16f
import Derived.Test.YtibnojoffhlekaaGreatDoorP20v
set_option linter.all false
namespace Go.Gv
open Go Go.Proofs Go.Proofs.YtibnojoffhlekaaGreatDoor
set_option maxRecDepth 100000
set_option maxHeartbeats 4000000
def leafP (k v:Int):List Mo × Int:=if k=2 then ((if v<0∨4000≤v then [] else [(1,[(v,1,())],())]),(if v<0∨4000≤v then 1 else 0)) else ((if k<0∨1000000000<k then [] else if k=0 then [] else [(k,[],())]),(if k<0∨1000000000<k then 1 else 0))
noncomputable def srP:SR (List Mo):=⟨[],leafP,fun p q=>(sumV p q (addL p q),sumE p q (addL p q)),fun p q=>(sumV p q (addL [] (prods p q)),sumE p q (addL [] (prods p q)))⟩
def srU:SR Unit:=totS () (fun _ _=>()) (fun _ _=>()) fun _ _=>()
noncomputable def indA (Q:List Pw→Prop) (P:List Pw):Int:=@ite _ (Q P) (Classical.propDecidable _) 1 0
def AllT (t:Int→Prop) (P:List Pw):Prop:=∀ x∈P,t x.1
def tru (hv:List Bool) (v:Int):Prop:=(0≤v∧v<(hv.length:Int))∧hv.getD v.toNat false=true
def hasP (hv:List Bool) (p:List Mo):Prop:=∃ m∈p,AllT (tru hv) m.2.1
def badC (cs:List Int) (P:List Pw):Prop:=¬ ∀ x∈P,(0≤x.1∧x.1<(cs.length:Int))∧0≤cs.getD x.1.toNat 0
def sumC (cs:List Int):List Pw→Int
 |[]=>0
 |x::l=>x.2.1 * cs.getD x.1.toNat 0+sumC cs l
noncomputable def costA (cs:List Int) (P:List Pw):Int:=@ite _ (badC cs P) (Classical.propDecidable _) (-1) (min (sumC cs P) 1000000000)
def leastC (cs:List Int) (p:List Mo) (c:Int):Prop:=(c= -1∧∀ m∈p,costA cs m.2.1= -1)∨((0≤c∧c≤1000000000)∧(∃ m∈p,costA cs m.2.1=c)∧∀ m∈p,costA cs m.2.1= -1∨c≤costA cs m.2.1)
def thrC (cs:List Int) (p:List Mo) (c:Int):Prop:=rgC c∧∀ t:Int,0≤t→((0≤c∧c≤t)↔∃ m∈p,0≤costA cs m.2.1∧costA cs m.2.1≤t)
end Go.Gv
