/- Chapter 15: the reference's product of powers, and its end of a sum. -/
import Derived.Test.YtibnojoffhlekaaGreatDoorC15b
set_option linter.all false
namespace Go.Gv
open Go Go.Proofs Go.Proofs.YtibnojoffhlekaaGreatDoor
set_option maxRecDepth 100000
set_option maxHeartbeats 4000000
def mulP:List Pw→List Pw→List Pw
 |[],b=>b
 |x::a,[]=>x::a
 |x::a,y::b=>if x.1<y.1 then x::mulP a (y::b) else if y.1<x.1 then y::mulP (x::a) b else (x.1,x.2.1+y.2.1,())::mulP a b
termination_by a b=>a.length+b.length
theorem mulP_nil (a:List Pw):mulP a []=a:=by cases a<;>simp [mulP]
def smP (l:List Pw):Prop:=l.length≤100000∧∀ x∈l, -1000000≤x.2.1∧x.2.1≤1000000
def smX (x:Pw):Prop:= -1000000≤x.2.1∧x.2.1≤1000000
def overC (l:List Mo):Prop:=∃ m∈l,1000000000<m.1∨∃ x∈m.2.1,100<x.2.1
noncomputable def doneE (l:List Mo):Int:=if boolOf (overC l)=true then 2 else if 400<l.length then 3 else 0
noncomputable def doneV (l:List Mo):List Mo:=if boolOf (overC l)=true then [] else if 400<l.length then [] else l
theorem done_yes {l:List Mo} (h:overC l):[]=doneV l∧2=doneE l:=by unfold doneV doneE;rw [boolOf_true.2 h];exact ⟨rfl,rfl⟩
theorem done_no {l:List Mo} (h:¬ overC l):doneV l=(if 400<l.length then [] else l)∧doneE l=if 400<l.length then 3 else 0:=by unfold doneV doneE;rw [boolOf_false.2 h];exact ⟨rfl,rfl⟩
def underC (m:Mo):Prop:=m.1≤1000000000∧∀ x∈m.2.1,x.2.1≤100
end Go.Gv
