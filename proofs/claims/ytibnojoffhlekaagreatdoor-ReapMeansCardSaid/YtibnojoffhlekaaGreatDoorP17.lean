/- The plain law of polynomials: results are valid. -/
import Derived.Test.YtibnojoffhlekaaGreatDoorC15l
set_option linter.all false
namespace Go.Gv
open Go Go.Proofs Go.Proofs.YtibnojoffhlekaaGreatDoor
set_option maxRecDepth 100000
set_option maxHeartbeats 4000000
def incP (l:List Pw):Prop:=l.Pairwise (fun x y=>x.1<y.1)∧∀ x∈l,0≤x.1∧x.1<4000∧1≤x.2.1
def wkM (m:Mo):Prop:=1≤m.1∧m.1≤1000000001∧incP m.2.1
theorem add_zero {p:List Mo}:addL p []=p:=rfl
theorem mul_zero {p:List Mo}:addL [] (prods p [])=[]:=by
 have:prods p []=[]:=by unfold prods;simp
 rw [this];rfl
end Go.Gv
