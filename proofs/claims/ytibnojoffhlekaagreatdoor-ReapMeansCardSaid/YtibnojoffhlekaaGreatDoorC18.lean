/- Chapter 18: what is kept of a circuit: the reference's functions. -/
import Derived.Test.YtibnojoffhlekaaGreatDoorC16
set_option linter.all false
namespace Go.Gv
open Go Go.Proofs Go.Proofs.YtibnojoffhlekaaGreatDoor
set_option maxRecDepth 100000
set_option maxHeartbeats 4000000
inductive Reach (gs:List Gate) (roots:List Int):Nat→Prop
 |root {r:Int} (h:r∈roots):Reach gs roots r.toNat
 |kid {k:Nat} {j:Int} (h:Reach gs roots k) (hk:k<gs.length) (hj:j∈((List.getD gs k ((0,0,[],()):Gate))).2.2.1):Reach gs roots j.toNat
def RightP (gs:List Gate) (roots:List Int):Prop:=(∀ r∈roots,0≤r∧r<gs.length)∧ValidC gs
noncomputable def keptL (gs:List Gate) (roots:List Int):List Bool:=(List.range gs.length).map fun k=>boolOf (Reach gs roots k)
noncomputable def rank (ks:List Bool) (k:Nat):Nat:=(ks.take k).countP id
noncomputable def mapG (f:Int→Int) (g:Gate):Gate:=(g.1,g.2.1,g.2.2.1.map f,())
noncomputable def pickG (gs:List Gate) (ks:List Bool) (f:Int→Int):Nat→List Gate
 |0=>[]
 |n+1=>if ks.getD n false=true then pickG gs ks f n++[mapG f (gs.getD n ((0,0,[],()):Gate))] else pickG gs ks f n
noncomputable def keepG (gs:List Gate) (roots:List Int):List Gate:=pickG gs (keptL gs roots) (fun j=>rank (keptL gs roots) j.toNat) gs.length
noncomputable def keepL (gs:List Gate) (roots:List Int):List Int:=roots.map fun j=>rank (keptL gs roots) j.toNat
theorem kid_lt {gs:List Gate} (h:ValidC gs) {k:Nat} (hk:k<gs.length) {j:Int} (hj:j∈((List.getD gs k ((0,0,[],()):Gate))).2.2.1):0≤j∧j<k:=(h.2 k hk).1.1 j hj
theorem set_true {xs:List Bool} {a i:Nat} (ha:a<xs.length):(xs.set a true).getD i false=true↔i=a∨xs.getD i false=true:=by
 simp only [List.getD_eq_getElem?_getD,List.getElem?_set]
 by_cases h:a=i
 · subst h;simp [ha]
 · have:¬ i=a:=fun e=>h e.symm
   simp [h,this]
def MarkP (gs:List Gate) (roots:List Int) (xs:List Bool):Prop:=xs.length=gs.length∧(∀ i,xs.getD i false=true→Reach gs roots i)
def ClosedFrom (gs:List Gate) (xs:List Bool) (n:Nat):Prop:=∀ k,n≤k→k<gs.length→xs.getD k false=true→∀ j∈((List.getD gs k ((0,0,[],()):Gate))).2.2.1,xs.getD j.toNat false=true
theorem MarkP.set {gs:List Gate} {roots:List Int} {xs:List Bool} (h:MarkP gs roots xs) {a:Nat} (ha:a<gs.length) (hr:Reach gs roots a):MarkP gs roots (xs.set a true):=by
 refine ⟨by simp [h.1],fun i hi=>?_⟩
 rcases (set_true (by rw [h.1];exact ha)).1 hi with rfl|hi
 · exact hr
 · exact h.2 i hi
theorem ClosedFrom.set {gs:List Gate} {xs:List Bool} {n:Nat} (h:ClosedFrom gs xs n) {a:Nat} (ha:a<xs.length) (hn:a<n):ClosedFrom gs (xs.set a true) n:=fun k h1 h2 h3 j hj=>by
 refine (set_true ha).2 (.inr ?_)
 rcases (set_true ha).1 h3 with rfl|h3
 · omega
 · exact h k h1 h2 h3 j hj
theorem keptL_len (gs:List Gate) (roots:List Int):(keptL gs roots).length=gs.length:=by simp [keptL]
theorem keptL_get {gs:List Gate} {roots:List Int} {k:Nat} (hk:k<gs.length):(keptL gs roots).getD k false=true↔Reach gs roots k:=by
 have h1:k<(keptL gs roots).length:=by rw [keptL_len];exact hk
 rw [getD_ok false h1]
 simp only [keptL,List.getElem_map,List.getElem_range]
 exact boolOf_true
theorem rank_succ {ks:List Bool} {k:Nat} (hk:k<ks.length):rank ks (k+1)=rank ks k+if ks.getD k false=true then 1 else 0:=by
 unfold rank
 rw [List.take_succ_eq_append_getElem hk,List.countP_append,getD_ok false hk]
 simp [List.countP_cons]
theorem pickG_len (gs:List Gate) (ks:List Bool) (f:Int→Int):∀ n,n≤ks.length→(pickG gs ks f n).length=rank ks n
 |0,_=>by simp [pickG,rank]
 |n+1,h=>by
  rw [rank_succ (by omega)]
  unfold pickG
  split
  · simp [pickG_len gs ks f n (by omega)]
  · simp [pickG_len gs ks f n (by omega)]
theorem rank_le (ks:List Bool) (k:Nat):rank ks k≤k:=Nat.le_trans List.countP_le_length (by simp;omega)
theorem map_take_step {α β:Type} {l:List α} {k:Nat} {d:α} {f:α→β} {e:β} (hk:k<l.length) (he:e=f (List.getD l k d)):(l.take k).map f++[e]=(l.take (k+1)).map f:=by
 rw [List.take_succ_eq_append_getElem hk,List.map_append,he,getD_ok d hk];rfl
noncomputable def cntK (gs:List Gate) (roots:List Int):Int:=((keptL gs roots)).countP id
theorem cntK_le (gs:List Gate) (roots:List Int):0≤cntK gs roots∧cntK gs roots≤gs.length:=by
 have h1:((keptL gs roots)).countP id≤((keptL gs roots)).length:=List.countP_le_length
 rw [keptL_len] at h1
 unfold cntK;omega
end Go.Gv
