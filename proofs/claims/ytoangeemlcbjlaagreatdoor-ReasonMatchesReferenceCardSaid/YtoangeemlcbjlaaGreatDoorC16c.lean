/- Chapter 16: the program: sorted kids, a gate put, what is reached. -/
import Derived.Test.YtoangeemlcbjlaaGreatDoorGh
import Derived.Test.YtoangeemlcbjlaaGreatDoorC16b
import Derived.Test.YtoangeemlcbjlaaGreatDoorP16j
import Derived.Test.YtoangeemlcbjlaaGreatDoorY
set_option linter.all false
namespace Go.Gv
open Go Go.Proofs Go.Proofs.YtoangeemlcbjlaaGreatDoor
set_option maxRecDepth 100000
set_option maxHeartbeats 4000000
theorem fn_hf16 {f : Nat} {fn : Func} {n : Nat} (h : FnOK SP f fn n) : ∃ fn, SP.funcs[f]? = some fn ∧ fn.body.isNone = false ∧ (fn.name == "runtime.NumGoroutine") = false := by
 refine ⟨fn,h.at',?_,h.name⟩
 have:=h.body
 cases hb:fn.body with
 |none=>rw [hb] at this;cases this
 |some _=>rfl
@[reducible] noncomputable def S_z99:Spec:={ ins:= .cons (.row tInt) .nil,pre:=fun x=>List.length x.1<4611686018427387904,alts:=[{ outs:= .nil,res:=fun _=>(),upd:=fun x=>(List.mergeSort x.1 (fun (x y:Int)=>decide (x≤y)),())}]}
theorem ok_z99:SpecOK SP glob fi_z99 S_z99:=sortI_ok lays189 (fn_hf16 wf_z99)
structure KidR (gs:List Gate) (gk:Int) (l:List Int) (k:Nat) (ze:Bool) (ks:List Int):Prop where
 z:ze=true↔∃ j∈l.take k,kindAt gs j=0
 f:ks=(l.take k).filter fun j=>keptB gk (kindAt gs j)
theorem KidR.start (gs:List Gate) (gk:Int) (l:List Int):KidR gs gk l 0 false []:=⟨by simp,rfl⟩
theorem KidR.step {gs:List Gate} {gk:Int} {l:List Int} {k:Nat} {ze ze':Bool} {ks:List Int} (h:KidR gs gk l k ze ks) (hk:k<l.length) (hz:ze'=true↔(ze=true∨kindAt gs (l.getD k 0)=0)):KidR gs gk l (k+1) ze' (ks++if keptB gk (kindAt gs (l.getD k 0))=true then [l.getD k 0] else []):=by
 have e:l.take (k+1)=l.take k++[l.getD k 0]:=by rw [List.take_succ_eq_append_getElem hk,← getD_ok 0 hk]
 refine ⟨?_,?_⟩
 · rw [hz,h.z,e]
   constructor
   · rintro (⟨j,hj,q⟩|q)
     · exact ⟨j,List.mem_append_left _ hj,q⟩
     · exact ⟨_,List.mem_append_right _ (List.mem_singleton.2 rfl),q⟩
   · rintro ⟨j,hj,q⟩
     rcases List.mem_append.1 hj with hj|hj
     · exact .inl ⟨j,hj,q⟩
     · rw [List.mem_singleton.1 hj] at q;exact .inr q
 · rw [e,List.filter_append,h.f]
   congr 1
   by_cases q:keptB gk (kindAt gs (l.getD k 0))=true
   · rw [if_pos q,List.filter_cons_of_pos (p:=fun j=>keptB gk (kindAt gs j)) q];rfl
   · rw [if_neg q,List.filter_cons_of_neg (p:=fun j=>keptB gk (kindAt gs j)) q];rfl
theorem KidR.done {gs:List Gate} {g:Gate} {k:Nat} {ze:Bool} {ks:List Int} (h:KidR gs g.1 (sortI g.2.2.1) k ze ks) (hk:(sortI g.2.2.1).length≤k):ks=keptK gs g∧(g.1=4→(ze=true↔zeroK gs g)):=by
 obtain ⟨h1,h2⟩:=h
 rw [List.take_of_length_le hk] at h1 h2
 exact ⟨h2,fun h4=>h1.trans ⟨fun ⟨j,hj,q⟩=>⟨h4,j,sortI_mem.1 hj,q⟩,fun ⟨_,j,hj,q⟩=>⟨j,sortI_mem.2 hj,q⟩⟩⟩
end Go.Gv
