/- The plain law of circuits: a gate is put into a circuit. -/
import Derived.Test.YtoangeemlcbjlaaGreatDoorP16i
set_option linter.all false
namespace Go.Gv
open Go Go.Proofs Go.Proofs.YtoangeemlcbjlaaGreatDoor
set_option maxRecDepth 100000
set_option maxHeartbeats 4000000
def leI (a b:Int):Bool:=decide (a≤b)
def sortI (l:List Int):List Int:=l.mergeSort leI
theorem sortI_perm (l:List Int):(sortI l).Perm l:=List.mergeSort_perm l leI
theorem sortI_sorted (l:List Int):(sortI l).Pairwise fun a b=>a≤b:=by
 have:=List.pairwise_mergeSort (le:=leI) (fun a b c h1 h2=>by
  simp only [leI,decide_eq_true_eq] at *
  omega) (fun a b=>by
  simp only [leI,Bool.or_eq_true,decide_eq_true_eq]
  omega) l
 exact this.imp fun h=>by simpa [leI] using h
theorem sortI_uniq {l m:List Int} (hp:m.Perm l) (hs:m.Pairwise fun a b=>a≤b):m=sortI l:=
 List.Perm.eq_of_pairwise (le:=fun a b:Int=>a≤b) (fun a b _ _ h1 h2=>by omega) hs (sortI_sorted l) (hp.trans (sortI_perm l).symm)
theorem sortI_mem {l:List Int} {k:Int}:k∈sortI l↔k∈l:=(sortI_perm l).mem_iff
theorem sortI_len (l:List Int):(sortI l).length=l.length:=(sortI_perm l).length_eq
def keptB (a b:Int):Bool:=decide (b≠0∧(b≠1∨a=3))
def keptK (gs:List Gate) (g:Gate):List Int:=(sortI g.2.2.1).filter fun k=>keptB g.1 (kindAt gs k)
def zeroK (gs:List Gate) (g:Gate):Prop:=g.1=4∧∃ k∈g.2.2.1,kindAt gs k=0
noncomputable instance (gs:List Gate) (g:Gate):Decidable (zeroK gs g):=Classical.propDecidable _
noncomputable def nrmG (gs:List Gate) (g:Gate):Gate:=if inner g.1 then (if zeroK gs g∨(g.1=3∧(keptK gs g).length=0) then (0,0,[],()) else if (keptK gs g).length=0 then (1,0,[],()) else (g.1,g.2.1,keptK gs g,())) else g
structure PutOK (gs:List Gate) (g:Gate):Prop where
 v:ValidC gs
 f:formed g gs.length
noncomputable instance (gs:List Gate) (g:Gate):Decidable (PutOK gs g):=Classical.propDecidable _
structure OneK (gs:List Gate) (g:Gate):Prop where
 i:inner g.1
 z:¬ zeroK gs g
 l:(keptK gs g).length=1
noncomputable instance (gs:List Gate) (g:Gate):Decidable (OneK gs g):=Classical.propDecidable _
noncomputable def idxG (gs:List Gate) (g:Gate):Nat:=gs.findIdx fun x=>decide (x=g)
noncomputable def putC (gs:List Gate) (g:Gate):List Gate × Int × Int:=
 if PutOK gs g then (if OneK gs g then (gs,(keptK gs g).getD 0 0,0) else if nrmG gs g∈gs then (gs,(idxG gs (nrmG gs g):Int),0) else if gs.length=100000 then ([],0,3) else (gs++[nrmG gs g],(gs.length:Int),0)) else ([],0,1)
theorem keptK_mem {gs:List Gate} {g:Gate} {k:Int}:k∈keptK gs g↔k∈g.2.2.1∧kindAt gs k≠0∧(kindAt gs k≠1∨g.1=3):=by
 unfold keptK keptB
 rw [List.mem_filter,sortI_mem,decide_eq_true_eq]
theorem app_at {gs:List Gate} {h:Gate} {k:Nat} (h0:k<gs.length):(gs++[h]).getD k ((0,0,[],()):Gate)=(List.getD gs k ((0,0,[],()):Gate)):=by
 rw [List.getD_eq_getElem?_getD,List.getElem?_append_left h0,← List.getD_eq_getElem?_getD]
structure PutR (gs:List Gate) (g:Gate) (ds:List Gate) (i:Int):Prop where
 ok:PutOK gs g
 dv:ValidC ds
 ext:ds=gs∨ds=gs++[nrmG gs g]
 lo:0≤i
 hi:i<ds.length
 is:(OneK gs g∧ds=gs∧i=(keptK gs g).getD 0 0)∨(¬ OneK gs g∧ds.getD i.toNat ((0,0,[],()):Gate)=nrmG gs g)
theorem PutR.at {gs ds:List Gate} {g:Gate} {i:Int} (h:PutR gs g ds i) {k:Nat} (hk:k<gs.length):ds.getD k ((0,0,[],()):Gate)=(List.getD gs k ((0,0,[],()):Gate))∧k<ds.length:=by
 rcases h.ext with e|e
 · rw [e];exact ⟨rfl,hk⟩
 · rw [e,app_at hk,List.length_append];exact ⟨rfl,by omega⟩
end Go.Gv
