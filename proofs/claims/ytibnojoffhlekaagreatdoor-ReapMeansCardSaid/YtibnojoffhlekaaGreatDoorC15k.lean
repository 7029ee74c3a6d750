/- Chapter 15: the reference's sums and products. -/
import Derived.Test.YtibnojoffhlekaaGreatDoorC15j
import Derived.Test.YtibnojoffhlekaaGreatDoorC15e
set_option linter.all false
namespace Go.Gv
open Go Go.Proofs Go.Proofs.YtibnojoffhlekaaGreatDoor
set_option maxRecDepth 100000
set_option maxHeartbeats 4000000
theorem insP_mem:∀ {l:List Mo} {m x:Mo},x∈insP l m→x∈l∨x=m∨∃ y∈l,x=(min (y.1+m.1) 1000000001,y.2.1,())
 |[],m,x,h=>by simp [insP] at h;exact .inr (.inl h)
 |y::l,m,x,h=>by
  unfold insP at h
  split at h
  · rcases List.mem_cons.1 h with rfl|h
    · exact .inl List.mem_cons_self
    · rcases insP_mem h with h|h|⟨z,hz,h⟩
      · exact .inl (List.mem_cons_of_mem _ h)
      · exact .inr (.inl h)
      · exact .inr (.inr ⟨z,List.mem_cons_of_mem _ hz,h⟩)
  · split at h
    · rcases List.mem_cons.1 h with h|h
      · exact .inr (.inr ⟨y,List.mem_cons_self,h⟩)
      · exact .inl (List.mem_cons_of_mem _ h)
    · rcases List.mem_cons.1 h with h|h
      · exact .inr (.inl h)
      · exact .inl h
theorem insP_pw {l:List Mo} {m x:Mo} (h:x∈insP l m):(∃ y∈l,y.2.1=x.2.1)∨m.2.1=x.2.1:=by
 rcases insP_mem h with h|h|⟨y,hy,h⟩
 · exact .inl ⟨x,h,rfl⟩
 · exact .inr (by rw [h])
 · exact .inl ⟨y,hy,by rw [h]⟩
theorem insP_srt:∀ {l:List Mo} {m:Mo},srtM l→srtM (insP l m)
 |[],m,_=>List.pairwise_singleton _ _
 |y::l,m,h=>by
  obtain ⟨h1,h2⟩:=List.pairwise_cons.1 h
  unfold insP
  split
  · rename_i hc
    refine List.pairwise_cons.2 ⟨fun x hx=>?_,insP_srt h2⟩
    rcases insP_pw hx with ⟨z,hz,e⟩|e
    · rw [← e];exact h1 z hz
    · rw [← e];exact hc
  · split
    · exact List.pairwise_cons.2 ⟨fun x hx=>h1 x hx,h2⟩
    · rename_i hc hc2
      have h3:cmpP m.2.1 y.2.1<0:=cmpP_swap.1 (by omega)
      exact List.pairwise_cons.2 ⟨fun x hx=>by
       rcases List.mem_cons.1 hx with rfl|hx
       · exact h3
       · exact cmpP_trans h3 (h1 x hx),h⟩
theorem insP_co {l:List Mo} {m:Mo} (h:∀ x∈l,coM x) (hm:coM m):∀ x∈insP l m,coM x:=fun x hx=>by
 rcases insP_mem hx with hx|rfl|⟨y,hy,rfl⟩
 · exact h x hx
 · exact hm
 · have:=h y hy
   unfold coM at *
   dsimp only
   omega
theorem insP_len:∀ {l:List Mo} {m:Mo},(insP l m).length≤l.length+1
 |[],m=>by simp [insP]
 |y::l,m=>by
  unfold insP
  split
  · have:=insP_len (l:=l) (m:=m);simp only [List.length_cons];omega
  · split<;>simp only [List.length_cons]<;>omega
def addL (l q:List Mo):List Mo:=q.foldl insP l
def sumOK (l:List Mo):Prop:=srtM l∧∀ x∈l,coM x
theorem addL_ok:∀ {q l:List Mo},sumOK l→(∀ x∈q,coM x)→sumOK (addL l q)∧(addL l q).length≤l.length+q.length
 |[],l,h,_=>⟨h,by simp [addL]⟩
 |m::q,l,h,hq=>by
  have h1:sumOK (insP l m):=⟨insP_srt h.1,insP_co h.2 (hq m List.mem_cons_self)⟩
  have h2:=addL_ok h1 (fun x hx=>hq x (List.mem_cons_of_mem _ hx))
  have h3:=insP_len (l:=l) (m:=m)
  exact ⟨h2.1,by have:=h2.2;simp only [addL,List.foldl_cons,List.length_cons] at this ⊢;omega⟩
theorem pair_adj {α:Type} {R:α→α→Prop} (ht:∀ {a b c:α},R a b→R b c→R a c) {l:List α} (h:∀ i (hi:i+1<l.length),R (l[i]'(by omega)) l[i+1]):l.Pairwise R:=by
 rw [List.pairwise_iff_getElem]
 intro i j hi hj hij
 obtain ⟨d,rfl⟩:∃ d,j=i+1+d:=⟨j - i - 1,by omega⟩
 clear hij
 induction d with
 |zero=>exact h i hj
 |succ d ih=>exact ht (ih (by omega)) (h (i+1+d) hj)
theorem valid_sum {p:List Mo} (h:ValidP p):sumOK p:=by
 refine ⟨pair_adj (R:=fun (x y:Mo)=>cmpP x.2.1 y.2.1<0) (fun {a b c} h1 h2=>cmpP_trans (b:=b.2.1) h1 h2) (fun i hi=>?_),fun x hx=>?_⟩
 · have:=(h.2 (i+1) hi).2.2.1 (by omega)
   rw [show i+1 - 1=i by omega,getD_ok _ (by omega),getD_ok _ hi] at this
   exact this
 · obtain ⟨i,hi,rfl⟩:=List.getElem_of_mem hx
   have:=h.2 i hi
   unfold okM at this
   rw [getD_ok _ hi] at this
   unfold coM
   omega
theorem valid_sm {p:List Mo} (h:ValidP p) {x:Mo} (hx:x∈p):smP x.2.1:=by
 have:=(valid_mem h hx).2.2
 have h1:=okP_len this
 refine ⟨by omega,fun y hy=>?_⟩
 have:=okP_mem this hy
 unfold okX at this
 omega
noncomputable def sumV (p q l:List Mo):List Mo:=if boolOf (ValidP p∧ValidP q)=true then doneV l else []
noncomputable def sumE (p q l:List Mo):Int:=if boolOf (ValidP p∧ValidP q)=true then doneE l else 1
theorem sumV_no {p q l:List Mo} (h:¬ (ValidP p∧ValidP q)):sumV p q l=[]∧sumE p q l=1:=by unfold sumV sumE;rw [boolOf_false.2 h];exact ⟨rfl,rfl⟩
theorem sumV_yes {p q l:List Mo} (h:ValidP p∧ValidP q):sumV p q l=doneV l∧sumE p q l=doneE l:=by unfold sumV sumE;rw [boolOf_true.2 h];exact ⟨rfl,rfl⟩
def mulM (m n:Mo):Mo:=(min (m.1 * n.1) 1000000001,mulP m.2.1 n.2.1,())
def prods (p q:List Mo):List Mo:=p.flatMap fun m=>q.map (mulM m)
theorem mulM_co {m n:Mo} (h1:1≤m.1) (h2:1≤n.1):coM (mulM m n):=by
 unfold coM mulM
 have:0≤m.1 * n.1:=Int.mul_nonneg (by omega) (by omega)
 dsimp only
 omega
theorem mul_bound {a b:Int} (h0:1≤a) (h1:a≤1000000000) (h2:1≤b) (h3:b≤1000000000):0≤a * b∧a * b≤1000000000000000000:=
 ⟨Int.mul_nonneg (by omega) (by omega),Int.le_trans (Int.mul_le_mul h1 h3 (by omega) (by omega)) (by decide)⟩
theorem prods_step {p q:List Mo} {i:Nat} (h:i<p.length):prods (p.take (i+1)) q=prods (p.take i) q++q.map (mulM (p.getD i ((0,[],()):Mo))):=by
 unfold prods
 rw [List.take_succ_eq_append_getElem h,List.flatMap_append,getD_ok _ h];simp
theorem map_take_sK {q:List Mo} {f:Mo→Mo} {k:Nat} (h:k<q.length):(q.take (k+1)).map f=(q.take k).map f++[f (q.getD k ((0,[],()):Mo))]:=by
 rw [List.take_succ_eq_append_getElem h,List.map_append,getD_ok _ h];rfl
theorem addL_app {l a b:List Mo}:addL l (a++b)=addL (addL l a) b:=by unfold addL;rw [List.foldl_append]
theorem prods_len {p q:List Mo} {i:Nat} (h:i≤p.length):(prods (p.take i) q).length=i * q.length:=by
 unfold prods
 rw [List.length_flatMap,show (fun (m:Mo)=>(q.map (mulM m)).length)=fun _=>q.length from by funext m;rw [List.length_map],List.map_const',List.sum_replicate_nat,List.length_take,Nat.min_eq_left h]
theorem sumOK_nil:sumOK []:=⟨List.Pairwise.nil,by simp⟩
theorem prods_co {p q:List Mo} (hp:ValidP p) (hq:ValidP q):∀ x∈prods p q,coM x:=fun x hx=>by
 unfold prods at hx
 obtain ⟨m,hm,hx⟩:=List.mem_flatMap.1 hx
 obtain ⟨n,hn,rfl⟩:=List.mem_map.1 hx
 exact mulM_co (valid_mem hp hm).1 (valid_mem hq hn).1
end Go.Gv
