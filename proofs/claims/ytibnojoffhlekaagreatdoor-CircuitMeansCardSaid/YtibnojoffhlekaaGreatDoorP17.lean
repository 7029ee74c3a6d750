/- The plain law of polynomials: results are valid. -/
import Derived.Test.YtibnojoffhlekaaGreatDoorC15l
set_option linter.all false
namespace Go.Gv
open Go Go.Proofs Go.Proofs.YtibnojoffhlekaaGreatDoor
set_option maxRecDepth 100000
set_option maxHeartbeats 4000000
def incP (l:List Pw):Prop:=l.Pairwise (fun x y=>x.1<y.1)∧∀ x∈l,0≤x.1∧x.1<4000∧1≤x.2.1
theorem inc_of {l:List Pw} (h:okP l):incP l:=by
 refine ⟨pair_adj (R:=fun (x y:Pw)=>x.1<y.1) (fun h1 h2=>Int.lt_trans h1 h2) (fun i hi=>?_),fun x hx=>?_⟩
 · have:=(h (i+1) hi).2.2.2.2 (by omega)
   rw [show i+1 - 1=i by omega,getD_ok _ (by omega),getD_ok _ hi] at this
   exact this
 · have:=okP_mem h hx;omega
theorem okP_inc {l:List Pw} (h:incP l) (h1:∀ x∈l,x.2.1≤100):okP l:=fun j hj=>by
 have hm:=getD_mem (l:=l) (d:=((0,0,()):Pw)) hj
 have h2:=h.2 _ hm
 have h3:=h1 _ hm
 refine ⟨h2.1,h2.2.1,h2.2.2,h3,fun h0=>?_⟩
 have:=List.pairwise_iff_getElem.1 h.1 (j - 1) j (by omega) hj (by omega)
 rw [getD_ok _ (by omega),getD_ok _ hj]
 exact this
theorem mulP_var {a b:List Pw} {x:Pw} (h:x∈mulP a b):(∃ y∈a,y.1=x.1)∨∃ y∈b,y.1=x.1:=by
 rcases mulP_mem h with h|h|⟨u,hu,v,hv,rfl⟩
 · exact .inl ⟨x,h,rfl⟩
 · exact .inr ⟨x,h,rfl⟩
 · exact .inl ⟨u,hu,rfl⟩
theorem mulP_inc {a b:List Pw} (ha:incP a) (hb:incP b):incP (mulP a b):=by
 refine ⟨?_,fun x hx=>?_⟩
 · obtain ⟨ha,ha2⟩:=ha
   obtain ⟨hb,hb2⟩:=hb
   clear ha2 hb2
   fun_induction mulP a b with
   |case1 b=>exact hb
   |case2 x a=>exact ha
   |case3 u a v b hc ih=>
    obtain ⟨h1,h2⟩:=List.pairwise_cons.1 ha
    obtain ⟨h3,h4⟩:=List.pairwise_cons.1 hb
    refine List.pairwise_cons.2 ⟨fun x hx=>?_,ih h2 hb⟩
    rcases mulP_var hx with ⟨y,hy,e⟩|⟨y,hy,e⟩
    · rw [← e];exact h1 y hy
    · rw [← e]
      rcases List.mem_cons.1 hy with rfl|hy
      · exact hc
      · exact Int.lt_trans hc (h3 y hy)
   |case4 u a v b hc hc2 ih=>
    obtain ⟨h1,h2⟩:=List.pairwise_cons.1 ha
    obtain ⟨h3,h4⟩:=List.pairwise_cons.1 hb
    refine List.pairwise_cons.2 ⟨fun x hx=>?_,ih ha h4⟩
    rcases mulP_var hx with ⟨y,hy,e⟩|⟨y,hy,e⟩
    · rw [← e]
      rcases List.mem_cons.1 hy with rfl|hy
      · exact hc2
      · exact Int.lt_trans hc2 (h1 y hy)
    · rw [← e];exact h3 y hy
   |case5 u a v b hc hc2 ih=>
    obtain ⟨h1,h2⟩:=List.pairwise_cons.1 ha
    obtain ⟨h3,h4⟩:=List.pairwise_cons.1 hb
    have huv:u.1=v.1:=Int.le_antisymm (Int.not_lt.1 hc2) (Int.not_lt.1 hc)
    refine List.pairwise_cons.2 ⟨fun x hx=>?_,ih h2 h4⟩
    rcases mulP_var hx with ⟨y,hy,e⟩|⟨y,hy,e⟩
    · rw [← e];exact h1 y hy
    · rw [← e];show u.1<y.1;rw [huv];exact h3 y hy
 · rcases mulP_mem hx with h|h|⟨u,hu,v,hv,rfl⟩
   · exact ha.2 x h
   · exact hb.2 x h
   · have:=ha.2 u hu;have:=hb.2 v hv;dsimp only;omega
def wkM (m:Mo):Prop:=1≤m.1∧m.1≤1000000001∧incP m.2.1
theorem wkM_of {p:List Mo} (h:ValidP p):∀ m∈p,wkM m:=fun m hm=>by
 have:=valid_mem h hm
 exact ⟨this.1,by omega,inc_of this.2.2⟩
theorem wkM_mul {m n:Mo} (hm:wkM m) (hn:wkM n):wkM (mulM m n):=by
 unfold wkM mulM at *
 have h1:1 * 1≤m.1 * n.1:=Int.mul_le_mul hm.1 hn.1 (by decide) (by omega)
 refine ⟨by dsimp only;omega,by dsimp only;omega,mulP_inc hm.2.2 hn.2.2⟩
theorem wkM_prods {p q:List Mo} (hp:∀ m∈p,wkM m) (hq:∀ m∈q,wkM m):∀ m∈prods p q,wkM m:=fun x hx=>by
 unfold prods at hx
 obtain ⟨m,hm,hx⟩:=List.mem_flatMap.1 hx
 obtain ⟨n,hn,rfl⟩:=List.mem_map.1 hx
 exact wkM_mul (hp m hm) (hq n hn)
theorem wkM_ins {l:List Mo} {m:Mo} (hl:∀ x∈l,wkM x) (hm:wkM m):∀ x∈insP l m,wkM x:=fun x hx=>by
 rcases insP_mem hx with h|rfl|⟨y,hy,rfl⟩
 · exact hl x h
 · exact hm
 · have:=hl y hy
   unfold wkM at *
   exact ⟨by dsimp only;omega,by dsimp only;omega,this.2.2⟩
theorem wkM_add:∀ {q l:List Mo},(∀ x∈l,wkM x)→(∀ x∈q,wkM x)→∀ x∈addL l q,wkM x
 |[],_,hl,_=>hl
 |m::q,l,hl,hq=>wkM_add (q:=q) (l:=insP l m) (wkM_ins hl (hq m List.mem_cons_self)) fun x hx=>hq x (List.mem_cons_of_mem _ hx)
theorem valid_nil:ValidP []:=⟨by decide,fun i hi=>by simp at hi⟩
theorem valid_of {l:List Mo} (hs:srtM l) (hw:∀ m∈l,wkM m) (ho:¬ overC l) (hn:l.length≤400):ValidP l:=by
 refine ⟨hn,fun i hi=>?_⟩
 have hm:=getD_mem (l:=l) (d:=((0,[],()):Mo)) hi
 have h1:=hw _ hm
 have h2:underC (l.getD i ((0,[],()):Mo)):=⟨Int.not_lt.1 fun h=>ho ⟨_,hm, .inl h⟩,fun x hx=>Int.not_lt.1 fun h=>ho ⟨_,hm, .inr ⟨x,hx,h⟩⟩⟩
 refine ⟨h1.1,h2.1,fun h0=>?_,okP_inc h1.2.2 h2.2⟩
 exact srt_at hs (by omega) hi
theorem done_E {l:List Mo}:doneE l≠1∧(doneE l=0∨(doneV l).length=0):=by
 by_cases ho:overC l
 · rw [← (done_yes ho).1,← (done_yes ho).2];exact ⟨by decide, .inr rfl⟩
 · rw [(done_no ho).1,(done_no ho).2]
   split
   · exact ⟨by decide, .inr rfl⟩
   · exact ⟨by decide, .inl rfl⟩
theorem add_ok {p q:List Mo} (hp:ValidP p) (hq:ValidP q):srtM (addL p q)∧∀ m∈addL p q,wkM m:=
 ⟨(addL_ok (valid_sum hp) (valid_sum hq).2).1.1,wkM_add (wkM_of hp) (wkM_of hq)⟩
theorem mul_ok {p q:List Mo} (hp:ValidP p) (hq:ValidP q):srtM (addL [] (prods p q))∧∀ m∈addL [] (prods p q),wkM m:=
 ⟨(addL_ok sumOK_nil (prods_co hp hq)).1.1,wkM_add (by simp) (wkM_prods (wkM_of hp) (wkM_of hq))⟩
theorem sum_E {p q l:List Mo}:(sumE p q l=1↔¬ ValidP p∨¬ ValidP q)∧(sumE p q l=0∨((sumV p q l).length:Int)=0):=by
 by_cases hv:ValidP p∧ValidP q
 · rw [(sumV_yes hv).1,(sumV_yes hv).2]
   refine ⟨⟨fun h=>absurd h done_E.1,fun h=>h.elim (fun h=>absurd hv.1 h) (fun h=>absurd hv.2 h)⟩,done_E.2.imp id (fun h=>by omega)⟩
 · rw [(sumV_no hv).1,(sumV_no hv).2]
   refine ⟨⟨fun _=>?_,fun _=>rfl⟩, .inr rfl⟩
   by_cases hp:ValidP p
   · exact .inr fun hq=>hv ⟨hp,hq⟩
   · exact .inl hp
theorem valid_one:ValidP [(1,[],())]:=by
 refine ⟨by decide,fun i hi=>?_⟩
 have:i=0:=by simp at hi;omega
 subst this
 exact ⟨by decide,by decide,fun h=>absurd h (by decide),fun j hj=>by simp at hj⟩
theorem prods_one {p:List Mo} (h:ValidP p):prods [(1,[],())] p=p:=by
 simp only [prods,List.flatMap_cons,List.flatMap_nil,List.append_nil]
 refine (List.map_congr_left fun m hm=>?_).trans (List.map_id p)
 have:=valid_mem h hm
 obtain ⟨m1,m2,⟨⟩⟩:=m
 unfold mulM
 dsimp only at this ⊢
 rw [show mulP [] m2=m2 by simp [mulP],show min (1 * m1) 1000000001=m1 by omega];rfl
theorem add_zero {p:List Mo}:addL p []=p:=rfl
theorem one_mul {p:List Mo} (h:ValidP p):addL [] (prods [(1,[],())] p)=p:=by
 rw [prods_one h,addL_srt (l:=[]) (valid_sum h).1];rfl
theorem mul_zero {p:List Mo}:addL [] (prods p [])=[]:=by
 have:prods p []=[]:=by unfold prods;simp
 rw [this];rfl
end Go.Gv
