/- The plain law of circuits: polynomials of gates, and what follows from them. -/
import Derived.Test.YtibnojoffhlekaaGreatDoorP16f
import Derived.Test.YtibnojoffhlekaaGreatDoorP20v
set_option linter.all false
namespace Go.Gv
open Go Go.Proofs Go.Proofs.YtibnojoffhlekaaGreatDoor
set_option maxRecDepth 100000
set_option maxHeartbeats 4000000
def leafP (k v:Int):List Mo × Int:=if k=2 then ((if v<0∨4000≤v then [] else [(1,[(v,1,())],())]),(if v<0∨4000≤v then 1 else 0)) else ((if k<0∨1000000000<k then [] else if k=0 then [] else [(k,[],())]),(if k<0∨1000000000<k then 1 else 0))
noncomputable def srP:SR (List Mo):=⟨[],leafP,fun p q=>(sumV p q (addL p q),sumE p q (addL p q)),fun p q=>(sumV p q (addL [] (prods p q)),sumE p q (addL [] (prods p q)))⟩
theorem leafP_at {g v:Int} (h:g=0∨g=1∨(g=2∧0≤v∧v<4000)):leafP g v=(if g=0 then [] else if g=1 then [(1,[],())] else [(1,[(v,1,())],())],0):=by
 unfold leafP
 rcases h with h|h|h
 · rw [if_neg (by omega),if_neg (by omega),if_pos h,if_neg (by omega),if_pos h]
 · rw [if_neg (by omega),if_neg (by omega),if_neg (by omega),if_neg (by omega),if_neg (by omega),if_pos h,h]
 · rw [if_pos h.1,if_neg (by omega),if_neg (by omega),if_neg (by omega),if_neg (by omega)]
theorem valid_var {v:Int} (h:0≤v) (h2:v<4000):ValidP [(1,[(v,1,())],())]:=by
 refine ⟨by show 1≤400;decide,fun i hi=>?_⟩
 have:i=0:=by simp at hi;omega
 subst this
 refine ⟨by show (1:Int)≤1;decide,by show (1:Int)≤1000000000;decide,fun h=>absurd h (by decide),fun j hj=>?_⟩
 have:j=0:=by
  have hj:j<1:=hj
  omega
 subst this
 refine ⟨h,h2,by show (1:Int)≤1;decide,by show (1:Int)≤100;decide,fun h=>absurd h (by decide)⟩
theorem leafP_valid {g v:Int} (h:g=0∨g=1∨(g=2∧0≤v∧v<4000)):ValidP (leafP g v).1:=by
 rw [leafP_at h]
 dsimp only
 split
 · exact valid_nil
 · split
   · exact valid_one
   · exact valid_var (by omega) (by omega)
def srU:SR Unit:=totS () (fun _ _=>()) (fun _ _=>()) fun _ _=>()
theorem homV {gs:List Gate} (hV:ValidC gs):Hom srP srU gs fun p _=>ValidP p where
 leaf k hk hi _ _:=leafP_valid (leaf_kind hV hk hi)
 plus a b _ _ ha hb e _:=by
  have h:=addE_zero (p:=a) (q:=b) e
  show ValidP (sumV a b (addL a b))
  rw [h.2.2];exact h.2.1
 times a b _ _ ha hb e _:=by
  have h:=mulE_zero (p:=a) (q:=b) e
  show ValidP (sumV a b (addL [] (prods a b)))
  rw [h.2.2];exact h.2.1
theorem errP_ne {gs:List Gate} (hV:ValidC gs) {i:Nat} (hi:i<gs.length):errL srP.ge gs i≠1:=fun h=>by
 obtain ⟨k,hk,h1,h2⟩:=firstE_at (reachT_sorted gs i) (f:=fun k=>(vlE srP.ge gs k).2) (by show errL srP.ge gs i≠0;rw [h];decide)
 have h1:(vlE srP.ge gs k).2=1:=h1.trans h
 have hkl:k<gs.length:=by have:=(reachT_mem.1 hk).1;omega
 by_cases hin:inner ((List.getD gs k ((0,0,[],()):Gate))).1
 · have hv:=(homV hV).at hV hi k fun j hj hlt=>⟨h2 j hj hlt,gateS_tot⟩
   have hl:2≤((List.getD gs k ((0,0,[],()):Gate))).2.2.1.length:=(hV.2 k hkl).2.1 hin
   have kids:∀ j∈((List.getD gs k ((0,0,[],()):Gate))).2.2.1,ValidP (atL [] (valsE srP.ge gs k) j):=fun j hj=>by
    obtain ⟨q1,q2,_⟩:=reachT_kid hV hi hk hj
    have a1:atL [] (valsE srP.ge gs k) j=(vlE srP.ge gs j.toNat).1:=vals_at (S:=srP.ge) hV hkl hj
    rw [a1]
    exact hv _ q2 q1
   have g1:vlE srP.ge gs k=joinL (srP.op ((List.getD gs k ((0,0,[],()):Gate)))) [] (atL [] (valsE srP.ge gs k) (((List.getD gs k ((0,0,[],()):Gate))).2.2.1.getD 0 0)) ((((List.getD gs k ((0,0,[],()):Gate))).2.2.1.drop 1).map (atL [] (valsE srP.ge gs k))):=gateS_inner (S:=srP) hin (by omega)
   rw [g1] at h1
   refine joinL_ne (Q:=ValidP) (by decide) (fun a b ha hb=>?_) _ _ (fun y hy=>?_) (kids _ (getD_mem (by omega))) h1
   · unfold SR.op
     split
     · refine ⟨fun e=>?_,fun e=>?_⟩
       · exact ((sum_E (p:=a) (q:=b) (l:=addL [] (prods a b))).1.1 e).elim (fun k=>k ha) fun k=>k hb
       · have h:=mulE_zero (p:=a) (q:=b) e
         show ValidP (sumV a b (addL [] (prods a b)))
         rw [h.2.2];exact h.2.1
     · refine ⟨fun e=>?_,fun e=>?_⟩
       · exact ((sum_E (p:=a) (q:=b) (l:=addL a b)).1.1 e).elim (fun k=>k ha) fun k=>k hb
       · have h:=addE_zero (p:=a) (q:=b) e
         show ValidP (sumV a b (addL a b))
         rw [h.2.2];exact h.2.1
   · obtain ⟨j,hj,rfl⟩:=List.mem_map.1 hy
     exact kids j (List.mem_of_mem_drop hj)
 · have e:vlE srP.ge gs k=leafP ((List.getD gs k ((0,0,[],()):Gate))).1 ((List.getD gs k ((0,0,[],()):Gate))).2.1:=vl_leaf (S:=srP) hin
   rw [e,leafP_at (leaf_kind hV hkl hin)] at h1
   exact (show (0:Int)≠1 by decide) h1
theorem lin_pos {f:List Pw→Int}:∀ {l:List Mo},(∀ m∈l,1≤m.1)→(∀ P,0≤f P)→0≤lin f l∧(0<lin f l↔∃ m∈l,0<f m.2.1)
 |[],_,_=>⟨Int.le_refl 0,by simp [lin]⟩
 |m::l,hm,hf=>by
  obtain ⟨ih1,ih2⟩:=lin_pos (l:=l) (fun x hx=>hm x (List.mem_cons_of_mem _ hx)) hf
  have h1:=hm m List.mem_cons_self
  have h2:=hf m.2.1
  have h3:0≤m.1 * f m.2.1:=Int.mul_nonneg (by omega) h2
  simp only [lin]
  refine ⟨by omega,fun h=>?_,?_⟩
  · by_cases k:0<f m.2.1
    · exact ⟨m,List.mem_cons_self,k⟩
    · have:f m.2.1=0:=by omega
      rw [this] at h
      obtain ⟨x,hx,h⟩:=ih2.1 (by omega)
      exact ⟨x,List.mem_cons_of_mem _ hx,h⟩
  · rintro ⟨x,hx,h⟩
    rcases List.mem_cons.1 hx with rfl|hx
    · have:0<x.1 * f x.2.1:=Int.mul_pos (by omega) h
      omega
    · have:=ih2.2 ⟨x,hx,h⟩
      omega
noncomputable def indA (Q:List Pw→Prop) (P:List Pw):Int:=@ite _ (Q P) (Classical.propDecidable _) 1 0
theorem indA_nn (Q:List Pw→Prop) (P:List Pw):0≤indA Q P:=by unfold indA;split<;>decide
theorem indA_pos {Q:List Pw→Prop} {P:List Pw}:0<indA Q P↔Q P:=by
 unfold indA
 split
 · rename_i h;exact ⟨fun _=>h,fun _=>by decide⟩
 · rename_i h;exact ⟨fun k=>absurd k (by decide),fun k=>absurd k h⟩
theorem sup_add {Q:List Pw→Prop} {p q:List Mo} (hp:ValidP p) (hq:ValidP q) (hv:ValidP (addL p q)):(∃ m∈addL p q,Q m.2.1)↔(∃ m∈p,Q m.2.1)∨∃ m∈q,Q m.2.1:=by
 have e:=vadd_lin (f:=indA Q) hp hq hv
 have h1:=lin_pos (f:=indA Q) (ge_valid hp) (indA_nn Q)
 have h2:=lin_pos (f:=indA Q) (ge_valid hq) (indA_nn Q)
 have h3:=lin_pos (f:=indA Q) (ge_valid hv) (indA_nn Q)
 simp only [indA_pos] at h1 h2 h3
 rw [← h1.2,← h2.2,← h3.2,e]
 omega
theorem sup_mul {Q:List Pw→Prop} {p q:List Mo} (hp:ValidP p) (hq:ValidP q) (hv:ValidP (addL [] (prods p q))):(∃ m∈addL [] (prods p q),Q m.2.1)↔∃ m∈p,∃ n∈q,Q (mulP m.2.1 n.2.1):=by
 have e:=vmul_lin (f:=indA Q) hp hq hv
 have h3:=lin_pos (f:=indA Q) (ge_valid hv) (indA_nn Q)
 have h2:=fun A=>lin_pos (f:=fun C=>indA Q (mulP A C)) (ge_valid hq) (fun C=>indA_nn Q _)
 have h1:=lin_pos (f:=fun A=>lin (fun C=>indA Q (mulP A C)) q) (ge_valid hp) (fun A=>(h2 A).1)
 simp only [indA_pos] at h1 h2 h3
 rw [← h3.2,e,h1.2]
 exact ⟨fun ⟨m,hm,h⟩=>⟨m,hm,(h2 m.2.1).2.1 h⟩,fun ⟨m,hm,h⟩=>⟨m,hm,(h2 m.2.1).2.2 h⟩⟩
theorem exC {α:Type} {P:α→Prop} {y:α} {l:List α}:(∃ x∈y::l,P x)↔P y∨∃ x∈l,P x:=by
 constructor
 · rintro ⟨x,hx,h⟩
   rcases List.mem_cons.1 hx with rfl|hx
   · exact .inl h
   · exact .inr ⟨x,hx,h⟩
 · rintro (h|⟨x,hx,h⟩)
   · exact ⟨y,List.mem_cons_self,h⟩
   · exact ⟨x,List.mem_cons_of_mem _ hx,h⟩
theorem mulP_vars {a b:List Pw}:∀ v:Int,(∃ x∈mulP a b,x.1=v)↔(∃ x∈a,x.1=v)∨∃ x∈b,x.1=v:=by
 intro v
 fun_induction mulP a b with
 |case1 b=>simp
 |case2 x a=>simp
 |case3 x a y b h ih=>rw [exC,ih,exC (l:=a),or_assoc]
 |case4 x a y b h h2 ih=>
  rw [exC,ih,exC (l:=b)]
  constructor
  · rintro (h|h|h)
    · exact .inr (.inl h)
    · exact .inl h
    · exact .inr (.inr h)
  · rintro (h|h|h)
    · exact .inr (.inl h)
    · exact .inl h
    · exact .inr (.inr h)
 |case5 x a y b h h2 ih=>
  have:x.1=y.1:=by omega
  rw [exC,ih,exC (l:=a),exC (l:=b),this]
  constructor
  · rintro (h|h|h)
    · exact .inl (.inl h)
    · exact .inl (.inr h)
    · exact .inr (.inr h)
  · rintro ((h|h)|h|h)
    · exact .inl h
    · exact .inr (.inl h)
    · exact .inl h
    · exact .inr (.inr h)
def AllT (t:Int→Prop) (P:List Pw):Prop:=∀ x∈P,t x.1
theorem allT_mul {t:Int→Prop} {a b:List Pw}:AllT t (mulP a b)↔AllT t a∧AllT t b:=by
 have h:=mulP_vars (a:=a) (b:=b)
 constructor
 · intro k
   exact ⟨fun x hx=>by obtain ⟨y,hy,e⟩:=(h x.1).2 (.inl ⟨x,hx,rfl⟩);rw [← e];exact k y hy,fun x hx=>by obtain ⟨y,hy,e⟩:=(h x.1).2 (.inr ⟨x,hx,rfl⟩);rw [← e];exact k y hy⟩
 · rintro ⟨k1,k2⟩ x hx
   rcases (h x.1).1 ⟨x,hx,rfl⟩ with ⟨y,hy,e⟩|⟨y,hy,e⟩
   · rw [← e];exact k1 y hy
   · rw [← e];exact k2 y hy
def tru (hv:List Bool) (v:Int):Prop:=(0≤v∧v<(hv.length:Int))∧hv.getD v.toNat false=true
def hasP (hv:List Bool) (p:List Mo):Prop:=∃ m∈p,AllT (tru hv) m.2.1
theorem homB {gs:List Gate} (hV:ValidC gs) (hv:List Bool):Hom srP (srB hv) gs fun p b=>ValidP p∧(b=true↔hasP hv p) where
 leaf k hk hi _ _:=by
  have hl:=leaf_kind hV hk hi
  refine ⟨leafP_valid hl,?_⟩
  show leafB hv ((List.getD gs k ((0,0,[],()):Gate))).1 ((List.getD gs k ((0,0,[],()):Gate))).2.1=true↔hasP hv (leafP ((List.getD gs k ((0,0,[],()):Gate))).1 ((List.getD gs k ((0,0,[],()):Gate))).2.1).1
  rw [leafP_at hl]
  unfold leafB hasP
  rw [decide_eq_true_eq]
  dsimp only
  rcases hl with h|h|h
  · rw [if_pos h]
    exact ⟨fun k=>by omega,fun ⟨m,hm,_⟩=>by cases hm⟩
  · rw [if_neg (by omega),if_pos h]
    exact ⟨fun _=>⟨_,List.mem_singleton.2 rfl,fun x hx=>by cases hx⟩,fun _=> .inl h⟩
  · rw [if_neg (by omega),if_neg (by omega)]
    constructor
    · rintro (k|⟨k1,k2⟩)
      · omega
      · exact ⟨_,List.mem_singleton.2 rfl,fun x hx=>by rw [List.mem_singleton.1 hx];exact ⟨⟨h.2.1,k1.2⟩,k2⟩⟩
    · rintro ⟨m,hm,k⟩
      rw [List.mem_singleton.1 hm] at k
      have:=k _ (List.mem_singleton.2 rfl)
      exact .inr ⟨⟨h.1,this.1.2⟩,this.2⟩
 plus a b a' b' ha hb e _:=by
  have h:=addE_zero (p:=a) (q:=b) e
  show ValidP (sumV a b (addL a b))∧((a'||b')=true↔hasP hv (sumV a b (addL a b)))
  rw [h.2.2]
  refine ⟨h.2.1,?_⟩
  unfold hasP
  rw [sup_add h.1.1 h.1.2 h.2.1,Bool.or_eq_true,ha.2,hb.2]
  rfl
 times a b a' b' ha hb e _:=by
  have h:=mulE_zero (p:=a) (q:=b) e
  show ValidP (sumV a b (addL [] (prods a b)))∧((a' && b')=true↔hasP hv (sumV a b (addL [] (prods a b))))
  rw [h.2.2]
  refine ⟨h.2.1,?_⟩
  unfold hasP
  rw [sup_mul h.1.1 h.1.2 h.2.1,Bool.and_eq_true,ha.2,hb.2]
  simp only [allT_mul]
  unfold hasP
  exact ⟨fun ⟨⟨m,hm,h1⟩,n,hn,h2⟩=>⟨m,hm,n,hn,h1,h2⟩,fun ⟨m,hm,n,hn,h1,h2⟩=>⟨⟨m,hm,h1⟩,n,hn,h2⟩⟩
theorem homBB {gs:List Gate} {hv hv':List Bool} (h:∀ v:Int,v<(hv.length:Int)∧hv.getD v.toNat false=true→v<(hv'.length:Int)∧hv'.getD v.toNat false=true):Hom (srB hv) (srB hv') gs fun b b'=>b=true→b'=true where
 leaf k hk hi _ _:=by
  show leafB hv ((List.getD gs k ((0,0,[],()):Gate))).1 ((List.getD gs k ((0,0,[],()):Gate))).2.1=true→leafB hv' ((List.getD gs k ((0,0,[],()):Gate))).1 ((List.getD gs k ((0,0,[],()):Gate))).2.1=true
  unfold leafB
  rw [decide_eq_true_eq,decide_eq_true_eq]
  rintro (k|⟨k1,k2⟩)
  · exact .inl k
  · have:=h _ ⟨k1.2,k2⟩
    exact .inr ⟨⟨k1.1,this.1⟩,this.2⟩
 plus a b a' b' ha hb _ _:=by
  show (a||b)=true→(a'||b')=true
  rw [Bool.or_eq_true,Bool.or_eq_true]
  exact Or.imp ha hb
 times a b a' b' ha hb _ _:=by
  show (a && b)=true→(a' && b')=true
  rw [Bool.and_eq_true,Bool.and_eq_true]
  exact And.imp ha hb
def badC (cs:List Int) (P:List Pw):Prop:=¬ ∀ x∈P,(0≤x.1∧x.1<(cs.length:Int))∧0≤cs.getD x.1.toNat 0
def sumC (cs:List Int):List Pw→Int
 |[]=>0
 |x::l=>x.2.1 * cs.getD x.1.toNat 0+sumC cs l
noncomputable def costA (cs:List Int) (P:List Pw):Int:=@ite _ (badC cs P) (Classical.propDecidable _) (-1) (min (sumC cs P) 1000000000)
theorem sumC_mul {cs:List Int} {a b:List Pw}:sumC cs (mulP a b)=sumC cs a+sumC cs b:=by
 fun_induction mulP a b with
 |case1 b=>simp [sumC]
 |case2 x a=>simp [sumC]
 |case3 x a y b h ih=>simp only [sumC,ih];omega
 |case4 x a y b h h2 ih=>simp only [sumC,ih];omega
 |case5 x a y b h h2 ih=>
  have:x.1=y.1:=by omega
  simp only [sumC,ih,this,Int.add_mul]
  omega
theorem sumC_nn {cs:List Int}:∀ {P:List Pw},(∀ x∈P,0≤x.2.1)→¬ badC cs P→0≤sumC cs P
 |[],_,_=>Int.le_refl 0
 |x::l,he,h=>by
  have h:=Classical.not_not.1 h
  have h1:0≤x.2.1 * cs.getD x.1.toNat 0:=Int.mul_nonneg (he x List.mem_cons_self) (h x List.mem_cons_self).2
  have:=sumC_nn (cs:=cs) (P:=l) (fun y hy=>he y (List.mem_cons_of_mem _ hy)) fun k=>k fun y hy=>h y (List.mem_cons_of_mem _ hy)
  simp only [sumC];omega
theorem badC_mul {cs:List Int} {a b:List Pw}:badC cs (mulP a b)↔badC cs a∨badC cs b:=by
 have h:=allT_mul (t:=fun v=>(0≤v∧v<(cs.length:Int))∧0≤cs.getD v.toNat 0) (a:=a) (b:=b)
 exact (not_congr h).trans Classical.not_and_iff_not_or_not
theorem costA_bad {cs:List Int} {P:List Pw} (h:badC cs P):costA cs P= -1:=by unfold costA;rw [if_pos h]
theorem costA_ok {cs:List Int} {P:List Pw} (h:¬ badC cs P):costA cs P=min (sumC cs P) 1000000000:=by unfold costA;rw [if_neg h]
theorem costA_rg {cs:List Int} {P:List Pw} (he:∀ x∈P,0≤x.2.1):(costA cs P= -1∧badC cs P)∨(¬ badC cs P∧0≤costA cs P∧costA cs P≤1000000000):=by
 by_cases h:badC cs P
 · exact .inl ⟨costA_bad h,h⟩
 · have:=sumC_nn he h
   rw [costA_ok h]
   exact .inr ⟨h,by omega,by omega⟩
theorem costA_mul {cs:List Int} {a b:List Pw} (ha:∀ x∈a,0≤x.2.1) (hb:∀ x∈b,0≤x.2.1):costA cs (mulP a b)=timesC (costA cs a) (costA cs b):=by
 unfold timesC
 rcases costA_rg (cs:=cs) ha with h|h
 · rw [if_pos (.inl h.1),costA_bad (badC_mul.2 (.inl h.2))]
 · rcases costA_rg (cs:=cs) hb with k|k
   · rw [if_pos (.inr k.1),costA_bad (badC_mul.2 (.inr k.2))]
   · have h1:=sumC_nn ha h.1
     have h2:=sumC_nn hb k.1
     rw [if_neg (by omega),costA_ok fun e=>(badC_mul.1 e).elim h.1 k.1,costA_ok h.1,costA_ok k.1,sumC_mul]
     omega
def leastC (cs:List Int) (p:List Mo) (c:Int):Prop:=(c= -1∧∀ m∈p,costA cs m.2.1= -1)∨((0≤c∧c≤1000000000)∧(∃ m∈p,costA cs m.2.1=c)∧∀ m∈p,costA cs m.2.1= -1∨c≤costA cs m.2.1)
def thrC (cs:List Int) (p:List Mo) (c:Int):Prop:=rgC c∧∀ t:Int,0≤t→((0≤c∧c≤t)↔∃ m∈p,0≤costA cs m.2.1∧costA cs m.2.1≤t)
theorem least_of {cs:List Int} {p:List Mo} {c:Int} (hp:ValidP p) (h:thrC cs p c):leastC cs p c:=by
 have hr:=h.1
 unfold rgC at hr
 by_cases k:c= -1
 · refine .inl ⟨k,fun m hm=>?_⟩
   rcases costA_rg (cs:=cs) (exp_valid hp hm) with e|e
   · exact e.1
   · have:=(h.2 _ e.2.1).2 ⟨m,hm,e.2.1,Int.le_refl _⟩
     omega
 · obtain ⟨m,hm,h1,h2⟩:=(h.2 c (by omega)).1 ⟨by omega,Int.le_refl _⟩
   have h3:∀ m∈p,costA cs m.2.1= -1∨c≤costA cs m.2.1:=fun m hm=>by
    rcases costA_rg (cs:=cs) (exp_valid hp hm) with e|e
    · exact .inl e.1
    · exact .inr ((h.2 _ e.2.1).2 ⟨m,hm,e.2.1,Int.le_refl _⟩).2
   refine .inr ⟨by omega,⟨m,hm,?_⟩,h3⟩
   have:=h3 m hm
   omega
theorem homC {gs:List Gate} (hV:ValidC gs) (cs:List Int):Hom srP (srC cs) gs fun p c=>ValidP p∧thrC cs p c where
 leaf k hk hi _ _:=by
  have hl:=leaf_kind hV hk hi
  refine ⟨leafP_valid hl,leafC_rg cs _ _,fun t ht=>?_⟩
  show (0≤leafC cs ((List.getD gs k ((0,0,[],()):Gate))).1 ((List.getD gs k ((0,0,[],()):Gate))).2.1∧leafC cs ((List.getD gs k ((0,0,[],()):Gate))).1 ((List.getD gs k ((0,0,[],()):Gate))).2.1≤t)↔∃ m∈(leafP ((List.getD gs k ((0,0,[],()):Gate))).1 ((List.getD gs k ((0,0,[],()):Gate))).2.1).1,0≤costA cs m.2.1∧costA cs m.2.1≤t
  rw [leafP_at hl]
  unfold leafC
  dsimp only
  rcases hl with h|h|h
  · rw [if_pos h,if_neg (show ¬ ((List.getD gs k ((0,0,[],()):Gate))).1=1 by omega),if_neg (show ¬ ((((List.getD gs k ((0,0,[],()):Gate))).1=2∧((List.getD gs k ((0,0,[],()):Gate))).2.1<(cs.length:Int))∧0≤cs.getD ((List.getD gs k ((0,0,[],()):Gate))).2.1.toNat 0) by omega)]
    exact ⟨fun k=>by omega,fun ⟨m,hm,_⟩=>by cases hm⟩
  · rw [if_neg (show ¬ ((List.getD gs k ((0,0,[],()):Gate))).1=0 by omega),if_pos h,if_pos h]
    have e:costA cs []=0:=by
     rw [costA_ok fun k=>k fun x hx=>by cases hx];rfl
    exact ⟨fun k=>⟨_,List.mem_singleton.2 rfl,by rw [e];exact k⟩,fun ⟨m,hm,k⟩=>by rw [List.mem_singleton.1 hm,e] at k;exact k⟩
  · rw [if_neg (show ¬ ((List.getD gs k ((0,0,[],()):Gate))).1=0 by omega),if_neg (show ¬ ((List.getD gs k ((0,0,[],()):Gate))).1=1 by omega),if_neg (show ¬ ((List.getD gs k ((0,0,[],()):Gate))).1=1 by omega)]
    have e:costA cs [(((List.getD gs k ((0,0,[],()):Gate))).2.1,1,())]=if (((List.getD gs k ((0,0,[],()):Gate))).1=2∧((List.getD gs k ((0,0,[],()):Gate))).2.1<(cs.length:Int))∧0≤cs.getD ((List.getD gs k ((0,0,[],()):Gate))).2.1.toNat 0 then min (cs.getD ((List.getD gs k ((0,0,[],()):Gate))).2.1.toNat 0) 1000000000 else -1:=by
     by_cases k:(((List.getD gs k ((0,0,[],()):Gate))).1=2∧((List.getD gs k ((0,0,[],()):Gate))).2.1<(cs.length:Int))∧0≤cs.getD ((List.getD gs k ((0,0,[],()):Gate))).2.1.toNat 0
     · rw [if_pos k,costA_ok fun q=>q fun x hx=>by rw [List.mem_singleton.1 hx];exact ⟨⟨h.2.1,k.1.2⟩,k.2⟩]
       simp only [sumC];omega
     · rw [if_neg k,costA_bad fun q=>k ?_]
       have:=q _ (List.mem_singleton.2 rfl)
       exact ⟨⟨h.1,this.1.2⟩,this.2⟩
    rw [← e]
    exact ⟨fun k=>⟨_,List.mem_singleton.2 rfl,k⟩,fun ⟨m,hm,k⟩=>by rw [List.mem_singleton.1 hm] at k;exact k⟩
 plus a b a' b' ha hb e _:=by
  have h:=addE_zero (p:=a) (q:=b) e
  show ValidP (sumV a b (addL a b))∧thrC cs (sumV a b (addL a b)) (plusC a' b')
  rw [h.2.2]
  refine ⟨h.2.1,plusC_rg ha.2.1 hb.2.1,fun t ht=>?_⟩
  rw [sup_add (Q:=fun P=>0≤costA cs P∧costA cs P≤t) h.1.1 h.1.2 h.2.1,← ha.2.2 t ht,← hb.2.2 t ht]
  have r1:=ha.2.1
  have r2:=hb.2.1
  unfold plusC
  unfold rgC at r1 r2
  split<;>omega
 times a b a' b' ha hb e _:=by
  have h:=mulE_zero (p:=a) (q:=b) e
  show ValidP (sumV a b (addL [] (prods a b)))∧thrC cs (sumV a b (addL [] (prods a b))) (timesC a' b')
  rw [h.2.2]
  refine ⟨h.2.1,timesC_rg ha.2.1 hb.2.1,fun t ht=>?_⟩
  rw [sup_mul (Q:=fun P=>0≤costA cs P∧costA cs P≤t) h.1.1 h.1.2 h.2.1]
  have l1:=least_of h.1.1 ha.2
  have l2:=least_of h.1.2 hb.2
  constructor
  · intro k
    unfold timesC at k
    have hn:¬ (a'= -1∨b'= -1):=fun q=>by rw [if_pos q] at k;omega
    rw [if_neg hn] at k
    rcases l1 with l1|⟨_,⟨m,hm,e1⟩,_⟩
    · omega
    · rcases l2 with l2|⟨_,⟨n,hn',e2⟩,_⟩
      · omega
      · refine ⟨m,hm,n,hn',?_⟩
        rw [costA_mul (exp_valid h.1.1 hm) (exp_valid h.1.2 hn'),e1,e2]
        unfold timesC
        rw [if_neg hn]
        exact k
  · rintro ⟨m,hm,n,hn,k⟩
    rw [costA_mul (exp_valid h.1.1 hm) (exp_valid h.1.2 hn)] at k
    unfold timesC at k ⊢
    have hq:¬ (costA cs m.2.1= -1∨costA cs n.2.1= -1):=fun q=>by rw [if_pos q] at k;omega
    rw [if_neg hq] at k
    rcases l1 with l1|l1
    · exact absurd (.inl (l1.2 m hm)) hq
    · rcases l2 with l2|l2
      · exact absurd (.inr (l2.2 n hn)) hq
      · have q1:=l1.2.2 m hm
        have q2:=l2.2.2 n hn
        rw [if_neg (by omega)]
        omega
theorem homCB {gs:List Gate} {cs:List Int} {hv:List Bool} (hl:hv.length=cs.length) (h:∀ v,v<cs.length→(hv.getD v false=true↔0≤cs.getD v 0)) (hV:ValidC gs):Hom (srC cs) (srB hv) gs fun c b=>rgC c∧(0≤c↔b=true) where
 leaf k hk hi _ _:=by
  refine ⟨leafC_rg cs _ _,?_⟩
  show 0≤leafC cs ((List.getD gs k ((0,0,[],()):Gate))).1 ((List.getD gs k ((0,0,[],()):Gate))).2.1↔leafB hv ((List.getD gs k ((0,0,[],()):Gate))).1 ((List.getD gs k ((0,0,[],()):Gate))).2.1=true
  have hlk:=leaf_kind hV hk hi
  unfold leafB leafC
  rw [decide_eq_true_eq,hl]
  by_cases h1:((List.getD gs k ((0,0,[],()):Gate))).1=1
  · rw [if_pos h1];exact ⟨fun _=> .inl h1,fun _=>Int.le_refl 0⟩
  · rw [if_neg h1]
    by_cases h2:((List.getD gs k ((0,0,[],()):Gate))).1=2∧((List.getD gs k ((0,0,[],()):Gate))).2.1<(cs.length:Int)
    · rw [h _ (by omega)]
      by_cases h3:0≤cs.getD ((List.getD gs k ((0,0,[],()):Gate))).2.1.toNat 0
      · rw [if_pos ⟨h2,h3⟩];exact ⟨fun _=> .inr ⟨h2,h3⟩,fun _=>by omega⟩
      · rw [if_neg fun q=>h3 q.2];exact ⟨fun k=>by omega,fun k=>k.elim (fun k=>absurd k h1) fun k=>absurd k.2 h3⟩
    · rw [if_neg fun q=>h2 q.1];exact ⟨fun k=>by omega,fun k=>k.elim (fun k=>absurd k h1) fun k=>absurd k.1 h2⟩
 plus a b a' b' ha hb _ _:=by
  refine ⟨plusC_rg ha.1 hb.1,?_⟩
  show 0≤plusC a b↔(a'||b')=true
  rw [Bool.or_eq_true,← ha.2,← hb.2]
  have r1:=ha.1
  have r2:=hb.1
  unfold plusC
  unfold rgC at r1 r2
  split<;>omega
 times a b a' b' ha hb _ _:=by
  refine ⟨timesC_rg ha.1 hb.1,?_⟩
  show 0≤timesC a b↔(a' && b')=true
  rw [Bool.and_eq_true,← ha.2,← hb.2]
  have r1:=ha.1
  have r2:=hb.1
  unfold timesC
  unfold rgC at r1 r2
  split<;>omega
theorem homN {gs:List Gate} (hV:ValidC gs) (vs:List Int):Hom srP (srN vs) gs fun p n=>ValidP p∧n=lin (valA vs) p where
 leaf k hk hi _ _:=by
  have hl:=leaf_kind hV hk hi
  refine ⟨leafP_valid hl,?_⟩
  show leafN vs ((List.getD gs k ((0,0,[],()):Gate))).1 ((List.getD gs k ((0,0,[],()):Gate))).2.1=lin (valA vs) (leafP ((List.getD gs k ((0,0,[],()):Gate))).1 ((List.getD gs k ((0,0,[],()):Gate))).2.1).1
  rw [leafP_at hl]
  unfold leafN
  dsimp only
  rcases hl with h|h|h
  · rw [if_pos h,if_neg (show ¬ ((List.getD gs k ((0,0,[],()):Gate))).1=1 by omega),if_neg (show ¬ (((List.getD gs k ((0,0,[],()):Gate))).1=2∧((List.getD gs k ((0,0,[],()):Gate))).2.1<(vs.length:Int)) by omega)];rfl
  · rw [if_neg (show ¬ ((List.getD gs k ((0,0,[],()):Gate))).1=0 by omega),if_pos h,if_pos h];rfl
  · rw [if_neg (show ¬ ((List.getD gs k ((0,0,[],()):Gate))).1=0 by omega),if_neg (show ¬ ((List.getD gs k ((0,0,[],()):Gate))).1=1 by omega),if_neg (show ¬ ((List.getD gs k ((0,0,[],()):Gate))).1=1 by omega)]
    have e:lin (valA vs) [(1,[(((List.getD gs k ((0,0,[],()):Gate))).2.1,1,())],())]=vs.getD ((List.getD gs k ((0,0,[],()):Gate))).2.1.toNat 0:=by
     simp only [lin,valA]
     have:(1:Int).toNat=1:=rfl
     rw [this,Int.pow_succ]
     simp
    rw [e]
    by_cases k:((List.getD gs k ((0,0,[],()):Gate))).2.1<(vs.length:Int)
    · rw [if_pos ⟨h.1,k⟩]
    · rw [if_neg fun q=>k q.2,List.getD_eq_getElem?_getD,List.getElem?_eq_none (by omega)];rfl
 plus a b a' b' ha hb e _:=by
  have h:=addE_zero (p:=a) (q:=b) e
  show ValidP (sumV a b (addL a b))∧a'+b'=lin (valA vs) (sumV a b (addL a b))
  rw [h.2.2]
  exact ⟨h.2.1,by rw [val_add h.1.1 h.1.2 h.2.1,ha.2,hb.2]⟩
 times a b a' b' ha hb e _:=by
  have h:=mulE_zero (p:=a) (q:=b) e
  show ValidP (sumV a b (addL [] (prods a b)))∧a' * b'=lin (valA vs) (sumV a b (addL [] (prods a b)))
  rw [h.2.2]
  exact ⟨h.2.1,by rw [val_mul h.1.1 h.1.2 h.2.1,ha.2,hb.2]⟩
end Go.Gv
