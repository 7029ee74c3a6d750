/- The plain law of circuits: polynomials of sums and products that are put. -/
import Derived.Test.YtibnojoffhlekaaGreatDoorP16g
import Derived.Test.YtibnojoffhlekaaGreatDoorP16j
set_option linter.all false
namespace Go.Gv
open Go Go.Proofs Go.Proofs.YtibnojoffhlekaaGreatDoor
set_option maxRecDepth 100000
set_option maxHeartbeats 4000000
def smF (f:List Pw→Int):List (List Mo)→Int
 |[]=>0
 |x::r=>lin f x+smF f r
def prF (f:List Pw→Int):List (List Mo)→Int
 |[]=>f []
 |x::r=>lin (fun A=>prF (fun C=>f (mulP A C)) r) x
theorem smF_perm {f:List Pw→Int} {l m:List (List Mo)} (h:l.Perm m):smF f l=smF f m:=by
 induction h with
 |nil=>rfl
 |cons x _ ih=>simp only [smF,ih]
 |swap x y l=>simp only [smF];omega
 |trans _ _ ih1 ih2=>exact ih1.trans ih2
theorem prF_perm {l m:List (List Mo)} (h:l.Perm m):∀ f:List Pw→Int,prF f l=prF f m:=by
 induction h with
 |nil=>exact fun _=>rfl
 |cons x _ ih=>
  intro f
  simp only [prF]
  exact congrArg (fun g=>lin g x) (funext fun A=>ih _)
 |swap x y l=>
  intro f
  simp only [prF]
  rw [lin_swap]
  refine congrArg (fun g=>lin g x) (funext fun B=>congrArg (fun g=>lin g y) (funext fun A=>congrArg (fun g=>prF g l) (funext fun C=>?_)))
  rw [← mulP_assoc _ A B C (Nat.le_refl _),← mulP_assoc _ B A C (Nat.le_refl _),mulP_comm A B]
 |trans _ _ ih1 ih2=>exact fun f=>(ih1 f).trans (ih2 f)
theorem prF_none {l:List (List Mo)} (h:[]∈l) (f:List Pw→Int):prF f l=0:=by
 have hp:=List.perm_cons_erase h
 rw [prF_perm hp];rfl
theorem prF_one {l:List (List Mo)} (f:List Pw→Int):prF f ([(1,[],())]::l)=prF f l:=by
 simp only [prF,lin]
 rw [show (fun C=>f (mulP [] C))=f from funext fun C=>by rw [mulP_comm,mulP_nil]]
 omega
theorem fold_add {f:List Pw→Int} {z:List Mo}:∀ (l:List (List Mo)) (x:List Mo),ValidP x→(∀ y∈l,ValidP y)→(joinL srP.plus z x l).2=0→ValidP (joinL srP.plus z x l).1∧lin f (joinL srP.plus z x l).1=lin f x+smF f l
 |[],x,hx,_,_=>⟨hx,by show lin f x=lin f x+0;omega⟩
 |y::l,x,hx,hl,e=>by
  by_cases k:(srP.plus x y).2=0
  · have h:=addE_zero (p:=x) (q:=y) k
    have e1:(srP.plus x y).1=addL x y:=h.2.2
    rw [joinL_go k,e1] at e ⊢
    have ih:=fold_add (f:=f) l (addL x y) h.2.1 (fun w hw=>hl w (List.mem_cons_of_mem _ hw)) e
    refine ⟨ih.1,?_⟩
    rw [ih.2,vadd_lin h.1.1 h.1.2 h.2.1]
    simp only [smF];omega
  · rw [joinL_stop k] at e;exact absurd e k
theorem fold_mul {z:List Mo}:∀ (l:List (List Mo)) (x:List Mo),ValidP x→(∀ y∈l,ValidP y)→(joinL srP.times z x l).2=0→ValidP (joinL srP.times z x l).1∧∀ f:List Pw→Int,lin f (joinL srP.times z x l).1=prF f (x::l)
 |[],x,hx,_,_=>⟨hx,fun f=>by
  show lin f x=lin (fun A=>f (mulP A [])) x
  exact congrArg (fun g=>lin g x) (funext fun A=>by rw [mulP_nil])⟩
 |y::l,x,hx,hl,e=>by
  by_cases k:(srP.times x y).2=0
  · have h:=mulE_zero (p:=x) (q:=y) k
    have e1:(srP.times x y).1=addL [] (prods x y):=h.2.2
    rw [joinL_go k,e1] at e ⊢
    have ih:=fold_mul l (addL [] (prods x y)) h.2.1 (fun w hw=>hl w (List.mem_cons_of_mem _ hw)) e
    refine ⟨ih.1,fun f=>?_⟩
    rw [ih.2]
    show lin (fun A=>prF (fun C=>f (mulP A C)) l) (addL [] (prods x y))=_
    rw [vmul_lin h.1.1 h.1.2 h.2.1]
    simp only [prF]
    refine congrArg (fun g=>lin g x) (funext fun A=>congrArg (fun g=>lin g y) (funext fun B=>congrArg (fun g=>prF g l) (funext fun C=>?_)))
    rw [mulP_assoc _ A B C (Nat.le_refl _)]
  · rw [joinL_stop k] at e;exact absurd e k
theorem lin_ext {p q:List Mo} (hp:ValidP p) (hq:ValidP q) (h:∀ f,lin f p=lin f q):p=q:=
 tot_ext (valid_sum hp).1 (valid_sum hq).1 (ge_valid hp) (ge_valid hq) fun P=>h (one P)
structure PolyAt (gs:List Gate) (k:Int) (p:List Mo):Prop where
 g:GoodI gs k
 e:errL srP.ge gs k.toNat=0
 p:p=(vlE srP.ge gs k.toNat).1
theorem polyAt_of {gs:List Gate} {k:Int} (h:(evC srP.ge gs k).2=0):PolyAt gs k (evC srP.ge gs k).1:=by
 by_cases hg:GoodI gs k
 · rw [evC_good hg] at h ⊢
   by_cases he:errL srP.ge gs k.toNat=0
   · rw [if_pos he];exact ⟨hg,he,rfl⟩
   · rw [if_neg he] at h;exact absurd h he
 · rw [evC_bad hg] at h;cases h
theorem PolyAt.valid {gs:List Gate} {k:Int} {p:List Mo} (h:PolyAt gs k p):ValidP p:=by
 have:=h.g.lo
 have:=h.g.hi
 rw [h.p]
 exact (homV h.g.v).all h.g.v (i:=k.toNat) (by omega) h.e errL_tot _ (reachT_self _ _)
theorem PolyAt.leaf {gs:List Gate} {k:Int} {p:List Mo} (h:PolyAt gs k p):(kindAt gs k=0→p=[])∧(kindAt gs k=1→p=[(1,[],())]):=by
 have h0:=h.g.lo
 have h1:=h.g.hi
 have hl:=fun (hi:¬ inner (gs.getD k.toNat ((0,0,[],()):Gate)).1)=>(leafP_at (leaf_kind h.g.v (k:=k.toNat) (by omega) hi))
 rw [h.p]
 constructor
 · intro e
   have e:(gs.getD k.toNat ((0,0,[],()):Gate)).1=0:=e
   have hi:¬ inner (gs.getD k.toNat ((0,0,[],()):Gate)).1:=fun q=>by unfold inner at q;omega
   rw [vl_leaf (S:=srP) hi]
   show (leafP _ _).1=_
   rw [hl hi,if_pos e]
 · intro e
   have e:(gs.getD k.toNat ((0,0,[],()):Gate)).1=1:=e
   have hi:¬ inner (gs.getD k.toNat ((0,0,[],()):Gate)).1:=fun q=>by unfold inner at q;omega
   rw [vl_leaf (S:=srP) hi]
   show (leafP _ _).1=_
   rw [hl hi,if_neg (by omega),if_pos e]
theorem PolyAt.inner {gs:List Gate} {k:Int} {p:List Mo} (h:PolyAt gs k p) (hi:Gv.inner (gs.getD k.toNat ((0,0,[],()):Gate)).1):(∀ j∈(gs.getD k.toNat ((0,0,[],()):Gate)).2.2.1,PolyAt gs j (vlE srP.ge gs j.toNat).1)∧(((gs.getD k.toNat ((0,0,[],()):Gate)).1=3→∀ f,lin f p=smF f ((gs.getD k.toNat ((0,0,[],()):Gate)).2.2.1.map fun j=>(vlE srP.ge gs j.toNat).1))∧((gs.getD k.toNat ((0,0,[],()):Gate)).1=4→∀ f,lin f p=prF f ((gs.getD k.toNat ((0,0,[],()):Gate)).2.2.1.map fun j=>(vlE srP.ge gs j.toNat).1))):=by
 have h0:=h.g.lo
 have h1:=h.g.hi
 have hk:k.toNat<gs.length:=by omega
 have hself:=reachT_self gs k.toNat
 have herr:=errL_zero.1 h.e
 have kids:∀ j∈(gs.getD k.toNat ((0,0,[],()):Gate)).2.2.1,PolyAt gs j (vlE srP.ge gs j.toNat).1:=fun j hj=>by
  have hr:=reachT_kid h.g.v hk hself hj
  refine ⟨⟨hr.2.2,by omega,h.g.v⟩,errL_zero.2 fun m hm=>herr m ?_,rfl⟩
  have hm:=reachT_mem.1 hm
  refine reachT_mem.2 ⟨by omega,?_⟩
  have key:∀ m,Rch gs j.toNat m→Rch gs k.toNat m:=fun m hm=>by
   induction hm with
   |base=>exact .kid .base hj
   |kid _ hj ih=>exact .kid ih hj
  exact key m hm.2
 refine ⟨kids,?_⟩
 have h2:2≤(gs.getD k.toNat ((0,0,[],()):Gate)).2.2.1.length:=(h.g.v.2 k.toNat hk).2.1 hi
 obtain ⟨a,r,ea⟩:∃ a r,(gs.getD k.toNat ((0,0,[],()):Gate)).2.2.1=a::r:=by
  cases q:(gs.getD k.toNat ((0,0,[],()):Gate)).2.2.1 with
  |nil=>rw [q] at h2;simp at h2
  |cons a r=>exact ⟨a,r,rfl⟩
 have hat:∀ j∈(gs.getD k.toNat ((0,0,[],()):Gate)).2.2.1,atL [] (valsE srP.ge gs k.toNat) j=(vlE srP.ge gs j.toNat).1:=fun j hj=>vals_at (S:=srP.ge) h.g.v hk hj
 have gv:vlE srP.ge gs k.toNat=joinL (srP.op (gs.getD k.toNat ((0,0,[],()):Gate))) [] (vlE srP.ge gs a.toNat).1 (r.map fun j=>(vlE srP.ge gs j.toNat).1):=by
  have:=gateS_inner (S:=srP) (all:=valsE srP.ge gs k.toNat) hi (by omega)
  rw [ea] at this hat
  have e1:atL srP.z (valsE srP.ge gs k.toNat) a=_:=hat a List.mem_cons_self
  have e2:r.map (atL srP.z (valsE srP.ge gs k.toNat))=r.map fun j=>(vlE srP.ge gs j.toNat).1:=List.map_congr_left fun j hj=>hat j (List.mem_cons_of_mem _ hj)
  refine Eq.trans (show vlE srP.ge gs k.toNat=gateS srP (valsE srP.ge gs k.toNat) _ from rfl) (this.trans ?_)
  show joinL _ _ (atL srP.z (valsE srP.ge gs k.toNat) a) (r.map (atL srP.z (valsE srP.ge gs k.toNat)))=_
  rw [e1,e2];rfl
 have ek:=herr _ hself
 rw [h.p]
 rw [gv] at ek ⊢
 rw [ea] at kids ⊢
 have va:=(kids a List.mem_cons_self).valid
 have vr:∀ y∈r.map (fun j=>(vlE srP.ge gs j.toNat).1),ValidP y:=fun y hy=>by
  obtain ⟨j,hj,rfl⟩:=List.mem_map.1 hy
  exact (kids j (List.mem_cons_of_mem _ hj)).valid
 constructor
 · intro h3 f
   have e:srP.op (gs.getD k.toNat ((0,0,[],()):Gate))=srP.plus:=by unfold SR.op;rw [if_neg (by omega)]
   rw [e] at ek ⊢
   exact (fold_add _ _ va vr ek).2
 · intro h4 f
   have e:srP.op (gs.getD k.toNat ((0,0,[],()):Gate))=srP.times:=by unfold SR.op;rw [if_pos h4]
   rw [e] at ek ⊢
   exact (fold_mul _ _ va vr ek).2 f
theorem means {gs ds:List Gate} {g:Gate} {i:Int} (h:PutR gs g ds i) (hk:∀ k∈g.2.2.1,PolyAt ds k (vlE srP.ge ds k.toNat).1) {p:List Mo} (hp:PolyAt ds i p):(g.1=3→∀ f,lin f p=smF f (g.2.2.1.map fun j=>(vlE srP.ge ds j.toNat).1))∧(g.1=4→∀ f,lin f p=prF f (g.2.2.1.map fun j=>(vlE srP.ge ds j.toNat).1)):=by
 have hkk:∀ k∈keptK gs g,k∈g.2.2.1:=fun k hk=>(keptK_mem.1 hk).1
 have hsum:g.1=3→∀ f,smF f ((keptK gs g).map fun j=>(vlE srP.ge ds j.toNat).1)=smF f (g.2.2.1.map fun j=>(vlE srP.ge ds j.toNat).1):=fun h3 f=>by
  rw [← smF_perm ((sortI_perm g.2.2.1).map fun j=>(vlE srP.ge ds j.toNat).1)]
  have key:∀ l:List Int,(∀ k∈l,k∈g.2.2.1)→smF f ((l.filter fun k=>keptB g.1 (kindAt gs k)).map fun j=>(vlE srP.ge ds j.toNat).1)=smF f (l.map fun j=>(vlE srP.ge ds j.toNat).1):=fun l=>by
   induction l with
   |nil=>exact fun _=>rfl
   |cons x l ih=>
    intro hl
    have ih:=ih fun k hk=>hl k (List.mem_cons_of_mem _ hk)
    cases e:keptB g.1 (kindAt gs x) with
    |true=>rw [List.filter_cons_of_pos (p:=fun k=>keptB g.1 (kindAt gs k)) e];simp only [List.map_cons,smF,ih]
    |false=>
     rw [List.filter_cons_of_neg (p:=fun k=>keptB g.1 (kindAt gs k)) (by rw [e];decide),ih]
     have hx:=hl x List.mem_cons_self
     have e0:kindAt ds x=0:=by
      rw [h.kind hx]
      unfold keptB at e
      have:=of_decide_eq_false e
      omega
     rw [List.map_cons]
     simp only [smF]
     rw [(hk x hx).leaf.1 e0]
     simp [lin]
  exact key _ fun k hk=>sortI_mem.1 hk
 have hprod:g.1=4→¬ zeroK gs g→∀ f,prF f ((keptK gs g).map fun j=>(vlE srP.ge ds j.toNat).1)=prF f (g.2.2.1.map fun j=>(vlE srP.ge ds j.toNat).1):=fun h4 hz f=>by
  rw [← prF_perm ((sortI_perm g.2.2.1).map fun j=>(vlE srP.ge ds j.toNat).1)]
  have key:∀ l:List Int,(∀ k∈l,k∈g.2.2.1)→∀ f,prF f ((l.filter fun k=>keptB g.1 (kindAt gs k)).map fun j=>(vlE srP.ge ds j.toNat).1)=prF f (l.map fun j=>(vlE srP.ge ds j.toNat).1):=fun l=>by
   induction l with
   |nil=>exact fun _ _=>rfl
   |cons x l ih=>
    intro hl f
    have ih:=ih fun k hk=>hl k (List.mem_cons_of_mem _ hk)
    cases e:keptB g.1 (kindAt gs x) with
    |true=>
     rw [List.filter_cons_of_pos (p:=fun k=>keptB g.1 (kindAt gs k)) e]
     simp only [List.map_cons,prF]
     exact congrArg (fun q=>lin q _) (funext fun A=>ih _)
    |false=>
     rw [List.filter_cons_of_neg (p:=fun k=>keptB g.1 (kindAt gs k)) (by rw [e];decide),ih]
     have hx:=hl x List.mem_cons_self
     have e1:kindAt ds x=1:=by
      rw [h.kind hx]
      unfold keptB at e
      have:=of_decide_eq_false e
      have hn:kindAt gs x≠0:=fun q=>hz ⟨h4,x,hx,q⟩
      omega
     rw [List.map_cons,(hk x hx).leaf.2 e1,prF_one]
  exact key _ (fun k hk=>sortI_mem.1 hk) f
 rcases h.is with q|q
 · obtain ⟨q1,q2,q3⟩:=q
   obtain ⟨a,ea⟩:=List.length_eq_one_iff.1 q1.l
   have ei:i=a:=by rw [q3,ea];rfl
   constructor
   · intro h3 f
     rw [← hsum h3,ea,hp.p,ei]
     exact (Int.add_zero _).symm
   · intro h4 f
     rw [← hprod h4 q1.z,ea,hp.p,ei]
     show _=lin (fun A=>f (mulP A [])) _
     exact congrArg (fun g=>lin g _) (funext fun A=>by rw [mulP_nil])
 · obtain ⟨q1,q2⟩:=q
   have leafc:∀ {a b:Int},nrmG gs g=(a,b,[],())→kindAt ds i=a:=fun {a b} e=>by
    unfold kindAt
    rw [q2,e]
   by_cases hz:zeroK gs g
   · have hn:nrmG gs g=(0,0,[],()):=by
      unfold nrmG
      rw [if_pos (.inr hz.1),if_pos (.inl hz)]
     have hp0:=hp.leaf.1 (leafc hn)
     refine ⟨fun h3=>by have:=hz.1;omega,fun h4 f=>?_⟩
     obtain ⟨_,k,hk1,hk2⟩:=hz
     rw [hp0,prF_none (List.mem_map.2 ⟨k,hk1,(hk k hk1).leaf.1 (by rw [h.kind hk1];exact hk2)⟩)]
     rfl
   · constructor
     · intro h3 f
       rw [← hsum h3]
       by_cases hl:(keptK gs g).length=0
       · have hn:nrmG gs g=(0,0,[],()):=by
          unfold nrmG
          rw [if_pos (.inl h3),if_pos (.inr ⟨h3,hl⟩)]
         rw [hp.leaf.1 (leafc hn),List.length_eq_zero_iff.1 hl]
         rfl
       · have hn:nrmG gs g=(g.1,g.2.1,keptK gs g,()):=by
          unfold nrmG
          rw [if_pos (.inl h3),if_neg (fun e=>e.elim hz fun e=>hl e.2),if_neg hl]
         have:=(hp.inner (by rw [q2,hn];exact .inl h3)).2.1 (by rw [q2,hn];exact h3) f
         rw [q2,hn] at this
         exact this
     · intro h4 f
       rw [← hprod h4 hz]
       by_cases hl:(keptK gs g).length=0
       · have hn:nrmG gs g=(1,0,[],()):=by
          unfold nrmG
          rw [if_pos (.inr h4),if_neg (fun e=>e.elim hz fun e=>by omega),if_pos hl]
         rw [hp.leaf.2 (leafc hn),List.length_eq_zero_iff.1 hl]
         show 1 * f []+0=f []
         omega
       · have hn:nrmG gs g=(g.1,g.2.1,keptK gs g,()):=by
          unfold nrmG
          rw [if_pos (.inr h4),if_neg (fun e=>e.elim hz fun e=>by omega),if_neg hl]
         have:=(hp.inner (by rw [q2,hn];exact .inr h4)).2.2 (by rw [q2,hn];exact h4) f
         rw [q2,hn] at this
         exact this
theorem want_add {xs:List (List Mo)} (hv:∀ y∈xs,ValidP y) (he:(joinL srP.plus [] [] xs).2=0):ValidP (joinL srP.plus [] [] xs).1∧∀ f,lin f (joinL srP.plus [] [] xs).1=smF f xs:=
 ⟨(fold_add (f:=fun _=>0) xs [] valid_nil hv he).1,fun f=>by rw [(fold_add (f:=f) xs [] valid_nil hv he).2];show 0+_=_;omega⟩
theorem want_mul {xs:List (List Mo)} (hv:∀ y∈xs,ValidP y) (he:(joinL srP.times [] [(1,[],())] xs).2=0):ValidP (joinL srP.times [] [(1,[],())] xs).1∧∀ f,lin f (joinL srP.times [] [(1,[],())] xs).1=prF f xs:=
 ⟨(fold_mul xs _ valid_one hv he).1,fun f=>by rw [(fold_mul xs _ valid_one hv he).2,prF_one]⟩
end Go.Gv
