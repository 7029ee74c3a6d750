/- The plain law of polynomials: order, grouping, distribution, values. -/
import Derived.Test.YtibnojoffhlekaaGreatDoorP18
set_option linter.all false
namespace Go.Gv
open Go Go.Proofs Go.Proofs.YtibnojoffhlekaaGreatDoor
set_option maxRecDepth 100000
set_option maxHeartbeats 4000000
def mulX (m n:Mo):Mo:=(m.1 * n.1,mulP m.2.1 n.2.1,())
def prodsX (p q:List Mo):List Mo:=p.flatMap fun m=>q.map (mulX m)
def satM (m:Mo):Mo:=(min m.1 1000000001,m.2.1,())
theorem prods_sat {p q:List Mo}:prods p q=(prodsX p q).map satM:=by
 unfold prods prodsX
 rw [List.map_flatMap]
 simp only [List.map_map]
 rfl
theorem linX {f:List Pw→Int}:∀ {p q:List Mo},lin f (prodsX p q)=lin (fun A=>lin (fun C=>f (mulP A C)) q) p
 |[],q=>rfl
 |m::p,q=>by
  have h:∀ q:List Mo,lin f (q.map (mulX m))=m.1 * lin (fun C=>f (mulP m.2.1 C)) q:=fun q=>by
   induction q with
   |nil=>simp [lin]
   |cons n q ih=>simp only [List.map_cons,lin,ih,Int.mul_add,mulX,Int.mul_assoc]
  have h2:=linX (f:=f) (p:=p) (q:=q)
  unfold prodsX at h2 ⊢
  simp only [List.flatMap_cons,lin_app,lin,h,h2]
theorem co_valid {p:List Mo} (h:ValidP p):∀ m∈p,coM m:=(valid_sum h).2
theorem ge_valid {p:List Mo} (h:ValidP p):∀ m∈p,1≤m.1:=fun m hm=>(valid_mem h hm).1
theorem tot_lt {P:List Pw}:∀ {l:List Mo},srtM l→(∀ x∈l,x.1<1000000001)→tot P l<1000000001:=fun {l} hs h=>by
 by_cases hx:∃ x∈l,x.2.1=P
 · obtain ⟨x,hx,rfl⟩:=hx
   rw [tot_mem hs hx];exact h x hx
 · rw [tot_none fun x hm e=>hx ⟨x,hm,e⟩];omega
theorem ins_lin {f:List Pw→Int}:∀ {l:List Mo} {m:Mo},(∀ x∈insP l m,x.1<1000000001)→lin f (insP l m)=lin f l+m.1 * f m.2.1
 |[],m,_=>by simp [insP,lin]
 |y::l,m,h=>by
  unfold insP at h ⊢
  split
  · rename_i hc
    rw [if_pos hc] at h
    simp only [lin,ins_lin fun x hx=>h x (List.mem_cons_of_mem _ hx)]
    omega
  · rename_i hc
    rw [if_neg hc] at h
    split
    · rename_i he
      rw [if_pos he] at h
      have:=h _ List.mem_cons_self
      dsimp only at this
      have e:min (y.1+m.1) 1000000001=y.1+m.1:=by omega
      simp only [lin,e,Int.add_mul,← cmpP_eq.1 he]
      omega
    · simp only [lin];omega
theorem add_lin {f:List Pw→Int}:∀ {q l:List Mo},sumOK l→(∀ m∈q,coM m)→(∀ x∈addL l q,x.1<1000000001)→lin f (addL l q)=lin f l+lin f q∧∀ m∈q,m.1<1000000001
 |[],l,_,_,_=>⟨by show lin f l=_;simp [lin],by simp⟩
 |m::q,l,h,hq,hx=>by
  have hm:=hq m List.mem_cons_self
  have hq':=fun x hx=>hq x (List.mem_cons_of_mem m hx)
  have h1:sumOK (insP l m):=⟨insP_srt h.1,insP_co h.2 hm⟩
  have h2:=add_lin (f:=f) (q:=q) h1 hq' hx
  have hs:=(addL_ok h1 hq').1.1
  have hlt:∀ P,tot P (insP l m)<1000000001:=fun P=>by
   have h4:=tot_lt (P:=P) hs hx
   rw [add_tot h1 hq'] at h4
   have:=tot_pos (P:=P) fun x hx=>(hq' x hx).1
   omega
  have hin:∀ x∈insP l m,x.1<1000000001:=fun x hx=>by rw [← tot_mem h1.1 hx];exact hlt _
  have hm1:m.1<1000000001:=by
   have h5:=hlt m.2.1
   rw [ins_tot h hm,tot_cons,tot_nil,if_pos rfl] at h5
   have:=(tot_rg (P:=m.2.1) h).1
   omega
  refine ⟨?_,fun x hx=>?_⟩
  · show lin f (addL (insP l m) q)=_
    rw [h2.1,ins_lin hin]
    simp only [lin];omega
  · rcases List.mem_cons.1 hx with rfl|hx
    · exact hm1
    · exact h2.2 x hx
theorem prods_exact {p q:List Mo} (h:∀ m∈prods p q,m.1<1000000001):prods p q=prodsX p q:=by
 rw [prods_sat] at h ⊢
 refine (List.map_congr_left fun m hm=>?_).trans (List.map_id _)
 have:=h _ (List.mem_map.2 ⟨m,hm,rfl⟩)
 obtain ⟨m1,m2,⟨⟩⟩:=m
 unfold satM at *
 dsimp only at *
 rw [show min m1 1000000001=m1 by omega];rfl
theorem lt_valid {p:List Mo} (h:ValidP p):∀ m∈p,m.1<1000000001:=fun m hm=>by have:=(valid_mem h hm).2.1;omega
theorem vadd_lin {f:List Pw→Int} {p q:List Mo} (hp:ValidP p) (hq:ValidP q) (hv:ValidP (addL p q)):lin f (addL p q)=lin f p+lin f q:=(add_lin (valid_sum hp) (co_valid hq) (lt_valid hv)).1
theorem vmul_lin {f:List Pw→Int} {p q:List Mo} (hp:ValidP p) (hq:ValidP q) (hv:ValidP (addL [] (prods p q))):lin f (addL [] (prods p q))=lin (fun A=>lin (fun C=>f (mulP A C)) q) p:=by
 have h:=add_lin (f:=f) sumOK_nil (prods_co hp hq) (lt_valid hv)
 rw [h.1,prods_exact h.2,linX]
 simp [lin]
theorem sumE_zero {p q l:List Mo} (h:sumE p q l=0) (hl:ValidP p→ValidP q→srtM l∧∀ m∈l,wkM m):(ValidP p∧ValidP q)∧ValidP l∧sumV p q l=l:=by
 by_cases hv:ValidP p∧ValidP q
 · rw [(sumV_yes hv).2] at h
   rw [(sumV_yes hv).1]
   by_cases ho:overC l
   · rw [← (done_yes ho).2] at h;cases h
   · rw [(done_no ho).2] at h
     rw [(done_no ho).1]
     split at h
     · cases h
     · rename_i hn
       have h2:=hl hv.1 hv.2
       exact ⟨hv,valid_of h2.1 h2.2 ho (by omega),by rw [if_neg hn]⟩
 · rw [(sumV_no hv).2] at h;cases h
theorem addE_zero {p q:List Mo} (h:sumE p q (addL p q)=0):(ValidP p∧ValidP q)∧ValidP (addL p q)∧sumV p q (addL p q)=addL p q:=sumE_zero h fun hp hq=>add_ok hp hq
theorem mulE_zero {p q:List Mo} (h:sumE p q (addL [] (prods p q))=0):(ValidP p∧ValidP q)∧ValidP (addL [] (prods p q))∧sumV p q (addL [] (prods p q))=addL [] (prods p q):=sumE_zero h fun hp hq=>mul_ok hp hq
end Go.Gv
