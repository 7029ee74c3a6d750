/- The plain law of circuits: the least cost in rounds; what Poly, Holds, Cost and Count say of one gate. -/
import Derived.Test.YtibnojoffhlekaaGreatDoorP16g
import Derived.Test.YtibnojoffhlekaaGreatDoorP16h
set_option linter.all false
namespace Go.Gv
open Go Go.Proofs Go.Proofs.YtibnojoffhlekaaGreatDoor
set_option maxRecDepth 100000
set_option maxHeartbeats 4000000
def stCo (cs:List Int) (s:Int) (x:Pw):Int:=if (((x.1<0∨(cs.length:Int)≤x.1)∨cs.getD x.1.toNat 0<0)∨s<0) then -1 else min 1000000000 (s+x.2.1 * cs.getD x.1.toNat 0)
theorem fold_neg {cs:List Int}:∀ (l:List Pw),l.foldl (stCo cs) (-1)= -1
 |[]=>rfl
 |x::l=>by
  rw [List.foldl_cons,show stCo cs (-1) x= -1 by unfold stCo;rw [if_pos (.inr (by decide))],fold_neg l]
theorem fold_cost {cs:List Int}:∀ (l:List Pw) (s:Int),(∀ x∈l,0≤x.2.1)→0≤s→s≤1000000000→l.foldl (stCo cs) s=@ite _ (badC cs l) (Classical.propDecidable _) (-1) (min 1000000000 (s+sumC cs l))
 |[],s,_,h0,h1=>by
  rw [if_neg fun k=>k fun x hx=>by cases hx]
  show s=min 1000000000 (s+0)
  omega
 |x::l,s,he,h0,h1=>by
  rw [List.foldl_cons]
  have he':∀ y∈l,0≤y.2.1:=fun y hy=>he y (List.mem_cons_of_mem _ hy)
  by_cases k:((x.1<0∨(cs.length:Int)≤x.1)∨cs.getD x.1.toNat 0<0)
  · rw [show stCo cs s x= -1 by unfold stCo;rw [if_pos (.inl k)],fold_neg,if_pos]
    intro q
    have:=q x List.mem_cons_self
    omega
  · have hx:0≤x.2.1 * cs.getD x.1.toNat 0:=Int.mul_nonneg (he x List.mem_cons_self) (by omega)
    rw [show stCo cs s x=min 1000000000 (s+x.2.1 * cs.getD x.1.toNat 0) by unfold stCo;rw [if_neg (by omega)],fold_cost l _ he' (by omega) (by omega)]
    have hb:badC cs (x::l)↔badC cs l:=by
     unfold badC
     refine not_congr ⟨fun q y hy=>q y (List.mem_cons_of_mem _ hy),fun q y hy=>?_⟩
     rcases List.mem_cons.1 hy with rfl|hy
     · omega
     · exact q y hy
    by_cases b:badC cs l
    · rw [if_pos b,if_pos (hb.2 b)]
    · rw [if_neg b,if_neg fun q=>b (hb.1 q)]
      have:=sumC_nn he' b
      simp only [sumC]
      omega
theorem fold_is {cs:List Int} {l:List Pw} (he:∀ x∈l,0≤x.2.1):l.foldl (stCo cs) 0=costA cs l:=by
 rw [fold_cost l 0 he (by decide) (by decide)]
 unfold costA
 by_cases b:badC cs l
 · rw [if_pos b,if_pos b]
 · rw [if_neg b,if_neg b,Int.zero_add,Int.min_comm]
def lsCo (cs:List Int) (le:Int) (m:Mo):Int:=if 0≤m.2.1.foldl (stCo cs) 0∧(le<0∨m.2.1.foldl (stCo cs) 0<le) then m.2.1.foldl (stCo cs) 0 else le
theorem least_snoc {cs:List Int} {p:List Mo} {m:Mo} {c:Int} (he:∀ x∈m.2.1,0≤x.2.1) (h:leastC cs p c):leastC cs (p++[m]) (lsCo cs c m):=by
 unfold lsCo
 rw [fold_is he]
 rcases costA_rg (cs:=cs) he with e|e
 · rw [if_neg (by omega)]
   rcases h with h|h
   · exact .inl ⟨h.1,fun x hx=>(List.mem_append.1 hx).elim (h.2 x) fun hx=>by rw [List.mem_singleton.1 hx];exact e.1⟩
   · exact .inr ⟨h.1,let ⟨x,hx,hc⟩:=h.2.1;⟨x,List.mem_append_left _ hx,hc⟩,fun x hx=>(List.mem_append.1 hx).elim (h.2.2 x) fun hx=>by rw [List.mem_singleton.1 hx];exact .inl e.1⟩
 · rcases h with h|h
   · rw [if_pos (by omega)]
     exact .inr ⟨by omega,⟨m,by simp,rfl⟩,fun x hx=>(List.mem_append.1 hx).elim (fun hx=> .inl (h.2 x hx)) fun hx=>by rw [List.mem_singleton.1 hx];exact .inr (Int.le_refl _)⟩
   · by_cases k:costA cs m.2.1<c
     · rw [if_pos (by omega)]
       exact .inr ⟨by omega,⟨m,by simp,rfl⟩,fun x hx=>(List.mem_append.1 hx).elim (fun hx=>(h.2.2 x hx).imp id fun h=>by omega) fun hx=>by rw [List.mem_singleton.1 hx];exact .inr (Int.le_refl _)⟩
     · rw [if_neg (by omega)]
       exact .inr ⟨h.1,let ⟨x,hx,hc⟩:=h.2.1;⟨x,List.mem_append_left _ hx,hc⟩,fun x hx=>(List.mem_append.1 hx).elim (h.2.2 x) fun hx=>by rw [List.mem_singleton.1 hx];exact .inr (by omega)⟩
theorem least_nil (cs:List Int):leastC cs [] (-1):= .inl ⟨rfl,fun _ h=>by cases h⟩
theorem least_uniq {cs:List Int} {p:List Mo} {a b:Int} (ha:leastC cs p a) (hb:leastC cs p b):a=b:=by
 rcases ha with ha|⟨ha,⟨m,hm,e⟩,la⟩
 · rcases hb with hb|⟨hb,⟨n,hn,e'⟩,lb⟩
   · rw [ha.1,hb.1]
   · have:=ha.2 n hn;omega
 · rcases hb with hb|⟨hb,⟨n,hn,e'⟩,lb⟩
   · have:=hb.2 m hm;omega
   · have h1:=la n hn
     have h2:=lb m hm
     omega
theorem ev_hold {gs:List Gate} {i:Int} (hv:List Bool) (h:(evC srP.ge gs i).2=0):ValidP (evC srP.ge gs i).1∧((evC (srB hv).ge gs i).1=true↔hasP hv (evC srP.ge gs i).1):=by
 by_cases hg:GoodI gs i
 · have h0:=hg.lo
   have h1:=hg.hi
   rw [evC_good hg] at h ⊢
   by_cases he:errL srP.ge gs i.toNat=0
   · rw [if_pos he,show evC (srB hv).ge gs i=_ from evC_tot hg]
     exact (homB hg.v hv).all hg.v (i:=i.toNat) (by omega) he errL_tot _ (reachT_self _ _)
   · rw [if_neg he] at h;exact absurd h he
 · rw [evC_bad hg] at h;cases h
theorem ev_bad1 {gs:List Gate} {i:Int} (h:(evC srP.ge gs i).2=1):¬ GoodI gs i:=fun hg=>by
 have h0:=hg.lo
 have h1:=hg.hi
 rw [evC_good hg] at h
 by_cases he:errL srP.ge gs i.toNat=0
 · rw [if_pos he] at h;cases h
 · rw [if_neg he] at h
   exact errP_ne hg.v (i:=i.toNat) (by omega) h
theorem ev_more {gs:List Gate} {i:Int} {hv hv':List Bool} (h:∀ v:Int,v<(hv.length:Int)∧hv.getD v.toNat false=true→v<(hv'.length:Int)∧hv'.getD v.toNat false=true) (k:(evC (srB hv).ge gs i).1=true):(evC (srB hv').ge gs i).1=true:=by
 by_cases hg:GoodI gs i
 · have h0:=hg.lo
   have h1:=hg.hi
   rw [show evC (srB hv).ge gs i=_ from evC_tot hg] at k
   rw [show evC (srB hv').ge gs i=_ from evC_tot hg]
   exact (homBB h).all hg.v (i:=i.toNat) (by omega) errL_tot errL_tot _ (reachT_self _ _) k
 · rw [evC_bad hg] at k;cases k
theorem ev_cost {gs:List Gate} {i:Int} (cs:List Int) (h:(evC srP.ge gs i).2=0):GoodI gs i∧ValidP (evC srP.ge gs i).1∧leastC cs (evC srP.ge gs i).1 (evC (srC cs).ge gs i).1:=by
 by_cases hg:GoodI gs i
 · have h0:=hg.lo
   have h1:=hg.hi
   rw [evC_good hg] at h ⊢
   by_cases he:errL srP.ge gs i.toNat=0
   · rw [if_pos he,show evC (srC cs).ge gs i=_ from evC_tot hg]
     have:=(homC hg.v cs).all hg.v (i:=i.toNat) (by omega) he errL_tot _ (reachT_self _ _)
     exact ⟨hg,this.1,least_of this.1 this.2⟩
   · rw [if_neg he] at h;exact absurd h he
 · rw [evC_bad hg] at h;cases h
theorem ev_costB {gs:List Gate} {i:Int} {cs:List Int} {hv:List Bool} (hl:hv.length=cs.length) (h:∀ v,v<cs.length→(hv.getD v false=true↔0≤cs.getD v 0)) (hg:GoodI gs i):rgC (evC (srC cs).ge gs i).1∧(0≤(evC (srC cs).ge gs i).1↔(evC (srB hv).ge gs i).1=true):=by
 have h0:=hg.lo
 have h1:=hg.hi
 rw [show evC (srB hv).ge gs i=_ from evC_tot hg,show evC (srC cs).ge gs i=_ from evC_tot hg]
 exact (homCB hl h hg.v).all hg.v (i:=i.toNat) (by omega) errL_tot errL_tot _ (reachT_self _ _)
theorem ev_count {gs:List Gate} {i:Int} {vs:List Int} (hvs:∀ v∈vs,0≤v) (h:(evC srP.ge gs i).2=0) (k:(evC (geN vs) gs i).2=0):(evC (geN vs) gs i).1=lin (valA vs) (evC srP.ge gs i).1:=by
 by_cases hg:GoodI gs i
 · have h0:=hg.lo
   have h1:=hg.hi
   rw [evC_good hg] at h k ⊢
   rw [evC_good hg]
   by_cases he:errL srP.ge gs i.toNat=0
   · by_cases hn:errL (geN vs) gs i.toNat=0
     · rw [if_pos he,if_pos hn]
       have e1:=cnt_exact hg.v hvs (i:=i.toNat) (by omega) (i.toNat+1) (fun j hj _=>errL_zero.1 hn j hj) i.toNat (Nat.lt_succ_self _) (reachT_self _ _)
       have e2:=(homN hg.v vs).all hg.v (i:=i.toNat) (by omega) he errL_tot _ (reachT_self _ _)
       exact e1.1.trans e2.2
     · rw [if_neg hn] at k;exact absurd k hn
   · rw [if_neg he] at h;exact absurd h he
 · rw [evC_bad hg] at h;cases h
theorem cnt_err {vs all:List Int} {g:Gate}:(cntG vs all g).2=0∨(cntG vs all g).2=2:=by
 unfold cntG
 split
 · exact .inl rfl
 · split
   · split
     · dsimp only;split
       · exact .inr rfl
       · exact .inl rfl
     · exact .inl rfl
   · split
     · dsimp only;split
       · exact .inr rfl
       · exact .inl rfl
     · split
       · split
         · exact .inl rfl
         · dsimp only;split
           · exact .inr rfl
           · exact .inl rfl
       · exact .inl rfl
theorem ev_cnt1 {gs:List Gate} {i:Int} {vs:List Int}:(evC (geN vs) gs i).2=1↔¬ GoodI gs i:=by
 constructor
 · intro h hg
   rw [evC_good hg] at h
   by_cases he:errL (geN vs) gs i.toNat=0
   · rw [if_pos he] at h;cases h
   · rw [if_neg he] at h
     obtain ⟨k,_,h1,_⟩:=firstE_at (reachT_sorted gs i.toNat) (f:=fun k=>(vlE (geN vs) gs k).2) he
     have h1:(cntG vs (valsE (geN vs) gs k) ((List.getD gs k ((0,0,[],()):Gate)))).2=1:=h1.trans h
     rcases cnt_err (vs:=vs) (all:=valsE (geN vs) gs k) (g:=(List.getD gs k ((0,0,[],()):Gate))) with q|q
     · rw [q] at h1;cases h1
     · rw [q] at h1;cases h1
 · intro h
   rw [evC_bad h]
theorem ev_pol1 {gs:List Gate} {i:Int}:(evC srP.ge gs i).2=1↔¬ GoodI gs i:=⟨ev_bad1,fun h=>by rw [evC_bad h]⟩
end Go.Gv
