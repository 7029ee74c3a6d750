/- A verified generator of conditions over the code of the model. Part 7. -/
import Derived.Test.YtoangeemlcbjlaaGreatDoorGf
import Derived.Deep.Slices
import Derived.OpenShut
import Derived.ReadAgain
import Derived.ProofKit
import Derived.Lib.ItoaLen
import Derived.Deep.DeepHandedRow
import Derived.Lib.LaidTab
import Derived.Below
set_option linter.all false

/- A function: from the goal to the contract. -/
namespace Go.Gv
open Go
theorem resV_eq (l:List Value):(if h:l.toArray.size=1 then l.toArray[0] else Value.tuple l.toArray)=resV l:=by
 cases l with
 |nil=>rfl
 |cons a r=>
  cases r with
  |nil=>rfl
  |cons b r=>rw [dif_neg (by simp)];rfl
def resOne (P:Program) (tmps:Array Value) (w:World):ResultVar→Value→Prop
 | .tmp t,v=>v=tmps.getD t undef
 | .cell a t,v=>(do loadVar t (← asAddr (tmps.getD a undef)):Sem Value).run P w= .ok v w
def resAll (P:Program) (tmps:Array Value) (w:World):List ResultVar→List Value→Prop
 |[],l=>l=[]
 |r::rs,l=>∃ v l',l=v::l'∧resOne P tmps w r v∧resAll P tmps w rs l'
theorem results_run {P:Program} {fn:Func} (tmps:Array Value) (w:World) {vs:List Value} (h:resAll P tmps w fn.results.toList vs):(results fn tmps).run P w= .ok (resV vs) w:=by
 have key:∀ (l:List ResultVar) (vs:List Value),resAll P tmps w l vs→∀ (acc:Array Value),(l.foldlM (fun (bs:Array Value) (r:ResultVar)=>bs.push<$>(match r with
       | .tmp t=>Pure.pure (tmps.getD t undef)
       | .cell a t=>do loadVar t (← asAddr (tmps.getD a undef)):Sem Value)) acc:Sem (Array Value)).run P w= .ok (acc++vs.toArray) w:=by
  intro l
  induction l with
  |nil=>intro vs hl acc;cases hl;simp
  |cons r l ih=>
   intro vs hl acc
   obtain ⟨v,l',rfl,h1,h2⟩:=hl
   rw [List.foldlM_cons]
   cases r with
   |tmp t=>
    cases h1
    simp only [Sem.run_bind,Sem.run_map,Sem.run_pure,Result.andThen_ok]
    rw [ih _ h2]
    simp
   |cell a t=>
    have h1:(do loadVar t (← asAddr (tmps.getD a undef)):Sem Value).run P w= .ok v w:=h1
    simp only [Sem.run_bind,Sem.run_map] at h1 ⊢
    rw [h1]
    simp only [Result.andThen_ok]
    rw [ih _ h2]
    simp
 unfold results
 rw [Array.mapM_eq_foldlM]
 rw [← Array.foldlM_toList]
 have hk:=key fn.results.toList vs h #[]
 simp only [Sem.run_bind]
 refine Eq.trans (congrArg (fun z=>Result.andThen z _) hk) ?_
 simp only [Result.andThen_ok,Sem.run_pure]
 rw [Array.empty_append,resV_eq]
def shLen:Sh→Nat
 | .cons _ b=>shLen b+1
 | .self _ cs=>shLen cs+1
 |_=>0
theorem satT_len2 {nm:Nat→Nat} {β:Asg} {G:GW}:∀ (s:Sh) (x:SDat s) (n:Nat) (y:AP) (l:List Value),satT (snocA (intoA nm s x n) y) β G l→l.length=shLen s+1
 | .cons a b,x,n,y,l,h=>by
  unfold intoA snocA satT at h
  obtain ⟨v,l',rfl,_,h2⟩:=h
  have:=satT_len2 b x.2 (n+nn a) y l' h2
  simp [shLen,this]
 | .self f cs,x,n,y,l,h=>by
  unfold intoA at h
  obtain ⟨l',v,rfl,h1,_⟩:=(satT_snoc (isL_snoc _ _)).1 h
  have:=satT_len2 cs x (n+1) _ l' h1
  simp [shLen,this]
 | .nil,x,n,y,l,h=>one h
 | .d t,x,n,y,l,h=>one h
 | .row t,x,n,y,l,h=>one h
 | .take t,x,n,y,l,h=>one h
 | .spare t,x,n,y,l,h=>one h
 | .map k v,x,n,y,l,h=>one h
 | .ob κ,x,n,y,l,h=>one h
 | .box c,x,n,y,l,h=>one h
 | .clos _ c,x,n,y,l,h=>one h
 | .agg c,x,n,y,l,h=>one h
 | .nilp,x,n,y,l,h=>one h
 | .nils,x,n,y,l,h=>one h
where
 one {β:Asg} {G:GW} {y:AP} {l:List Value} (h:satT (.cons y .nil) β G l):l.length=1:=by
  unfold satT at h
  obtain ⟨v,l',rfl,_,h2⟩:=h
  unfold satT at h2;subst h2;rfl
theorem satT_len {nm:Nat→Nat} {β:Asg} {G:GW}:∀ (s:Sh) (x:SDat s) (n:Nat) (l:List Value),satT (intoA nm s x n) β G l→l.length=shLen s
 | .cons a b,x,n,l,h=>by
  unfold intoA satT at h
  obtain ⟨v,l',rfl,_,h2⟩:=h
  have:=satT_len b x.2 (n+nn a) l' h2
  simp [shLen,this]
 | .nil,x,n,l,h=>by unfold intoA satT at h;subst h;rfl
 | .d t,x,n,l,h=>by unfold intoA satT at h;exact h.elim
 | .row t,x,n,l,h=>by unfold intoA satT at h;exact h.elim
 | .take t,x,n,l,h=>by unfold intoA satT at h;exact h.elim
 | .spare t,x,n,l,h=>by unfold intoA satT at h;exact h.elim
 | .map k v,x,n,l,h=>by unfold intoA satT at h;exact h.elim
 | .ob κ,x,n,l,h=>by unfold intoA satT at h;exact h.elim
 | .box c,x,n,l,h=>by unfold intoA satT at h;exact h.elim
 | .clos _ c,x,n,l,h=>by unfold intoA satT at h;exact h.elim
 | .self f cs,x,n,l,h=>satT_len2 cs x (n+1) _ l h
 | .nilp,x,n,l,h=>by unfold intoA satT at h;exact h.elim
 | .nils,x,n,l,h=>by unfold intoA satT at h;exact h.elim
theorem argsGo {β:Asg} {G:GW}:∀ (X:AP) (n:Nat) (l:List Value),satT X β G l→∀ s p,lookN (argsSl.go X n) s=some p→p.path=[]∧n≤s∧∃ v,l[s - n]?=some v∧sat p.ap β G v
 | .cons a r,n,l,h,s,p,hp=>by
  unfold satT at h
  obtain ⟨v,l',rfl,h1,h2⟩:=h
  unfold argsSl.go at hp
  rw [lookN_cons] at hp
  by_cases hs:s=n
  · rw [if_pos hs] at hp
    simp only [Option.some.injEq] at hp;subst hp
    exact ⟨rfl,by omega,v,by rw [hs,Nat.sub_self];rfl,h1⟩
  · rw [if_neg hs] at hp
    obtain ⟨g1,g2,u,g3,g4⟩:=argsGo r (n+1) l' h2 s p hp
    exact ⟨g1,by omega,u,by rw [show s - n=(s - (n+1))+1 by omega];exact g3,g4⟩
 | .nil,n,l,h,s,p,hp=>by cases hp
 | .any,n,l,h,s,p,hp=>by cases hp
 | .dat _ _,n,l,h,s,p,hp=>by cases hp
 | .blit _,n,l,h,s,p,hp=>by cases hp
 | .val _,n,l,h,s,p,hp=>by cases hp
 | .agg _,n,l,h,s,p,hp=>by cases hp
 | .tup _,n,l,h,s,p,hp=>by cases hp
 | .ptr _ _,n,l,h,s,p,hp=>by cases hp
 | .ref _,n,l,h,s,p,hp=>by cases hp
 | .loc _ _,n,l,h,s,p,hp=>by cases hp
 | .rloc _ _ _ _,n,l,h,s,p,hp=>by cases hp
 | .dec _,n,l,h,s,p,hp=>by cases hp
 | .nxt _,n,l,h,s,p,hp=>by cases hp
 | .sl _ _ _,n,l,h,s,p,hp=>by cases hp
 | .clos _ _,n,l,h,s,p,hp=>by cases hp
theorem getR_sat {P:Program} {E:Env} (hE:E.ok P=true) {C:Ctx} {rs:RS} {β:Asg} {a:Act} {G:GW} (S0:Sim C rs β a G):∀ (rl:List ResultVar) (l:List AP),getR E rs.hpf rs.slf rl=some l→∃ vs,resAll P a.tmps G.w rl vs∧satT (listA l) β G vs
 |[],l,h=>by
  cases h
  exact ⟨[],rfl,by unfold listA satT;rfl⟩
 | .tmp t::r,l,h=>by
  unfold getR at h
  split at h
  · rename_i l' hl
    simp only [Option.some.injEq] at h;subst h
    obtain ⟨vs,h1,h2⟩:=getR_sat hE S0 r l' hl
    refine ⟨_::vs,⟨_,_,rfl,rfl,h1⟩,?_⟩
    show satT (.cons (rs.slf t).ap (listA l')) β G _
    unfold satT
    refine ⟨_,_,rfl,((S0.holds (fun _=>false)).slots t).1 (fun e he=>?_),h2⟩
    have he':e∈(rs.slf t).path:=he
    rw [S0.flat t] at he';cases he'
  · cases h
 | .cell t T::r,l,h=>by
  unfold getR at h
  split at h
  · rename_i hh off hX
    split at h
    · rename_i X l' hld hl
      simp only [Option.some.injEq] at h;subst h
      obtain ⟨vs,h1,h2⟩:=getR_sat hE S0 r l' hl
      have hs:sat (rs.slf t).ap β G (a.tmps.getD t undef):=((S0.holds (fun _=>false)).slots t).1 (fun e he=>by
       have he':e∈(rs.slf t).path:=he
       rw [S0.flat t] at he';cases he')
      rw [hX] at hs
      obtain ⟨v,hv,hsv⟩:=loadA_run hE hld (fun _ h=>by cases h) (HInv.hs S0.inv) hs
      refine ⟨v::vs,⟨_,_,rfl,?_,h1⟩,?_⟩
      · unfold sat at hs
        obtain ⟨b,_,e⟩:=hs
        show (do loadVar T (← asAddr (a.tmps.getD t undef)):Sem Value).run P G.w= .ok v G.w
        rw [e] at hv ⊢
        simpa [Instr.loadAt,Instr.sureAddr,asAddr,Sem.run_bind] using hv
      · show satT (.cons X (listA l')) β G _
        unfold satT
        exact ⟨_,_,rfl,hsv,h2⟩
    · cases h
  · cases h
theorem retAlt_ok {P:Program} {E:Env} (hE:E.ok P=true) {C:Ctx} {ro:Bool} {ins:Sh} {q:Prop} {A:Alt ins} {x:SDat ins} {rl:List ResultVar} {rs:RS} {β β0:Asg} {a:Act} {G G0:GW} (h:retAlt E ro q A x rl rs) (S0:Sim C rs β a G) (hb:β0.le β) (hgl:G0.le G):q∧∃ vs,resAll P a.tmps G.w rl vs∧RetOK C ro ins A x β0 G0 (resV vs) G.w:=by
 unfold retAlt at h
 split at h
 · rename_i l hgr
   obtain ⟨vs,hvs,hsat⟩:=getR_sat (P:=P) hE S0 rl l hgr
   generalize hfz:frzArgs rs.hpf A.outs l=fz at h
   dsimp only at h
   split at h
   · rename_i y ns ex nx hfo
     split at h
     · rename_i z ms ey nx2 hfb
       split at h
       · rename_i hnd hidk
         obtain ⟨hq,hy,hz⟩:=h
         have hspec:∀ h o,(h,o)∈fz→frzO (rs.hpf h)=some o:=fun h o hm=>frzArgs_spec A.outs _ h o (by rw [hfz];exact hm)
         obtain ⟨G1,e1,l1,H1⟩:=HInv.freezeL fz S0.inv hspec
         refine ⟨hq,vs,hvs,⟨_,β,G1,_,_,rs.nx,y,ns,ex,nx,z,ms,ey,nx2,e1,H1,hb,GW.le_trans hgl l1,rfl,satT.mono _ hsat (Asg.le_refl β) l1,fun n hn=>?_,hfo,hfb,hnd,hy,hz,hidk⟩⟩
         by_cases hk:n∈keysH fz
         · obtain ⟨o,hm⟩:=mem_keys hk
           have e:=hspec n o hm
           rw [S0.fresh n hn] at e;cases e
         · rw [hset_not hk];exact S0.fresh n hn
       · exact h.elim
     · exact h.elim
   · exact h.elim
 · exact h.elim
theorem HInv.rebase {C C1:Ctx} {hp hp':Nat→HObj} {β0 β':Asg} {G0 G':GW} (H:HInv C hp β0 G0) (h0:C1.G0=G0) (hF:∀ b o,C1.F0 b o→∃ h v,β0 h=some v∧fpc (hp h) v b o) (hFo:∀ b,C1.Fo0 b→∃ h v,β0 h=some v∧fpo (hp h) v b) (hgl:C1.glob=C.glob)
    (h2:HInv C1 hp' β' G'):HInv C hp' β' G':=by
 have f1:∀ b o,C1.F0 b o→C.F0 b o∨C.G0.w.heap.size≤b:=fun b o k=>let ⟨h,v,hv,hf⟩:=hF b o k;H.own h v hv b o hf
 have f2:∀ b,C1.Fo0 b→C.Fo0 b∨C.G0.w.heap.size≤b:=fun b k=>let ⟨h,v,hv,hf⟩:=hFo b k;H.owno h v hv b hf
 have hst:=h2.step
 rw [h0] at hst
 have hsz:=H.step.size
 refine ⟨h2.heap,H.step.trans hst f1 f2,fun h v hv b o hf=>?_,fun h v hv b hf=>?_,fun g t x hx=>h2.glob g t x (by rw [hgl];exact hx)⟩
 · rcases h2.own h v hv b o hf with k|k
   · exact f1 b o k
   · rw [h0] at k;exact .inr (by omega)
 · rcases h2.owno h v hv b hf with k|k
   · exact f2 b k
   · rw [h0] at k;exact .inr (by omega)
theorem RetOK.rebase {C C1:Ctx} {ro:Bool} {ins:Sh} {A:Alt ins} {x:SDat ins} {hp:Nat→HObj} {β β0:Asg} {G G0:GW} {v:Value} {w:World} (H:HInv C hp β0 G0) (h0:C1.G0=G0) (hF:∀ b o,C1.F0 b o→∃ h v,β0 h=some v∧fpc (hp h) v b o) (hFo:∀ b,C1.Fo0 b→∃ h v,β0 h=some v∧fpo (hp h) v b) (hgl:C1.glob=C.glob)
    (h:RetOK C1 ro ins A x β G v w):RetOK C ro ins A x β G v w:=by
 obtain ⟨hp',β',G',L,vs,nx,y,ns,ex,nx1,z,ms,ey,nx2,h1,h2,h3⟩:=h.ex
 exact ⟨hp',β',G',L,vs,nx,y,ns,ex,nx1,z,ms,ey,nx2,h1,H.rebase h0 hF hFo hgl h2,h3⟩
def GW.shut (G:GW) (D:Nat):GW:={ w:=G.w.putObj D (.deferred none),im:=G.im,imo:=fun b=>G.imo b∧b≠D,nz:=G.nz}
theorem shut_cells {G:GW} {D:Nat} (h:G.w.heap[D]?=some (.deferred (some []))) (b o:Nat):(G.shut D).w.cell? ⟨b,o,none⟩=G.w.cell? ⟨b,o,none⟩∧(G.shut D).w.frozen? ⟨b,o,none⟩=G.w.frozen? ⟨b,o,none⟩:=by
 by_cases e:b=D
 · subst e
   have h1:(G.shut b).w.heap[b]?=some (.deferred none):=World.putObj_heap_same (Array.getElem?_eq_some_iff.1 h).1
   have k1:(G.shut b).w.cell? ⟨b,o,none⟩=none∧(G.shut b).w.frozen? ⟨b,o,none⟩=false:=by
    simp [World.cell?,World.frozen?,h1]
   have k2:G.w.cell? ⟨b,o,none⟩=none∧G.w.frozen? ⟨b,o,none⟩=false:=by
    simp [World.cell?,World.frozen?,h]
   exact ⟨k1.1.trans k2.1.symm,k1.2.trans k2.2.symm⟩
 · have:(G.shut D).w.heap[b]?=G.w.heap[b]?:=World.putObj_heap_other e
   simp only [World.cell?,World.frozen?,this]
   exact ⟨trivial,trivial⟩
theorem Sim.shut {C:Ctx} {rs:RS} {β:Asg} {a:Act} {G:GW} (S:Sim C rs β a G) (O0:OldOK C.G0) {D:Nat} (hD0:C.G0.w.heap.size≤D) (hi:G.imo D) (h:G.w.heap[D]?=some (.deferred (some []))) {a':Act} (ht:a'.tmps=a.tmps) (hm:Marks C.m (G.shut D) a'.defers):
    Sim C rs β a' (G.shut D):=by
 have hne:∀ b,b≠D→(G.shut D).w.heap[b]?=G.w.heap[b]?:=fun b e=>World.putObj_heap_other e
 have hc:=shut_cells h
 have hsz:(G.shut D).w.heap.size=G.w.heap.size:=by show (G.w.putObj D _).heap.size=_;simp
 have hst:StepW (fun _ _=>False) (fun b=>b=D) G (G.shut D):=
  ⟨by rw [hsz];exact Nat.le_refl _,fun b o _ _=>hc b o,fun b _ _ hn=>hne b hn,fun b es c hn he=>(hne b hn).trans he,
   ⟨fun b o hi=>⟨hi,(hc b o).1⟩,fun b es c hb he=>by
    have:b≠D:=fun e=>by subst e;rw [h] at he;cases he
    exact ⟨⟨hb,this⟩,(hne b this).trans he⟩⟩,fun b o hi=> .inl hi,fun b hb=> .inl hb.1,rfl⟩
 have hJ:=S.inv.heap.j.keep hst (fun _ _ _ _ _ _ k=>k) (fun n v hv b hf e=>by subst e;exact (S.inv.heap.imo n v hv _ hf).1 hi)
 have hOk:OldOK (G.shut D):=⟨fun b o hb=>by rw [hsz];exact S.inv.heap.old b o hb,fun b hb=>by
  obtain ⟨o,e,k⟩:=S.inv.heap.oldo b hb.1
  exact ⟨o,(hne b hb.2).trans e,k⟩⟩
 have H:=S.inv.step
 have hs0:Step C.F0 C.Fo0 C.G0 (G.shut D):=by
  refine ⟨H.os,H.tape,H.output,by rw [hsz];exact H.size,fun b o hb hn=>?_,fun b hb hn ho=>?_,fun b es c ho he=>?_,⟨fun b o hi=>⟨(H.le.1 b o hi).1,(hc b o).1.trans (H.le.1 b o hi).2⟩,fun b hb=>?_⟩,H.new,fun b hb=>H.newo b hb.1,H.drawn,H.nz⟩
  · have:=H.cell b o hb hn
    exact ⟨(hc b o).1.trans this.1,(hc b o).2.trans this.2⟩
  · exact (hne b (by omega)).trans (H.blk b hb hn ho)
  · have h1:=H.obj b es c ho he
    exact (hne b (fun e=>by subst e;rw [h] at h1;cases h1)).trans h1
  · have hlt:b<C.G0.w.heap.size:=by
     obtain ⟨o,e,_⟩:=O0.oldo b hb
     exact (Array.getElem?_eq_some_iff.1 e).1
    have hbD:b≠D:=by omega
    exact ⟨⟨(H.le.2 b hb).1,hbD⟩,(hne b hbD).trans (H.le.2 b hb).2⟩
 refine ⟨fun γ=>⟨fun s=>?_,by rw [ht];exact (S.holds γ).size,hm,⟨hJ.ok hOk,hs0,S.inv.own,S.inv.owno,fun g t x hx=>(S.inv.glob g t x hx).monoW hst.le⟩⟩,S.flat,S.fresh,S.gd,S.vc,S.tr⟩
 rw [ht]
 exact ⟨fun hp=>sat.monoW _ (((S.holds γ).slots s).1 hp) (Asg.le_refl β) hst.le,((S.holds γ).slots s).2⟩
theorem leaves_marks {P:Program} {C:Ctx} (O0:OldOK C.G0) (hm:C.m=C.G0.w.heap.size) {fn:Func} {R:Ending→World→Prop} {rs:RS} {β:Asg}:∀ (l:List Nat) {a:Act} {G:GW},Sim C rs β a G→a.defers=l.map (fun D=>{ target:= .collected D,args:=#[]})→l.Nodup→(∀ D∈l,C.m≤D∧G.imo D∧G.w.heap[D]?=some (.deferred (some [])))→
    (∀ (a':Act) (G':GW),Sim C rs β a' G'→a'.defers=[]→a'.tmps=a.tmps→∃ v,(results fn a'.tmps).run P G'.w= .ok v G'.w∧R (.returned v) G'.w)→LeavesInM Fence.wide 0 P fn a.tmps R a.defers .returning G.w
 |[],a,G,S,e,_,_,hR=>by
  rw [e]
  exact hR a G S e rfl
 |D::l,a,G,S,e,hn,hl,hR=>by
  obtain ⟨h1,h2,h3⟩:=hl D List.mem_cons_self
  obtain ⟨hnm,hn'⟩:=List.nodup_cons.1 hn
  have hl':∀ D'∈l,C.m≤D'∧(G.shut D).imo D'∧(G.shut D).w.heap[D']?=some (.deferred (some [])):=fun D' hD'=>by
   obtain ⟨k1,k2,k3⟩:=hl D' (List.mem_cons_of_mem _ hD')
   have hne:D'≠D:=fun e=>hnm (e ▸ hD')
   exact ⟨k1,⟨k2,hne⟩,(World.putObj_heap_other hne).trans k3⟩
  have S':Sim C rs β { a with defers:=l.map (fun D=>{ target:= .collected D,args:=#[]})} (G.shut D):=S.shut O0 (by omega) h2 h3 rfl ⟨l,rfl,hn',hl'⟩
  rw [e]
  exact ⟨by simp, .inl ⟨D,(G.shut D).w,rfl,run_takeDeferred h3,leaves_marks O0 hm l S' rfl hn' hl' hR⟩⟩
theorem fun_ok {P:Program} {c:Cf} (hE:c.E.ok P=true) (hS:SpecsOK P c.gl c.F c.nz) (hL:LateOK P c) (hmix:P.follows .mixedOrders=true) {f:FuncId} {fn:Func} (hf:P.funcs[f]?=some fn) (hb:fn.body.isSome=true) (hN:fn.ntmps=c.N)
    {ins:Sh} (hlen:shLen ins≤c.N) {x:SDat ins} {C:Ctx} {β:Asg} {G:GW} {args:List Value} (hg:GlobIs C c) (H:HInv C (canon ins x) β G) (hargs:satT (intoA (fun k=>k) ins x 0) β G args)
    {sl0:List (Nat × PA)} (hsl0:∀ s p,lookN sl0 s=some p→p.path=[]∧∃ v,args[s]?=some v∧sat p.ap β G v) {Kr:RS→Prop} (hgx:wpA c (bodyOf fn) { sl:=sl0,hp:=intoH (fun k=>k) ins x 0 [],nx:=nn ins} (fun e rs=>match e with
        | .ret=>Kr rs
        | .normal=>Kr rs
        |_=>False)) {R:Value→World→Prop}
    (hret:∀ (C1:Ctx),C1.G0=G→(∀ b o,C1.F0 b o→∃ h v,β h=some v∧fpc (canon ins x h) v b o)→(∀ b,C1.Fo0 b→∃ h v,β h=some v∧fpo (canon ins x h) v b)→C1.glob=C.glob→
     ∀ rs' β' a' G',Kr rs'→Sim C1 rs' β' a' G'→β.le β'→G.le G'→∃ v,(results fn a'.tmps).run P G'.w= .ok v G'.w∧R v G'.w):Calls P f args.toArray G.w (fun e w'=>match e with
     | .returned v=>R v w'
     |_=>False):=by
 obtain ⟨code,hcode⟩:=Option.isSome_iff_exists.1 hb
 have hal:=satT_len _ _ _ _ hargs
 unfold bodyOf at hgx
 rw [hcode] at hgx
 have hgx:wpA c code { sl:=sl0,hp:=intoH (fun k=>k) ins x 0 [],nx:=nn ins} (fun e rs=>match e with
     | .ret=>Kr rs
     | .normal=>Kr rs
     |_=>False):=hgx
 refine callsIn_wide.1 (callsIn_of_wp_marks (F:=Fence.wide) (n:=0) hf hcode trivial ?_)
 let C1:Ctx:={ ctxSelf (canon ins x) β G C.glob c.N with m:=G.w.heap.size}
 have H1:HInv C1 (canon ins x) β G:=⟨H.heap,Step.refl _ _ _,fun h v hv _ _ hf=> .inl ⟨h,v,hv,hf⟩,fun h v hv _ hf=> .inl ⟨h,v,hv,hf⟩,H.glob⟩
 let a0:Act:={ tmps:=args.toArray++Array.replicate (fn.ntmps - args.toArray.size) undef,defers:=[]}
 have hsz:a0.tmps.size=c.N:=by
  show (args.toArray++Array.replicate (fn.ntmps - args.toArray.size) undef).size=c.N
  simp
  omega
 have hhp:∀ h,({ sl:=sl0,hp:=intoH (fun k=>k) ins x 0 [],nx:=nn ins}:RS).hpf h=canon ins x h:=fun h=>hpf_hset _ h
 have hslot:∀ s,(({ sl:=sl0,hp:=intoH (fun k=>k) ins x 0 [],nx:=nn ins}:RS).slf s).path=[]∧sat (({ sl:=sl0,hp:=intoH (fun k=>k) ins x 0 [],nx:=nn ins}:RS).slf s).ap β G (a0.tmps.getD s undef):=fun s=>by
  unfold RS.slf
  dsimp only
  cases hl:lookN sl0 s with
  |none=>exact ⟨rfl,by unfold sat;trivial⟩
  |some p=>
   obtain ⟨g1,v,g3,g4⟩:=hsl0 s p hl
   refine ⟨g1,?_⟩
   have:a0.tmps.getD s undef=v:=by
    show (args.toArray++Array.replicate (fn.ntmps - args.toArray.size) undef).getD s undef=v
    have hlt:=(List.getElem?_eq_some_iff.1 g3).1
    rw [Array.getD_eq_getD_getElem?,Array.getElem?_append_left (by simpa using hlt)]
    simp [g3]
   rw [this];exact g4
 have hsim:Sim C1 { sl:=sl0,hp:=intoH (fun k=>k) ins x 0 [],nx:=nn ins} β a0 G:=
  ⟨fun γ=>⟨fun s=>⟨fun _=>(hslot s).2,fun hn=>(hn (fun e he=>by
      have he':e∈(({ sl:=sl0,hp:=intoH (fun k=>k) ins x 0 [],nx:=nn ins}:RS).slf s).path:=he
      rw [(hslot s).1] at he';cases he')).elim⟩,hsz,Marks.nil _ _,by
      show HInv _ ({ sl:=sl0,hp:=intoH (fun k=>k) ins x 0 [],nx:=nn ins}:RS).hpf β G
      rw [funext hhp];exact H1⟩,fun s=>(hslot s).1,fun n hn=>by rw [hhp];exact canon_out ins x hn,rfl,rfl,rfl⟩
 have hO:OldOK C1.G0:=H.heap.o
 have hend:∀ rs' β' a' G',Kr rs'→Sim C1 rs' β' a' G'→β.le β'→LeavesInM Fence.wide 0 P fn a'.tmps (fun e w'=>match e with
     | .returned v=>R v w'
     |_=>False) a'.defers .returning G'.w:=fun rs' β' a' G' hK S' hb'=>by
  obtain ⟨l,e,hn,hl⟩:=(S'.holds (fun _=>false)).defers
  exact leaves_marks hO rfl l S' e hn hl fun a2 G2 S2 _ ht=>by
   obtain ⟨v,h1,h2⟩:=hret C1 rfl (fun b o k=>k) (fun b k=>k) rfl rs' β' a2 G2 hK S2 hb' S2.inv.step.le
   exact ⟨v,h1,h2⟩
 show code.wpIn (WF none) 0 P _ a0 G.w
 refine wpA_sound hE hS hL hmix code C1 ⟨hg.eq,fun h=>by show G.nz;rw [H.step.nz];exact hg.nz h⟩ rfl (Nat.le_refl _) none (.inl rfl) _ _ β a0 G _ hgx hsim fun e rs' β' a' G' hK hs' hb' hgl _ _=>?_
 cases e with
 |normal=>exact hend rs' β' a' G' hK hs' hb'
 |ret=>exact hend rs' β' a' G' hK hs' hb'
 |exit i=>exact hK.elim
theorem spec_ok_gen {P : Program} {c : Cf} (hE : c.E.ok P = true) (hS : SpecsOK P c.gl c.F c.nz) (hL : LateOK P c) (hmix : P.follows .mixedOrders = true) {f : FuncId} {fn : Func} {S : Spec} (hf : P.funcs[f]? = some fn) (hb : fn.body.isSome = true) (hnm : (fn.name == "runtime.NumGoroutine") = false) (hN : fn.ntmps = c.N)
    (hlen:shLen S.ins≤c.N) (hsel:∀ x,S.pre x→S.sel x<S.alts.length) (hgoal:∀ x,S.pre x→shOK S.ins x→∀ (β:Asg) (G:GW) (args:List Value),satT (intoA (fun k=>k) S.ins x 0) β G args→
     ∃ sl0:List (Nat × PA),(∀ s p,lookN sl0 s=some p→p.path=[]∧∃ v,args[s]?=some v∧sat p.ap β G v)∧wpA c (bodyOf fn) { sl:=sl0,hp:=intoH (fun k=>k) S.ins x 0 [],nx:=nn S.ins} (fun e rs=>match e with
      | .ret=>retA c.E S x fn.results.toList rs
      | .normal=>retA c.E S x fn.results.toList rs
      |_=>False)) (hnz:c.nz=true→S.noisy=true):SpecOK P c.gl f S:=by
 refine ⟨⟨fn,hf,by obtain ⟨code,hcode⟩:=Option.isSome_iff_exists.1 hb;rw [hcode];rfl,hnm⟩,fun x hpre=>⟨_,List.getElem?_eq_getElem (hsel x hpre),?_⟩⟩
 intro C β G args hg hz H hargs
 have hok:shOK S.ins x:=shOK_of (nm:=fun k=>k) S.ins x 0 (fun k o hk=>by
  have hc:=canon_at S.ins x hk
  obtain ⟨v,_,hs⟩:=H.heap.sat k (by rw [hc];exact objsA_ne _ S.ins x 0 o (List.mem_of_getElem? hk))
  rw [hc] at hs
  exact ⟨v,hs⟩) (.inr (.inr ⟨args,hargs⟩))
 obtain ⟨sl0,hsl0,hgx⟩:=hgoal x hpre hok β G args hargs
 refine fun_ok hE hS hL hmix hf hb hN hlen ⟨hg,fun h=>hz (hnz h)⟩ H hargs hsl0 hgx fun C1 h0 hF hFo hgl1 rs' β' a' G' hr hs' hb' hgl=>?_
 unfold retA at hr
 split at hr
 · rename_i A hAs
   obtain ⟨hq,vs,hvs,hok⟩:=retAlt_ok (P:=P) hE hr hs' hb' hgl
   have:S.alts[S.sel x]'(hsel x hpre)=A:=by
    have h1:S.alts[S.sel x]?=some A:=by rw [hAs,hq];rfl
    exact (List.getElem?_eq_some_iff.1 h1).2
   rw [this]
   exact ⟨_,results_run a'.tmps G'.w hvs,hok.rebase H h0 hF hFo hgl1⟩
 · obtain ⟨k,A,hA,hr⟩:=hr
   obtain ⟨hq,vs,hvs,hok⟩:=retAlt_ok (P:=P) hE hr hs' hb' hgl
   have:S.alts[S.sel x]'(hsel x hpre)=A:=by
    have h1:S.alts[S.sel x]?=some A:=by rw [hq];exact hA
    exact (List.getElem?_eq_some_iff.1 h1).2
   rw [this]
   exact ⟨_,results_run a'.tmps G'.w hvs,hok.rebase H h0 hF hFo hgl1⟩
noncomputable def retL (E:Env) (S:LSpec) (x:SDat S.ins) (rl:List ResultVar) (rs:RS):Prop:=∃ χ,S.ok x χ∧retAlt E false True (S.alt χ) x rl rs
noncomputable def fnGoalL (c:Cf) (f:Func) (S:LSpec) (x:SDat S.ins):Prop:=
 forceRS { sl:=argsSl S.ins x,hp:=intoH (fun k=>k) S.ins x 0 [],nx:=nn S.ins} (fun rs0=>wpA c (bodyOf f) rs0 (fun e rs=>match e with
  | .ret=>retL c.E S x f.results.toList rs
  | .normal=>retL c.E S x f.results.toList rs
  |_=>False))
noncomputable def retI (c:Cf) (ts:List Ty) (D:Eater→Prop) (rs:RS):Prop:=∃ (h:Nat) (E':Eater),rs.hpf h= .ob (.log ts) ([],E',D)∧c.eat ts D [] E'
noncomputable def fnGoalI (c:Cf) (f:Func) (S:ItSpec) (x:SDat (.cons (.ob (.log S.ts)) S.caps)):Prop:=
 forceRS { sl:=argsSl (.cons (.ob (.log S.ts)) S.caps) x,hp:=intoH (fun k=>k) (.cons (.ob (.log S.ts)) S.caps) x 0 [],nx:=nn (.cons (.ob (.log S.ts)) S.caps)} (fun rs0=>wpA c (bodyOf f) rs0 (fun e rs=>match e with
  | .ret=>retI c S.ts x.1.2.2 rs
  | .normal=>retI c S.ts x.1.2.2 rs
  |_=>False))
theorem it_ok {P : Program} {c : Cf} (hE : c.E.ok P = true) (hS : SpecsOK P c.gl c.F c.nz) (hL : LateOK P c) (hmix : P.follows .mixedOrders = true) {f : FuncId} {fn : Func} {S : ItSpec} (hf : P.funcs[f]? = some fn) (hb : fn.body.isSome = true) (hnm : (fn.name == "runtime.NumGoroutine") = false) (hN : fn.ntmps = c.N)
    (hlen:shLen S.caps+1≤c.N) (hres:fn.results.toList=[]) (heat:c.eat=Eats P) (hgoal:∀ x,S.pre x.2→x.1.1=S.seq x.2→c.eat S.ts x.1.2.2 x.1.1 x.1.2.1→shOK (.cons (.ob (.log S.ts)) S.caps) x→fnGoalI c fn S x) (hnz:c.nz=true→S.noisy=true):ItOK P c.gl f S:=by
 refine ⟨⟨fn,hf,by obtain ⟨code,hcode⟩:=Option.isSome_iff_exists.1 hb;rw [hcode];rfl,hnm⟩,fun x hpre hseq heats C β G args hg hz H hargs=>?_⟩
 have hok:shOK (.cons (.ob (.log S.ts)) S.caps) x:=shOK_of (nm:=fun k=>k) _ x 0 (fun k o hk=>by
  have hc:=canon_at _ x hk
  obtain ⟨v,_,hs⟩:=H.heap.sat k (by rw [hc];exact objsA_ne _ _ x 0 o (List.mem_of_getElem? hk))
  rw [hc] at hs
  exact ⟨v,hs⟩) (.inr (.inr ⟨args,hargs⟩))
 have hgx:=hgoal x hpre hseq (by rw [heat];exact heats) hok
 unfold fnGoalI at hgx
 rw [forceRS_eq] at hgx
 refine fun_ok hE hS hL hmix hf hb hN (by exact hlen) ⟨hg,fun h=>hz (hnz h)⟩ H hargs (sl0:=argsSl (.cons (.ob (.log S.ts)) S.caps) x) (fun s p hl=>by
  obtain ⟨g1,_,v,g3,g4⟩:=argsGo _ 0 args hargs s p hl
  rw [Nat.sub_zero] at g3
  exact ⟨g1,v,g3,g4⟩) hgx fun C1 h0 hF hFo hgl1 rs' β' a' G' hr hs' hb' hgl=>?_
 obtain ⟨h,E',hh,he⟩:=hr
 rw [heat] at he
 exact ⟨_,results_run a'.tmps G'.w (vs:=[]) (by rw [hres];rfl),rs'.hpf,β',G',h,E',rfl,H.rebase h0 hF hFo hgl1 hs'.inv,hgl,hh,he⟩
theorem spec_ok {P : Program} {c : Cf} (hE : c.E.ok P = true) (hS : SpecsOK P c.gl c.F c.nz) (hL : LateOK P c) (hmix : P.follows .mixedOrders = true) {f : FuncId} {fn : Func} {S : Spec} (hf : P.funcs[f]? = some fn) (hb : fn.body.isSome = true) (hnm : (fn.name == "runtime.NumGoroutine") = false) (hN : fn.ntmps = c.N)
    (hlen:shLen S.ins≤c.N) (hsel:∀ x,S.pre x→S.sel x<S.alts.length) (hgoal:∀ x,S.pre x→shOK S.ins x→fnGoal c fn S x) (hnz:c.nz=true→S.noisy=true):SpecOK P c.gl f S:=
 spec_ok_gen hE hS hL hmix hf hb hnm hN hlen hsel (hnz:=hnz) fun x hpre hok β G args hargs=>⟨argsSl S.ins x,fun s p hl=>by
  obtain ⟨g1,_,v,g3,g4⟩:=argsGo _ 0 args hargs s p hl
  rw [Nat.sub_zero] at g3
  exact ⟨g1,v,g3,g4⟩,by have:=hgoal x hpre hok;unfold fnGoal at this;rw [forceRS_eq] at this;exact this⟩
end Go.Gv

/- The arguments of a law: what reads as data in a world holds data. -/
namespace Go.Gv
open Go
def GW.all (W:World):GW:={ w:=W,im:=fun b _=>b<W.heap.size,imo:=fun b=>∃ es c,W.heap[b]?=some (.map es c),nz:=True}
def plainTy:Ty→Bool
 | .int _=>true
 | .bool=>true
 | .str=>true
 | .sl t=>plainTy t
 | .nl=>true
 | .cs t r=>plainTy t && plainTy r
 | .st fs=>plainTy fs
 | .arr _ t=>plainTy t
 |_=>false
theorem cellsOf_tym {P:Program} {t:Ty} {T:TypeId} (h:tym P t T=true):P.cellsOf T=t.size:=by
 obtain ⟨i,hi,h1,_⟩:=tym_info h
 unfold Program.cellsOf
 rw [hi];exact h1
theorem cell_lt {w:World} {b o:Nat} {v:Value} (h:w.cell? ⟨b,o,none⟩=some v):b<w.heap.size:=by
 unfold World.cell? at h
 split at h
 · rename_i hb;exact (Array.getElem?_eq_some_iff.1 hb).1
 · cases h
theorem wf_has {k:IntKind} {n:Int} (h:(Lit.int k n).wf=true):k.has n:=by
 simpa [Lit.wf,IntKind.has] using h
theorem choose_list {α:Type} {p:Nat→α→Prop}:∀ (n:Nat),(∀ i,i<n→∃ x,p i x)→∃ l:List α,l.length=n∧∀ (i:Nat) (x:α),l[i]?=some x→p i x
 |0,_=>⟨[],rfl,fun i x h=>by simp at h⟩
 |n+1,h=>by
  obtain ⟨l,hl,hp⟩:=choose_list n (fun i hi=>h i (by omega))
  obtain ⟨x,hx⟩:=h n (by omega)
  refine ⟨l++[x],by simp [hl],fun i y hy=>?_⟩
  by_cases hi:i<l.length
  · rw [List.getElem?_append_left hi] at hy;exact hp i y hy
  · rw [List.getElem?_append_right (by omega)] at hy
    have hi2:i - l.length=0:=by
     have:=(List.getElem?_eq_some_iff.1 hy).1
     simp at this;omega
    rw [hi2] at hy
    simp at hy;subst hy
    have:i=n:=by omega
    rw [this];exact hx
section
variable {H:Type} {enc:TypeId × Value→H} {P:Program} {W:World}
mutual
theorem trod_rep:∀ (t:Ty),plainTy t=true→∀ (T:TypeId) (fuel:Nat) (cs:List Value) (x:DataW H × List MemPlace),tym P t T=true→DataW.trod enc P W 0 (fun _=>true) true fuel T cs=some x→∃ d:Dat t,Rep t d (GW.all W) cs
 | .int k,_,T,fuel,cs,x,hT,h=>by
  obtain ⟨n,rfl,_,hw⟩:=DataW.trod_int (und_int hT) h
  exact ⟨n,rfl,wf_has hw⟩
 | .bool,_,T,fuel,cs,x,hT,h=>by
  obtain ⟨b,rfl,_⟩:=DataW.trod_bool (und_bool hT) h
  exact ⟨b,by unfold Rep;rfl⟩
 | .str,_,T,fuel,cs,x,hT,h=>by
  obtain ⟨s,rfl,_,hl⟩:=DataW.trod_string (und_str hT) h
  exact ⟨s.data.toList,by cases s;rfl,hl⟩
 | .sl t,hp,T,fuel,cs,x,hT,h=>by
  obtain ⟨e,hue,hte,hsz⟩:=und_sl hT
  rcases Deep.open_slice hue h with ⟨rfl,_⟩|⟨a,len,cap,m,n,D,Pl,rfl,_,hlc,hcm,hm,_,hx⟩
  · exact ⟨[],none,0,rfl,Nat.le_refl _,Nat.zero_le _,fun _=>rfl,fun _ h=>by cases h⟩
  · have hmc:m=cap:=by simpa using hm
    subst hmc
    have hce:=cellsOf_tym hte
    have hpos:0<t.size:=by omega
    have hspot:0<m→a.spot=none:=fun hm0=>by
     obtain ⟨cs',h1,_⟩:=hx 0 hm0
     obtain ⟨_,hlen,hc⟩:=World.cells?_some h1
     have h0:=hc 0 (by rw [hce];exact hpos)
     rw [Nat.zero_mul,Addr.add_zero',Addr.add_zero'] at h0
     have hne:(W.cell? a).isSome=true:=by
      rw [h0,List.getElem?_eq_getElem (by rw [hlen,hce];exact hpos)];rfl
     unfold World.cell? at hne
     split at hne
     · split at hne
       · cases hne
       · rename_i hs;simpa using hs
     · cases hne
    have hcell:∀ i,i<m→∃ cs':List Value,CellsIm (GW.all W) a.block (a.off+i * t.size) cs'∧∃ y,DataW.trod enc P W 0 (fun _=>true) true n e cs'=some y:=fun i hi=>by
     obtain ⟨cs',h1,h2⟩:=hx i hi
     obtain ⟨_,hlen,hc⟩:=World.cells?_some h1
     refine ⟨cs',fun j v hv=>?_,_,h2⟩
     have hj:=(List.getElem?_eq_some_iff.1 hv).1
     have h3:=hc j (by rw [← hlen];exact hj)
     rw [addr_add a (hspot (by omega)),addr_add _ rfl,hv,hce] at h3
     exact ⟨cell_lt h3,h3⟩
    obtain ⟨xs,hxl,hxs⟩:=choose_list (p:=fun i (d:Dat t)=>∃ cs':List Value,CellsIm (GW.all W) a.block (a.off+i * t.size) cs'∧Rep t d (GW.all W) cs') len (fun i hi=>by
     obtain ⟨cs',h1,y,h2⟩:=hcell i (by omega)
     obtain ⟨d,hd⟩:=trod_rep t hp e n cs' y hte h2
     exact ⟨d,cs',h1,hd⟩)
    refine ⟨xs,some a,m,by rw [hxl],by rw [hxl];exact hlc,hcm,fun h=>(by cases h),fun a' ha'=>?_⟩
    cases ha'
    exact ⟨hspot,fun i d hd=>hxs i d hd⟩
 | .st fs,hp,T,fuel,cs,x,hT,h=>by
  obtain ⟨f,huf,htf⟩:=und_st hT
  obtain ⟨xs,n,_,_,hlen,hxl,hf⟩:=DataW.trod_struct huf h
  rw [cellsOf_tym hT] at hlen
  have hlen:cs.length=fs.size:=hlen
  obtain ⟨d,hd⟩:=trod_repF fs hp f.toList 0 n cs htf (by omega) (fun i fl hi=>by
   have hi':f[i]?=some fl:=by simpa using hi
   have hlt:i<xs.length:=by rw [hxl];exact (Array.getElem?_eq_some_iff.1 hi').1
   exact ⟨xs[i],by rw [hf i fl hi',List.getElem?_eq_getElem hlt]⟩)
  refine ⟨d,?_⟩
  rw [List.drop_zero,← hlen,List.take_length] at hd
  unfold Rep;exact hd
 | .arr n t,hp,T,fuel,cs,x,hT,h=>by
  obtain ⟨e,hue,hte,hsz⟩:=und_arr hT
  obtain ⟨xs,m,_,_,hlen,hxl,hx⟩:=DataW.trod_array hue h
  rw [cellsOf_tym hT] at hlen
  have hce:=cellsOf_tym hte
  obtain ⟨l,hl,hls⟩:=choose_list (p:=fun i (d:Dat t)=>Rep t d (GW.all W) ((cs.drop (i * t.size)).take t.size)) n (fun i hi=>by
   have:=hx i hi
   rw [hce,List.getElem?_eq_getElem (by omega)] at this
   exact trod_rep t hp e m _ _ hte this)
  exact ⟨l,hl,hlen,fun i d hd=>hls i d hd⟩
 | .nl,_,T,fuel,cs,x,hT,h=>by simp [tym] at hT
 | .cs _ _,_,T,fuel,cs,x,hT,h=>by simp [tym] at hT
 | .mp _ _,hp,T,fuel,cs,x,hT,h=>by cases hp
 | .pt _,hp,T,fuel,cs,x,hT,h=>by cases hp
 | .ot _,hp,T,fuel,cs,x,hT,h=>by cases hp
 | .fn,hp,T,fuel,cs,x,hT,h=>by cases hp
theorem trod_repF:∀ (fs:Ty),plainTy fs=true→∀ (l:List Field) (off fuel:Nat) (cs:List Value),tymF P fs l off=true→off+fs.size≤cs.length→
    (∀ (i:Nat) (f:Field),l[i]?=some f→∃ x,DataW.trod enc P W 0 (fun _=>true) true fuel f.type ((cs.drop f.offset).take (P.cellsOf f.type))=some x)→∃ d:Dat fs,Rep fs d (GW.all W) ((cs.drop off).take fs.size)
 | .nl,_,l,off,fuel,cs,ht,hl,hx=>⟨(),by unfold Rep;simp [Ty.size]⟩
 | .cs t r,hp,[],off,fuel,cs,ht,hl,hx=>by simp [tymF] at ht
 | .cs t r,hp,f::fl,off,fuel,cs,ht,hl,hx=>by
  simp only [tymF,Bool.and_eq_true,beq_iff_eq,bne_iff_ne] at ht
  obtain ⟨⟨⟨hoff,hsz⟩,hT⟩,hr⟩:=ht
  simp only [plainTy,Bool.and_eq_true] at hp
  obtain ⟨y,hy⟩:=hx 0 f rfl
  rw [hoff,cellsOf_tym hT] at hy
  obtain ⟨d1,h1⟩:=trod_rep t hp.1 f.type fuel _ y hT hy
  have hl':off+(t.size+r.size)≤cs.length:=hl
  obtain ⟨d2,h2⟩:=trod_repF r hp.2 fl (off+t.size) fuel cs hr (by omega) (fun i g hg=>hx (i+1) g (by simpa using hg))
  refine ⟨(d1,d2),_,_,?_,h1,h2⟩
  show (cs.drop off).take (t.size+r.size)=_
  rw [List.take_add,List.drop_drop]
 | .int _,_,l,off,fuel,cs,ht,hl,hx=>by simp [tymF] at ht
 | .bool,_,l,off,fuel,cs,ht,hl,hx=>by simp [tymF] at ht
 | .str,_,l,off,fuel,cs,ht,hl,hx=>by simp [tymF] at ht
 | .sl _,_,l,off,fuel,cs,ht,hl,hx=>by simp [tymF] at ht
 | .st _,_,l,off,fuel,cs,ht,hl,hx=>by simp [tymF] at ht
 | .arr _ _,_,l,off,fuel,cs,ht,hl,hx=>by simp [tymF] at ht
 | .mp _ _,_,l,off,fuel,cs,ht,hl,hx=>by simp [tymF] at ht
 | .pt _,_,l,off,fuel,cs,ht,hl,hx=>by simp [tymF] at ht
 | .ot _,_,l,off,fuel,cs,ht,hl,hx=>by simp [tymF] at ht
 | .fn,_,l,off,fuel,cs,ht,hl,hx=>by simp [tymF] at ht
end
end
end Go.Gv

/- A law: from its function's contract to its row. -/
namespace Go.Gv
open Go
theorem canon_none {s:Sh} (hn:nn s=0) (x:SDat s):canon s x=fun _=> .none:=by
 funext k
 exact canon_out s x (by omega)
def lawC (gl:Glob) (W:World):Ctx:={ G0:=GW.all W,F0:=fun _ _=>False,Fo0:=fun _=>False,glob:=gl,N:=0}
theorem law_inv {gl:Glob} {W:World} (hgl:∀ g t y,gl g=some ⟨t,y⟩→globOK t y (GW.all W) g):HInv (lawC gl W) (fun _=> .none) (fun _=>none) (GW.all W):={
 heap:=⟨fun _ _=>rfl,fun _ h=>(h rfl).elim,fun _ _ h=>(by cases h),fun _ _ h=>(by cases h),fun _ _ _ _ _ h=>(by cases h),fun _ _ _ _ _ h=>(by cases h),fun _ _ h=>h,fun _ ⟨es,c,e⟩=>⟨_,e, .inl ⟨es,c,rfl⟩⟩⟩
 step:=Step.refl _ _ _
 own:=fun _ _ h=>by cases h
 owno:=fun _ _ h=>by cases h
 glob:=hgl}
theorem law_calls {P:Program} {gl:Glob} {f:FuncId} {S:Spec} (hS:SpecOK P gl f S) {W:World} {args:List Value} {x:SDat S.ins} (hpre:S.pre x) (hnn:nn S.ins=0) (hargs:satT (intoA (fun k=>k) S.ins x 0) (fun _=>none) (GW.all W) args)
    (hgl:∀ g t y,gl g=some ⟨t,y⟩→globOK t y (GW.all W) g):
    ∃ A,S.alts[S.sel x]?=some A∧Calls P f args.toArray W (fun e W'=>∃ v,e= .returned v∧∃ β' G',G'.w=W'∧Step (fun _ _=>False) (fun _=>False) (GW.all W) G'∧sat (resA A.outs (A.res x) 0) β' G' v):=by
 obtain ⟨A,hA,hcall⟩:=hS.2 x hpre
 refine ⟨A,hA,?_⟩
 refine Calls.mono (hcall (lawC gl W) (fun _=>none) (GW.all W) args rfl (fun _=>trivial) (by rw [canon_none hnn];exact law_inv hgl) hargs) fun e w' hr=>?_
 cases e with
 |panicked _=>exact hr.elim
 |outgrown=>exact hr.elim
 |returned v=>
  obtain ⟨hp',β',G',L,vs,nx',y,os,ex',nx1',z,ms,ey,nx2,rfl,H2,lb,lg,rfl,hL,hfr',hfo,hfb,hnd2,hy,hz,hid⟩:=hr.ex
  obtain ⟨βx,Hx,lx,car,_⟩:=take_in H2 hfr' hfo
  obtain ⟨_,_,c3,_⟩:=car.go (fun k=>0+k) 0 (fun k=>(os[k]?).bind βx) (fun k h hk=>by simp [hk])
  refine ⟨resV vs,rfl,(fun k=>(os[k]?).bind βx),G',rfl,H2.step,?_⟩
  rw [← hy]
  exact resV_sat (s:=A.outs) hfo hL (m:=0) (c3 vs hL)
section
variable {H:Type} {enc:TypeId × Value→H} {P:Program}
theorem step_same {W:World} {G':GW} (h:Step (fun _ _=>False) (fun _=>False) (GW.all W) G'):∀ b,b<W.heap.size→G'.w.heap[b]?=W.heap[b]?:=
 fun b hb=>h.blk b hb (fun _ hf=>hf) (fun hf=>hf)
theorem keptBut_of_same {W W':World} (ho:W'.os=W.os) (hu:W'.output=W.output) (hb:∀ b,b<W.heap.size→W'.heap[b]?=W.heap[b]?) (may:MemPlace→Prop):W.keptBut W' may:=by
 refine ⟨ho,hu,fun i hi=>?_⟩
 rw [hb i hi]
 cases h:W.heap[i]? with
 |none=>simp
 |some o=>cases o<;>simp
theorem trodAll_carry {W W':World} {base:Nat} {spare:Nat→Bool} {held:Bool}:∀ {ts:List TypeId} {vs:List Value} {ds:List (DataW H)} {ps:List MemPlace},DataW.TrodAll enc P W base spare held ts vs ds ps→(∀ p∈ps,W.sameAt W' p)→DataW.TrodAll enc P W' base spare held ts vs ds ps
 |[],[],[],_,h,_=>h
 |_::_,_::_,_::_,_,⟨p,q,⟨n,h1⟩,h2,e⟩,hs=>⟨p,q,⟨n,DataW.trod_carry n _ _ _ h1 (fun x hx=>hs x (by rw [e];exact List.mem_append_left _ hx))⟩,trodAll_carry h2 (fun x hx=>hs x (by rw [e];exact List.mem_append_right _ hx)),e⟩
theorem law_post (hl:laidOutB P=true) (hm:mapsRowed P=true) (hfull:((List.range P.types.size).all fun t=>match P.underlying t with|some (.slice e)=>decide (0<P.cellsOf e)|_=>true)=true)
    {fn:Func} {s:ChangeSpec} {W:World} {args:Array Value} {ds gs:List (DataW H)} {before:List MemPlace} {apart fresh handsOn:Bool} (hW:DataW.Whole enc P fn.params.toList s.vars apart W args.toList ds gs before) (hvars:s.vars=[]) (hty:∀ t∈fn.params.toList,t<P.types.size) {tb:TypeId} (hres:fn.resultTypes=#[tb]) (htb:P.underlying tb=some .bool)
    (hfn:s.fn H ds={ results:=[.lit (.bool true)],args:=ds}) {G':GW} (h:Step (fun _ _=>False) (fun _=>False) (GW.all W) G'):s.post enc P fn apart fresh handsOn false W args (.bool true) G'.w:=by
 have hb:=step_same h
 have hW':=hW
 obtain ⟨p,q,hA,hV,rfl,_,_⟩:=hW
 rw [hvars] at hV
 have hgs:gs=[]∧q=[]:=by
  cases gs with
  |nil=>exact ⟨rfl,hV⟩
  |cons g r=>exact hV.elim
 obtain ⟨rfl,rfl⟩:=hgs
 have hlt:∀ x∈p,x.block<W.heap.size:=DataW.TrodAll.lt hA
 have hsame:∀ x∈p,W.sameAt G'.w x:=fun x hx=>by
  cases x with
  |cell b o=>
   show G'.w.cell? ⟨b,o,none⟩=W.cell? ⟨b,o,none⟩
   unfold World.cell?
   rw [hb b (hlt _ hx)]
  |map b=>exact hb b (hlt _ hx)
 have hA2:=trodAll_carry hA hsame
 refine ⟨ds,[],p++[],[],p,[],hW',?_,?_,?_,keptBut_of_same h.os h.output hb _,fun h=>by cases h⟩
 · rw [List.append_nil,hfn,hres]
   show DataW.TrodAll enc P G'.w _ _ _ [tb] [.bool true] [.lit (.bool true)] []
   exact ⟨[],[],⟨1,by simp [DataW.trod,htb,Value.cells]⟩,rfl,rfl⟩
 · rw [List.append_nil,hfn]
   exact DataW.TrodAll.respare (kids_rows hl hm) (slices_full_of P hfull) hty hA2 (fun x hx=>by simpa using hlt x hx)
 · rw [List.append_nil,hfn,hvars];rfl
end
end Go.Gv

/- Words for the use of the generator: contracts in a list, marks of a walk, small lemmas on lists and numbers. -/
namespace Go.Gv
open Go
theorem gv_more {p:Prop} (h:p):More p:=⟨h⟩
def Fl:List (Nat × Spec)→Specs
 |[],_=>[]
 |(m,S)::r,n=>match Nat.beq m n with
  |true=>S::Fl r n
  |false=>Fl r n
theorem SpecsOK.nil {P:Program} {gl:Glob} {nz:Bool}:SpecsOK P gl (Fl []) nz:=fun _ _ h=>by cases h
theorem SpecsOK.cons {P:Program} {gl:Glob} {m:Nat} {S:Spec} {r:List (Nat × Spec)} {nz:Bool} (h:SpecOK P gl m S) (k:SpecsOK P gl (Fl r) nz) (hz:S.noisy=true→nz=true:=by first|exact fun _=>rfl|exact fun h=>Bool.noConfusion (show false=true from h)):SpecsOK P gl (Fl ((m,S)::r)) nz:=fun g T hT=>by
 unfold Fl at hT
 split at hT
 · rename_i e
   rcases List.mem_cons.1 hT with rfl|hT
   · rw [← Nat.eq_of_beq_eq_true e];exact ⟨h,hz⟩
   · exact k g T hT
 · exact k g T hT
structure FnOK (P:Program) (f:Nat) (fn:Func) (n:Nat):Prop where
 at':P.funcs[f]?=some fn
 body:fn.body.isSome=true
 name : (fn.name == "runtime.NumGoroutine") = false
 tmps:fn.ntmps=n
theorem LateOK.triv {P:Program} {c:Cf} (h1:c.eat=fun _ _ _ _=>False) (h2:c.L=fun _=>[]) (h3:c.I=fun _=>[]):LateOK P c:=
 ⟨fun ts D ys E h=>by rw [h1] at h;exact h.elim,fun g S h=>(by rw [h2] at h;cases h),fun g S h=>(by rw [h3] at h;cases h)⟩
theorem mk_ok {P:Program} {c:Cf} {f:Nat} {fn:Func} {S:Spec} (hE:c.E.ok P=true) (hmix:P.follows .mixedOrders=true) (hfn:FnOK P f fn c.N) (hlen:shLen S.ins≤c.N) (hS:SpecsOK P c.gl c.F c.nz) (hsel:∀ x,S.pre x→S.sel x<S.alts.length)
    (hg:∀ x,S.pre x→shOK S.ins x→fnGoal c fn S x) (hnz:c.nz=true→S.noisy=true:=by first|exact fun _=>rfl|exact fun h=>Bool.noConfusion (show false=true from h))  (hL:LateOK P c:=by exact LateOK.triv rfl rfl rfl):SpecOK P c.gl f S:=
 spec_ok hE hS hL hmix hfn.at' hfn.body hfn.name hfn.tmps hlen hsel hg hnz
def Ll:List (Nat × LSpec)→Nat→List LSpec
 |[],_=>[]
 |(m,S)::r,n=>match Nat.beq m n with
  |true=>S::Ll r n
  |false=>Ll r n
def Il:List (Nat × ItSpec)→Nat→List ItSpec
 |[],_=>[]
 |(m,S)::r,n=>match Nat.beq m n with
  |true=>S::Il r n
  |false=>Il r n
def LsOK (P:Program) (gl:Glob) (L:Nat→List LSpec) (nz:Bool):Prop:=∀ g S,S∈L g→LSpecOK P gl g S∧(S.noisy=true→nz=true)
def IsOK (P:Program) (gl:Glob) (L:Nat→List ItSpec) (nz:Bool):Prop:=∀ g S,S∈L g→ItOK P gl g S∧(S.noisy=true→nz=true)
theorem LsOK.nil {P:Program} {gl:Glob} {nz:Bool}:LsOK P gl (Ll []) nz:=fun _ _ h=>by cases h
theorem IsOK.nil {P:Program} {gl:Glob} {nz:Bool}:IsOK P gl (Il []) nz:=fun _ _ h=>by cases h
theorem LsOK.cons {P:Program} {gl:Glob} {m:Nat} {S:LSpec} {r:List (Nat × LSpec)} {nz:Bool} (h:LSpecOK P gl m S) (k:LsOK P gl (Ll r) nz) (hz:S.noisy=true→nz=true:=by first|exact fun _=>rfl|exact fun h=>Bool.noConfusion (show false=true from h)):LsOK P gl (Ll ((m,S)::r)) nz:=fun g T hT=>by
 unfold Ll at hT
 split at hT
 · rename_i e
   rcases List.mem_cons.1 hT with rfl|hT
   · rw [← Nat.eq_of_beq_eq_true e];exact ⟨h,hz⟩
   · exact k g T hT
 · exact k g T hT
theorem IsOK.cons {P:Program} {gl:Glob} {m:Nat} {S:ItSpec} {r:List (Nat × ItSpec)} {nz:Bool} (h:ItOK P gl m S) (k:IsOK P gl (Il r) nz) (hz:S.noisy=true→nz=true:=by first|exact fun _=>rfl|exact fun h=>Bool.noConfusion (show false=true from h)):IsOK P gl (Il ((m,S)::r)) nz:=fun g T hT=>by
 unfold Il at hT
 split at hT
 · rename_i e
   rcases List.mem_cons.1 hT with rfl|hT
   · rw [← Nat.eq_of_beq_eq_true e];exact ⟨h,hz⟩
   · exact k g T hT
 · exact k g T hT
theorem LateOK.of {P:Program} {c:Cf} (h1:c.eat=Eats P) (h2:LsOK P c.gl c.L c.nz) (h3:IsOK P c.gl c.I c.nz):LateOK P c:=⟨fun _ _ _ _ _=>h1,h2,h3⟩
theorem mk_it {P:Program} {c:Cf} {f:Nat} {fn:Func} {S:ItSpec} (hE:c.E.ok P=true) (hmix:P.follows .mixedOrders=true) (hfn:FnOK P f fn c.N) (hlen:shLen S.caps+1≤c.N) (hS:SpecsOK P c.gl c.F c.nz) (hL:LateOK P c) (heat:c.eat=Eats P) (hres:fn.results.toList=[])
    (hg:∀ x,S.pre x.2→x.1.1=S.seq x.2→c.eat S.ts x.1.2.2 x.1.1 x.1.2.1→shOK (.cons (.ob (.log S.ts)) S.caps) x→fnGoalI c fn S x) (hnz:c.nz=true→S.noisy=true:=by first|exact fun _=>rfl|exact fun h=>Bool.noConfusion (show false=true from h)):ItOK P c.gl f S:=
 it_ok hE hS hL hmix hfn.at' hfn.body hfn.name hfn.tmps hlen hres heat hg hnz
structure Hd (p:Prop):Prop where
 out:p
def datLn:(t:Ty)→Dat t→Prop
 | .int k,n=>inRng k n
 | .str,s=>s.length≤maxLen
 | .sl _,xs=>List.length xs≤maxLen
 | .cs t r,x=>datLn t x.1∧datLn r x.2
 | .st fs,x=>datLn fs x
 | .arr n _,xs=>List.length xs=n
 |_,_=>True
theorem datLn_of:∀ (t:Ty) {x:Dat t},datOK t x→datLn t x
 | .int _,_,h=>h
 | .bool,_,_=>trivial
 | .str,_,h=>h
 | .sl _,_,h=>h.1
 | .nl,_,_=>trivial
 | .cs t r,_,h=>⟨datLn_of t h.1,datLn_of r h.2⟩
 | .st fs,_,h=>datLn_of fs (by unfold datOK at h;exact h)
 | .arr _ _,_,h=>h.1
 | .mp _ _,_,_=>trivial
 | .pt _,_,_=>trivial
 | .ot _,_,_=>trivial
 | .fn,_,_=>trivial
def shLn:(s:Sh)→SDat s→Prop
 | .d t,x=>datLn t x
 | .row t,xs=>datLn (.sl t) xs
 | .take t,xs=>datLn (.sl t) xs
 | .spare t,xs=>datLn (.sl t) xs
 | .map _ _,_=>True
 | .ob _,_=>True
 | .box cs,x=>shLn cs x
 | .clos _ cs,x=>shLn cs x
 | .agg cs,x=>shLn cs x
 | .self _ cs,x=>match lstS cs with
  |true=>shLn cs x
  |false=>True
 | .nilp,_=>True
 | .nils,_=>True
 | .nil,_=>True
 | .cons a b,x=>shLn a x.1∧shLn b x.2
theorem shLn_of:∀ (s:Sh) {x:SDat s},shOK s x→shLn s x
 | .d t,_,h=>datLn_of t h
 | .row t,_,h=>datLn_of (.sl t) h
 | .take t,_,h=>datLn_of (.sl t) h
 | .spare t,_,h=>datLn_of (.sl t) h
 | .map _ _,_,_=>trivial
 | .ob _,_,_=>trivial
 | .box cs,_,h=>shLn_of cs h
 | .clos _ cs,_,h=>shLn_of cs h
 | .agg cs,_,h=>shLn_of cs h
 | .self _ cs,x,h=>by
  unfold shOK at h
  unfold shLn
  split
  · rename_i hl;rw [hl] at h;exact shLn_of cs h
  · trivial
 | .nilp,_,_=>trivial
 | .nils,_,_=>trivial
 | .nil,_,_=>trivial
 | .cons a b,_,h=>⟨shLn_of a h.1,shLn_of b h.2⟩
theorem bF {p:Prop} (h:¬ p):false=boolOf p:=by rw [boolOf_false.2 h]
theorem bT {p:Prop} (h:p):true=boolOf p:=by rw [boolOf_true.2 h]
theorem bC {p q:Prop} (h:p↔q):boolOf p=boolOf q:=by rw [show p=q from propext h]
theorem nil_ok {P:Program} {c:Cf} {f:Nat} {fn:Func} {t:Ty} {S:Spec} (hE:c.E.ok P=true) (hmix:P.follows .mixedOrders=true) (hfn:FnOK P f fn c.N) (hS:SpecsOK P c.gl c.F c.nz) (hsel:∀ x,S.pre x→S.sel x<S.alts.length) (hins:S.ins= .cons (.d (.sl t)) .nil) (hN:0<c.N)
    (hg:∀ (x:SDat S.ins) (xs:List (Dat t)),HEq x (xs,())→S.pre x→shOK S.ins x→∀ X:AP,((X= .dat (.sl t) xs∧0<xs.length)∨(xs=[]∧X= .val (.slice none 0 0))∨∃ a k,xs=[]∧k≤maxLen∧(0<k→a.spot=none)∧X= .val (.slice (some a) 0 k))→
     wpA c (bodyOf fn) { sl:=[(0,⟨[],X⟩)],hp:=[],nx:=0} (fun e rs=>match e with
      | .ret=>retA c.E S x fn.results.toList rs
      | .normal=>retA c.E S x fn.results.toList rs
      |_=>False)) (hnz:c.nz=true→S.noisy=true:=by first|exact fun _=>rfl|exact fun h=>Bool.noConfusion (show false=true from h))  (hL:LateOK P c:=by exact LateOK.triv rfl rfl rfl):SpecOK P c.gl f S:=by
 obtain ⟨ins,pre,sel,alts,ro,noisy⟩:=S
 dsimp only at hins
 subst hins
 refine spec_ok_gen hE hS hL hmix hfn.at' hfn.body hfn.name hfn.tmps hN hsel (hnz:=hnz) fun x hpre hok β G args hargs=>?_
 obtain ⟨xs,⟨⟩⟩:=x
 have key:∃ v,args=[v]∧RepV (.sl t) xs G v:=by
  simp only [intoA] at hargs
  unfold satT at hargs
  obtain ⟨v,l,rfl,h1,h2⟩:=hargs
  unfold satT at h2
  subst h2
  unfold sat at h1
  exact ⟨v,rfl,h1⟩
 obtain ⟨v,rfl,hr⟩:=key
 have hr1:=hr.to_one rfl
 unfold Rep at hr1
 obtain ⟨base,cap,e,h1,h2,h3,h4⟩:=hr1
 simp only [List.cons.injEq,and_true] at e
 have fin:∀ X:AP,sat X β G v→∀ s p,lookN [(0,(⟨[],X⟩:PA))] s=some p→p.path=[]∧∃ v',[v][s]?=some v'∧sat p.ap β G v':=fun X hX s p hp=>by
  rw [lookN_cons] at hp
  split at hp
  · rename_i hs
    simp only [Option.some.injEq] at hp
    subst hp;subst hs
    exact ⟨rfl,v,rfl,hX⟩
  · cases hp
 have go:=fun X h=>hg (xs,()) xs HEq.rfl hpre hok X h
 by_cases hx:0<List.length xs
 · exact ⟨[(0,⟨[], .dat (.sl t) xs⟩)],fin _ (by unfold sat;exact hr),go _ (.inl ⟨rfl,hx⟩)⟩
 · have hx0:xs=[]:=List.eq_nil_of_length_eq_zero (by omega)
   subst hx0
   cases base with
   |none=>
    have hc:cap=0:=h3 rfl
    subst hc
    exact ⟨[(0,⟨[], .val (.slice none 0 0)⟩)],fin _ (by unfold sat;exact e),go _ (.inr (.inl ⟨rfl,rfl⟩))⟩
   |some a=>
    exact ⟨[(0,⟨[], .val (.slice (some a) 0 cap)⟩)],fin _ (by unfold sat;exact e),go _ (.inr (.inr ⟨a,cap,rfl,h2,(h4 a rfl).1,rfl⟩))⟩
theorem getD_ok {α:Type} {l:List α} {k:Nat} (d:α) (h:k<l.length):List.getD l k d=l[k]:=by
 rw [List.getD_eq_getElem?_getD,List.getElem?_eq_getElem h];rfl
theorem take_eq_step {α:Type} {a b:List α} {k:Nat} {d:α} (h:a.take k=b.take k) (ha:k<a.length) (hb:k<b.length) (he:List.getD a k d=List.getD b k d):a.take (k+1)=b.take (k+1):=by
 rw [getD_ok d ha,getD_ok d hb] at he
 rw [List.take_succ_eq_append_getElem ha,List.take_succ_eq_append_getElem hb,h,he]
theorem take_eq_end {α:Type} {a b:List α} {k:Nat} (h:a.take k=b.take k) (ha:a.length≤k) (hb:b.length≤k):a=b:=by
 rwa [List.take_of_length_le ha,List.take_of_length_le hb] at h
theorem all_step {α:Type} {p:α→Prop} {l:List α} {k:Nat} {d:α} (h:∀ x∈l.take k,p x) (hk:k<l.length) (hp:p (List.getD l k d)):∀ x∈l.take (k+1),p x:=by
 rw [getD_ok d hk] at hp
 intro x hx
 rw [List.take_succ_eq_append_getElem hk,List.mem_append] at hx
 rcases hx with hx|hx
 · exact h x hx
 · simp at hx;subst hx;exact hp
theorem all_end {α:Type} {p:α→Prop} {l:List α} {k:Nat} (h:∀ x∈l.take k,p x) (hk:l.length≤k):∀ x∈l,p x:=by rwa [List.take_of_length_le hk] at h
theorem getD_mem {α:Type} {l:List α} {k:Nat} {d:α} (hk:k<l.length):List.getD l k d∈l:=by rw [getD_ok d hk];exact List.getElem_mem hk
def selB (b:Bool):Nat:=if b=true then 1 else 0
theorem selB_0 {b:Bool}:selB b=0↔b=false:=by cases b<;>simp [selB]
theorem selB_1 {b:Bool}:selB b=1↔b=true:=by cases b<;>simp [selB]
theorem selB_lt (b:Bool):selB b<2:=by cases b<;>simp [selB]
theorem boolOf_eq_false {p:Prop}:boolOf p=false↔¬ p:=boolOf_false
theorem preA_t {ins:Sh} {p:Prop} {x:SDat ins} {hp:Nat→HObj} {ns:List Nat} {nx1:Nat} (h:p) (k:sameP hp (intoH (nmBack (idR (nn ins) 0) ns nx1) ins x 0 [])):preA true p x hp ns nx1:=⟨h,k⟩
theorem mget_none {α β:Type} [DecidableEq α] {x:α}:∀ {l:List (α × β)},mget l x=none↔∀ e∈l,e.1≠x
 |[]=>by simp [mget]
 |(k,v)::r=>by
  have:=mget_none (x:=x) (l:=r)
  unfold mget
  by_cases h:k=x
  · rw [if_pos h];simp [h]
  · rw [if_neg h,this];simp [h]
theorem mput_none {α β:Type} [DecidableEq α] {x:α} {y:β}:∀ {l:List (α × β)},mget l x=none→mput l x y=l++[(x,y)]
 |[],_=>rfl
 |(k,v)::r,h=>by
  unfold mget at h
  by_cases e:k=x
  · rw [if_pos e] at h;cases h
  · rw [if_neg e] at h
    unfold mput
    rw [if_neg e,mput_none h];rfl
theorem mget_mput {α β:Type} [DecidableEq α] {x z:α} {y:β}:∀ {l:List (α × β)},mget (mput l x y) z=if x=z then some y else mget l z
 |[]=>by simp [mput,mget]
 |(k,v)::r=>by
  unfold mput
  by_cases e:k=x
  · subst e
    rw [if_pos rfl]
    unfold mget
    by_cases e2:k=z
    · rw [if_pos e2,if_pos e2]
    · rw [if_neg e2,if_neg e2,if_neg e2]
  · rw [if_neg e]
    unfold mget
    by_cases e2:k=z
    · have:¬ x=z:=fun h=>e (by rw [e2,h])
      rw [if_pos e2,if_neg this,if_pos e2]
    · rw [if_neg e2,mget_mput (l:=r),if_neg e2]
theorem lt_step {p:Nat→Prop} {k:Nat} (h:∀ i,i<k→p i) (hk:p k):∀ i,i<k+1→p i:=fun i hi=>by
 by_cases e:i<k
 · exact h i e
 · have:i=k:=by omega
   rw [this];exact hk
end Go.Gv

/- Step by step: for each piece of code a lemma, so that goals stay small and the kernel compares little. -/
namespace Go.Gv
open Go
def thenK (c:Cf) (b:Code) (K:Ex→RS→Prop):Ex→RS→Prop:=fun e rs'=>match e with
 | .normal=>wpA c b rs' K
 |e=>K e rs'
def blockK (id:Nat) (K:Ex→RS→Prop):Ex→RS→Prop:=fun e rs'=>match e with
 | .exit i=>match Nat.beq i id with
  |true=>K .normal rs'
  |false=>K (.exit i) rs'
 |e=>K e rs'
def loopK (S B:List (Nat × Sh)) (inv:SDat (shL S B)→Prop) (μ:SDat (shL S B)→Nat) (x:SDat (shL S B)) (nx:Nat) (l:List Nat) (K:Ex→RS→Prop):Ex→RS→Prop:=fun e rs'=>match e with
 | .normal=>match loopIn S B rs',wrOK (keysS B) nx rs'.wr with
  |some ⟨x',ns',_,_⟩,true=>match wrOK (keysS B) nx ns' with
   |true=>inv x'∧μ x'<μ x
   |false=>False
  |_,_=>False
 |e=>K e (addWr l rs')
def retK (E:Env) (S:Spec) (x:SDat S.ins) (rl:List ResultVar):Ex→RS→Prop:=fun e rs=>match e with
 | .ret=>retA E S x rl rs
 | .normal=>retA E S x rl rs
 |_=>False
def condK (c:Cf) (X:AP) (a b:Code) (rs:RS) (K:Ex→RS→Prop):Prop:=match X with
 | .blit true=>wpA c a rs K
 | .blit false=>wpA c b rs K
 |X=>match propOf X with
  |some p=>(p→More (wpA c a rs K))∧(¬ p→More (wpA c b rs K))
  |none=>False
def headK (rs:RS) (Q:RS→Prop):Prop:=∀ K':RS→Prop,(∀ rs',Q rs'→K' rs')→forceRS rs K'
noncomputable def loopG (c:Cf) (S B:List (Nat × Sh)) (inv:SDat (shL S B)→Prop) (μ:SDat (shL S B)→Nat) (b:Code) (rs:RS) (K:Ex→RS→Prop):Prop:=
 match loopIn S B rs with
 |some ⟨x0,ns,_,_⟩=>inv x0∧∀ x,inv x→More (headK (loopHead S B (dsts b []) rs ns x) (fun rs'=>wpA c b rs' (loopK S B inv μ x rs.nx (keysS B++ns++rs.wr) K)))
 |none=>False
section
variable {c:Cf} {rs:RS} {K:Ex→RS→Prop} {a b:Code}
theorem w_seq (h:wpA c a rs (thenK c b K)):wpA c (.seq a b) rs K:=h
theorem w_skip (h:K .normal rs):wpA c .skip rs K:=h
theorem w_label {l:Nat} (h:K .normal rs):wpA c (.label l) rs K:=h
theorem w_exit {i:Nat} (h:K (.exit i) rs):wpA c (.exit i) rs K:=h
theorem w_ret (h:K .ret rs):wpA c .ret rs K:=h
theorem w_block {id:Nat} (h:wpA c b rs (blockK id K)):wpA c (.block id b) rs K:=h
theorem w_cond {x:Operand} (h:condK c (opA c.gl rs.slf [] x) a b rs K):wpA c (.cond x a b) rs K:=h
theorem w_region {id:Nat} {ops:Array Oper} {draw:Bool} (h:∀ K':RS→Prop,(∀ rs',K .normal rs'→K' rs')→regA c ops.toList draw rs K'):wpA c (.region id ops draw) rs K:=h _ (fun _ h=>h)
theorem condK_t (h:wpA c a rs K):condK c (.blit true) a b rs K:=h
theorem condK_f (h:wpA c b rs K):condK c (.blit false) a b rs K:=h
theorem condK_p {p:Prop} (h1:p→More (wpA c a rs K)) (h2:¬ p→More (wpA c b rs K)):condK c (.dec p) a b rs K:=⟨h1,h2⟩
theorem condK_b {x:Bool} (h1:x=true→More (wpA c a rs K)) (h2:¬ x=true→More (wpA c b rs K)):condK c (.dat .bool x) a b rs K:=⟨h1,h2⟩
theorem thenK_n (h:wpA c b rs K):thenK c b K .normal rs:=h
theorem thenK_e {i:Nat} (h:K (.exit i) rs):thenK c b K (.exit i) rs:=h
theorem thenK_r (h:K .ret rs):thenK c b K .ret rs:=h
theorem blockK_n {id:Nat} (h:K .normal rs):blockK id K .normal rs:=h
theorem blockK_r {id:Nat} (h:K .ret rs):blockK id K .ret rs:=h
theorem blockK_x {id:Nat} (h:K .normal rs):blockK id K (.exit id) rs:=by
 unfold blockK
 simp only [Nat.beq_refl]
 exact h
theorem blockK_y {id i:Nat} (hb:Nat.beq i id=false) (h:K (.exit i) rs):blockK id K (.exit i) rs:=by
 unfold blockK
 simp only [hb]
 exact h
theorem w_head {Q:RS→Prop} (h:∀ K':RS→Prop,(∀ rs',Q rs'→K' rs')→forceRS rs K'):headK rs Q:=h
theorem w_loop (S B:List (Nat × Sh)) (inv:SDat (shL S B)→Prop) (μ:SDat (shL S B)→Nat) (h:loopG c S B inv μ b rs K):wpA c (.loop b) rs K:=by
 unfold wpA
 refine ⟨S,B,inv,μ,?_⟩
 unfold loopG at h
 split at h
 · rename_i x0 ns ex n hin
   rw [hin]
   exact ⟨h.1,fun x hx=>⟨(h.2 x hx).out _ fun _ h=>h⟩⟩
 · exact h.elim
theorem loopK_e {S B:List (Nat × Sh)} {inv:SDat (shL S B)→Prop} {μ:SDat (shL S B)→Nat} {x:SDat (shL S B)} {nx0:Nat} {l:List Nat} {i:Nat} {sl:List (Nat × PA)} {hp:List (Nat × HObj)} {nx:Nat} {gd:List (Nat × (Prop × Path))} {vc:List Prop} {tr:List (List Nat × List Nat)} {wr:List Nat}
    (h:K (.exit i) ⟨sl,hp,nx,gd,vc,tr,wr++l⟩):loopK S B inv μ x nx0 l K (.exit i) ⟨sl,hp,nx,gd,vc,tr,wr⟩:=h
theorem loopK_r {S B:List (Nat × Sh)} {inv:SDat (shL S B)→Prop} {μ:SDat (shL S B)→Nat} {x:SDat (shL S B)} {nx0:Nat} {l:List Nat} {sl:List (Nat × PA)} {hp:List (Nat × HObj)} {nx:Nat} {gd:List (Nat × (Prop × Path))} {vc:List Prop} {tr:List (List Nat × List Nat)} {wr:List Nat}
    (h:K .ret ⟨sl,hp,nx,gd,vc,tr,wr++l⟩):loopK S B inv μ x nx0 l K .ret ⟨sl,hp,nx,gd,vc,tr,wr⟩:=h
theorem retK_r {E:Env} {S:Spec} {x:SDat S.ins} {rl:List ResultVar} (h:retA E S x rl rs):retK E S x rl .ret rs:=h
theorem retK_n {E:Env} {S:Spec} {x:SDat S.ins} {rl:List ResultVar} (h:retA E S x rl rs):retK E S x rl .normal rs:=h
theorem fn_goal {f:Func} {S:Spec} {x:SDat S.ins} (h:headK { sl:=argsSl S.ins x,hp:=intoH (fun k=>k) S.ins x 0 [],nx:=nn S.ins} (fun rs=>wpA c (bodyOf f) rs (retK c.E S x f.results.toList))):fnGoal c f S x:=by
 unfold fnGoal
 refine h _ fun rs hrs=>?_
 revert hrs
 unfold retK
 exact id
theorem rfA_n {W:RS→Prop} (h:W rs):rfA W .normal rs:=h
theorem rfK_e {B:List (Nat × Sh)} {sl0:List (Nat × PA)} {hp0:List (Nat × HObj)} {nx0:Nat} {gd0:List (Nat × (Prop × Path))} {vc0:List Prop} {tr0:List (List Nat × List Nat)} {wr0:List Nat} {ns:List Nat} {inv:SDat (shB B)→Prop} {i:Nat} {sl:List (Nat × PA)} {hp:List (Nat × HObj)} {nx:Nat} {gd:List (Nat × (Prop × Path))} {vc:List Prop} {tr:List (List Nat × List Nat)} {wr:List Nat}
    (h:K (.exit i) ⟨sl0,hp,nx,gd,vc,tr,wr++(keysS B++ns++wr0)⟩):rfK B ⟨sl0,hp0,nx0,gd0,vc0,tr0,wr0⟩ ns inv K (.exit i) ⟨sl,hp,nx,gd,vc,tr,wr⟩:=h
theorem rfK_r {B:List (Nat × Sh)} {sl0:List (Nat × PA)} {hp0:List (Nat × HObj)} {nx0:Nat} {gd0:List (Nat × (Prop × Path))} {vc0:List Prop} {tr0:List (List Nat × List Nat)} {wr0:List Nat} {ns:List Nat} {inv:SDat (shB B)→Prop} {sl:List (Nat × PA)} {hp:List (Nat × HObj)} {nx:Nat} {gd:List (Nat × (Prop × Path))} {vc:List Prop} {tr:List (List Nat × List Nat)} {wr:List Nat}
    (h:K .ret ⟨sl0,hp,nx,gd,vc,tr,wr++(keysS B++ns++wr0)⟩):rfK B ⟨sl0,hp0,nx0,gd0,vc0,tr0,wr0⟩ ns inv K .ret ⟨sl,hp,nx,gd,vc,tr,wr⟩:=h
def rfE (l:List Nat) (K:Ex→RS→Prop) (rs:RS):Prop:=K .normal (addWr l rs)
theorem rfE_at {l:List Nat} {sl:List (Nat × PA)} {hp:List (Nat × HObj)} {nx:Nat} {gd:List (Nat × (Prop × Path))} {vc:List Prop} {tr:List (List Nat × List Nat)} {wr:List Nat} (h:K .normal ⟨sl,hp,nx,gd,vc,tr,wr++l⟩):rfE l K ⟨sl,hp,nx,gd,vc,tr,wr⟩:=h
noncomputable def rfG (c:Cf) (asg b:Code) (ps:List Nat) (ts:List Ty) (zs:List (TDat ts)) (B:List (Nat × Sh)) (inv:List (TDat ts)→SDat (shB B)→Prop) (rs:RS) (K:Ex→RS→Prop):Prop:=
 match loopIn [] B rs with
 |some ⟨x0,ns,_,_⟩=>inv zs x0.2∧(∀ y r x,inv (y::r) x→More (headK (roundHead ts B ps rs ns y ((),x)) (fun rsH=>wpA c asg rsH (rfA (fun rs1=>wpA c b rs1 (rfK B rs ns (inv r) K))))))∧
    ∀ x,inv [] x→More (headK (loopHead [] B [] rs ns ((),x)) (rfE (keysS B++ns++rs.wr) K))
 |none=>False
theorem w_rf {g:Operand} {ps:Array Tmp} {f:FuncId} {caps:AP} {l:List AP} {Is:List ItSpec} (I:ItSpec) {z:SDat I.caps} {nxz:Nat} (B:List (Nat × Sh)) (inv:List (TDat I.ts)→SDat (shB B)→Prop) (h1:opA c.gl rs.slf [] g= .clos f caps) (h2:unlistA caps=some l) (h3:c.I f=I::Is) (h4:fromA rs.hpf I.caps (listA l) rs.nx=some ⟨z,[],[],nxz⟩)
    (h5:psOK c.N ps.toList I.ts=true) (h6:noRF a=true) (h7:noRF b=true) (hp:I.pre z) (h:rfG c a b ps.toList I.ts (I.seq z) B inv rs K):wpA c (.rangeFunc g ps a b) rs K:=by
 unfold wpA
 rw [h1]
 dsimp only
 rw [h2,h3]
 dsimp only
 rw [h4,h5,h6,h7]
 refine ⟨hp,B,inv,?_⟩
 unfold rfG at h
 split at h
 · rename_i x0 ns ex n hin
   rw [hin]
   exact ⟨h.1,fun y r x hx=>⟨(h.2.1 y r x hx).out _ fun _ h=>h⟩,fun x hx=>⟨(h.2.2 x hx).out _ fun _ h=>h⟩⟩
 · exact h.elim
def retLK (E:Env) (S:LSpec) (x:SDat S.ins) (rl:List ResultVar):Ex→RS→Prop:=fun e rs=>match e with
 | .ret=>retL E S x rl rs
 | .normal=>retL E S x rl rs
 |_=>False
theorem retLK_r {E:Env} {S:LSpec} {x:SDat S.ins} {rl:List ResultVar} (h:retL E S x rl rs):retLK E S x rl .ret rs:=h
theorem retLK_n {E:Env} {S:LSpec} {x:SDat S.ins} {rl:List ResultVar} (h:retL E S x rl rs):retLK E S x rl .normal rs:=h
theorem fnL_goal {f:Func} {S:LSpec} {x:SDat S.ins} (h:headK { sl:=argsSl S.ins x,hp:=intoH (fun k=>k) S.ins x 0 [],nx:=nn S.ins} (fun rs=>wpA c (bodyOf f) rs (retLK c.E S x f.results.toList))):fnGoalL c f S x:=by
 unfold fnGoalL
 refine h _ fun rs hrs=>?_
 revert hrs
 unfold retLK
 exact id
noncomputable def retIK (c:Cf) (ts:List Ty) (D:Eater→Prop):Ex→RS→Prop:=fun e rs=>match e with
 | .ret=>retI c ts D rs
 | .normal=>retI c ts D rs
 |_=>False
theorem retIK_r {ts:List Ty} {D:Eater→Prop} (h:retI c ts D rs):retIK c ts D .ret rs:=h
theorem retIK_n {ts:List Ty} {D:Eater→Prop} (h:retI c ts D rs):retIK c ts D .normal rs:=h
theorem w_it {ts:List Ty} {D:Eater→Prop} (h:Nat) (ys:List (TDat ts)) (E':Eater) (h1:rs.hpf h= .ob (.log ts) (ys,E',D)) (h2:ys=[]∧c.eat ts D ys E'):retI c ts D rs:=⟨h,E',by rw [h1,h2.1],h2.1 ▸ h2.2⟩
theorem fnI_goal {f:Func} {S:ItSpec} {x:SDat (.cons (.ob (.log S.ts)) S.caps)} (h:headK { sl:=argsSl (.cons (.ob (.log S.ts)) S.caps) x,hp:=intoH (fun k=>k) (.cons (.ob (.log S.ts)) S.caps) x 0 [],nx:=nn (.cons (.ob (.log S.ts)) S.caps)} (fun rs=>wpA c (bodyOf f) rs (retIK c S.ts x.1.2.2))):fnGoalI c f S x:=by
 unfold fnGoalI
 refine h _ fun rs hrs=>?_
 revert hrs
 unfold retIK
 exact id
end
end Go.Gv

/- Short words: steps of a walk found by their form, and facts put together. -/
namespace Go.Gv
open Go
class Stp (p:Prop) (q:outParam Prop):Prop where
 out:q→p
theorem st {p q:Prop} [s:Stp p q] (h:q):p:=s.out h
class Stw (p:Prop) (q:outParam Prop):Prop where
 out:q→p
theorem sw {p q:Prop} [s:Stw p q] (h:q):p:=s.out h
class Str (p:Prop) (q:outParam Prop):Prop where
 out:q→p
theorem sr {p q:Prop} [s:Str p q] (h:q):p:=s.out h
theorem dsc {p:Prop} (h:p:=by first|exact trivial|rfl|omega|exact boolOf_eq _|(simp only [allP,lo,hi,room,true_and,and_true,implies_true];done)|fail):p:=h
theorem sameP_t {p:Prop} (h:p:=by first|((repeat (first|exact trivial|((conv=>whnf);refine And.intro (by rfl) ?_)));done)|fail):p:=h
class NL (p:Prop):Prop where
 out:True
theorem nl {p:Prop} [NL p] (h:p):p:=h
class An (p:Prop) (a b:outParam Prop):Prop where
 out:a→b→p
theorem an {p a b:Prop} [s:An p a b] (x:a) (y:b):p:=s.out x y
instance {a b:Prop}:An (a∧b) a b:=⟨And.intro⟩
class Gm (p:Prop) (q:outParam Prop):Prop where
 out:q→p
theorem gm {p q:Prop} [s:Gm p q] (h:q):p:=s.out h
instance {p:Prop}:Gm (More p) p:=⟨gv_more⟩
class Cd (p:Prop) (q:outParam Prop):Prop where
 out:q→p
theorem cd {p q:Prop} [s:Cd p q] (h:q):p:=s.out h
section
variable {c:Cf} {rs:RS} {K:Ex→RS→Prop} {a b:Code}
instance {x:Operand}:Cd (wpA c (.cond x a b) rs K) (condK c (opA c.gl rs.slf [] x) a b rs K):=⟨w_cond⟩
instance:NL (wpA c a rs K):=⟨trivial⟩
instance {ins:Sh} {q:Nat→Alt ins→Prop}:NL (∃ (k:Nat) (A:Alt ins),q k A):=⟨trivial⟩
instance:Stp (wpA c (.seq a b) rs K) (wpA c a rs (thenK c b K)):=⟨w_seq⟩
instance:Stp (thenK c b K .normal rs) (wpA c b rs K):=⟨thenK_n⟩
instance {id:Nat}:Stp (wpA c (.block id b) rs K) (wpA c b rs (blockK id K)):=⟨w_block⟩
instance {id:Nat}:Stp (blockK id K .normal rs) (K .normal rs):=⟨blockK_n⟩
instance:Stp (wpA c .skip rs K) (K .normal rs):=⟨w_skip⟩
instance {i:Nat}:Stp (wpA c (.exit i) rs K) (K (.exit i) rs):=⟨w_exit⟩
instance:Stp (wpA c .ret rs K) (K .ret rs):=⟨w_ret⟩
instance:Stp (thenK c b K .ret rs) (K .ret rs):=⟨thenK_r⟩
instance {i:Nat}:Stp (thenK c b K (.exit i) rs) (K (.exit i) rs):=⟨thenK_e⟩
instance {id:Nat}:Stp (blockK id K .ret rs) (K .ret rs):=⟨blockK_r⟩
instance {id:Nat}:Stp (blockK id K (.exit id) rs) (K .normal rs):=⟨blockK_x⟩
instance {S B:List (Nat × Sh)} {inv:SDat (shL S B)→Prop} {μ:SDat (shL S B)→Nat} {x:SDat (shL S B)} {nx0:Nat} {l:List Nat} {sl:List (Nat × PA)} {hp:List (Nat × HObj)} {nx:Nat} {gd:List (Nat × (Prop × Path))} {vc:List Prop} {tr:List (List Nat × List Nat)} {wr:List Nat}:Stp (loopK S B inv μ x nx0 l K .ret ⟨sl,hp,nx,gd,vc,tr,wr⟩) (K .ret ⟨sl,hp,nx,gd,vc,tr,wr++l⟩):=⟨loopK_r⟩
instance {S B:List (Nat × Sh)} {inv:SDat (shL S B)→Prop} {μ:SDat (shL S B)→Nat} {x:SDat (shL S B)} {nx0:Nat} {l:List Nat} {i:Nat} {sl:List (Nat × PA)} {hp:List (Nat × HObj)} {nx:Nat} {gd:List (Nat × (Prop × Path))} {vc:List Prop} {tr:List (List Nat × List Nat)} {wr:List Nat}:Stp (loopK S B inv μ x nx0 l K (.exit i) ⟨sl,hp,nx,gd,vc,tr,wr⟩) (K (.exit i) ⟨sl,hp,nx,gd,vc,tr,wr++l⟩):=⟨loopK_e⟩
instance {l:Nat}:Stp (wpA c (.label l) rs K) (K .normal rs):=⟨w_label⟩
instance {W:RS→Prop}:Stp (rfA W .normal rs) (W rs):=⟨rfA_n⟩
instance {B:List (Nat × Sh)} {sl0:List (Nat × PA)} {hp0:List (Nat × HObj)} {nx0:Nat} {gd0:List (Nat × (Prop × Path))} {vc0:List Prop} {tr0:List (List Nat × List Nat)} {wr0:List Nat} {ns:List Nat} {inv:SDat (shB B)→Prop} {i:Nat} {sl:List (Nat × PA)} {hp:List (Nat × HObj)} {nx:Nat} {gd:List (Nat × (Prop × Path))} {vc:List Prop} {tr:List (List Nat × List Nat)} {wr:List Nat}:Stp (rfK B ⟨sl0,hp0,nx0,gd0,vc0,tr0,wr0⟩ ns inv K (.exit i) ⟨sl,hp,nx,gd,vc,tr,wr⟩) (K (.exit i) ⟨sl0,hp,nx,gd,vc,tr,wr++(keysS B++ns++wr0)⟩):=⟨rfK_e⟩
instance {B:List (Nat × Sh)} {sl0:List (Nat × PA)} {hp0:List (Nat × HObj)} {nx0:Nat} {gd0:List (Nat × (Prop × Path))} {vc0:List Prop} {tr0:List (List Nat × List Nat)} {wr0:List Nat} {ns:List Nat} {inv:SDat (shB B)→Prop} {sl:List (Nat × PA)} {hp:List (Nat × HObj)} {nx:Nat} {gd:List (Nat × (Prop × Path))} {vc:List Prop} {tr:List (List Nat × List Nat)} {wr:List Nat}:Stp (rfK B ⟨sl0,hp0,nx0,gd0,vc0,tr0,wr0⟩ ns inv K .ret ⟨sl,hp,nx,gd,vc,tr,wr⟩) (K .ret ⟨sl0,hp,nx,gd,vc,tr,wr++(keysS B++ns++wr0)⟩):=⟨rfK_r⟩
instance {l:List Nat} {sl:List (Nat × PA)} {hp:List (Nat × HObj)} {nx:Nat} {gd:List (Nat × (Prop × Path))} {vc:List Prop} {tr:List (List Nat × List Nat)} {wr:List Nat}:Stp (rfE l K ⟨sl,hp,nx,gd,vc,tr,wr⟩) (K .normal ⟨sl,hp,nx,gd,vc,tr,wr++l⟩):=⟨rfE_at⟩
instance {E:Env} {S:LSpec} {x:SDat S.ins} {rl:List ResultVar}:Stp (retLK E S x rl .ret rs) (retL E S x rl rs):=⟨retLK_r⟩
instance {E:Env} {S:LSpec} {x:SDat S.ins} {rl:List ResultVar}:Stp (retLK E S x rl .normal rs) (retL E S x rl rs):=⟨retLK_n⟩
instance {ts:List Ty} {D:Eater→Prop}:Stp (retIK c ts D .ret rs) (retI c ts D rs):=⟨retIK_r⟩
instance {ts:List Ty} {D:Eater→Prop}:Stp (retIK c ts D .normal rs) (retI c ts D rs):=⟨retIK_n⟩
instance {p:Prop}:Stp (condK c (.dec p) a b rs K) ((p→More (wpA c a rs K))∧(¬ p→More (wpA c b rs K))):=⟨fun h=>condK_p h.1 h.2⟩
instance {x:Bool}:Stp (condK c (.dat .bool x) a b rs K) ((x=true→More (wpA c a rs K))∧(¬ x=true→More (wpA c b rs K))):=⟨fun h=>condK_b h.1 h.2⟩
instance {id:Nat} {ops:Array Oper} {draw:Bool}:Str (wpA c (.region id ops draw) rs K) (∀ K':RS→Prop,(∀ rs',K .normal rs'→K' rs')→regA c ops.toList draw rs K'):=⟨w_region⟩
instance {Q:RS→Prop}:Str (headK rs Q) (∀ K':RS→Prop,(∀ rs',Q rs'→K' rs')→forceRS rs K'):=⟨w_head⟩
instance {S B:List (Nat × Sh)} {inv:SDat (shL S B)→Prop} {μ:SDat (shL S B)→Nat} {x:SDat (shL S B)} {nx:Nat} {l:List Nat}:Stw (loopK S B inv μ x nx l K .normal rs) (loopK S B inv μ x nx l K .normal rs):=⟨id⟩
instance {E:Env} {S:Spec} {x:SDat S.ins} {rl:List ResultVar}:Stw (retK E S x rl .ret rs) (retA E S x rl rs):=⟨retK_r⟩
instance {E:Env} {S:Spec} {x:SDat S.ins} {rl:List ResultVar}:Stw (retK E S x rl .normal rs) (retA E S x rl rs):=⟨retK_n⟩
instance {B:List (Nat × Sh)} {rs0:RS} {ns:List Nat} {inv:SDat (shB B)→Prop}:Stw (rfK B rs0 ns inv K .normal rs) (rfK B rs0 ns inv K .normal rs):=⟨id⟩
instance:Stp (condK c (.blit true) a b rs K) (wpA c a rs K):=⟨condK_t⟩
instance:Stp (condK c (.blit false) a b rs K) (wpA c b rs K):=⟨condK_f⟩
end
theorem LS:(∀ n:Nat,Int.toNat (n:Int)=n)∧(Int.toNat 0=0)∧(Int.toNat 1=1)∧(∀ p:Prop,(¬ ¬ p)=p)∧(∀ p:Prop,(boolOf p=true)=p)∧(∀ (p:Prop) [Decidable p],(decide p=true)=p)∧(∀ (p:Prop) [Decidable p],(decide p=false)=¬ p)
    ∧(∀ {α:Type} (a b:α),(a≠b)=¬ a=b)∧(∀ p:Prop,(True→p)=p)∧((¬ True)=False)∧((¬ False)=True)∧(∀ b:Bool,(¬ b=true)=(b=false))∧(∀ {α β:Type} (a a':α) (b b':β),((a,b)=(a',b'))=(a=a'∧b=b'))∧(∀ p:Prop,(p∧True)=p)∧(∀ p:Prop,(True∧p)=p)
    ∧(∀ (α:Type) [Nonempty α] (p:Prop),(α→p)=p)∧(∀ {ins:Sh} {p:Prop} {x:SDat ins} {hp:Nat→HObj} {ns:List Nat} {nx1:Nat},preA false p x hp ns nx1=p)∧(∀ b:Bool,(selB b=0)=(b=false))∧(∀ b:Bool,(selB b=1)=(b=true))∧(∀ p:Prop,(boolOf p=false)=¬ p)
    ∧(∀ {α:Type} (d x:α),(List.replicate 1 d).set 0 x=[x])∧(∀ {α:Type} (d x y:α),((List.replicate 2 d).set 0 x).set 1 y=[x,y])∧(∀ {α:Type} (d x y z:α),(((List.replicate 3 d).set 0 x).set 1 y).set 2 z=[x,y,z])
    ∧(∀ {α:Type} (l:List α) (n:Nat) (x:α),(l.set n x).length=l.length)∧(∀ {α:Type} (l m:List α),(l++m).length=l.length+m.length)∧(∀ {α β:Type} (f:α→β) (l:List α),(l.map f).length=l.length)∧(∀ {α:Type} (x:α) (l:List α),(x::l).length=l.length+1)∧(∀ {α:Type},([]:List α).length=0)∧(∀ {α:Type} (n:Nat) (x:α),(List.replicate n x).length=n)
    ∧(∀ n:Nat,0+n=n)∧(∀ n:Nat,n+0=n):=by
 refine ⟨fun _=>rfl,rfl,rfl,fun _=>propext Classical.not_not,fun _=>propext boolOf_true,fun _ _=>propext decide_eq_true_iff,fun _ _=>propext decide_eq_false_iff_not,fun _ _=>rfl,fun _=>propext ⟨fun h=>h trivial,fun h _=>h⟩,by simp,by simp,fun _=>by simp,fun _ _ _ _=>by simp,fun _=>by simp,fun _=>by simp,
  fun _ _ _=>by simp,rfl,fun _=>propext selB_0,fun _=>propext selB_1,fun _=>propext boolOf_eq_false,fun _ _=>rfl,fun _ _ _=>rfl,fun _ _ _ _=>rfl,fun _ _ _=>by simp,fun _ _=>by simp,fun _ _=>by simp,fun _ _=>rfl,rfl,fun _ _=>by simp,fun _=>by simp,fun _=>rfl⟩
end Go.Gv

/- Decimal numerals: each is that of one number alone; a list of numerals, parted by signs that are no digits. No program in this text. -/
namespace Go.Gv
open Go Go.Lib
theorem dec_dig (u:Nat):∀ b∈decDigits u,48≤b.toNat∧b.toNat≤57:=by
 induction u using Nat.strongRecOn with
 |_ u ih=>
  intro b hb
  by_cases h:u<10
  · rw [decDigits,dif_pos h] at hb
    simp at hb;subst hb
    simp;omega
  · rw [decDigits,dif_neg h,List.mem_append] at hb
    rcases hb with hb|hb
    · exact ih (u / 10) (by omega) b hb
    · simp at hb;subst hb
      simp;omega
def decVal (l:List UInt8):Nat:=l.foldl (fun a b=>a * 10+(b.toNat - 48)) 0
theorem dec_val (u:Nat):decVal (decDigits u)=u:=by
 induction u using Nat.strongRecOn with
 |_ u ih=>
  by_cases h:u<10
  · rw [decDigits,dif_pos h]
    simp [decVal];omega
  · rw [decDigits,dif_neg h]
    have:=ih (u / 10) (by omega)
    unfold decVal at this ⊢
    rw [List.foldl_append,this]
    simp;omega
theorem dec_inj {u v:Nat} (h:decDigits u=decDigits v):u=v:=by rw [← dec_val u,h,dec_val]
theorem itoa_ch (n:Int):∀ b∈itoa n,b.toNat=45∨(48≤b.toNat∧b.toNat≤57):=by
 intro b hb
 unfold itoa at hb
 split at hb
 · rcases List.mem_cons.1 hb with rfl|hb
   · exact .inl rfl
   · exact .inr (dec_dig _ b hb)
 · exact .inr (dec_dig _ b hb)
theorem itoa_not {n:Int} {b:UInt8} (h:b∈itoa n):b≠44∧b≠46∧b≠42∧b≠94∧b≠120∧b≠32∧b≠43:=by
 have:=itoa_ch n b h
 refine ⟨?_,?_,?_,?_,?_,?_,?_⟩<;>(rintro rfl;revert this;decide)
theorem itoa_inj {m n:Int} (h:itoa m=itoa n):m=n:=by
 unfold itoa at h
 have key:∀ u v:Nat,(45:UInt8)::decDigits u≠decDigits v:=fun u v e=>by
  have:=dec_dig v 45 (by rw [← e];exact List.mem_cons_self)
  revert this;decide
 split at h<;>split at h
 · have:=dec_inj (List.cons.inj h).2;omega
 · exact (key _ _ h).elim
 · exact (key _ _ h.symm).elim
 · have:=dec_inj h;omega
theorem split_sep {α:Type} {s:α}:∀ {l1 l2 r1 r2:List α},s ∉ l1→s ∉ l2→l1++s::r1=l2++s::r2→l1=l2∧r1=r2
 |[],[],r1,r2,_,_,h=>⟨rfl,(List.cons.inj h).2⟩
 |[],b::l2,r1,r2,_,h2,h=>(h2 (by rw [(List.cons.inj h).1];exact List.mem_cons_self)).elim
 |a::l1,[],r1,r2,h1,_,h=>(h1 (by rw [← (List.cons.inj h).1];exact List.mem_cons_self)).elim
 |a::l1,b::l2,r1,r2,h1,h2,h=>by
  obtain ⟨e,h⟩:=List.cons.inj h
  obtain ⟨e1,e2⟩:=split_sep (fun hm=>h1 (List.mem_cons_of_mem _ hm)) (fun hm=>h2 (List.mem_cons_of_mem _ hm)) h
  exact ⟨by rw [e,e1],e2⟩
def sepD (s:UInt8) (l:List Int):List UInt8:=l.flatMap fun k=>s::itoa k
theorem sepD_inj {s:UInt8} (hs:∀ n,s ∉ itoa n):∀ {ks ls:List Int} {a b:Int},itoa a++sepD s ks=itoa b++sepD s ls→a=b∧ks=ls
 |[],[],a,b,h=>⟨itoa_inj (by simpa [sepD] using h),rfl⟩
 |[],k::ls,a,b,h=>by
  have:s∈itoa a:=by
   have:s∈itoa a++sepD s []:=by rw [h];simp [sepD]
   simpa [sepD] using this
  exact (hs a this).elim
 |k::ks,[],a,b,h=>by
  have:s∈itoa b:=by
   have:s∈itoa b++sepD s []:=by rw [← h];simp [sepD]
   simpa [sepD] using this
  exact (hs b this).elim
 |k::ks,l::ls,a,b,h=>by
  have e1:∀ (k:Int) (ks:List Int),sepD s (k::ks)=s::(itoa k++sepD s ks):=fun k ks=>by simp [sepD]
  rw [e1,e1] at h
  obtain ⟨h1,h2⟩:=split_sep (hs a) (hs b) h
  obtain ⟨h3,h4⟩:=sepD_inj hs h2
  exact ⟨itoa_inj h1,by rw [h3,h4]⟩
def nameD (k v:Int) (ks:List Int):List UInt8:=itoa k++46::(itoa v++sepD 44 ks)
theorem nameD_inj {k v k' v':Int} {ks ks':List Int} (h:nameD k v ks=nameD k' v' ks'):k=k'∧v=v'∧ks=ks':=by
 obtain ⟨h1,h2⟩:=split_sep (fun hm=>(itoa_not hm).2.1 rfl) (fun hm=>(itoa_not hm).2.1 rfl) h
 obtain ⟨h3,h4⟩:=sepD_inj (fun n hm=>(itoa_not hm).1 rfl) h2
 exact ⟨itoa_inj h1,h3,h4⟩
end Go.Gv

/- A contract of a function that touches no memory, out of what is known of its calls. -/
namespace Go.Gv
open Go
theorem castDat_self {t:Ty} {x:Dat t}:castDat t t x=some x:=by unfold castDat;rw [dif_pos rfl]
theorem toDat_dat (hp:Nat→HObj) (t:Ty) (x:Dat t):toDat hp t (.dat t x)=some x:=by
 cases t<;>simp only [toDat,toDat1,castDat_self]
def datSh:Sh→Bool
 | .nil=>true
 | .cons (.d _) s=>datSh s
 |_=>false
theorem fromA_into (hp:Nat→HObj):∀ (s:Sh),datSh s=true→∀ (x:SDat s) (nm:Nat→Nat) (n nx:Nat),fromA hp s (intoA nm s x n) nx=some ⟨x,[],[],nx⟩
 | .nil,_,x,_,_,_=>rfl
 | .cons (.d t) s,h,x,nm,n,nx=>by
  have ih:=fromA_into hp s h x.2 nm (n+0) nx
  simp only [intoA,nn] at ih ⊢
  simp only [fromA,toDat_dat,ih]
  rfl
theorem fromA_end (hp:Nat→HObj):∀ (s:Sh),datSh s=true→∀ (x:SDat s) (n nx:Nat),fromA hp (backS s) (endAP s x n) nx=some ⟨keepS s x,[],[],nx⟩
 | .nil,_,x,_,_=>rfl
 | .cons (.d t) s,h,x,n,nx=>by
  have ih:=fromA_end hp s h x.2 (n+0) nx
  simp only [endAP,backS,nn] at ih ⊢
  simp only [fromA,toDat_dat,ih]
  rfl
theorem listA_into:∀ (s:Sh),datSh s=true→∀ (x:SDat s) (nm:Nat→Nat) (n:Nat),∃ L,listA L=intoA nm s x n
 | .nil,_,_,_,_=>⟨[],rfl⟩
 | .cons (.d t) s,h,x,nm,n=>by
  obtain ⟨L,hL⟩:=listA_into s h x.2 nm (n+nn (.d t))
  exact ⟨.dat t x.1::L,by unfold listA;rw [hL];rfl⟩
theorem pure_ok {P:Program} {gl:Glob} {f:FuncId} {fn:Func} {n:Nat} {ins outs:Sh} {pre:SDat ins→Prop} {res:SDat ins→SDat outs} (hf:FnOK P f fn n) (hi:datSh ins=true) (ho:datSh outs=true)
    (h:∀ x,pre x→∀ (β:Asg) (G:GW) (args:List Value),(∀ g t y,gl g=some ⟨t,y⟩→sat (.ptr t y) β G (.pointer (some ⟨g,0,none⟩)))→satT (intoA (fun k=>k) ins x 0) β G args→
     Calls P f args.toArray G.w (fun e w'=>∃ vs,e= .returned (resV vs)∧w'=G.w∧satT (intoA (fun k=>k) outs (res x) 0) β G vs)):
    SpecOK P gl f { ins:=ins,pre:=pre,alts:=[{ outs:=outs,res:=res}]}:=by
 refine ⟨⟨fn,hf.at',by have:=hf.body;revert this;cases fn.body<;>simp,hf.name⟩,fun x hpre=>⟨_,rfl,fun C β G args hg hz H hargs=>?_⟩⟩
 refine Calls.mono (h x hpre β G args (fun g t y hy=>(H.glob g t y (by rw [hg];exact hy)).sat β) hargs) fun e w' hr=>?_
 obtain ⟨vs,rfl,rfl,hv⟩:=hr
 obtain ⟨L,hL⟩:=listA_into outs ho (res x) (fun k=>k) 0
 exact ⟨⟨_,β,G,L,vs,nn ins,res x,[],[],nn ins,keepS ins x,[],[],nn ins,rfl,H,Asg.le_refl β,G.le_refl,rfl,by rw [hL];exact hv,fun k hk=>canon_out ins x hk,by rw [hL];exact fromA_into _ outs ho (res x) _ 0 _,fromA_end _ ins hi x 0 _,rfl,rfl,rfl,rfl⟩⟩
theorem SpecOK.either {P:Program} {gl:Glob} {f:FuncId} {ins:Sh} {pre q:SDat ins→Prop} {sel:SDat ins→Nat} {alts:List (Alt ins)} {ro:Bool} (h1:SpecOK P gl f { ins:=ins,pre:=fun x=>pre x∧q x,sel:=sel,alts:=alts,ro:=ro})
    (h2:SpecOK P gl f { ins:=ins,pre:=fun x=>pre x∧¬ q x,sel:=sel,alts:=alts,ro:=ro}):SpecOK P gl f { ins:=ins,pre:=pre,sel:=sel,alts:=alts,ro:=ro}:=
 ⟨h1.1,fun x hp=>(Classical.em (q x)).elim (fun hq=>h1.2 x ⟨hp,hq⟩) (fun hq=>h2.2 x ⟨hp,hq⟩)⟩
end Go.Gv

/- A law's row: its arguments read as data; a listed table; what the row asks. -/
namespace Go.Gv
open Go
theorem cell_noAgg {P:Program} {w:World} {r:Reach} {base:Nat} {t:TypeId} {v:Value} (h:Cell.okWide P w r base t v):∀ c,v≠ .agg c:=by
 rintro c rfl
 unfold Cell.okWide at h
 split at h<;>first|(rename_i h2;cases h2;done)|skip
 rename_i a b
 all_goals (try (cases ‹Value.agg c=_›))
 unfold Cell.ok at h
 split at h<;>first|exact h|(cases ‹Value.agg c=_›)
def argsB (P:Program):Sh→List TypeId→Bool
 | .nil,[]=>true
 | .cons (.d t) s,T::r=>plainTy t && tym P t T && argsB P s r
 |_,_=>false
theorem noAgg_of {P:Program} {w:World} {r:Reach} {base:Nat} {t:Ty} {T:TypeId} {v:Value} (hp:plainTy t=true) (ht:tym P t T=true) (hok:Value.okWide P w r base T v):t.agg=true↔∃ c,v= .agg c:=by
 cases t with
 |int k=>have:=und_int ht;unfold Value.okWide at hok;rw [this] at hok;exact ⟨fun h=>(by cases h),fun ⟨c,e⟩=>(cell_noAgg hok c e).elim⟩
 |bool=>have:=und_bool ht;unfold Value.okWide at hok;rw [this] at hok;exact ⟨fun h=>(by cases h),fun ⟨c,e⟩=>(cell_noAgg hok c e).elim⟩
 |str=>have:=und_str ht;unfold Value.okWide at hok;rw [this] at hok;exact ⟨fun h=>(by cases h),fun ⟨c,e⟩=>(cell_noAgg hok c e).elim⟩
 |sl t=>obtain ⟨e,this,_⟩:=und_sl ht;unfold Value.okWide at hok;rw [this] at hok;exact ⟨fun h=>(by cases h),fun ⟨c,e⟩=>(cell_noAgg hok c e).elim⟩
 |nl=>simp [tym] at ht
 |cs a b=>simp [tym] at ht
 |st fs=>obtain ⟨f,this,_⟩:=und_st ht;unfold Value.okWide at hok;rw [this] at hok;exact ⟨fun _=>let ⟨c,e,_⟩:=hok;⟨c,e⟩,fun _=>rfl⟩
 |arr n t=>obtain ⟨e,this,_⟩:=und_arr ht;unfold Value.okWide at hok;rw [this] at hok;exact ⟨fun _=>let ⟨c,e,_⟩:=hok;⟨c,e⟩,fun _=>rfl⟩
 |mp k v=>cases hp
 |pt t=>cases hp
 |ot k=>cases hp
 |fn=>cases hp
section
variable {H:Type} {enc:TypeId × Value→H} {P:Program} {W:World}
theorem args_sat {base:Nat}:∀ (s:Sh) (ts:List TypeId) (vs:List Value) (ds:List (DataW H)) (ps:List MemPlace),argsB P s ts=true→(∀ (j:Nat) t v,ts[j]?=some t→vs[j]?=some v→Value.okWide P W .any base t v)→
    DataW.TrodAll enc P W 0 (fun _=>true) true ts vs ds ps→∃ x:SDat s,∀ (nm:Nat→Nat) (n:Nat),satT (intoA nm s x n) (fun _=>none) (GW.all W) vs
 | .nil,[],vs,ds,ps,_,_,h=>by
  cases vs with
  |nil=>exact ⟨(),fun _ _=>by show satT .nil _ _ _;unfold satT;rfl⟩
  |cons v r=>cases ds<;>exact h.elim
 | .cons (.d t) s,T::r,vs,ds,ps,hb,hok,h=>by
  unfold argsB at hb
  simp only [Bool.and_eq_true] at hb
  obtain ⟨⟨hp,ht⟩,hb⟩:=hb
  cases vs with
  |nil=>cases ds<;>exact h.elim
  |cons v vs=>
   cases ds with
   |nil=>exact h.elim
   |cons d ds=>
    obtain ⟨p,q,⟨fuel,hd⟩,hr,_⟩:=h
    obtain ⟨x,hx⟩:=trod_rep t hp T fuel _ _ ht hd
    obtain ⟨y,hy⟩:=args_sat s r vs ds q hb (fun j t v h1 h2=>hok (j+1) t v (by simpa using h1) (by simpa using h2)) hr
    refine ⟨(x,y),fun nm n=>?_⟩
    show satT (.cons (.dat t x) _) _ _ _
    unfold satT
    refine ⟨v,vs,rfl,?_,hy nm _⟩
    unfold sat
    exact ⟨noAgg_of hp ht (hok 0 T v rfl rfl),hx⟩
 | .nil,_::_,_,_,_,hb,_,_=>by cases hb
 | .cons (.d _) _,[],_,_,_,hb,_,_=>by cases hb
 | .d _,_,_,_,_,hb,_,_=>by simp [argsB] at hb
 | .row _,_,_,_,_,hb,_,_=>by simp [argsB] at hb
 | .take _,_,_,_,_,hb,_,_=>by simp [argsB] at hb
 | .spare _,_,_,_,_,hb,_,_=>by simp [argsB] at hb
 | .map _ _,_,_,_,_,hb,_,_=>by simp [argsB] at hb
 | .ob _,_,_,_,_,hb,_,_=>by simp [argsB] at hb
 | .box _,_,_,_,_,hb,_,_=>by simp [argsB] at hb
 | .clos _ _,_,_,_,_,hb,_,_=>by simp [argsB] at hb
 | .nilp,_,_,_,_,hb,_,_=>by simp [argsB] at hb
 | .nils,_,_,_,_,hb,_,_=>by simp [argsB] at hb
 | .cons (.row _) _,_,_,_,_,hb,_,_=>by simp [argsB] at hb
 | .cons (.take _) _,_,_,_,_,hb,_,_=>by simp [argsB] at hb
 | .cons (.spare _) _,_,_,_,_,hb,_,_=>by simp [argsB] at hb
 | .cons (.map _ _) _,_,_,_,_,hb,_,_=>by simp [argsB] at hb
 | .cons (.box _) _,_,_,_,_,hb,_,_=>by simp [argsB] at hb
 | .cons (.clos _ _) _,_,_,_,_,hb,_,_=>by simp [argsB] at hb
 | .cons .nilp _,_,_,_,_,hb,_,_=>by simp [argsB] at hb
 | .cons .nils _,_,_,_,_,hb,_,_=>by simp [argsB] at hb
 | .cons .nil _,_,_,_,_,hb,_,_=>by simp [argsB] at hb
 | .cons (.cons _ _) _,_,_,_,_,hb,_,_=>by simp [argsB] at hb
theorem tab_sat {g:Nat} {k:IntKind} {zs:List Int} {name:String} (h:Lib.TabIs P W name k zs) (hg:P.globalNamed name=some g) (hz:∀ z∈zs,lo k≤z∧z≤hi k):globOK (.arr zs.length (.int k)) zs (GW.all W) g:=by
 have hz0:∃ T fz,W.heap[g]?=some (.cells (zs.map fun z=>Value.int k z).toArray T fz):=by
  unfold Lib.TabIs at h
  simp only [World.var?,hg,Option.bind_some] at h
  cases ho:W.heap[g]? with
  |none=>rw [ho] at h;cases h
  |some ob=>
   rw [ho] at h
   cases ob<;>first|(simp only [Option.some.injEq] at h;subst h;exact ⟨_,_,rfl⟩)|cases h
 refine ⟨⟨zs.map (fun z=> .int k z),fun j v hv=>?_,?_⟩,?_,?_⟩
 · rw [List.getElem?_map,Option.map_eq_some_iff] at hv
   obtain ⟨z,hj,rfl⟩:=hv
   have h2:=h.cell hg j (List.getElem?_eq_some_iff.1 hj).1
   rw [List.getD_eq_getElem?_getD,hj] at h2
   rw [Nat.zero_add]
   exact ⟨cell_lt h2,h2⟩
 · unfold Rep
   refine ⟨rfl,by simp [Ty.size],fun i x hx=>?_⟩
   unfold Rep
   have hi':=(List.getElem?_eq_some_iff.1 hx).1
   refine ⟨?_,has_iff.2 (hz _ (List.mem_of_getElem? hx))⟩
   apply List.ext_getElem?
   intro j
   simp only [Ty.size,Nat.mul_one,List.getElem?_take,List.getElem?_drop,List.getElem?_map]
   by_cases hj:j<1
   · have:j=0:=by omega
     subst this
     rw [if_pos hj,Nat.add_zero,hx];rfl
   · rw [if_neg hj]
     cases j with
     |zero=>omega
     |succ j=>rfl
 · obtain ⟨T,fz,ho⟩:=hz0
   exact (Array.getElem?_eq_some_iff.1 ho).1
 · obtain ⟨T,fz,ho⟩:=hz0
   show W.cell? _=none
   simp only [World.cell?,ho]
   simp [Ty.size]
theorem laidVars_at:∀ {l:List (String × DataW Unit)} {ps:List MemPlace},DataW.LaidVars P W l ps→∀ x∈l,∃ ps',DataW.LaidVars P W [x] ps'
 |[],_,_,x,hx=>by cases hx
 |(n,d)::l,ps,h,x,hx=>by
  obtain ⟨g,t,cs,fuel,p,q,h1,h2,h3,h4,h5,h6⟩:=h
  rcases List.mem_cons.1 hx with rfl|hx
  · exact ⟨_,g,t,cs,fuel,p,[],h1,h2,h3,h4,rfl,rfl⟩
  · exact laidVars_at h5 x hx
theorem tab_of_list {l:List (String × DataW Unit)} (h:laidMet P l W) {name:String} {k:IntKind} {zs:List Int} {i:Nat} (hx:l[i]?=some (name,Lib.tabData k zs)) {g n:Nat} {t e:TypeId} (hg:P.globalNamed name=some g) (hty:(P.globals[g]?).map (·.type)=some t) (ht:P.underlying t=some (.array n e))
    (he:P.underlying e=some (.int k)) (hce:P.cellsOf e=1) (hct:P.cellsOf t=n):Lib.TabIs P W name k zs:=by
 obtain ⟨ps,h1,_⟩:=h
 obtain ⟨ps',h2⟩:=laidVars_at h1 _ (List.mem_of_getElem? hx)
 obtain ⟨g',t',cs,fuel,p,q,hg',ht',hvar,hd,_,_⟩:=h2
 obtain rfl:=Option.some.inj (hg.symm.trans hg')
 obtain rfl:=Option.some.inj (hty.symm.trans ht')
 unfold Lib.TabIs
 rw [hvar,← Lib.cells_of_tab ht he hce hct hd]
theorem laid_plain {l:List (String × DataW Unit)} (h:laidMetH P l W) (he:(l.filter fun x=>x.2.handleName?.isSome)=[]):laidMet P l W:=by
 unfold laidMetH at h
 rw [he] at h
 exact h
theorem trodAll_len:∀ {ts:List TypeId} {vs:List Value} {ds:List (DataW H)} {ps:List MemPlace} {base:Nat} {sp:Nat→Bool} {held:Bool},DataW.TrodAll enc P W base sp held ts vs ds ps→ds.length=ts.length
 |[],[],[],_,_,_,_,_=>rfl
 |_::_,_::_,_::_,_,_,_,_,⟨_,_,_,h,_⟩=>congrArg (·+1) (trodAll_len h)
theorem law_row {gl:Glob} {f:FuncId} {fn:Func} {ins:Sh} {pre:SDat ins→Prop} {res:SDat ins→SDat (.cons (.d .bool) .nil)} {nz:Bool} (hS:SpecOK P gl f { ins:=ins,pre:=pre,alts:=[{ outs:= .cons (.d .bool) .nil,res:=res}],noisy:=nz}) (hpre:∀ x,pre x) (htrue:∀ x,res x=(true,()))
    (hins:argsB P ins fn.params.toList=true) (hnn:nn ins=0) (hl:laidOutB P=true) (hm:mapsRowed P=true)
    (hfull:((List.range P.types.size).all fun t=>match P.underlying t with|some (.slice e)=>decide (0<P.cellsOf e)|_=>true)=true) (hty:(fn.params.toList.all fun t=>decide (t<P.types.size))=true) {tb:TypeId} (hres:fn.resultTypes=#[tb]) (htb:P.underlying tb=some .bool)
    {s:ChangeSpec} (hvars:s.vars=[]) (hfn:∀ ds:List (DataW H),ds.length=fn.params.size→s.fn H ds={ results:=[.lit (.bool true)],args:=ds}) {apart fresh handsOn:Bool} {base:Nat} {args:Array Value} {ds gs:List (DataW H)} {before:List MemPlace}
    (hgl:∀ g t y,gl g=some ⟨t,y⟩→globOK t y (GW.all W) g)
    (hval:∀ (j:Nat) t v,fn.params[j]?=some t→args[j]?=some v→Value.okWide P W .any base t v) (hW:DataW.Whole enc P fn.params.toList s.vars apart W args.toList ds gs before):
    Calls P f args W fun e W'=>∃ v,e= .returned v∧s.post enc P fn apart fresh handsOn false W args v W':=by
 have hW':=hW
 obtain ⟨p,q,hA,_⟩:=hW
 obtain ⟨x,hx⟩:=args_sat ins fn.params.toList args.toList ds p hins (fun j t v h1 h2=>hval j t v (by simpa using h1) (by simpa using h2)) hA
 obtain ⟨A,hAs,hc⟩:=law_calls hS (x:=x) (hpre x) hnn (hx _ _) hgl
 have hAe:A={ outs:= .cons (.d .bool) .nil,res:=res}:=by
  have:some A=some _:=hAs.symm.trans (rfl:_=some ({ outs:= .cons (.d .bool) .nil,res:=res}:Alt ins))
  exact Option.some.inj this
 subst hAe
 have hc:Calls P f args W _:=hc
 refine hc.mono fun e W' h=>?_
 obtain ⟨v,rfl,β',G',rfl,hst,hv⟩:=h
 have hv2:sat (.dat .bool true) β' G' v:=by
  have:resA (.cons (.d .bool) .nil) (res x) 0= .dat .bool true:=by rw [htrue x];rfl
  rw [← this];exact hv
 unfold sat at hv2
 have h3:=hv2.to_one rfl
 unfold Rep at h3
 simp only [List.cons.injEq,and_true] at h3
 subst h3
 refine ⟨_,rfl,law_post hl hm hfull hW' hvars (fun t ht=>?_) hres htb (hfn ds (by rw [trodAll_len hA];simp)) hst⟩
 exact of_decide_eq_true (List.all_eq_true.1 hty t ht)
end
def litV:DataW Unit→Value
 | .lit (.int k n)=> .int k n
 | .lit (.bool b)=> .bool b
 | .lit (.string b)=> .string ⟨b.toArray⟩
 |_=> .slice none 0 0
def datV:DataW Unit→Array Value
 | .agg ds=>(ds.map litV).toArray
 |d=>#[litV d]
def putG (w:World) (g:Nat) (d:DataW Unit):World:={ w with heap:=w.heap.modify g fun
 | .cells _ t fz=> .cells (datV d) t fz
 |o=>o}
end Go.Gv

/- The library's functions that take data and hand back a datum, as contracts. -/
namespace Go.Gv
open Go Go.RowKit
def dataS:Sh→Bool
 | .cons (.d _) s=>dataS s
 | .nil=>true
 |_=>false
theorem Below.step {G:GW} {hp:Nat→HObj} {β:Asg} (H:HeapOK hp β G) {w':World} (hb:Below G.w.heap.size G.w w') (hd:G.w.drawn≤w'.drawn∨G.nz):Step (fun _ _=>False) (fun _=>False) G { G with w:=w'}:={
 os:=hb.os
 tape:=hb.tape
 output:=hb.output
 size:=hb.size
 cell:=fun b o hlt _=>by
  have e:=hb.block b hlt
  exact ⟨by show w'.cell? _=_;unfold World.cell?;rw [e],by show w'.frozen? _=_;unfold World.frozen?;rw [e]⟩
 blk:=fun b hlt _ _=>hb.block b hlt
 obj:=fun b es c _ he=>(hb.block b (Array.getElem?_eq_some_iff.1 he).1).trans he
 le:=⟨fun b o hi=>⟨hi,by show w'.cell? _=_;unfold World.cell?;rw [hb.block b (H.old b o hi)]⟩,fun b hi=>⟨hi,hb.block b (H.oldo_lt hi)⟩⟩
 new:=fun _ _ hi=> .inl hi
 newo:=fun _ hi=> .inl hi
 drawn:=hd
 nz:=rfl}
theorem Below.inv {C:Ctx} {G:GW} {hp:Nat→HObj} {β:Asg} (H:HInv C hp β G) {w':World} (hb:Below G.w.heap.size G.w w') (hd:G.w.drawn≤w'.drawn∨G.nz):HInv C hp β { G with w:=w'}:=by
 have hst:=Below.step H.heap hb hd
 exact H.same hst (fun b o hi=>Nat.lt_of_lt_of_le (H.heap.old b o hi) hb.size) (fun b hi=>by
  obtain ⟨ob,he,he'⟩:=H.heap.oldo b hi
  exact ⟨ob,(hb.block b (Array.getElem?_eq_some_iff.1 he).1).trans he,he'⟩)
end Go.Gv
