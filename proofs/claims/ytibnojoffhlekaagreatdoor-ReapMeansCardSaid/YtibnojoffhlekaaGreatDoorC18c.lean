/- Chapter 18: what the program's sweep comes to. -/
import Derived.Test.YtibnojoffhlekaaGreatDoorC18b
set_option linter.all false
namespace Go.Gv
open Go Go.Proofs Go.Proofs.YtibnojoffhlekaaGreatDoor
set_option maxRecDepth 100000
set_option maxHeartbeats 4000000
theorem nodup_sub {α:Type} [DecidableEq α]:∀ {l r:List α},l.Nodup→(∀ x∈l,x∈r)→l.length≤r.length
 |[],_,_,_=>Nat.zero_le _
 |a::l,r,h,hs=>by
  obtain ⟨h1,h2⟩:=List.nodup_cons.1 h
  have ha:=hs a List.mem_cons_self
  have:=nodup_sub (r:=r.erase a) h2 (fun x hx=>by
   have hne:x≠a:=fun e=>h1 (e ▸ hx)
   exact (List.mem_erase_of_ne hne).2 (hs x (List.mem_cons_of_mem _ hx)))
  have hl:=List.length_pos_of_mem ha
  rw [List.length_erase_of_mem ha] at this
  simp;omega
noncomputable def reachL (gs:List Gate) (roots:List Int):List Int:=((List.range gs.length).filter (fun k=>boolOf (Reach gs roots k))).map Int.ofNat
theorem reachL_len (gs:List Gate) (roots:List Int):(reachL gs roots).length=cntK gs roots:=by
 unfold reachL cntK keptL
 rw [List.length_map,← List.countP_eq_length_filter,List.countP_map]
 rfl
theorem reachL_mem {gs:List Gate} {roots:List Int} {i:Int}:i∈reachL gs roots↔(0≤i∧i<gs.length)∧Reach gs roots i.toNat:=by
 unfold reachL
 simp only [List.mem_map,List.mem_filter,List.mem_range,boolOf_true]
 constructor
 · rintro ⟨k,⟨h1,h2⟩,rfl⟩
   exact ⟨⟨by simp,by simpa using h1⟩,by simpa using h2⟩
 · rintro ⟨⟨h1,h2⟩,h3⟩
   exact ⟨i.toNat,⟨by omega,h3⟩,by rw [Int.ofNat_eq_natCast];omega⟩
theorem reachL_nd (gs:List Gate) (roots:List Int):(reachL gs roots).Nodup:=by
 unfold reachL
 rw [List.nodup_iff_pairwise_ne,List.pairwise_map]
 refine List.Pairwise.imp ?_ (List.nodup_iff_pairwise_ne.1 ((List.nodup_range (n:=gs.length)).filter _))
 intro a b h e
 exact h (Int.ofNat.inj e)
structure Inv (gs:List Gate) (roots:List Int) (pr:List Int) (s:MW):Prop where
 nd:(pr++s.2).Nodup
 mg:∀ i,@mget (Dat tInt) (Dat .bool) (instDecidableEqDat tInt) s.1 i=if i∈pr++s.2 then some true else none
 rng:∀ i∈pr++s.2,(0≤i∧i<gs.length)∧Reach gs roots i.toNat
 rts:∀ r∈roots,r∈pr++s.2
 kid:∀ i∈pr,∀ k∈kidsAt gs i,k∈pr++s.2
structure Inv0 (gs:List Gate) (roots:List Int) (pr:List Int) (s:MW):Prop where
 nd:(pr++s.2).Nodup
 mg:∀ i,@mget (Dat tInt) (Dat .bool) (instDecidableEqDat tInt) s.1 i=if i∈pr++s.2 then some true else none
 rng:∀ i∈pr++s.2,(0≤i∧i<gs.length)∧Reach gs roots i.toNat
theorem Inv0.push {gs:List Gate} {roots pr:List Int} {s:MW} (h:Inv0 gs roots pr s) {i:Int} (hi:(0≤i∧i<gs.length)∧Reach gs roots i.toNat):Inv0 gs roots pr (pushF s i)∧i∈pr++(pushF s i).2∧∀ k∈pr++s.2,k∈pr++(pushF s i).2:=by
 unfold pushF
 by_cases hm:i∈pr++s.2
 · rw [if_pos (by rw [h.mg,if_pos hm];rfl)]
   exact ⟨h,hm,fun k hk=>hk⟩
 · rw [if_neg (by rw [h.mg,if_neg hm];exact Bool.false_ne_true)]
   have e:pr++(s.2++[i])=(pr++s.2)++[i]:=by simp
   refine ⟨⟨?_,fun j=>?_,fun j hj=>?_⟩,by simp,fun k hk=>by rw [e];exact List.mem_append_left _ hk⟩
   · dsimp only
     rw [e,List.nodup_append]
     exact ⟨h.nd,by simp,fun a ha b hb e=>hm (by simp at hb;rw [← hb,← e];exact ha)⟩
   · dsimp only
     rw [mget_mput,h.mg,e]
     by_cases hj:i=j
     · subst hj;simp
     · have hj':¬ j=i:=fun e=>hj e.symm
       simp only [if_neg hj,List.mem_append,List.mem_singleton,hj',or_false]
   · dsimp only at hj
     rw [e,List.mem_append] at hj
     rcases hj with hj|hj
     · exact h.rng j hj
     · simp at hj;rw [hj];exact hi
theorem Inv0.pushL {gs:List Gate} {roots pr:List Int}:∀ {l:List Int} {s:MW},Inv0 gs roots pr s→(∀ i∈l,(0≤i∧i<gs.length)∧Reach gs roots i.toNat)→Inv0 gs roots pr (Gv.pushL s l)∧(∀ i∈l,i∈pr++(Gv.pushL s l).2)∧∀ k∈pr++s.2,k∈pr++(Gv.pushL s l).2
 |[],s,h,_=>⟨h,fun i hi=>(List.not_mem_nil hi).elim,fun k hk=>hk⟩
 |a::l,s,h,hl=>by
  obtain ⟨h1,h2,h3⟩:=h.push (hl a List.mem_cons_self)
  obtain ⟨g1,g2,g3⟩:=Inv0.pushL h1 (fun i hi=>hl i (List.mem_cons_of_mem _ hi))
  refine ⟨g1,fun i hi=>?_,fun k hk=>g3 k (h3 k hk)⟩
  rcases List.mem_cons.1 hi with rfl|hi
  · exact g3 _ h2
  · exact g2 i hi
theorem Inv.start {gs:List Gate} {roots:List Int} (h:RightP gs roots):Inv gs roots [] (pushL ([],[]) roots):=by
 have h0:Inv0 gs roots [] ([],[]):=⟨by simp,fun i=>rfl,fun i hi=>by cases hi⟩
 obtain ⟨h1,h2,_⟩:=h0.pushL (l:=roots) (fun i hi=>⟨h.1 i hi, .root hi⟩)
 exact ⟨h1.nd,h1.mg,h1.rng,h2,fun i hi=>by cases hi⟩
theorem Inv.step {gs:List Gate} {roots:List Int} (hV:ValidC gs):∀ (n:Nat) {pr:List Int} {s:MW},Inv gs roots pr s→∃ pr',Inv gs roots pr' (stepF gs n s)∧pr.length≤pr'.length∧pr'.length≤pr.length+n∧(pr'.length=pr.length+n∨(stepF gs n s).2=[])
 |0,pr,s,h=>⟨pr,by cases s;exact h,Nat.le_refl _,Nat.le_refl _, .inl rfl⟩
 |n+1,pr,(m,[]),h=>⟨pr,h,Nat.le_refl _,by omega, .inr rfl⟩
 |n+1,pr,(m,i::w),h=>by
  have e:(pr++[i])++w=pr++i::w:=by simp
  have hi:=h.rng i (by simp)
  have h0:Inv0 gs roots (pr++[i]) (m,w):=⟨by rw [e];exact h.nd,fun j=>by rw [e];exact h.mg j,fun j hj=>h.rng j (by rw [← e];exact hj)⟩
  obtain ⟨h1,h2,h3⟩:=h0.pushL (l:=kidsAt gs i) (fun k hk=>⟨kidsAt_rng hV hi.1 k hk, .kid hi.2 (by have:=hi.1;omega) hk⟩)
  have hI:Inv gs roots (pr++[i]) (pushL (m,w) (kidsAt gs i)):=⟨h1.nd,h1.mg,h1.rng,fun r hr=>h3 r (by rw [e];exact h.rts r hr),fun j hj k hk=>by
   rcases List.mem_append.1 hj with hj|hj
   · exact h3 k (by rw [e];exact h.kid j hj k hk)
   · simp at hj;subst hj;exact h2 k hk⟩
  obtain ⟨pr',g1,g2,g3,g4⟩:=Inv.step hV n hI
  simp only [List.length_append,List.length_cons,List.length_nil] at g2 g3 g4
  exact ⟨pr',g1,by omega,by omega,g4.elim (fun h=> .inl (by omega)) .inr⟩
theorem Inv.mwok {gs:List Gate} {roots pr:List Int} {s:MW} (h:Inv gs roots pr s):MWok gs s:=
 ⟨(List.nodup_append.1 h.nd).2.1,fun i hi=>(h.rng i (List.mem_append_right _ hi)).1,fun i hi=>by rw [h.mg,if_pos (List.mem_append_right _ hi)]⟩
theorem Inv.le {gs:List Gate} {roots pr:List Int} {s:MW} (h:Inv gs roots pr s):((pr.length+s.2.length:Nat):Int)≤cntK gs roots:=by
 have:=nodup_sub h.nd (r:=reachL gs roots) (fun i hi=>reachL_mem.2 (h.rng i hi))
 rw [← reachL_len,← List.length_append];omega
theorem Inv.all {gs:List Gate} {roots pr:List Int} {s:MW} (h:Inv gs roots pr s) (hw:s.2=[]) (hR:∀ r∈roots,0≤r) (hV:ValidC gs):∀ k,Reach gs roots k→(k:Int)∈pr:=fun k hk=>by
 have hp:∀ i,i∈pr++s.2→i∈pr:=fun i hi=>by rw [hw,List.append_nil] at hi;exact hi
 induction hk with
 |@root r hr=>
  have:=hR r hr
  rw [show ((r.toNat:Nat):Int)=r by omega]
  exact hp _ (h.rts r hr)
 |@kid k j _ hk hj ih=>
  have:=kid_lt hV hk hj
  rw [show ((j.toNat:Nat):Int)=j by omega]
  exact hp _ (h.kid _ ih j (by unfold kidsAt;simpa using hj))
theorem Inv.done {gs:List Gate} {roots pr:List Int} {s:MW} (h:Inv gs roots pr s) (hR:RightP gs roots):s.2=[]↔(pr.length:Int)=cntK gs roots:=by
 constructor
 · intro hw
   have h1:=h.le
   have h2:=nodup_sub (reachL_nd gs roots) (r:=pr) (fun i hi=>by
    have:=reachL_mem.1 hi
    have h3:=h.all hw (fun r hr=>(hR.1 r hr).1) hR.2 _ this.2
    rwa [show ((i.toNat:Nat):Int)=i by omega] at h3)
   rw [hw] at h1
   have:=reachL_len gs roots
   simp at h1;omega
 · intro e
   have h1:=h.le
   have:s.2.length=0:=by omega
   exact List.eq_nil_of_length_eq_zero this
theorem Inv.ks {gs:List Gate} {roots pr:List Int} {s:MW} (h:Inv gs roots pr s) (hw:s.2=[]) (hR:RightP gs roots):ksM gs s.1=keptL gs roots:=by
 unfold ksM keptL
 refine List.map_congr_left fun k hk=>?_
 rw [h.mg]
 by_cases hr:Reach gs roots k
 · rw [if_pos (List.mem_append_left _ (h.all hw (fun r hr=>(hR.1 r hr).1) hR.2 k hr)),boolOf_true.2 hr];rfl
 · rw [if_neg (fun hm=>hr (by have:=(h.rng _ hm).2;simpa using this)),boolOf_false.2 hr];rfl
theorem pickG_congr {gs:List Gate} {ks:List Bool} {f g:Int→Int}:∀ (n:Nat),(∀ k,k<n→ks.getD k false=true→∀ j∈(gs.getD k ((0,0,[],()):Gate)).2.2.1,f j=g j)→pickG gs ks f n=pickG gs ks g n
 |0,_=>rfl
 |n+1,h=>by
  unfold pickG
  rw [pickG_congr n (fun k hk=>h k (by omega))]
  split
  · rename_i hk
    unfold mapG
    rw [List.map_congr_left (h n (by omega) hk)]
  · rfl
theorem keep_eq {gs:List Gate} {roots:List Int} (hR:RightP gs roots):pickG gs (keptL gs roots) (fM (keptL gs roots)) gs.length=keepG gs roots∧roots.map (fM (keptL gs roots))=keepL gs roots:=by
 constructor
 · refine pickG_congr _ fun k hk h1 j hj=>?_
   have:=kid_lt hR.2 hk hj
   have:Reach gs roots j.toNat:= .kid ((keptL_get hk).1 h1) hk hj
   unfold fM
   rw [if_pos ((keptL_get (by omega)).2 this)]
 · refine List.map_congr_left fun j hj=>?_
   have:=hR.1 j hj
   unfold fM
   rw [if_pos ((keptL_get (by omega)).2 (.root hj))]
theorem run_all {gs:List Gate} {roots:List Int} (hR:RightP gs roots):(stepF gs gs.length (pushL ([],[]) roots)).2=[]∧ksM gs (stepF gs gs.length (pushL ([],[]) roots)).1=keptL gs roots:=by
 have hI:=Inv.start hR
 obtain ⟨pr,g1,g2,g3,g4⟩:=hI.step hR.2 gs.length
 have hw:(stepF gs gs.length (pushL ([],[]) roots)).2=[]:=by
  rcases g4 with h|h
  · have:=g1.le
    have:=(cntK_le gs roots).2
    simp at h
    exact List.eq_nil_of_length_eq_zero (by omega)
  · exact h
 exact ⟨hw,g1.ks hw hR⟩
@[reducible] noncomputable def S_z76:Spec:={ ins:=(.cons (.d tCirc) (.cons (.d (.sl tInt)) .nil)),pre:=(fun x=>(fun c roots=>SmallG c.1∧roots.length≤1000000) x.1 x.2.1),alts:=[{ outs:=(.cons (.d tCirc) (.cons (.d (.sl tInt)) (.cons (.d tInt) .nil))),res:=(fun x=>(fun c roots=>(if boolOf (RightP c.1 roots)=true then (keepG c.1 roots,()) else ([],()),if boolOf (RightP c.1 roots)=true then keepL c.1 roots else [],if boolOf (RightP c.1 roots)=true then 0 else 1,())) x.1 x.2.1)}]}
noncomputable def c_z76:Cf:=(cf_z76 (Fl [(fi_z77,S_z77),(fi_z82,S_z82),(fi_z80,S_z80)]))
theorem g_z76:∀ x,S_z76.pre x→shOK S_z76.ins x→fnGoal c_z76 fn_z76 S_z76 x:=by
 rintro ⟨⟨gs,⟨⟩⟩,roots,⟨⟩⟩ hpre hok
 try dsimp only [Dat,SDat,dflt,Ty.size,keepS,bkUpd,Gv.bk,backS,wayA,maxI,minI,negI] at hpre
 have hln:=shLn_of _ hok;replace hok:=Hd.mk hok;try simp only [shLn,datLn,inRng,lo,hi,maxLen,true_and,and_true] at hln
 first|refine fn_goal (w_head ?_)
 intro Kz kz;(conv=>whnf);(try dsimp+instances only);refine kz _ ?_;clear kz Kz;(conv=>(arg 2;whnf))
 repeat' (first|refine an ?_ ?_|((try refine gm ?_);first|((with_reducible show Kz _);(try dsimp+instances only);(with_reducible refine kz _ ?_);clear kz Kz)|refine st ?_|(refine sr ?_;intro Kz kz;conv=>whnf)|(refine cd ?_;(conv=>arg 2;whnf);refine st ?_)|refine blockK_y (by rfl) ?_|(refine sw ?_;conv=>whnf))|(refine gm ?_;conv=>whnf)|(intro hc;(try dsimp+instances only[Dat,SDat,dflt,Ty.size,keepS,bkUpd,Gv.bk,backS,wayA,maxI,minI,negI]at hc);try simp only[LS]at hc))
 all_goals (try ((fail_if_success refine nl ?_);(try dsimp only[Dat,SDat,dflt,Ty.size,keepS,bkUpd,Gv.bk,backS,wayA,maxI,minI,negI]);(try simp only[LS]);first|done|exact dsc|((try simp only[allP,lo,hi,room,true_and,and_true,implies_true]);(repeat' (first|refine an ?_ ?_|((with_reducible refine preA_t ?_ ?_);rotate_left;exact sameP_t)|intro hv))<;>(try omega))))
 · exact hpre.1 _ (by assumption)
 · rename ¬RightP gs roots=>hn;rw [if_neg (by rw [boolOf_true];exact hn)]
 · rename ¬RightP gs roots=>hn;rw [if_neg (by rw [boolOf_true];exact hn)]
 · rename ¬RightP gs roots=>hn;rw [if_neg (by rw [boolOf_true];exact hn)]
 all_goals (rename RightP gs roots=>hR)
 all_goals (have hk:=keep_eq hR;have hif:boolOf (RightP gs roots)=true:=boolOf_true.2 hR;obtain ⟨hw,hks⟩:=run_all hR)
 · exact hR.2
 · exact hpre.1 _ (by assumption)
 · exact (Inv.start hR).mwok
 · exact hR.2
 · exact hpre.1 _ (by assumption)
 · exact (hR.1 _ (by assumption)).1
 · exact (hR.1 _ (by assumption)).2
 · rw [if_pos hif,if_pos hw,hks,hk.1]
 · rw [if_pos hif,if_pos hw,hks,hk.2]
 · rw [if_pos hif,if_pos hw]
theorem ok_z76:SpecOK SP glob fi_z76 S_z76:=mk_ok (c:=c_z76) (tab_ok _) mix_ok wf_z76 (by decide) (.cons ok_z77 (.cons ok_z82 (.cons ok_z80 .nil))) (fun x hx=>Nat.zero_lt_one) g_z76
end Go.Gv
