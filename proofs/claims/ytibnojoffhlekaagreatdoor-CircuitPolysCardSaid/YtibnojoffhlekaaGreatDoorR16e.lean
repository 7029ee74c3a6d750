/- Chapter 16: the reference: Poly. -/
import Derived.Test.YtibnojoffhlekaaGreatDoorR16d
import Derived.Test.YtibnojoffhlekaaGreatDoorC15k
set_option linter.all false
namespace Go.Gv
open Go Go.Proofs Go.Proofs.YtibnojoffhlekaaGreatDoor
set_option maxRecDepth 100000
set_option maxHeartbeats 4000000
theorem KD_succ (g:Gate) (t:Nat):KD g t=g.2.2.1.getD (t+1) 0:=by
 rw [KD_eq,List.getD_eq_getElem?_getD,List.getD_eq_getElem?_getD,List.getElem?_drop,Nat.add_comm]
theorem KL_of (g:Gate) (t:Nat):t<KL g↔t+1<g.2.2.1.length:=by
 rw [KL_eq,List.length_drop];omega
structure PolJ (gs:List Gate) (all all':List (List Mo)) (k:Nat) (idx e:Int) (j:Nat):Prop where
 ix:idx=(j:Int)
 le:j≤((List.getD gs k ((0,0,[],()):Gate))).2.2.1.length
 ln:all'.length=all.length
 st:(j=0∧all'=all∧e=0)∨∃ t,j=t+1∧((e=0∧EvK srP (fun _=>True) all ((List.getD gs k ((0,0,[],()):Gate))) k t all')∨(¬ e=0∧gateS srP all ((List.getD gs k ((0,0,[],()):Gate)))=([],e)))
theorem PolJ.start {gs:List Gate} {all:List (List Mo)} {k:Nat}:PolJ gs all all k 0 0 0:=⟨rfl,Nat.zero_le _,rfl, .inl ⟨rfl,rfl,rfl⟩⟩
theorem PolJ.first {gs:List Gate} {all all':List (List Mo)} {k j:Nat} {e:Int} (h:PolJ gs all all' k (j:Int) e j) (hj:(j:Int)<(((List.getD gs k ((0,0,[],()):Gate))).2.2.1.length:Int)∧e=0) (h0:(j:Int)=0) (hk:k<all.length) (hi:inner ((List.getD gs k ((0,0,[],()):Gate))).1) (h2:2≤((List.getD gs k ((0,0,[],()):Gate))).2.2.1.length):PolJ gs all (all'.set k (all'.getD (((List.getD gs k ((0,0,[],()):Gate))).2.2.1.getD 0 0).toNat [])) k ((j:Int)+1) e (j+1):=by
 refine ⟨rfl,Int.ofNat_lt.1 hj.1,by rw [List.length_set];exact h.ln, .inr ⟨j,rfl, .inl ⟨hj.2,?_⟩⟩⟩
 have hj0:j=0:=by omega
 subst hj0
 rcases h.st with ⟨_,h1,_⟩|⟨t,h1,_⟩
 · rw [h1]
   exact EvK.start hk (fun _=>trivial) hi h2
 · omega
theorem PolJ.next {gs:List Gate} {all all':List (List Mo)} {k j:Nat} {e:Int} (h:PolJ gs all all' k (j:Int) e j) (hV:ValidC gs) (hkl:k<gs.length) (hj:(j:Int)<(((List.getD gs k ((0,0,[],()):Gate))).2.2.1.length:Int)∧e=0) (h0:¬ (j:Int)=0) (hk:k<all.length) {v:List Mo} {e':Int} (hv:srP.op ((List.getD gs k ((0,0,[],()):Gate))) (all'.getD k []) (all'.getD (((List.getD gs k ((0,0,[],()):Gate))).2.2.1.getD j 0).toNat [])=(v,e')):PolJ gs all (all'.set k v) k ((j:Int)+1) e' (j+1):=by
 refine ⟨rfl,Int.ofNat_lt.1 hj.1,by rw [List.length_set];exact h.ln, .inr ⟨j,rfl,?_⟩⟩
 rcases h.st with ⟨h1,_,_⟩|⟨t,h1,h2⟩
 · omega
 · subst h1
   have hK:=(h2.resolve_right fun q=>q.1 hj.2).2
   have ho:KOk gs k all'.length t:=kid_rng hV hkl (by rw [h.ln];exact hk) (by have:=(KL_of ((List.getD gs k ((0,0,[],()):Gate))) t).2 (Int.ofNat_lt.1 hj.1);omega)
   rw [← KD_succ] at hv
   by_cases c:e'=0
   · subst c
     exact .inl ⟨rfl,hK.on hk ho trivial hv⟩
   · have h9:(srP.op ((List.getD gs k ((0,0,[],()):Gate))) (all'.getD k srP.z) (all'.getD (KD ((List.getD gs k ((0,0,[],()):Gate))) t).toNat srP.z)).2=e':=congrArg Prod.snd hv
     have:=hK.off hk ho (by rw [h9];exact c)
     rw [h9] at this
     exact .inr ⟨c,this⟩
theorem PolJ.bad {gs:List Gate} {all all':List (List Mo)} {k j:Nat} {e:Int} (h:PolJ gs all all' k (j:Int) e j) (he:¬ e=0):gateS srP all ((List.getD gs k ((0,0,[],()):Gate)))=([],e):=by
 rcases h.st with ⟨_,_,q⟩|⟨t,_,q|q⟩
 · exact absurd q he
 · exact absurd q.1 he
 · exact q.2
theorem PolJ.good {gs:List Gate} {all all':List (List Mo)} {k j:Nat} {e:Int} (h:PolJ gs all all' k (j:Int) e j) (hV:ValidC gs) (hkl:k<gs.length) (he:e=0) (hj:¬ ((j:Int)<(((List.getD gs k ((0,0,[],()):Gate))).2.2.1.length:Int)∧e=0)) (hk:k<all.length) (hz:all.getD k []=[]) (h1:¬ ((List.getD gs k ((0,0,[],()):Gate))).1=1) (h2:¬ ((List.getD gs k ((0,0,[],()):Gate))).1=2):∃ x,all'=all.set k x∧gateS srP all ((List.getD gs k ((0,0,[],()):Gate)))=(x,0):=by
 have hjl:((List.getD gs k ((0,0,[],()):Gate))).2.2.1.length≤j:=Nat.not_lt.1 fun q=>hj ⟨Int.ofNat_lt.2 q,he⟩
 rcases h.st with ⟨q1,q2,_⟩|⟨t,q1,q⟩
 · refine ⟨[],?_,?_⟩
   · rw [q2]
     refine List.ext_getElem (List.length_set).symm fun m m1 m2=>?_
     rw [List.getElem_set]
     by_cases c:k=m
     · rw [if_pos c]
       subst c
       rw [← getD_ok [] m1,hz]
     · rw [if_neg c]
   · have hin:¬ inner ((List.getD gs k ((0,0,[],()):Gate))).1:=fun hi=>by have:=(hV.2 k hkl).2.1 hi;omega
     rw [gateS_leaf hin]
     have h3:=leaf_kind hV hkl hin
     have h0:((List.getD gs k ((0,0,[],()):Gate))).1=0:=by omega
     show leafP ((List.getD gs k ((0,0,[],()):Gate))).1 ((List.getD gs k ((0,0,[],()):Gate))).2.1=([],0)
     rw [h0]
     rfl
 · have hK:=(q.resolve_right fun z=>z.1 he).2
   obtain ⟨x,x1,_,x3⟩:=hK.fin hk (by rw [← KL_eq];have:=(KL_of ((List.getD gs k ((0,0,[],()):Gate))) t);omega)
   exact ⟨x,x1,x3⟩
theorem leafP_one {k v:Int} (h:k=1):leafP k v=([(1,[],())],0):=by rw [h];rfl
theorem leafP_var {k v:Int} (h:k=2) (h0:0≤v) (h1:v<4000):leafP k v=([(1,[(v,1,())],())],0):=by
 rw [leafP_at (.inr (.inr ⟨h,h0,h1⟩)),if_neg (by omega),if_neg (by omega)]
theorem leaf_var {gs:List Gate} (hV:ValidC gs) {k:Nat} (hk:k<gs.length) (h:((List.getD gs k ((0,0,[],()):Gate))).1=2):0≤((List.getD gs k ((0,0,[],()):Gate))).2.1∧((List.getD gs k ((0,0,[],()):Gate))).2.1<4000:=by
 have h9:=leaf_kind hV hk (by rw [h];decide)
 omega
theorem var_ok {v:Int} (h:0≤v∧v<4000):(if v<0∨4000≤v then [] else [((1,[(v,1,())],()):Mo)])=[(1,[(v,1,())],())]∧(if v<0∨4000≤v then (1:Int) else 0)=0:=by
 have h9:¬ (v<0∨4000≤v):=by omega
 exact ⟨if_neg h9,if_neg h9⟩
theorem gate_leaf {gs:List Gate} {all:List (List Mo)} {k:Nat} {p:List Mo} (hin:¬ inner ((List.getD gs k ((0,0,[],()):Gate))).1) (h:leafP ((List.getD gs k ((0,0,[],()):Gate))).1 ((List.getD gs k ((0,0,[],()):Gate))).2.1=(p,0)):srP.ge.G all ((List.getD gs k ((0,0,[],()):Gate)))=((leafP ((List.getD gs k ((0,0,[],()):Gate))).1 ((List.getD gs k ((0,0,[],()):Gate))).2.1).1,0):=(gateS_leaf (S:=srP) hin).trans (show leafP ((List.getD gs k ((0,0,[],()):Gate))).1 ((List.getD gs k ((0,0,[],()):Gate))).2.1=_ by rw [h])
@[reducible] noncomputable def S_z100:Spec:={ ins:=(.cons (.d tCirc) (.cons (.d tInt) .nil)),pre:=(fun x=>(fun c i=>SmallG c.1) x.1 x.2.1),alts:=[{ outs:=(.cons (.d tPoly) (.cons (.d tInt) .nil)),res:=(fun x=>(fun c i=>((evC srP.ge c.1 i).1,(evC srP.ge c.1 i).2,())) x.1 x.2.1)}]}
noncomputable def c_z100:Cf:={ cf_z100 (Fl [(fi_z106,S_z106),(fi_z102,S_z102),(fi_z86,S_z86),(fi_z91,S_z91),(fi_z85,S_z85),(fi_z87,S_z87)]) with E:={ (cf_z100 (Fl [(fi_z106,S_z106),(fi_z102,S_z102),(fi_z86,S_z86),(fi_z91,S_z91),(fi_z85,S_z85),(fi_z87,S_z87)])).E with rows:=[21,22]}}
theorem g_z100:∀ x,S_z100.pre x→shOK S_z100.ins x→fnGoal c_z100 fn_z100 S_z100 x:=by
 rintro ⟨⟨gs,⟨⟩⟩,(i:Int),⟨⟩⟩ hpre hok
 try dsimp only [Dat,SDat,dflt,Ty.size,keepS,bkUpd,Gv.bk,backS,wayA,maxI,minI,negI] at hpre
 have hln:=shLn_of _ hok;replace hok:=Hd.mk hok;try simp only [shLn,datLn,inRng,lo,hi,maxLen,true_and,and_true] at hln
 have hsm:SmallG gs:=hpre
 first|refine fn_goal (w_head ?_)
 intro Kz kz;(conv=>whnf);(try dsimp+instances only);refine kz _ ?_;clear kz Kz;(conv=>(arg 2;whnf))
 repeat' (first|refine an ?_ ?_|((try refine gm ?_);first|((with_reducible show Kz _);(try dsimp+instances only);(with_reducible refine kz _ ?_);clear kz Kz)|refine st ?_|(refine sr ?_;intro Kz kz;conv=>whnf)|(refine cd ?_;(conv=>arg 2;whnf);refine st ?_)|refine blockK_y (by rfl) ?_|(refine sw ?_;conv=>whnf))|(refine gm ?_;conv=>whnf)|(intro hc;(try dsimp+instances only[Dat,SDat,dflt,Ty.size,keepS,bkUpd,Gv.bk,backS,wayA,maxI,minI,negI]at hc);try simp only[LS]at hc))
 all_goals (try ((fail_if_success refine nl ?_);(try dsimp only[Dat,SDat,dflt,Ty.size,keepS,bkUpd,Gv.bk,backS,wayA,maxI,minI,negI]);(try simp only[LS]);first|done|exact dsc|((try simp only[allP,lo,hi,room,true_and,and_true,implies_true]);(repeat' (first|refine an ?_ ?_|((with_reducible refine preA_t ?_ ?_);rotate_left;exact sameP_t)|intro hv))<;>(try omega))))
 all_goals (try ((fail_if_success refine nl ?_);(exact (by assumption:SmallG gs))))
 all_goals (try ((fail_if_success refine nl ?_);(exact hsm _ (by assumption))))
 all_goals (try ((fail_if_success refine nl ?_);(first|exact (congrArg Prod.fst (evC_bad (S:=srP.ge) hc)).symm|exact (congrArg Prod.snd (evC_bad (S:=srP.ge) hc)).symm|assumption)))
 all_goals (try ((fail_if_success refine nl ?_);(have h1:=(by assumption:GoodI gs i).lo;have h2:=(by assumption:GoodI gs i).hi;have h3:=(by assumption:GoodI gs i).v.1;omega)))
 have hg:GoodI gs i:=by assumption
 obtain ⟨n,rfl⟩:∃ n:Nat,i=(n:Int):=⟨i.toNat,(Int.toNat_of_nonneg hg.lo).symm⟩
 have hn:n<gs.length:=by have:=hg.hi;omega
 have hV:=hg.v
 have hmx:=hV.1
 have hrl:=reachB_len gs (n:Int)
 refine w_loop [(7, .row tPoly),(8, .d tInt)] [] (fun y=>∃ k:Nat,y.1.2.1=(k:Int)∧EvF srP.ge (fun _=>True) gs n k y.1.1∧∀ m,k≤m→List.getD y.1.1 m []=[]) (fun y=>n+1 - y.1.2.1.toNat) ?_
 conv=>whnf
 refine And.intro ?_ ?_
 · refine ⟨0,rfl,EvF.start trivial,fun m _=>?_⟩
   show (List.replicate _ ([]:List Mo)).getD m []=[]
   rw [List.getD_eq_getElem?_getD,List.getElem?_replicate]
   split<;>rfl
 rintro ⟨⟨all,_,⟨⟩⟩,⟨⟩⟩ ⟨k,rfl,hA,hz⟩
 have hA:EvF srP.ge (fun _=>True) gs n k (all:List (List Mo)):=hA
 have hz:∀ m,k≤m→List.getD (all:List (List Mo)) m []=[]:=hz
 have hle:=hA.le
 have hln:List.length (all:List (List Mo))=n+1:=hA.ln
 have hkl:(k:Int)≤(n:Int)→k<gs.length:=fun h=>by omega
 have hkv:=fun (h:(k:Int)≤(n:Int))=>leaf_val hV (hkl h)
 have hks:=fun (h:(k:Int)≤(n:Int))=>hsm _ (getD_mem (d:=((0,0,[],()):Gate)) (hkl h))
 have hsk:=fun (h:(k:Int)≤(n:Int)) (q:(reachB gs (n:Int)).getD k false=false)=>show ∃ k':Nat,(k:Int)+1=(k':Int)∧EvF srP.ge (fun _=>True) gs n k' all∧∀ m,k'≤m→List.getD (all:List (List Mo)) m []=[] from ⟨k+1,rfl,hA.skip (Int.ofNat_le.1 h) (fun r=>by
  have:=(reachB_at (i:=(n:Int)) (hkl h)).2 r
  rw [q] at this
  cases this),fun m hm=>hz m (by omega)⟩
 repeat' (first|refine an ?_ ?_|((try refine gm ?_);first|((with_reducible show Kz _);(try dsimp+instances only);(with_reducible refine kz _ ?_);clear kz Kz)|refine st ?_|(refine sr ?_;intro Kz kz;conv=>whnf)|(refine cd ?_;(conv=>arg 2;whnf);refine st ?_)|refine blockK_y (by rfl) ?_|(refine sw ?_;conv=>whnf))|(refine gm ?_;conv=>whnf)|(intro hc;(try dsimp+instances only[Dat,SDat,dflt,Ty.size,keepS,bkUpd,Gv.bk,backS,wayA,maxI,minI,negI]at hc);try simp only[LS]at hc))
 all_goals (try ((fail_if_success refine nl ?_);(try dsimp only[Dat,SDat,dflt,Ty.size,keepS,bkUpd,Gv.bk,backS,wayA,maxI,minI,negI]);(try simp only[LS]);first|done|exact dsc|((try simp only[allP,lo,hi,room,true_and,and_true,implies_true]);(repeat' (first|refine an ?_ ?_|((with_reducible refine preA_t ?_ ?_);rotate_left;exact sameP_t)|intro hv))<;>(try omega))))
 all_goals (try ((fail_if_success refine nl ?_);(first|exact hsk (by assumption) hc|exact (congrArg Prod.fst (hA.fin hg hc)).symm|exact (congrArg Prod.snd (hA.fin hg hc)).symm)))
 all_goals (have hkn:k≤n:=Int.ofNat_le.1 (by assumption))
 all_goals (have hk9:=hkl (by assumption))
 all_goals (have hrc:Rch gs n k:=(reachB_at (i:=(n:Int)) hk9).1 (Bool.not_eq_false _|>.mp (by assumption)))
 all_goals (have hkr9:k<List.length (all:List (List Mo)):=Nat.lt_of_lt_of_eq (Nat.lt_succ_of_le hkn) hln.symm)
 all_goals (have hks9:=hks (by assumption))
 · exfalso
   omega
 · have h1k:((List.getD gs k ((0,0,[],()):Gate))).1=1:=by assumption
   have hin:¬ inner ((List.getD gs k ((0,0,[],()):Gate))).1:=by rw [h1k];decide
   have hnil:=kids_nil hV hk9 hin
   have hlp:=leafP_one (v:=((List.getD gs k ((0,0,[],()):Gate))).2.1) h1k
   have hv0:=(congrArg Prod.fst hlp).symm
   have hv1:(0:Int)=0:=rfl
   refine w_loop [(7, .row tPoly),(10, .d tInt),(11, .d tInt)] [] (fun y=>y.1.2.2.1=0∧y.1.1=List.set all k (leafP ((List.getD gs k ((0,0,[],()):Gate))).1 ((List.getD gs k ((0,0,[],()):Gate))).2.1).1∧y.1.2.1=0) (fun y=>0) ?_
   conv=>whnf
   refine And.intro ?_ ?_
   · exact ⟨rfl,congrArg (List.set (all:List (List Mo)) k) hv0,hv1⟩
   rintro ⟨⟨all',(e:Int),(m:Int),⟨⟩⟩,⟨⟩⟩ ⟨hm0,he1,he2⟩
   have hm0:m=0:=hm0
   have he1:(all':List (List Mo))=List.set all k (leafP ((List.getD gs k ((0,0,[],()):Gate))).1 ((List.getD gs k ((0,0,[],()):Gate))).2.1).1:=he1
   have he2:e=0:=he2
   have hno:=fun (h:m<(((List.getD gs k ((0,0,[],()):Gate))).2.2.1.length:Int)∧e=0)=>show False by have:=h.1;rw [hnil,hm0] at this;exact absurd this (by decide)
   have hdone:=show ∃ k':Nat,(k:Int)+1=(k':Int)∧EvF srP.ge (fun _=>True) gs n k' all'∧∀ m,k'≤m→List.getD (all':List (List Mo)) m []=[] from ⟨k+1,rfl,by rw [he1];exact hA.step hkn hrc (gate_leaf hin hlp) trivial,fun m hm=>by
    rw [he1,getD_set hkr9,if_neg (by omega)]
    exact hz m (by omega)⟩
   have hln8:List.length (all':List (List Mo))=n+1:=by rw [he1,List.length_set];exact hln
   repeat' (first|refine an ?_ ?_|((try refine gm ?_);first|((with_reducible show Kz _);(try dsimp+instances only);(with_reducible refine kz _ ?_);clear kz Kz)|refine st ?_|(refine sr ?_;intro Kz kz;conv=>whnf)|(refine cd ?_;(conv=>arg 2;whnf);refine st ?_)|refine blockK_y (by rfl) ?_|(refine sw ?_;conv=>whnf))|(refine gm ?_;conv=>whnf)|(intro hc;(try dsimp+instances only[Dat,SDat,dflt,Ty.size,keepS,bkUpd,Gv.bk,backS,wayA,maxI,minI,negI]at hc);try simp only[LS]at hc))
   all_goals (try ((fail_if_success refine nl ?_);(try dsimp only[Dat,SDat,dflt,Ty.size,keepS,bkUpd,Gv.bk,backS,wayA,maxI,minI,negI]);(try simp only[LS]);first|done|exact dsc|((try simp only[allP,lo,hi,room,true_and,and_true,implies_true]);(repeat' (first|refine an ?_ ?_|((with_reducible refine preA_t ?_ ?_);rotate_left;exact sameP_t)|intro hv))<;>(try omega))))
   all_goals (try ((fail_if_success refine nl ?_);(first|exact (hno (by assumption)).elim|exact hdone)))
 · have h2k:((List.getD gs k ((0,0,[],()):Gate))).1=2:=by assumption
   have hin:¬ inner ((List.getD gs k ((0,0,[],()):Gate))).1:=by rw [h2k];decide
   have hnil:=kids_nil hV hk9 hin
   have hlv:=leaf_var hV hk9 h2k
   have hlp:=leafP_var h2k hlv.1 hlv.2
   have hv0:=(var_ok hlv).1.trans (congrArg Prod.fst hlp).symm
   have hv1:=(var_ok hlv).2
   refine w_loop [(7, .row tPoly),(10, .d tInt),(11, .d tInt)] [] (fun y=>y.1.2.2.1=0∧y.1.1=List.set all k (leafP ((List.getD gs k ((0,0,[],()):Gate))).1 ((List.getD gs k ((0,0,[],()):Gate))).2.1).1∧y.1.2.1=0) (fun y=>0) ?_
   conv=>whnf
   refine And.intro ?_ ?_
   · exact ⟨rfl,congrArg (List.set (all:List (List Mo)) k) hv0,hv1⟩
   rintro ⟨⟨all',(e:Int),(m:Int),⟨⟩⟩,⟨⟩⟩ ⟨hm0,he1,he2⟩
   have hm0:m=0:=hm0
   have he1:(all':List (List Mo))=List.set all k (leafP ((List.getD gs k ((0,0,[],()):Gate))).1 ((List.getD gs k ((0,0,[],()):Gate))).2.1).1:=he1
   have he2:e=0:=he2
   have hno:=fun (h:m<(((List.getD gs k ((0,0,[],()):Gate))).2.2.1.length:Int)∧e=0)=>show False by have:=h.1;rw [hnil,hm0] at this;exact absurd this (by decide)
   have hdone:=show ∃ k':Nat,(k:Int)+1=(k':Int)∧EvF srP.ge (fun _=>True) gs n k' all'∧∀ m,k'≤m→List.getD (all':List (List Mo)) m []=[] from ⟨k+1,rfl,by rw [he1];exact hA.step hkn hrc (gate_leaf hin hlp) trivial,fun m hm=>by
    rw [he1,getD_set hkr9,if_neg (by omega)]
    exact hz m (by omega)⟩
   have hln8:List.length (all':List (List Mo))=n+1:=by rw [he1,List.length_set];exact hln
   repeat' (first|refine an ?_ ?_|((try refine gm ?_);first|((with_reducible show Kz _);(try dsimp+instances only);(with_reducible refine kz _ ?_);clear kz Kz)|refine st ?_|(refine sr ?_;intro Kz kz;conv=>whnf)|(refine cd ?_;(conv=>arg 2;whnf);refine st ?_)|refine blockK_y (by rfl) ?_|(refine sw ?_;conv=>whnf))|(refine gm ?_;conv=>whnf)|(intro hc;(try dsimp+instances only[Dat,SDat,dflt,Ty.size,keepS,bkUpd,Gv.bk,backS,wayA,maxI,minI,negI]at hc);try simp only[LS]at hc))
   all_goals (try ((fail_if_success refine nl ?_);(try dsimp only[Dat,SDat,dflt,Ty.size,keepS,bkUpd,Gv.bk,backS,wayA,maxI,minI,negI]);(try simp only[LS]);first|done|exact dsc|((try simp only[allP,lo,hi,room,true_and,and_true,implies_true]);(repeat' (first|refine an ?_ ?_|((with_reducible refine preA_t ?_ ?_);rotate_left;exact sameP_t)|intro hv))<;>(try omega))))
   all_goals (try ((fail_if_success refine nl ?_);(first|exact (hno (by assumption)).elim|exact hdone)))
 · have hkj:=fun (j:Nat) (h:(j:Int)<(((List.getD gs k ((0,0,[],()):Gate))).2.2.1.length:Int))=>kid_j hV hk9 hkr9 h
   refine w_loop [(7, .row tPoly),(10, .d tInt),(11, .d tInt)] [] (fun y=>∃ j:Nat,PolJ gs all y.1.1 k y.1.2.2.1 y.1.2.1 j) (fun y=>((List.getD gs k ((0,0,[],()):Gate))).2.2.1.length - y.1.2.2.1.toNat) ?_
   conv=>whnf
   refine And.intro ?_ ?_
   · exact ⟨0,PolJ.start⟩
   rintro ⟨⟨all',(e:Int),(idx:Int),⟨⟩⟩,⟨⟩⟩ ⟨j,hJ⟩
   have hJ:PolJ gs (all:List (List Mo)) (all':List (List Mo)) k idx e j:=hJ
   have hi9:=hJ.ix
   subst hi9
   have hle9:=hJ.le
   have hln8:List.length (all':List (List Mo))=List.length (all:List (List Mo)):=hJ.ln
   have hkr8:k<List.length (all':List (List Mo)):=Nat.lt_of_lt_of_eq hkr9 hln8.symm
   have hk8:=fun (j:Nat) (h:(j:Int)<(((List.getD gs k ((0,0,[],()):Gate))).2.2.1.length:Int))=>kid_j hV hk9 hkr8 h
   have hin:=fun (h:(j:Int)<(((List.getD gs k ((0,0,[],()):Gate))).2.2.1.length:Int))=>kids_in hV hk9 h
   have h2:=fun (h:(j:Int)<(((List.getD gs k ((0,0,[],()):Gate))).2.2.1.length:Int))=>(hV.2 k hk9).2.1 (hin h)
   have hk80:=fun (h:(j:Int)<(((List.getD gs k ((0,0,[],()):Gate))).2.2.1.length:Int))=>hk8 0 (Int.lt_of_le_of_lt (Int.natCast_nonneg j) h)
   have hfst:=fun (h:(j:Int)<(((List.getD gs k ((0,0,[],()):Gate))).2.2.1.length:Int)∧e=0) (h0:(j:Int)=0)=>show ∃ j':Nat,PolJ gs all (List.set all' k (List.getD (all':List (List Mo)) (((List.getD gs k ((0,0,[],()):Gate))).2.2.1.getD 0 0).toNat [])) k ((j:Int)+1) e j' from ⟨j+1,hJ.first h h0 hkr9 (hin h.1) (h2 h.1)⟩
   have hop3:((List.getD gs k ((0,0,[],()):Gate))).1=3→srP.op ((List.getD gs k ((0,0,[],()):Gate)))=srP.plus:=fun h=>if_neg (show ¬ ((List.getD gs k ((0,0,[],()):Gate))).1=4 by rw [h];decide)
   have hop4:=fun (h:(j:Int)<(((List.getD gs k ((0,0,[],()):Gate))).2.2.1.length:Int)) (q:¬ ((List.getD gs k ((0,0,[],()):Gate))).1=3)=>show srP.op ((List.getD gs k ((0,0,[],()):Gate)))=srP.times from if_pos ((hin h).resolve_left q)
   have hnx:=fun (v:List Mo) (e':Int) (h:(j:Int)<(((List.getD gs k ((0,0,[],()):Gate))).2.2.1.length:Int)∧e=0) (h0:¬ (j:Int)=0) (hv:srP.op ((List.getD gs k ((0,0,[],()):Gate))) (List.getD (all':List (List Mo)) k []) (List.getD (all':List (List Mo)) (((List.getD gs k ((0,0,[],()):Gate))).2.2.1.getD j 0).toNat [])=(v,e'))=>show ∃ j':Nat,PolJ gs all (List.set all' k v) k ((j:Int)+1) e' j' from ⟨j+1,hJ.next hV hk9 h h0 hkr9 hv⟩
   have hstop:=fun (h:¬ e=0)=>show evC srP.ge gs (n:Int)=([],e) from by
    have h9:srP.ge.G (all:List (List Mo)) ((List.getD gs k ((0,0,[],()):Gate)))=([],e):=hJ.bad h
    have h8:=hA.stop hg hkn hrc (by rw [h9];exact h)
    rw [h9] at h8
    exact h8
   have hgo:=fun (h:¬ ((j:Int)<(((List.getD gs k ((0,0,[],()):Gate))).2.2.1.length:Int)∧e=0)) (q:e=0) (q1:¬ ((List.getD gs k ((0,0,[],()):Gate))).1=1) (q2:¬ ((List.getD gs k ((0,0,[],()):Gate))).1=2)=>show ∃ k':Nat,(k:Int)+1=(k':Int)∧EvF srP.ge (fun _=>True) gs n k' all'∧∀ m,k'≤m→List.getD (all':List (List Mo)) m []=[] from by
    obtain ⟨x,hx,hG⟩:=hJ.good hV hk9 q h hkr9 (hz k (Nat.le_refl k)) q1 q2
    refine ⟨k+1,rfl,?_,fun m hm=>?_⟩
    · rw [hx];exact hA.step hkn hrc hG trivial
    · rw [hx,getD_set hkr9,if_neg (by omega)];exact hz m (by omega)
   repeat' (first|refine an ?_ ?_|((try refine gm ?_);first|((with_reducible show Kz _);(try dsimp+instances only);(with_reducible refine kz _ ?_);clear kz Kz)|refine st ?_|(refine sr ?_;intro Kz kz;conv=>whnf)|(refine cd ?_;(conv=>arg 2;whnf);refine st ?_)|refine blockK_y (by rfl) ?_|(refine sw ?_;conv=>whnf))|(refine gm ?_;conv=>whnf)|(intro hc;(try dsimp+instances only[Dat,SDat,dflt,Ty.size,keepS,bkUpd,Gv.bk,backS,wayA,maxI,minI,negI]at hc);try simp only[LS]at hc))
   all_goals (try ((fail_if_success refine nl ?_);(try dsimp only[Dat,SDat,dflt,Ty.size,keepS,bkUpd,Gv.bk,backS,wayA,maxI,minI,negI]);(try simp only[LS]);first|done|exact dsc|((try simp only[allP,lo,hi,room,true_and,and_true,implies_true]);(repeat' (first|refine an ?_ ?_|((with_reducible refine preA_t ?_ ?_);rotate_left;exact sameP_t)|intro hv))<;>(try omega))))
   all_goals (try ((fail_if_success refine nl ?_);(first|with_reducible exact (hk80 (And.left (by assumption))).1|with_reducible exact (hk80 (And.left (by assumption))).2.1|with_reducible exact (hk80 (And.left (by assumption))).2.2|with_reducible exact (hk8 j (And.left (by assumption))).1|with_reducible exact (hk8 j (And.left (by assumption))).2.1|with_reducible exact (hk8 j (And.left (by assumption))).2.2|exact hgo (by assumption) hc (by assumption) (by assumption)|exact (congrArg Prod.fst (hstop hc)).symm|exact (congrArg Prod.snd (hstop hc)).symm|exact hfst (by assumption) hc|exact hnx _ _ (by assumption) (by assumption) (by rw [hop3 hc];rfl)|exact hnx _ _ (by assumption) (by assumption) (by rw [hop4 (And.left (by assumption)) hc];rfl))))
theorem ok_z100:SpecOK SP glob fi_z100 S_z100:=mk_ok (c:=c_z100) (tab_ok _) mix_ok wf_z100 (by decide) (.cons ok_z106 (.cons ok_z102 (.cons ok_z86 (.cons ok_z91 (.cons ok_z85 (.cons ok_z87 .nil)))))) (fun x hx=>Nat.zero_lt_one) g_z100
end Go.Gv
