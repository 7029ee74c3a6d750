/- Chapter 16: the reference: gates put, what is reached. -/
import Derived.Test.YtibnojoffhlekaaGreatDoorR16
import Derived.Test.YtibnojoffhlekaaGreatDoorC16c
set_option linter.all false
namespace Go.Gv
open Go Go.Proofs Go.Proofs.YtibnojoffhlekaaGreatDoor
set_option maxRecDepth 100000
set_option maxHeartbeats 4000000
@[reducible] noncomputable def S_z106:Spec:={ ins:=(.cons (.d tCirc) (.cons (.d tInt) .nil)),pre:=(fun x=>(fun c i=>SmallG c.1) x.1 x.2.1),alts:=[{ outs:=(.cons (.d .bool) .nil),res:=(fun x=>(fun c i=>(boolOf (GoodI c.1 i),())) x.1 x.2.1)}]}
noncomputable def c_z106:Cf:=(cf_z106 (Fl [(fi_z104,S_z104)]))
theorem g_z106:∀ x,S_z106.pre x→shOK S_z106.ins x→fnGoal c_z106 fn_z106 S_z106 x:=by
 rintro ⟨c,i,⟨⟩⟩ hpre hok
 try dsimp only [Dat,SDat,dflt,Ty.size,keepS,bkUpd,Gv.bk,backS,wayA,maxI,minI,negI] at hpre
 have hln:=shLn_of _ hok;replace hok:=Hd.mk hok;try simp only [shLn,datLn,inRng,lo,hi,maxLen,true_and,and_true] at hln
 first|refine fn_goal (w_head ?_)
 intro Kz kz;(conv=>whnf);(try dsimp+instances only);refine kz _ ?_;clear kz Kz;(conv=>(arg 2;whnf))
 repeat' (first|refine an ?_ ?_|((try refine gm ?_);first|((with_reducible show Kz _);(try dsimp+instances only);(with_reducible refine kz _ ?_);clear kz Kz)|refine st ?_|(refine sr ?_;intro Kz kz;conv=>whnf)|(refine cd ?_;(conv=>arg 2;whnf);refine st ?_)|refine blockK_y (by rfl) ?_|(refine sw ?_;conv=>whnf))|(refine gm ?_;conv=>whnf)|(intro hc;(try dsimp+instances only[Dat,SDat,dflt,Ty.size,keepS,bkUpd,Gv.bk,backS,wayA,maxI,minI,negI]at hc);try simp only[LS]at hc))
 all_goals (try ((fail_if_success refine nl ?_);(try dsimp only[Dat,SDat,dflt,Ty.size,keepS,bkUpd,Gv.bk,backS,wayA,maxI,minI,negI]);(try simp only[LS]);first|done|exact dsc|((try simp only[allP,lo,hi,room,true_and,and_true,implies_true]);(repeat' (first|refine an ?_ ?_|((with_reducible refine preA_t ?_ ?_);rotate_left;exact sameP_t)|intro hv))<;>(try omega))))
 all_goals (first|exact hpre _ (by assumption)|exact congrArg boolOf (propext ⟨fun h=>⟨h.1.1,h.1.2,h.2⟩,fun h=>⟨⟨h.lo,h.hi⟩,h.v⟩⟩))
theorem ok_z106:SpecOK SP glob fi_z106 S_z106:=mk_ok (c:=c_z106) (tab_ok _) mix_ok wf_z106 (by decide) (.cons ok_z104 .nil) (fun x hx=>Nat.zero_lt_one) g_z106
noncomputable def reachB (gs:List Gate) (i:Int):List Bool:=(List.range gs.length).map fun k=>boolOf (Rch gs i.toNat k)
theorem reachB_is {gs:List Gate} {n:Nat} {xs:List Bool} (hM:MarkR gs n xs 0) (hl:xs.length=gs.length):xs=reachB gs (n:Int):=by
 refine List.ext_getElem (by unfold reachB;rw [List.length_map,List.length_range,hl]) fun k h1 h2=>?_
 have h:=hM.done k
 rw [getD_ok false h1] at h
 rw [Bool.eq_iff_iff,h]
 simp [reachB,boolOf_true]
@[reducible] noncomputable def S_z102:Spec:={ ins:=(.cons (.d tCirc) (.cons (.d tInt) .nil)),pre:=(fun x=>(fun c i=>GoodI c.1 i∧SmallG c.1) x.1 x.2.1),alts:=[{ outs:=(.cons (.d (.sl .bool)) .nil),res:=(fun x=>(fun c i=>(reachB c.1 i,())) x.1 x.2.1)}]}
noncomputable def c_z102:Cf:=(cf_z102 (Fl []))
theorem g_z102:∀ x,S_z102.pre x→shOK S_z102.ins x→fnGoal c_z102 fn_z102 S_z102 x:=by
 rintro ⟨⟨gs,⟨⟩⟩,(i:Int),⟨⟩⟩ hpre hok
 try dsimp only [Dat,SDat,dflt,Ty.size,keepS,bkUpd,Gv.bk,backS,wayA,maxI,minI,negI] at hpre
 have hln:=shLn_of _ hok;replace hok:=Hd.mk hok;try simp only [shLn,datLn,inRng,lo,hi,maxLen,true_and,and_true] at hln
 obtain ⟨hg,hsm⟩:=hpre
 have hg:GoodI gs i:=hg
 have hsm:SmallG gs:=hsm
 obtain ⟨n,rfl⟩:∃ n:Nat,i=(n:Int):=⟨i.toNat,(Int.toNat_of_nonneg hg.lo).symm⟩
 have hn:n<gs.length:=by have:=hg.hi;omega
 have hV:=hg.v
 have hmax:=hV.1
 first|refine fn_goal (w_head ?_)
 intro Kz kz;(conv=>whnf);(try dsimp+instances only);refine kz _ ?_;clear kz Kz;(conv=>(arg 2;whnf))
 repeat' (first|refine an ?_ ?_|((try refine gm ?_);first|((with_reducible show Kz _);(try dsimp+instances only);(with_reducible refine kz _ ?_);clear kz Kz)|refine st ?_|(refine sr ?_;intro Kz kz;conv=>whnf)|(refine cd ?_;(conv=>arg 2;whnf);refine st ?_)|refine blockK_y (by rfl) ?_|(refine sw ?_;conv=>whnf))|(refine gm ?_;conv=>whnf)|(intro hc;(try dsimp+instances only[Dat,SDat,dflt,Ty.size,keepS,bkUpd,Gv.bk,backS,wayA,maxI,minI,negI]at hc);try simp only[LS]at hc))
 all_goals (try ((fail_if_success refine nl ?_);(try dsimp only[Dat,SDat,dflt,Ty.size,keepS,bkUpd,Gv.bk,backS,wayA,maxI,minI,negI]);(try simp only[LS]);first|done|exact dsc|((try simp only[allP,lo,hi,room,true_and,and_true,implies_true]);(repeat' (first|refine an ?_ ?_|((with_reducible refine preA_t ?_ ?_);rotate_left;exact sameP_t)|intro hv))<;>(try omega))))
 refine w_loop [(5, .row .bool),(6, .d tInt)] [] (fun y=>∃ m:Nat,y.1.2.1=(m:Int) - 1∧m≤n+1∧List.length y.1.1=gs.length∧MarkR gs n y.1.1 m) (fun y=>(y.1.2.1+1).toNat) ?_
 conv=>whnf
 refine And.intro ?_ ?_
 · refine ⟨n+1,by show (n:Int)=((n+1:Nat):Int) - 1;omega,Nat.le_refl _,?_,mark_start (by omega)⟩
   show ((List.replicate _ _).set _ _).length=_
   rw [List.length_set,List.length_replicate];omega
 rintro ⟨⟨xs,_,⟨⟩⟩,⟨⟩⟩ ⟨m,rfl,hm,hxl,hM⟩
 have hxl:List.length (xs:List Bool)=gs.length:=hxl
 have hM:MarkR gs n (xs:List Bool) m:=hM
 have hK1:0≤(m:Int) - 1→((m:Int) - 1).toNat+1=m∧((m:Int) - 1).toNat<gs.length∧((m:Int) - 1).toNat≤n:=fun h=>by omega
 have hM1:=fun (h:0≤(m:Int) - 1)=>show MarkR gs n (xs:List Bool) (((m:Int) - 1).toNat+1) by rw [(hK1 h).1];exact hM
 have hm1:=fun (h:0≤(m:Int) - 1)=>show (m:Int) - 1 - 1=((((m:Int) - 1).toNat:Nat):Int) - 1 by omega
 repeat' (first|refine an ?_ ?_|((try refine gm ?_);first|((with_reducible show Kz _);(try dsimp+instances only);(with_reducible refine kz _ ?_);clear kz Kz)|refine st ?_|(refine sr ?_;intro Kz kz;conv=>whnf)|(refine cd ?_;(conv=>arg 2;whnf);refine st ?_)|refine blockK_y (by rfl) ?_|(refine sw ?_;conv=>whnf))|(refine gm ?_;conv=>whnf)|(intro hc;(try dsimp+instances only[Dat,SDat,dflt,Ty.size,keepS,bkUpd,Gv.bk,backS,wayA,maxI,minI,negI]at hc);try simp only[LS]at hc))
 all_goals (try ((fail_if_success refine nl ?_);(try dsimp only[Dat,SDat,dflt,Ty.size,keepS,bkUpd,Gv.bk,backS,wayA,maxI,minI,negI]);(try simp only[LS]);first|done|exact dsc|((try simp only[allP,lo,hi,room,true_and,and_true,implies_true]);(repeat' (first|refine an ?_ ?_|((with_reducible refine preA_t ?_ ?_);rotate_left;exact sameP_t)|intro hv))<;>(try omega))))
 · have hh:0≤(m:Int) - 1:=by assumption
   obtain ⟨k1,k2,k3⟩:=hK1 hh
   have hkid:=fun (j:Nat) (h:j<(List.getD gs ((m:Int) - 1).toNat ((0,0,[],()):Gate)).2.2.1.length)=>kid_in hV k2 (getD_mem (d:=(0:Int)) h)
   refine w_loop [(5, .row .bool),(7, .d tInt)] [] (fun y=>∃ j:Nat,y.1.2.1=(j:Int)∧j≤(List.getD gs ((m:Int) - 1).toNat ((0,0,[],()):Gate)).2.2.1.length∧List.length y.1.1=gs.length∧(List.getD y.1.1 ((m:Int) - 1).toNat false=true→MarkK gs n y.1.1 ((m:Int) - 1).toNat j)∧(List.getD y.1.1 ((m:Int) - 1).toNat false=false→MarkR gs n y.1.1 (((m:Int) - 1).toNat+1))) (fun y=>(List.getD gs ((m:Int) - 1).toNat ((0,0,[],()):Gate)).2.2.1.length - y.1.2.1.toNat) ?_
   conv=>whnf
   refine And.intro ?_ ?_
   · exact ⟨0,rfl,Nat.zero_le _,hxl,fun h=>(hM1 hh).open h,fun _=>hM1 hh⟩
   rintro ⟨⟨xs',_,⟨⟩⟩,⟨⟩⟩ ⟨j,rfl,hj,hxl',hMK,hMR⟩
   have hxl':List.length (xs':List Bool)=gs.length:=hxl'
   have hMK:List.getD (xs':List Bool) ((m:Int) - 1).toNat false=true→MarkK gs n (xs':List Bool) ((m:Int) - 1).toNat j:=hMK
   have hMR:List.getD (xs':List Bool) ((m:Int) - 1).toNat false=false→MarkR gs n (xs':List Bool) (((m:Int) - 1).toNat+1):=hMR
   have hkj:=hkid j
   have hstep:=fun (h:j<(List.getD gs ((m:Int) - 1).toNat ((0,0,[],()):Gate)).2.2.1.length) (q:List.getD (xs':List Bool) ((m:Int) - 1).toNat false=true)=>(hMK q).step h (by have:=hkj h;omega) (by have:=hkj h;omega)
   have hks:=hsm _ (getD_mem (d:=((0,0,[],()):Gate)) k2)
   have hend:=fun (h:¬ ((j:Int)<((List.getD gs ((m:Int) - 1).toNat ((0,0,[],()):Gate)).2.2.1.length:Int)∧List.getD (xs':List Bool) ((m:Int) - 1).toNat false=true))=>show MarkR gs n (xs':List Bool) ((m:Int) - 1).toNat from by
    cases q:List.getD (xs':List Bool) ((m:Int) - 1).toNat false
    · exact (hMR q).skip q
    · exact (hMK q).shut (Nat.not_lt.1 fun e=>h ⟨Int.ofNat_lt.2 e,q⟩)
   repeat' (first|refine an ?_ ?_|((try refine gm ?_);first|((with_reducible show Kz _);(try dsimp+instances only);(with_reducible refine kz _ ?_);clear kz Kz)|refine st ?_|(refine sr ?_;intro Kz kz;conv=>whnf)|(refine cd ?_;(conv=>arg 2;whnf);refine st ?_)|refine blockK_y (by rfl) ?_|(refine sw ?_;conv=>whnf))|(refine gm ?_;conv=>whnf)|(intro hc;(try dsimp+instances only[Dat,SDat,dflt,Ty.size,keepS,bkUpd,Gv.bk,backS,wayA,maxI,minI,negI]at hc);try simp only[LS]at hc))
   all_goals (try ((fail_if_success refine nl ?_);(try dsimp only[Dat,SDat,dflt,Ty.size,keepS,bkUpd,Gv.bk,backS,wayA,maxI,minI,negI]);(try simp only[LS]);first|done|exact dsc|((try simp only[allP,lo,hi,room,true_and,and_true,implies_true]);(repeat' (first|refine an ?_ ?_|((with_reducible refine preA_t ?_ ?_);rotate_left;exact sameP_t)|intro hv))<;>(try omega))))
   · have hjl:j<(List.getD gs ((m:Int) - 1).toNat ((0,0,[],()):Gate)).2.2.1.length:=Int.ofNat_lt.1 hc.1
     have h9:=hstep hjl hc.2
     exact ⟨j+1,rfl,hjl,hxl',fun _=>h9,fun q=>by have:=h9.hr;rw [q] at this;cases this⟩
   · exact ⟨((m:Int) - 1).toNat,hm1 hh,by omega,hxl',hend hc⟩
 · have hm0:m=0:=by omega
   subst hm0
   exact reachB_is hM hxl
theorem ok_z102:SpecOK SP glob fi_z102 S_z102:=mk_ok (c:=c_z102) (tab_ok _) mix_ok wf_z102 (by decide) .nil (fun x hx=>Nat.zero_lt_one) g_z102
theorem rt_hit {gs:List Gate} {g g':Gate} (hP:PutOK gs g) (hO:¬ OneK gs g) (e:nrmG gs g=g') {k:Nat} (hk:k<gs.length) (h:(List.getD gs k ((0,0,[],()):Gate))=g'):putC gs g=(gs,(k:Int),0):=by
 have hi:=idxG_is hP.v hk h
 rw [put_hit hP hO (by rw [e];exact hi.1),e,hi.2]
theorem rt_no {gs:List Gate} {g':Gate} {m:Nat} (h:∀ k,k<m→(List.getD gs k ((0,0,[],()):Gate))≠g') (hm:gs.length≤m):g' ∉ gs:=fun hg=>by
 obtain ⟨k,hk,rfl⟩:=List.getElem_of_mem hg
 exact h k (by omega) (getD_ok ((0,0,[],()):Gate) hk)
structure NoG (gs:List Gate) (g':Gate) (m:Nat):Prop where
 le:m≤gs.length
 no:∀ k,k<m→(List.getD gs k ((0,0,[],()):Gate))≠g'
theorem NoG.start {gs:List Gate} {g':Gate}:NoG gs g' 0:=⟨Nat.zero_le _,fun k h=>absurd h (Nat.not_lt_zero k)⟩
theorem NoG.step {gs:List Gate} {g':Gate} {m:Nat} (h:NoG gs g' m) (hm:(m:Int)<(gs.length:Int)) (q:¬ List.getD gs m ((0,0,[],()):Gate)=g'):NoG gs g' (m+1):=⟨by omega,fun k hk=>by
 by_cases e:k=m
 · rw [e];exact q
 · exact h.no k (by omega)⟩
theorem rt_full {gs:List Gate} {g g':Gate} (hP:PutOK gs g) (hO:¬ OneK gs g) (e:nrmG gs g=g') {m:Nat} (h:NoG gs g' m) (hm:¬ (m:Int)<(gs.length:Int)) (l:(gs.length:Int)=100000):putC gs g=([],0,3):=put_full hP hO (by rw [e];exact rt_no h.no (by omega)) (by omega)
theorem rt_new {gs:List Gate} {g g':Gate} (hP:PutOK gs g) (hO:¬ OneK gs g) (e:nrmG gs g=g') {m:Nat} (h:NoG gs g' m) (hm:¬ (m:Int)<(gs.length:Int)) (l:¬ (gs.length:Int)=100000):putC gs g=(gs++[g'],(gs.length:Int),0):=by
 rw [put_new hP hO (by rw [e];exact rt_no h.no (by omega)) (by omega),e]
@[reducible] noncomputable def S_z101:Spec:={ ins:=(.cons (.d tCirc) (.cons (.d tGate) .nil)),pre:=(fun x=>(fun c g=>SmallG c.1∧g.2.2.1.length≤1000000) x.1 x.2.1),alts:=[{ outs:=(.cons (.d tCirc) (.cons (.d tInt) (.cons (.d tInt) .nil))),res:=(fun x=>(fun c g=>(((putC c.1 g).1,()),(putC c.1 g).2.1,(putC c.1 g).2.2,())) x.1 x.2.1)}]}
noncomputable def c_z101:Cf:={ cf_z101 (Fl [(fi_z104,S_z104),(fi_z105,S_z105),(fi_z107,S_z107),(fi_z108,S_z108),(fi_z97,S_z97)]) with E:={ (cf_z101 (Fl [(fi_z104,S_z104),(fi_z105,S_z105),(fi_z107,S_z107),(fi_z108,S_z108),(fi_z97,S_z97)])).E with rows:=[10,17,26,31]}}
theorem g_z101:∀ x,S_z101.pre x→shOK S_z101.ins x→fnGoal c_z101 fn_z101 S_z101 x:=by
 rintro ⟨⟨gs,⟨⟩⟩,⟨gk,gv,gkids,⟨⟩⟩,⟨⟩⟩ hpre hok
 try dsimp only [Dat,SDat,dflt,Ty.size,keepS,bkUpd,Gv.bk,backS,wayA,maxI,minI,negI] at hpre
 have hln:=shLn_of _ hok;replace hok:=Hd.mk hok;try simp only [shLn,datLn,inRng,lo,hi,maxLen,true_and,and_true] at hln
 obtain ⟨hsm,hkl⟩:=hpre
 have hbad:=fun (h:¬ PutOK gs (gk,gv,gkids,()))=>put_bad h
 first|refine fn_goal (w_head ?_)
 intro Kz kz;(conv=>whnf);(try dsimp+instances only);refine kz _ ?_;clear kz Kz;(conv=>(arg 2;whnf))
 repeat' (first|refine an ?_ ?_|((try refine gm ?_);first|((with_reducible show Kz _);(try dsimp+instances only);(with_reducible refine kz _ ?_);clear kz Kz)|refine st ?_|(refine sr ?_;intro Kz kz;conv=>whnf)|(refine cd ?_;(conv=>arg 2;whnf);refine st ?_)|refine blockK_y (by rfl) ?_|(refine sw ?_;conv=>whnf))|(refine gm ?_;conv=>whnf)|(intro hc;(try dsimp+instances only[Dat,SDat,dflt,Ty.size,keepS,bkUpd,Gv.bk,backS,wayA,maxI,minI,negI]at hc);try simp only[LS]at hc))
 all_goals (try ((fail_if_success refine nl ?_);(try dsimp only[Dat,SDat,dflt,Ty.size,keepS,bkUpd,Gv.bk,backS,wayA,maxI,minI,negI]);(try simp only[LS]);first|done|exact dsc|((try simp only[allP,lo,hi,room,true_and,and_true,implies_true]);(repeat' (first|refine an ?_ ?_|((with_reducible refine preA_t ?_ ?_);rotate_left;exact sameP_t)|intro hv))<;>(try omega))))
 all_goals (try ((fail_if_success refine nl ?_);(exact (by assumption:SmallG gs))))
 all_goals (try ((fail_if_success refine nl ?_);(exact hsm _ (by assumption))))
 all_goals (try ((fail_if_success refine nl ?_);(have h9:=hbad (fun h=>hc.elim (fun k=>k h.v) (fun k=>k h.f));first|exact (congrArg (fun p=>p.1) h9).symm|exact (congrArg (fun p=>p.2.1) h9).symm|exact (congrArg (fun p=>p.2.2) h9).symm)))
 all_goals have hP:PutOK gs (gk,gv,gkids,()):=⟨Classical.not_not.1 (not_or.1 (by assumption:¬ (¬ ValidC gs∨¬ formed (gk,gv,gkids,()) (List.length gs)))).1,Classical.not_not.1 (not_or.1 (by assumption:¬ (¬ ValidC gs∨¬ formed (gk,gv,gkids,()) (List.length gs)))).2⟩
 · have hi:inner gk:=by assumption
   refine w_loop [(8, .spare tInt),(9, .d .bool),(10, .d tInt)] [] (fun y=>∃ k:Nat,y.1.2.2.1=(k:Int)∧k≤(sortI gkids).length∧KidR gs gk (sortI gkids) k y.1.2.1 y.1.1) (fun y=>(sortI gkids).length - y.1.2.2.1.toNat) ?_
   conv=>whnf
   refine And.intro ?_ ?_
   · exact ⟨0,rfl,Nat.zero_le _,KidR.start _ _ _⟩
   rintro ⟨⟨ks,ze,_,⟨⟩⟩,⟨⟩⟩ ⟨k,rfl,hk,hR⟩
   have hR:KidR gs gk (sortI gkids) k ze ks:=hR
   have hsl:=sortI_len gkids
   have hkl6:gkids.length≤1000000:=hkl
   have hkr:=fun (h:k<(sortI gkids).length)=>hP.f.1 _ (sortI_mem.1 (getD_mem (d:=(0:Int)) h))
   have hksl:List.length (ks:List Int)≤1000000:=by
    rw [hR.f]
    have:=List.length_filter_le (fun j=>keptB gk (kindAt gs j)) ((sortI gkids).take k)
    rw [List.length_take] at this
    omega
   have hn9:=fun (h:k<(sortI gkids).length)=>hR.step h (ze':=boolOf (ze=true∨kindAt gs ((sortI gkids).getD k 0)=0)) (by rw [boolOf_true])
   have hy:=fun (h:k<(sortI gkids).length) (q:¬ kindAt gs ((sortI gkids).getD k 0)=0∧(¬ kindAt gs ((sortI gkids).getD k 0)=1∨gk=3))=>show ∃ k_1:Nat,(k:Int)+1=(k_1:Int)∧k_1≤(sortI gkids).length∧KidR gs gk (sortI gkids) k_1 (boolOf (ze=true∨kindAt gs ((sortI gkids).getD k 0)=0)) (ks++[(sortI gkids).getD k 0]) from by
    have h9:=hn9 h
    rw [if_pos (show keptB gk (kindAt gs ((sortI gkids).getD k 0))=true from decide_eq_true q)] at h9
    exact ⟨k+1,by omega,by omega,h9⟩
   have hno:=fun (h:k<(sortI gkids).length) (q:¬ (¬ kindAt gs ((sortI gkids).getD k 0)=0∧(¬ kindAt gs ((sortI gkids).getD k 0)=1∨gk=3)))=>show ∃ k_1:Nat,(k:Int)+1=(k_1:Int)∧k_1≤(sortI gkids).length∧KidR gs gk (sortI gkids) k_1 (boolOf (ze=true∨kindAt gs ((sortI gkids).getD k 0)=0)) ks from by
    have h9:=hn9 h
    rw [if_neg (show ¬ keptB gk (kindAt gs ((sortI gkids).getD k 0))=true from fun e=>q (of_decide_eq_true e)),List.append_nil] at h9
    exact ⟨k+1,by omega,by omega,h9⟩
   have hge:=fun (h:¬ (k:Int)<((sortI gkids).length:Int))=>hR.done (g:=(gk,gv,gkids,())) (show (sortI gkids).length≤k by omega)
   have hzero:=fun (h:¬ (k:Int)<((sortI gkids).length:Int)) (q:gk=4∧ze=true)=>nrm_zero (g:=(gk,gv,gkids,())) hi (.inl (((hge h).2 q.1).1 q.2))
   have hcase:=fun (h:¬ (k:Int)<((sortI gkids).length:Int)) (q:¬ (gk=4∧ze=true))=>show ¬ zeroK gs (gk,gv,gkids,()) from fun z=>q ⟨z.1,((hge h).2 z.1).2 z⟩
   have hplus:=fun (h:¬ (k:Int)<((sortI gkids).length:Int)) (q:((ks:List Int).length:Int)=0∧gk=3)=>nrm_zero (g:=(gk,gv,gkids,())) hi (.inr ⟨q.2,by rw [← (hge h).1];omega⟩)
   have hunit:=fun (h:¬ (k:Int)<((sortI gkids).length:Int)) (q:¬ (gk=4∧ze=true)) (q2:¬ (((ks:List Int).length:Int)=0∧gk=3)) (q3:((ks:List Int).length:Int)=0)=>nrm_unit (g:=(gk,gv,gkids,())) hi (fun z=>z.elim (hcase h q) fun z=>q2 ⟨q3,z.1⟩) (by rw [← (hge h).1];omega)
   have hmany:=fun (h:¬ (k:Int)<((sortI gkids).length:Int)) (q:¬ (gk=4∧ze=true)) (q3:¬ ((ks:List Int).length:Int)=0) (q4:¬ ((ks:List Int).length:Int)=1)=>show nrmG gs (gk,gv,gkids,())=(gk,gv,ks,())∧¬ OneK gs (gk,gv,gkids,()) by
    have h9:=nrm_many (gs:=gs) (g:=(gk,gv,gkids,())) hi (fun z=>z.elim (hcase h q) fun z=>q3 (by have:=z.2;rw [← (hge h).1] at this;omega)) (by rw [← (hge h).1];omega) (by rw [← (hge h).1];omega)
    rw [← (hge h).1] at h9
    exact h9
   have hone:=fun (h:¬ (k:Int)<((sortI gkids).length:Int)) (q:¬ (gk=4∧ze=true)) (q4:((ks:List Int).length:Int)=1)=>show putC gs (gk,gv,gkids,())=(gs,(ks:List Int).getD 0 0,0) by
    have h9:=put_one hP ⟨hi,hcase h q,by rw [← (hge h).1];omega⟩
    rw [← (hge h).1] at h9
    exact h9
   have hlo:=fun (h:(k:Int)<((sortI gkids).length:Int))=>(hkr (Int.ofNat_lt.1 h)).1
   have hup:=fun (h:(k:Int)<((sortI gkids).length:Int))=>(hkr (Int.ofNat_lt.1 h)).2
   have hk0:(k:Int)+1≤1000001:=by omega
   have hk1:(k:Int)+1≤Gv.hi IntKind.i64:=Int.le_trans hk0 (by decide)
   clear hR hn9
   repeat' (first|refine an ?_ ?_|((try refine gm ?_);first|((with_reducible show Kz _);(try dsimp+instances only);(with_reducible refine kz _ ?_);clear kz Kz)|refine st ?_|(refine sr ?_;intro Kz kz;conv=>whnf)|(refine cd ?_;(conv=>arg 2;whnf);refine st ?_)|refine blockK_y (by rfl) ?_|(refine sw ?_;conv=>whnf))|(refine gm ?_;conv=>whnf)|(intro hc;(try dsimp+instances only[Dat,SDat,dflt,Ty.size,keepS,bkUpd,Gv.bk,backS,wayA,maxI,minI,negI]at hc);try simp only[LS]at hc))
   all_goals (try ((fail_if_success refine nl ?_);(try dsimp only[Dat,SDat,dflt,Ty.size,keepS,bkUpd,Gv.bk,backS,wayA,maxI,minI,negI]);(try simp only[LS]);first|done|exact dsc|((try simp only[allP,lo,hi,room,true_and,and_true,implies_true]);(repeat' (first|refine an ?_ ?_|((with_reducible refine preA_t ?_ ?_);rotate_left;exact sameP_t)|intro hv))<;>(try omega))))
   all_goals (try ((fail_if_success refine nl ?_);(first|with_reducible exact hlo (by assumption)|with_reducible exact hup (by assumption)|with_reducible exact hk1|exact hy (Int.ofNat_lt.1 (by assumption)) hc|exact hno (Int.ofNat_lt.1 (by assumption)) hc)))
   all_goals (try ((fail_if_success refine nl ?_);(first|exact (congrArg (fun p=>p.1) (hone (by assumption) (by assumption) hc)).symm|exact (congrArg (fun p=>p.2.1) (hone (by assumption) (by assumption) hc)).symm|exact (congrArg (fun p=>p.2.2) (hone (by assumption) (by assumption) hc)).symm)))
   · refine And.elim (fun he hO=>?_) (hzero (by assumption) hc)
     refine w_loop [(12, .d tInt)] [] (fun y=>∃ m:Nat,y.1.1=(m:Int)∧NoG gs (0,0,[],()) m) (fun y=>gs.length - y.1.1.toNat) ?_
     conv=>whnf
     refine And.intro ?_ ?_
     · exact ⟨0,rfl,NoG.start⟩
     rintro ⟨⟨_,⟨⟩⟩,⟨⟩⟩ ⟨m,rfl,hN⟩
     have hN:NoG gs (0,0,[],()) m:=hN
     have hml:=hN.le
     have hmx:=hP.v.1
     have hk2:(m:Int)+1≤Gv.hi IntKind.i64:=Int.le_trans (show (m:Int)+1≤100001 by omega) (by decide)
     have hN1:=fun (h:(m:Int)<(List.length gs:Int)) (q:¬ List.getD gs m ((0,0,[],()):Gate)=(0,0,[],()))=>show ∃ m':Nat,(m:Int)+1=(m':Int)∧NoG gs (0,0,[],()) m' from ⟨m+1,rfl,hN.step h q⟩
     repeat' (first|refine an ?_ ?_|((try refine gm ?_);first|((with_reducible show Kz _);(try dsimp+instances only);(with_reducible refine kz _ ?_);clear kz Kz)|refine st ?_|(refine sr ?_;intro Kz kz;conv=>whnf)|(refine cd ?_;(conv=>arg 2;whnf);refine st ?_)|refine blockK_y (by rfl) ?_|(refine sw ?_;conv=>whnf))|(refine gm ?_;conv=>whnf)|(intro hc;(try dsimp+instances only[Dat,SDat,dflt,Ty.size,keepS,bkUpd,Gv.bk,backS,wayA,maxI,minI,negI]at hc);try simp only[LS]at hc))
     all_goals (try ((fail_if_success refine nl ?_);(try dsimp only[Dat,SDat,dflt,Ty.size,keepS,bkUpd,Gv.bk,backS,wayA,maxI,minI,negI]);(try simp only[LS]);first|done|exact dsc|((try simp only[allP,lo,hi,room,true_and,and_true,implies_true]);(repeat' (first|refine an ?_ ?_|((with_reducible refine preA_t ?_ ?_);rotate_left;exact sameP_t)|intro hv))<;>(try omega))))
     all_goals (try ((fail_if_success refine nl ?_);(first|with_reducible exact hk2|exact hN1 (by assumption) hc|exact (congrArg (fun p=>p.1) (rt_hit hP hO he (Int.ofNat_lt.1 (by assumption)) hc)).symm|exact (congrArg (fun p=>p.2.1) (rt_hit hP hO he (Int.ofNat_lt.1 (by assumption)) hc)).symm|exact (congrArg (fun p=>p.2.2) (rt_hit hP hO he (Int.ofNat_lt.1 (by assumption)) hc)).symm|exact (congrArg (fun p=>p.1) (rt_full hP hO he hN (by assumption) hc)).symm|exact (congrArg (fun p=>p.2.1) (rt_full hP hO he hN (by assumption) hc)).symm|exact (congrArg (fun p=>p.2.2) (rt_full hP hO he hN (by assumption) hc)).symm|exact (congrArg (fun p=>p.1) (rt_new hP hO he hN (by assumption) hc)).symm|exact (congrArg (fun p=>p.2.1) (rt_new hP hO he hN (by assumption) hc)).symm|exact (congrArg (fun p=>p.2.2) (rt_new hP hO he hN (by assumption) hc)).symm)))
   · refine And.elim (fun he hO=>?_) (hplus (by assumption) hc)
     refine w_loop [(12, .d tInt)] [] (fun y=>∃ m:Nat,y.1.1=(m:Int)∧NoG gs (0,0,[],()) m) (fun y=>gs.length - y.1.1.toNat) ?_
     conv=>whnf
     refine And.intro ?_ ?_
     · exact ⟨0,rfl,NoG.start⟩
     rintro ⟨⟨_,⟨⟩⟩,⟨⟩⟩ ⟨m,rfl,hN⟩
     have hN:NoG gs (0,0,[],()) m:=hN
     have hml:=hN.le
     have hmx:=hP.v.1
     have hk2:(m:Int)+1≤Gv.hi IntKind.i64:=Int.le_trans (show (m:Int)+1≤100001 by omega) (by decide)
     have hN1:=fun (h:(m:Int)<(List.length gs:Int)) (q:¬ List.getD gs m ((0,0,[],()):Gate)=(0,0,[],()))=>show ∃ m':Nat,(m:Int)+1=(m':Int)∧NoG gs (0,0,[],()) m' from ⟨m+1,rfl,hN.step h q⟩
     repeat' (first|refine an ?_ ?_|((try refine gm ?_);first|((with_reducible show Kz _);(try dsimp+instances only);(with_reducible refine kz _ ?_);clear kz Kz)|refine st ?_|(refine sr ?_;intro Kz kz;conv=>whnf)|(refine cd ?_;(conv=>arg 2;whnf);refine st ?_)|refine blockK_y (by rfl) ?_|(refine sw ?_;conv=>whnf))|(refine gm ?_;conv=>whnf)|(intro hc;(try dsimp+instances only[Dat,SDat,dflt,Ty.size,keepS,bkUpd,Gv.bk,backS,wayA,maxI,minI,negI]at hc);try simp only[LS]at hc))
     all_goals (try ((fail_if_success refine nl ?_);(try dsimp only[Dat,SDat,dflt,Ty.size,keepS,bkUpd,Gv.bk,backS,wayA,maxI,minI,negI]);(try simp only[LS]);first|done|exact dsc|((try simp only[allP,lo,hi,room,true_and,and_true,implies_true]);(repeat' (first|refine an ?_ ?_|((with_reducible refine preA_t ?_ ?_);rotate_left;exact sameP_t)|intro hv))<;>(try omega))))
     all_goals (try ((fail_if_success refine nl ?_);(first|with_reducible exact hk2|exact hN1 (by assumption) hc|exact (congrArg (fun p=>p.1) (rt_hit hP hO he (Int.ofNat_lt.1 (by assumption)) hc)).symm|exact (congrArg (fun p=>p.2.1) (rt_hit hP hO he (Int.ofNat_lt.1 (by assumption)) hc)).symm|exact (congrArg (fun p=>p.2.2) (rt_hit hP hO he (Int.ofNat_lt.1 (by assumption)) hc)).symm|exact (congrArg (fun p=>p.1) (rt_full hP hO he hN (by assumption) hc)).symm|exact (congrArg (fun p=>p.2.1) (rt_full hP hO he hN (by assumption) hc)).symm|exact (congrArg (fun p=>p.2.2) (rt_full hP hO he hN (by assumption) hc)).symm|exact (congrArg (fun p=>p.1) (rt_new hP hO he hN (by assumption) hc)).symm|exact (congrArg (fun p=>p.2.1) (rt_new hP hO he hN (by assumption) hc)).symm|exact (congrArg (fun p=>p.2.2) (rt_new hP hO he hN (by assumption) hc)).symm)))
   · refine And.elim (fun he hO=>?_) (hunit (by assumption) (by assumption) (by assumption) hc)
     refine w_loop [(12, .d tInt)] [] (fun y=>∃ m:Nat,y.1.1=(m:Int)∧NoG gs (1,0,[],()) m) (fun y=>gs.length - y.1.1.toNat) ?_
     conv=>whnf
     refine And.intro ?_ ?_
     · exact ⟨0,rfl,NoG.start⟩
     rintro ⟨⟨_,⟨⟩⟩,⟨⟩⟩ ⟨m,rfl,hN⟩
     have hN:NoG gs (1,0,[],()) m:=hN
     have hml:=hN.le
     have hmx:=hP.v.1
     have hk2:(m:Int)+1≤Gv.hi IntKind.i64:=Int.le_trans (show (m:Int)+1≤100001 by omega) (by decide)
     have hN1:=fun (h:(m:Int)<(List.length gs:Int)) (q:¬ List.getD gs m ((0,0,[],()):Gate)=(1,0,[],()))=>show ∃ m':Nat,(m:Int)+1=(m':Int)∧NoG gs (1,0,[],()) m' from ⟨m+1,rfl,hN.step h q⟩
     repeat' (first|refine an ?_ ?_|((try refine gm ?_);first|((with_reducible show Kz _);(try dsimp+instances only);(with_reducible refine kz _ ?_);clear kz Kz)|refine st ?_|(refine sr ?_;intro Kz kz;conv=>whnf)|(refine cd ?_;(conv=>arg 2;whnf);refine st ?_)|refine blockK_y (by rfl) ?_|(refine sw ?_;conv=>whnf))|(refine gm ?_;conv=>whnf)|(intro hc;(try dsimp+instances only[Dat,SDat,dflt,Ty.size,keepS,bkUpd,Gv.bk,backS,wayA,maxI,minI,negI]at hc);try simp only[LS]at hc))
     all_goals (try ((fail_if_success refine nl ?_);(try dsimp only[Dat,SDat,dflt,Ty.size,keepS,bkUpd,Gv.bk,backS,wayA,maxI,minI,negI]);(try simp only[LS]);first|done|exact dsc|((try simp only[allP,lo,hi,room,true_and,and_true,implies_true]);(repeat' (first|refine an ?_ ?_|((with_reducible refine preA_t ?_ ?_);rotate_left;exact sameP_t)|intro hv))<;>(try omega))))
     all_goals (try ((fail_if_success refine nl ?_);(first|with_reducible exact hk2|exact hN1 (by assumption) hc|exact (congrArg (fun p=>p.1) (rt_hit hP hO he (Int.ofNat_lt.1 (by assumption)) hc)).symm|exact (congrArg (fun p=>p.2.1) (rt_hit hP hO he (Int.ofNat_lt.1 (by assumption)) hc)).symm|exact (congrArg (fun p=>p.2.2) (rt_hit hP hO he (Int.ofNat_lt.1 (by assumption)) hc)).symm|exact (congrArg (fun p=>p.1) (rt_full hP hO he hN (by assumption) hc)).symm|exact (congrArg (fun p=>p.2.1) (rt_full hP hO he hN (by assumption) hc)).symm|exact (congrArg (fun p=>p.2.2) (rt_full hP hO he hN (by assumption) hc)).symm|exact (congrArg (fun p=>p.1) (rt_new hP hO he hN (by assumption) hc)).symm|exact (congrArg (fun p=>p.2.1) (rt_new hP hO he hN (by assumption) hc)).symm|exact (congrArg (fun p=>p.2.2) (rt_new hP hO he hN (by assumption) hc)).symm)))
   · refine And.elim (fun he hO=>?_) (hmany (by assumption) (by assumption) hc (by assumption))
     refine w_loop [(12, .d tInt)] [] (fun y=>∃ m:Nat,y.1.1=(m:Int)∧NoG gs (gk,gv,ks,()) m) (fun y=>gs.length - y.1.1.toNat) ?_
     conv=>whnf
     refine And.intro ?_ ?_
     · exact ⟨0,rfl,NoG.start⟩
     rintro ⟨⟨_,⟨⟩⟩,⟨⟩⟩ ⟨m,rfl,hN⟩
     have hN:NoG gs (gk,gv,ks,()) m:=hN
     have hml:=hN.le
     have hmx:=hP.v.1
     have hk2:(m:Int)+1≤Gv.hi IntKind.i64:=Int.le_trans (show (m:Int)+1≤100001 by omega) (by decide)
     have hN1:=fun (h:(m:Int)<(List.length gs:Int)) (q:¬ List.getD gs m ((0,0,[],()):Gate)=(gk,gv,ks,()))=>show ∃ m':Nat,(m:Int)+1=(m':Int)∧NoG gs (gk,gv,ks,()) m' from ⟨m+1,rfl,hN.step h q⟩
     repeat' (first|refine an ?_ ?_|((try refine gm ?_);first|((with_reducible show Kz _);(try dsimp+instances only);(with_reducible refine kz _ ?_);clear kz Kz)|refine st ?_|(refine sr ?_;intro Kz kz;conv=>whnf)|(refine cd ?_;(conv=>arg 2;whnf);refine st ?_)|refine blockK_y (by rfl) ?_|(refine sw ?_;conv=>whnf))|(refine gm ?_;conv=>whnf)|(intro hc;(try dsimp+instances only[Dat,SDat,dflt,Ty.size,keepS,bkUpd,Gv.bk,backS,wayA,maxI,minI,negI]at hc);try simp only[LS]at hc))
     all_goals (try ((fail_if_success refine nl ?_);(try dsimp only[Dat,SDat,dflt,Ty.size,keepS,bkUpd,Gv.bk,backS,wayA,maxI,minI,negI]);(try simp only[LS]);first|done|exact dsc|((try simp only[allP,lo,hi,room,true_and,and_true,implies_true]);(repeat' (first|refine an ?_ ?_|((with_reducible refine preA_t ?_ ?_);rotate_left;exact sameP_t)|intro hv))<;>(try omega))))
     all_goals (try ((fail_if_success refine nl ?_);(first|with_reducible exact hk2|exact hN1 (by assumption) hc|exact (congrArg (fun p=>p.1) (rt_hit hP hO he (Int.ofNat_lt.1 (by assumption)) hc)).symm|exact (congrArg (fun p=>p.2.1) (rt_hit hP hO he (Int.ofNat_lt.1 (by assumption)) hc)).symm|exact (congrArg (fun p=>p.2.2) (rt_hit hP hO he (Int.ofNat_lt.1 (by assumption)) hc)).symm|exact (congrArg (fun p=>p.1) (rt_full hP hO he hN (by assumption) hc)).symm|exact (congrArg (fun p=>p.2.1) (rt_full hP hO he hN (by assumption) hc)).symm|exact (congrArg (fun p=>p.2.2) (rt_full hP hO he hN (by assumption) hc)).symm|exact (congrArg (fun p=>p.1) (rt_new hP hO he hN (by assumption) hc)).symm|exact (congrArg (fun p=>p.2.1) (rt_new hP hO he hN (by assumption) hc)).symm|exact (congrArg (fun p=>p.2.2) (rt_new hP hO he hN (by assumption) hc)).symm)))
 · refine And.elim (fun he hO=>?_) (nrm_leaf (gs:=gs) (g:=(gk,gv,gkids,())) (by assumption))
   · skip
     refine w_loop [(12, .d tInt)] [] (fun y=>∃ m:Nat,y.1.1=(m:Int)∧NoG gs (gk,gv,gkids,()) m) (fun y=>gs.length - y.1.1.toNat) ?_
     conv=>whnf
     refine And.intro ?_ ?_
     · exact ⟨0,rfl,NoG.start⟩
     rintro ⟨⟨_,⟨⟩⟩,⟨⟩⟩ ⟨m,rfl,hN⟩
     have hN:NoG gs (gk,gv,gkids,()) m:=hN
     have hml:=hN.le
     have hmx:=hP.v.1
     have hk2:(m:Int)+1≤Gv.hi IntKind.i64:=Int.le_trans (show (m:Int)+1≤100001 by omega) (by decide)
     have hN1:=fun (h:(m:Int)<(List.length gs:Int)) (q:¬ List.getD gs m ((0,0,[],()):Gate)=(gk,gv,gkids,()))=>show ∃ m':Nat,(m:Int)+1=(m':Int)∧NoG gs (gk,gv,gkids,()) m' from ⟨m+1,rfl,hN.step h q⟩
     repeat' (first|refine an ?_ ?_|((try refine gm ?_);first|((with_reducible show Kz _);(try dsimp+instances only);(with_reducible refine kz _ ?_);clear kz Kz)|refine st ?_|(refine sr ?_;intro Kz kz;conv=>whnf)|(refine cd ?_;(conv=>arg 2;whnf);refine st ?_)|refine blockK_y (by rfl) ?_|(refine sw ?_;conv=>whnf))|(refine gm ?_;conv=>whnf)|(intro hc;(try dsimp+instances only[Dat,SDat,dflt,Ty.size,keepS,bkUpd,Gv.bk,backS,wayA,maxI,minI,negI]at hc);try simp only[LS]at hc))
     all_goals (try ((fail_if_success refine nl ?_);(try dsimp only[Dat,SDat,dflt,Ty.size,keepS,bkUpd,Gv.bk,backS,wayA,maxI,minI,negI]);(try simp only[LS]);first|done|exact dsc|((try simp only[allP,lo,hi,room,true_and,and_true,implies_true]);(repeat' (first|refine an ?_ ?_|((with_reducible refine preA_t ?_ ?_);rotate_left;exact sameP_t)|intro hv))<;>(try omega))))
     all_goals (try ((fail_if_success refine nl ?_);(first|with_reducible exact hk2|exact hN1 (by assumption) hc|exact (congrArg (fun p=>p.1) (rt_hit hP hO he (Int.ofNat_lt.1 (by assumption)) hc)).symm|exact (congrArg (fun p=>p.2.1) (rt_hit hP hO he (Int.ofNat_lt.1 (by assumption)) hc)).symm|exact (congrArg (fun p=>p.2.2) (rt_hit hP hO he (Int.ofNat_lt.1 (by assumption)) hc)).symm|exact (congrArg (fun p=>p.1) (rt_full hP hO he hN (by assumption) hc)).symm|exact (congrArg (fun p=>p.2.1) (rt_full hP hO he hN (by assumption) hc)).symm|exact (congrArg (fun p=>p.2.2) (rt_full hP hO he hN (by assumption) hc)).symm|exact (congrArg (fun p=>p.1) (rt_new hP hO he hN (by assumption) hc)).symm|exact (congrArg (fun p=>p.2.1) (rt_new hP hO he hN (by assumption) hc)).symm|exact (congrArg (fun p=>p.2.2) (rt_new hP hO he hN (by assumption) hc)).symm)))
theorem ok_z101:SpecOK SP glob fi_z101 S_z101:=mk_ok (c:=c_z101) (tab_ok _) mix_ok wf_z101 (by decide) (.cons ok_z104 (.cons ok_z105 (.cons ok_z107 (.cons ok_z108 (.cons ok_z97 .nil))))) (fun x hx=>Nat.zero_lt_one) g_z101
end Go.Gv
