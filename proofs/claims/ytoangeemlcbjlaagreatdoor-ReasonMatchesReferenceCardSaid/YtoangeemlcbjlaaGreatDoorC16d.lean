/- Chapter 16: the program: what a gate reaches; gates evaluated. -/
import Derived.Test.YtoangeemlcbjlaaGreatDoorC16c
import Derived.Test.YtoangeemlcbjlaaGreatDoorP16f
set_option linter.all false
namespace Go.Gv
open Go Go.Proofs Go.Proofs.YtoangeemlcbjlaaGreatDoor
set_option maxRecDepth 100000
set_option maxHeartbeats 4000000
theorem range_cons {n k:Nat} (h:k<n):List.range' k (n - k)=k::List.range' (k+1) (n - (k+1)):=by
 obtain ⟨j,hj⟩:∃ j,n - k=j+1:=⟨n - k - 1,by omega⟩
 rw [hj,List.range'_succ,show n - (k+1)=j by omega]
noncomputable def reachF (gs:List Gate) (i k:Nat):List Nat:=(List.range' k (i+1 - k)).filter fun k=>boolOf (Rch gs i k)
theorem reachF_zero (gs:List Gate) (i:Nat):reachT gs i=reachF gs i 0:=by unfold reachT reachF;rw [List.range_eq_range'];rfl
theorem reachF_end {gs:List Gate} {i k:Nat} (h:i<k):reachF gs i k=[]:=by unfold reachF;rw [show i+1 - k=0 by omega];rfl
theorem reachF_hit {gs:List Gate} {i k:Nat} (h:k≤i) (hr:Rch gs i k):reachF gs i k=k::reachF gs i (k+1):=by
 unfold reachF
 rw [range_cons (by omega),List.filter_cons_of_pos (p:=fun k=>boolOf (Rch gs i k)) (boolOf_true.2 hr)]
theorem reachF_miss {gs:List Gate} {i k:Nat} (h:k≤i) (hr:¬ Rch gs i k):reachF gs i k=reachF gs i (k+1):=by
 unfold reachF
 rw [range_cons (by omega),List.filter_cons_of_neg (p:=fun k=>boolOf (Rch gs i k)) (by rw [boolOf_false.2 hr];decide)]
def elG (gs:List Gate) (k:Nat):Int × Gate × Unit:=((k:Int),(List.getD gs k ((0,0,[],()):Gate)),())
@[reducible] noncomputable def S_z14:Spec:={ ins:=(.cons (.d tCirc) (.cons (.d tInt) .nil)),pre:=fun _=>True,alts:=[{ outs:=(.cons (.clos fi_z15 (.cons (.d (.pt tInt)) (.cons (.d (.pt tCirc)) .nil))) .nil),res:=(fun x=>(fun c i=>((some i,some c,()),())) x.1 x.2.1)}]}
noncomputable def c_z14:Cf:=(cf_z14 (Fl []))
theorem g_z14:∀ x,S_z14.pre x→shOK S_z14.ins x→fnGoal c_z14 fn_z14 S_z14 x:=by
 rintro ⟨c,i,⟨⟩⟩ hpre hok
 clear hpre
 have hln:=shLn_of _ hok;replace hok:=Hd.mk hok;try simp only [shLn,datLn,inRng,lo,hi,maxLen,true_and,and_true] at hln
 first|refine fn_goal (w_head ?_)
 intro Kz kz;(conv=>whnf);(try dsimp+instances only);refine kz _ ?_;clear kz Kz;(conv=>(arg 2;whnf))
 repeat' (first|refine an ?_ ?_|((try refine gm ?_);first|((with_reducible show Kz _);(try dsimp+instances only);(with_reducible refine kz _ ?_);clear kz Kz)|refine st ?_|(refine sr ?_;intro Kz kz;conv=>whnf)|(refine cd ?_;(conv=>arg 2;whnf);refine st ?_)|refine blockK_y (by rfl) ?_|(refine sw ?_;conv=>whnf))|(refine gm ?_;conv=>whnf)|(intro hc;(try dsimp+instances only[Dat,SDat,dflt,Ty.size,keepS,bkUpd,Gv.bk,backS,wayA,maxI,minI,negI]at hc);try simp only[LS]at hc))
 all_goals (try ((fail_if_success refine nl ?_);(try dsimp only[Dat,SDat,dflt,Ty.size,keepS,bkUpd,Gv.bk,backS,wayA,maxI,minI,negI]);(try simp only[LS]);first|done|exact dsc|((try simp only[allP,lo,hi,room,true_and,and_true,implies_true]);(repeat' (first|refine an ?_ ?_|((with_reducible refine preA_t ?_ ?_);rotate_left;exact sameP_t)|intro hv))<;>(try omega))))
theorem ok_z14:SpecOK SP glob fi_z14 S_z14:=mk_ok (c:=c_z14) (tab_ok _) mix_ok wf_z14 (by decide) .nil (fun x hx=>Nat.zero_lt_one) g_z14
@[reducible] noncomputable def S_z15:ItSpec:={ ts:=[tInt,tGate],caps:=(.cons (.d (.pt tInt)) (.cons (.d (.pt tCirc)) .nil)),pre:=(fun x=>(fun i c=>∃ I gs,i=some I∧c=some (gs,())∧GoodI gs I∧SmallG gs) x.1 x.2.1),seq:=(fun x=>(fun i c=>match i,c with|some I,some C=>(reachT C.1 I.toNat).map (elG C.1)|_,_=>[]) x.1 x.2.1)}
noncomputable def c_z15:Cf:={ cf_z15 (Fl []) with spl:=[48],eat:=Eats SP}
theorem g_z15:∀ x:SDat (.cons (.ob (.log S_z15.ts)) S_z15.caps),S_z15.pre x.2→x.1.1=S_z15.seq x.2→c_z15.eat S_z15.ts x.1.2.2 x.1.1 x.1.2.1→shOK (.cons (.ob (.log S_z15.ts)) S_z15.caps) x→fnGoalI c_z15 fn_z15 S_z15 x:=by
 rintro ⟨⟨ys,E,D⟩,i,c,⟨⟩⟩ hpre hys heat hok
 try dsimp only [Dat,SDat,dflt,Ty.size,keepS,bkUpd,Gv.bk,backS,wayA,maxI,minI,negI] at hpre
 dsimp only at hys heat
 have hln:=shLn_of _ hok;replace hok:=Hd.mk hok;try simp only [shLn,datLn,inRng,lo,hi,maxLen,true_and,and_true] at hln
 obtain ⟨I,gs,rfl,rfl,hg,hsm⟩:=hpre
 obtain ⟨n,rfl⟩:∃ n:Nat,I=(n:Int):=⟨I.toNat,(Int.toNat_of_nonneg hg.lo).symm⟩
 have hn:n<gs.length:=by have:=hg.hi;omega
 have hV:=hg.v
 have hmax:=hV.1
 first|refine fn_goal (w_head ?_)|refine fnL_goal (w_head ?_)|refine fnI_goal (w_head ?_)
 intro Kz kz;(conv=>whnf);(try dsimp+instances only);refine kz _ ?_;clear kz Kz;(conv=>(arg 2;whnf))
 repeat' (first|refine an ?_ ?_|((try refine gm ?_);first|((with_reducible show Kz _);(try dsimp+instances only);(with_reducible refine kz _ ?_);clear kz Kz)|refine st ?_|(refine sr ?_;intro Kz kz;conv=>whnf)|(refine cd ?_;(conv=>arg 2;whnf);refine st ?_)|refine blockK_y (by rfl) ?_|(refine sw ?_;conv=>whnf))|(refine gm ?_;conv=>whnf)|(intro hc;(try dsimp+instances only[Dat,SDat,dflt,Ty.size,keepS,bkUpd,Gv.bk,backS,wayA,maxI,minI,negI]at hc);try simp only[LS]at hc))
 all_goals (try ((fail_if_success refine nl ?_);(try dsimp only[Dat,SDat,dflt,Ty.size,keepS,bkUpd,Gv.bk,backS,wayA,maxI,minI,negI]);(try simp only[LS]);first|done|exact dsc|((try simp only[allP,lo,hi,room,true_and,and_true,implies_true]);(repeat' (first|refine an ?_ ?_|((with_reducible refine preA_t ?_ ?_);rotate_left;exact sameP_t)|intro hv))<;>(try omega))))
 refine w_loop [(4, .row .bool),(5, .d tInt)] [] (fun y=>∃ m:Nat,y.1.2.1=(m:Int) - 1∧m≤n+1∧List.length y.1.1=n+1∧MarkR gs n y.1.1 m) (fun y=>(y.1.2.1+1).toNat) ?_
 conv=>whnf
 refine And.intro ?_ ?_
 · refine ⟨n+1,by show (n:Int)=((n+1:Nat):Int) - 1;omega,Nat.le_refl _,?_,mark_start (by omega)⟩
   show ((List.replicate _ _).set _ _).length=_
   rw [List.length_set,List.length_replicate];omega
 rintro ⟨⟨xs,_,⟨⟩⟩,⟨⟩⟩ ⟨m,rfl,hm,hxl,hM⟩
 have hxl:List.length (xs:List Bool)=n+1:=hxl
 have hM:MarkR gs n (xs:List Bool) m:=hM
 have hK1:0≤(m:Int) - 1→((m:Int) - 1).toNat+1=m∧((m:Int) - 1).toNat<gs.length∧((m:Int) - 1).toNat≤n:=fun h=>by omega
 have hM1:=fun (h:0≤(m:Int) - 1)=>show MarkR gs n (xs:List Bool) (((m:Int) - 1).toNat+1) by rw [(hK1 h).1];exact hM
 have hm1:=fun (h:0≤(m:Int) - 1)=>show (m:Int) - 1 - 1=((((m:Int) - 1).toNat:Nat):Int) - 1 by omega
 repeat' (first|refine an ?_ ?_|((try refine gm ?_);first|((with_reducible show Kz _);(try dsimp+instances only);(with_reducible refine kz _ ?_);clear kz Kz)|refine st ?_|(refine sr ?_;intro Kz kz;conv=>whnf)|(refine cd ?_;(conv=>arg 2;whnf);refine st ?_)|refine blockK_y (by rfl) ?_|(refine sw ?_;conv=>whnf))|(refine gm ?_;conv=>whnf)|(intro hc;(try dsimp+instances only[Dat,SDat,dflt,Ty.size,keepS,bkUpd,Gv.bk,backS,wayA,maxI,minI,negI]at hc);try simp only[LS]at hc))
 all_goals (try ((fail_if_success refine nl ?_);(try dsimp only[Dat,SDat,dflt,Ty.size,keepS,bkUpd,Gv.bk,backS,wayA,maxI,minI,negI]);(try simp only[LS]);first|done|exact dsc|((try simp only[allP,lo,hi,room,true_and,and_true,implies_true]);(repeat' (first|refine an ?_ ?_|((with_reducible refine preA_t ?_ ?_);rotate_left;exact sameP_t)|intro hv))<;>(try omega))))
 · have hh:0≤(m:Int) - 1:=by assumption
   obtain ⟨k1,k2,k3⟩:=hK1 hh
   have hkid:=fun (j:Nat) (h:j<(List.getD gs ((m:Int) - 1).toNat ((0,0,[],()):Gate)).2.2.1.length)=>kid_in hV k2 (getD_mem (d:=(0:Int)) h)
   refine w_loop [(4, .row .bool),(32, .d tInt)] [] (fun y=>∃ j:Nat,y.1.2.1=(j:Int)∧j≤(List.getD gs ((m:Int) - 1).toNat ((0,0,[],()):Gate)).2.2.1.length∧List.length y.1.1=n+1∧MarkK gs n y.1.1 ((m:Int) - 1).toNat j) (fun y=>(List.getD gs ((m:Int) - 1).toNat ((0,0,[],()):Gate)).2.2.1.length - y.1.2.1.toNat) ?_
   conv=>whnf
   refine And.intro ?_ ?_
   · exact ⟨0,rfl,Nat.zero_le _,hxl,(hM1 hh).open (by assumption)⟩
   rintro ⟨⟨xs',_,⟨⟩⟩,⟨⟩⟩ ⟨j,rfl,hj,hxl',hMK⟩
   have hxl':List.length (xs':List Bool)=n+1:=hxl'
   have hMK:MarkK gs n (xs':List Bool) ((m:Int) - 1).toNat j:=hMK
   have hkj:=hkid j
   have hstep:=fun (h:j<(List.getD gs ((m:Int) - 1).toNat ((0,0,[],()):Gate)).2.2.1.length)=>hMK.step h (by have:=hkj h;omega) (by have:=hkj h;omega)
   have hks:=hsm _ (getD_mem (d:=((0,0,[],()):Gate)) k2)
   repeat' (first|refine an ?_ ?_|((try refine gm ?_);first|((with_reducible show Kz _);(try dsimp+instances only);(with_reducible refine kz _ ?_);clear kz Kz)|refine st ?_|(refine sr ?_;intro Kz kz;conv=>whnf)|(refine cd ?_;(conv=>arg 2;whnf);refine st ?_)|refine blockK_y (by rfl) ?_|(refine sw ?_;conv=>whnf))|(refine gm ?_;conv=>whnf)|(intro hc;(try dsimp+instances only[Dat,SDat,dflt,Ty.size,keepS,bkUpd,Gv.bk,backS,wayA,maxI,minI,negI]at hc);try simp only[LS]at hc))
   all_goals (try ((fail_if_success refine nl ?_);(try dsimp only[Dat,SDat,dflt,Ty.size,keepS,bkUpd,Gv.bk,backS,wayA,maxI,minI,negI]);(try simp only[LS]);first|done|exact dsc|((try simp only[allP,lo,hi,room,true_and,and_true,implies_true]);(repeat' (first|refine an ?_ ?_|((with_reducible refine preA_t ?_ ?_);rotate_left;exact sameP_t)|intro hv))<;>(try omega))))
   · exact ⟨j+1,by omega,by omega,hxl',hstep (by omega)⟩
   · exact ⟨((m:Int) - 1).toNat,hm1 hh,by omega,hxl',hMK.shut (by omega)⟩
 · exact ⟨((m:Int) - 1).toNat,hm1 (by assumption),by omega,hxl,(hM1 (by assumption)).skip hc⟩
 have hm0:m=0:=by omega
 subst hm0
 have hdone:=hM.done
 refine w_loop [(42, .d tInt),(0, .ob (.log [tInt,tGate]))] [] (fun y=>∃ k:Nat,y.1.1=(k:Int)∧k≤n+1∧y.1.2.1.2.2=D∧y.1.2.1.1=(reachF gs n k).map (elG gs)∧Eats SP [tInt,tGate] D y.1.2.1.1 y.1.2.1.2.1) (fun y=>(n+1 - y.1.1).toNat) ?_
 conv=>whnf
 refine And.intro ?_ ?_
 · exact ⟨0,rfl,Nat.zero_le _,rfl,by rw [← reachF_zero];exact hys,heat⟩
 rintro ⟨⟨_,⟨ys',E',D'⟩,⟨⟩⟩,⟨⟩⟩ ⟨k,rfl,hk,hD,hy,he⟩
 dsimp only at hD hy he
 subst hD
 have hy1:=fun (h:k≤n) (q:(xs:List Bool).getD k false=true)=>show ys'=elG gs k::(reachF gs n (k+1)).map (elG gs) by rw [hy,reachF_hit h ((hdone k).1 q)];rfl
 have hy0:=fun (h:k≤n) (q:¬ (xs:List Bool).getD k false=true)=>show ys'=(reachF gs n (k+1)).map (elG gs) by rw [hy,reachF_miss h fun e=>q ((hdone k).2 e)]
 have hkn:(k:Int)<(List.length (xs:List Bool):Int)→k≤n:=fun h=>by omega
 repeat' (first|refine an ?_ ?_|((try refine gm ?_);first|((with_reducible show Kz _);(try dsimp+instances only);(with_reducible refine kz _ ?_);clear kz Kz)|refine st ?_|(refine sr ?_;intro Kz kz;conv=>whnf)|(refine cd ?_;(conv=>arg 2;whnf);refine st ?_)|refine blockK_y (by rfl) ?_|(refine sw ?_;conv=>whnf))|(refine gm ?_;conv=>whnf)|(intro hc;(try dsimp+instances only[Dat,SDat,dflt,Ty.size,keepS,bkUpd,Gv.bk,backS,wayA,maxI,minI,negI]at hc);try simp only[LS]at hc))
 all_goals (try ((fail_if_success refine nl ?_);(try dsimp only[Dat,SDat,dflt,Ty.size,keepS,bkUpd,Gv.bk,backS,wayA,maxI,minI,negI]);(try simp only[LS]);first|done|exact dsc|((try simp only[allP,lo,hi,room,true_and,and_true,implies_true]);(repeat' (first|refine an ?_ ?_|((with_reducible refine preA_t ?_ ?_);rotate_left;exact sameP_t)|intro hv))<;>(try omega))))
 · rw [hy1 (hkn (by assumption)) hc];rfl
 · exact he
 · refine w_it 3 _ _ (by rfl) ?_
   rename_i q hq
   rw [hc] at hq ⊢
   exact ⟨rfl,hq⟩
 · rename_i q hq
   have hc':q.1=true:=(Bool.eq_false_or_eq_true q.1).resolve_right hc
   rw [if_pos hc'] at hq ⊢
   exact ⟨k+1,by omega,by omega,by rw [hy1 (hkn (by assumption)) (by assumption)];rfl,hq⟩
 · exact ⟨k+1,by omega,by omega,hy0 (hkn (by assumption)) (by rw [hc];decide),he⟩
 · refine w_it 3 _ _ (by rfl) ?_
   have hy0:ys'=[]:=by rw [hy,reachF_end (by omega)];rfl
   subst hy0
   exact ⟨rfl,he⟩
theorem ok_z15:ItOK SP glob fi_z15 S_z15:=mk_it (c:=c_z15) (tab_ok _) mix_ok wf_z15 (by decide) .nil (LateOK.of rfl .nil .nil) rfl rfl g_z15
@[reducible] noncomputable def S_z1:Spec:={ ins:=(.cons (.d tGate) (.cons (.d (.pt (.sl .bool))) .nil)),pre:=(fun x=>(fun g h=>(∃ l,h=some l)∧(g.1=2→0≤g.2.1)) x.1 x.2.1),alts:=[{ outs:=(.cons (.d .bool) (.cons (.d tInt) .nil)),res:=(fun x=>(fun g h=>(leafB (h.getD []) g.1 g.2.1,0,())) x.1 x.2.1)}]}
noncomputable def c_z1:Cf:=(cf_z1 (Fl []))
theorem g_z1:∀ x,S_z1.pre x→shOK S_z1.ins x→fnGoal c_z1 fn_z1 S_z1 x:=by
 rintro ⟨⟨gk,gv,gkids,⟨⟩⟩,h,⟨⟩⟩ hpre hok
 try dsimp only [Dat,SDat,dflt,Ty.size,keepS,bkUpd,Gv.bk,backS,wayA,maxI,minI,negI] at hpre
 have hln:=shLn_of _ hok;replace hok:=Hd.mk hok;try simp only [shLn,datLn,inRng,lo,hi,maxLen,true_and,and_true] at hln
 obtain ⟨⟨l,rfl⟩,hv⟩:=hpre
 have hv:gk=2→0≤gv:=hv
 first|refine fn_goal (w_head ?_)
 intro Kz kz;(conv=>whnf);(try dsimp+instances only);refine kz _ ?_;clear kz Kz;(conv=>(arg 2;whnf))
 repeat' (first|refine an ?_ ?_|((try refine gm ?_);first|((with_reducible show Kz _);(try dsimp+instances only);(with_reducible refine kz _ ?_);clear kz Kz)|refine st ?_|(refine sr ?_;intro Kz kz;conv=>whnf)|(refine cd ?_;(conv=>arg 2;whnf);refine st ?_)|refine blockK_y (by rfl) ?_|(refine sw ?_;conv=>whnf))|(refine gm ?_;conv=>whnf)|(intro hc;(try dsimp+instances only[Dat,SDat,dflt,Ty.size,keepS,bkUpd,Gv.bk,backS,wayA,maxI,minI,negI]at hc);try simp only[LS]at hc))
 all_goals (try ((fail_if_success refine nl ?_);(try dsimp only[Dat,SDat,dflt,Ty.size,keepS,bkUpd,Gv.bk,backS,wayA,maxI,minI,negI]);(try simp only[LS]);first|done|exact dsc|((try simp only[allP,lo,hi,room,true_and,and_true,implies_true]);(repeat' (first|refine an ?_ ?_|((with_reducible refine preA_t ?_ ?_);rotate_left;exact sameP_t)|intro hv))<;>(try omega))))
theorem ok_z1:SpecOK SP glob fi_z1 S_z1:=mk_ok (c:=c_z1) (tab_ok _) mix_ok wf_z1 (by decide) .nil (fun x hx=>Nat.zero_lt_one) g_z1
@[reducible] noncomputable def S_z2:Spec:={ ins:=(.cons (.d .bool) (.cons (.d .bool) .nil)),pre:=fun _=>True,alts:=[{ outs:=(.cons (.d .bool) (.cons (.d tInt) .nil)),res:=(fun x=>(fun a b=>((a||b),0,())) x.1 x.2.1)}]}
noncomputable def c_z2:Cf:=(cf_z2 (Fl []))
theorem g_z2:∀ x,S_z2.pre x→shOK S_z2.ins x→fnGoal c_z2 fn_z2 S_z2 x:=by
 rintro ⟨a,b,⟨⟩⟩ hpre hok
 clear hpre
 have hln:=shLn_of _ hok;replace hok:=Hd.mk hok;try simp only [shLn,datLn,inRng,lo,hi,maxLen,true_and,and_true] at hln
 first|refine fn_goal (w_head ?_)
 intro Kz kz;(conv=>whnf);(try dsimp+instances only);refine kz _ ?_;clear kz Kz;(conv=>(arg 2;whnf))
 repeat' (first|refine an ?_ ?_|((try refine gm ?_);first|((with_reducible show Kz _);(try dsimp+instances only);(with_reducible refine kz _ ?_);clear kz Kz)|refine st ?_|(refine sr ?_;intro Kz kz;conv=>whnf)|(refine cd ?_;(conv=>arg 2;whnf);refine st ?_)|refine blockK_y (by rfl) ?_|(refine sw ?_;conv=>whnf))|(refine gm ?_;conv=>whnf)|(intro hc;(try dsimp+instances only[Dat,SDat,dflt,Ty.size,keepS,bkUpd,Gv.bk,backS,wayA,maxI,minI,negI]at hc);try simp only[LS]at hc))
 all_goals (try ((fail_if_success refine nl ?_);(try dsimp only[Dat,SDat,dflt,Ty.size,keepS,bkUpd,Gv.bk,backS,wayA,maxI,minI,negI]);(try simp only[LS]);first|done|exact dsc|((try simp only[allP,lo,hi,room,true_and,and_true,implies_true]);(repeat' (first|refine an ?_ ?_|((with_reducible refine preA_t ?_ ?_);rotate_left;exact sameP_t)|intro hv))<;>(try omega))))
 all_goals (cases a<;>cases b<;>simp)
theorem ok_z2:SpecOK SP glob fi_z2 S_z2:=mk_ok (c:=c_z2) (tab_ok _) mix_ok wf_z2 (by decide) .nil (fun x hx=>Nat.zero_lt_one) g_z2
@[reducible] noncomputable def S_z3:Spec:={ ins:=(.cons (.d .bool) (.cons (.d .bool) .nil)),pre:=fun _=>True,alts:=[{ outs:=(.cons (.d .bool) (.cons (.d tInt) .nil)),res:=(fun x=>(fun a b=>((a && b),0,())) x.1 x.2.1)}]}
noncomputable def c_z3:Cf:=(cf_z3 (Fl []))
theorem g_z3:∀ x,S_z3.pre x→shOK S_z3.ins x→fnGoal c_z3 fn_z3 S_z3 x:=by
 rintro ⟨a,b,⟨⟩⟩ hpre hok
 clear hpre
 have hln:=shLn_of _ hok;replace hok:=Hd.mk hok;try simp only [shLn,datLn,inRng,lo,hi,maxLen,true_and,and_true] at hln
 first|refine fn_goal (w_head ?_)
 intro Kz kz;(conv=>whnf);(try dsimp+instances only);refine kz _ ?_;clear kz Kz;(conv=>(arg 2;whnf))
 repeat' (first|refine an ?_ ?_|((try refine gm ?_);first|((with_reducible show Kz _);(try dsimp+instances only);(with_reducible refine kz _ ?_);clear kz Kz)|refine st ?_|(refine sr ?_;intro Kz kz;conv=>whnf)|(refine cd ?_;(conv=>arg 2;whnf);refine st ?_)|refine blockK_y (by rfl) ?_|(refine sw ?_;conv=>whnf))|(refine gm ?_;conv=>whnf)|(intro hc;(try dsimp+instances only[Dat,SDat,dflt,Ty.size,keepS,bkUpd,Gv.bk,backS,wayA,maxI,minI,negI]at hc);try simp only[LS]at hc))
 all_goals (try ((fail_if_success refine nl ?_);(try dsimp only[Dat,SDat,dflt,Ty.size,keepS,bkUpd,Gv.bk,backS,wayA,maxI,minI,negI]);(try simp only[LS]);first|done|exact dsc|((try simp only[allP,lo,hi,room,true_and,and_true,implies_true]);(repeat' (first|refine an ?_ ?_|((with_reducible refine preA_t ?_ ?_);rotate_left;exact sameP_t)|intro hv))<;>(try omega))))
 all_goals (cases a<;>cases b<;>simp)
theorem ok_z3:SpecOK SP glob fi_z3 S_z3:=mk_ok (c:=c_z3) (tab_ok _) mix_ok wf_z3 (by decide) .nil (fun x hx=>Nat.zero_lt_one) g_z3
section
variable {T:Type}
theorem ev_bad_ {S:GE T} {gs:List Gate} {i:Int} (h:(i<0∨(gs.length:Int)≤i)∨¬ ValidC gs):evC S gs i=(S.z,1):=evC_bad fun g=>by
 have h1:=g.lo
 have h2:=g.hi
 rcases h with h|h
 · omega
 · exact h g.v
theorem good_of_ {gs:List Gate} {i:Int} (h:¬ ((i<0∨(gs.length:Int)≤i)∨¬ ValidC gs)):GoodI gs i:=by
 have h1:=not_or.1 h
 exact ⟨by omega,by omega,Classical.not_not.1 h1.2⟩
theorem ev_stop {S:GE T} {gs:List Gate} {i:Int} {k:Nat} {r:List Nat} {row:List T} (hg:GoodI gs i) (h:runR S gs i=runE S gs (k::r) row) (e:¬ (S.G row ((List.getD gs k ((0,0,[],()):Gate)))).2=0):evC S gs i=(S.z,(S.G row ((List.getD gs k ((0,0,[],()):Gate)))).2):=by
 rw [runE_stop e] at h
 unfold evC
 rw [if_pos hg,h,if_neg e]
theorem ev_end {S:GE T} {gs:List Gate} {i:Int} {row:List T} (hg:GoodI gs i) (h:runR S gs i=runE S gs [] row):evC S gs i=(row.getD i.toNat S.z,0):=by
 unfold evC
 rw [if_pos hg,h]
 exact if_pos rfl
theorem run_next {S:GE T} {gs:List Gate} {i:Int} {k:Nat} {r:List Nat} {row:List T} (h:runR S gs i=runE S gs (k::r) row) (e:(S.G row ((List.getD gs k ((0,0,[],()):Gate)))).2=0):runR S gs i=runE S gs r (row.set k (S.G row ((List.getD gs k ((0,0,[],()):Gate)))).1):=by rw [h,runE_go e]
theorem set_q {Q:T→Prop} {row:List T} {k:Nat} {v z:T} (hk:k<row.length) (h:∀ m,Q (row.getD m z)) (hv:Q v):∀ m,Q ((row.set k v).getD m z):=fun m=>by
 rw [getD_set hk]
 split
 · exact hv
 · exact h m
structure EvR (S:GE T) (Q:T→Prop) (gs:List Gate) (i:Int) (l:List (Int × Gate × Unit)) (row:List T):Prop where
 ex:∃ rest:List Nat,l=rest.map (elG gs)∧(∀ k∈rest,k∈reachT gs i.toNat)∧runR S gs i=runE S gs rest row
 ln:row.length=i.toNat+1
 qs:∀ m,Q (row.getD m S.z)
theorem EvR.start {S:GE T} {Q:T→Prop} {gs:List Gate} {i:Int} (hg:GoodI gs i) (hz:Q S.z):EvR S Q gs i ((reachT gs i.toNat).map (elG gs)) (List.replicate (i+1).toNat S.z):=by
 have h0:=hg.lo
 rw [show (i+1).toNat=i.toNat+1 by omega]
 refine ⟨⟨_,rfl,fun k hk=>hk,rfl⟩,List.length_replicate,fun m=>?_⟩
 rw [List.getD_eq_getElem?_getD,List.getElem?_replicate]
 split<;>exact hz
theorem EvR.cons {S:GE T} {Q:T→Prop} {gs:List Gate} {i:Int} {k':Int} {g:Gate} {r:List (Int × Gate × Unit)} {row:List T} (h:EvR S Q gs i ((k',g,())::r) row):∃ (k:Nat) (rest:List Nat),k'=(k:Int)∧g=(List.getD gs k ((0,0,[],()):Gate))∧r=rest.map (elG gs)∧k∈reachT gs i.toNat∧(∀ k∈rest,k∈reachT gs i.toNat)∧runR S gs i=runE S gs (k::rest) row:=by
 obtain ⟨rest,h1,h2,h3⟩:=h.ex
 cases rest with
 |nil=>cases h1
 |cons k rest=>
  rw [List.map_cons] at h1
  obtain ⟨e1,e2⟩:=List.cons.inj h1
  unfold elG at e1
  simp only [Prod.mk.injEq,and_true] at e1
  exact ⟨k,rest,e1.1,e1.2,e2,h2 k List.mem_cons_self,fun k hk=>h2 k (List.mem_cons_of_mem _ hk),h3⟩
theorem EvR.next {S:GE T} {Q:T→Prop} {gs:List Gate} {i:Int} {k:Nat} {rest:List Nat} {row:List T} (hl:row.length=i.toNat+1) (hq:∀ m,Q (row.getD m S.z)) (hk:k<row.length) (h2:∀ k∈rest,k∈reachT gs i.toNat) (h:runR S gs i=runE S gs (k::rest) row) {v:T} (hv:Q v) (e:S.G row ((List.getD gs k ((0,0,[],()):Gate)))=(v,0)):EvR S Q gs i (rest.map (elG gs)) (row.set k v):=by
 have h3:=run_next h (by rw [e])
 rw [e] at h3
 exact ⟨⟨rest,rfl,h2,h3⟩,by rw [List.length_set];exact hl,set_q hk hq hv⟩
theorem EvR.fin {S:GE T} {Q:T→Prop} {gs:List Gate} {i:Int} {row:List T} (hg:GoodI gs i) (h:EvR S Q gs i [] row):evC S gs i=(row.getD i.toNat S.z,0):=by
 obtain ⟨rest,h1,h2,h3⟩:=h.ex
 cases rest with
 |nil=>exact ev_end hg h3
 |cons k rest=>cases h1
structure EvK (S:SR T) (Q:T→Prop) (row:List T) (g:Gate) (k j:Nat) (row':List T):Prop where
 ex:∃ x,row'=row.set k x∧gateS S row g=joinL (S.op g) S.z x ((g.2.2.1.drop (1+j)).map (atL S.z row))
 qs:∀ m,Q (row'.getD m S.z)
theorem EvK.start {S:SR T} {Q:T→Prop} {row:List T} {g:Gate} {k:Nat} (hk:k<row.length) (hq:∀ m,Q (row.getD m S.z)) (hi:inner g.1) (h2:2≤g.2.2.1.length):EvK S Q row g k 0 (row.set k (row.getD (g.2.2.1.getD 0 0).toNat S.z)):=⟨⟨_,rfl,gateS_inner hi (by omega)⟩,set_q hk hq (hq _)⟩
theorem EvK.vals {S:SR T} {Q:T→Prop} {row row':List T} {g:Gate} {k j:Nat} (h:EvK S Q row g k j row') (hk:k<row.length):∃ x,row'=row.set k x∧row'.getD k S.z=x∧(∀ m,m≠k→row'.getD m S.z=row.getD m S.z)∧row'.length=row.length∧gateS S row g=joinL (S.op g) S.z x ((g.2.2.1.drop (1+j)).map (atL S.z row)):=by
 obtain ⟨x,rfl,hx⟩:=h.ex
 exact ⟨x,rfl,by rw [getD_set hk,if_pos rfl],fun m hm=>by rw [getD_set hk,if_neg fun e=>hm e.symm],List.length_set,hx⟩
theorem EvK.len {S:SR T} {Q:T→Prop} {row row':List T} {g:Gate} {k j:Nat} (h:EvK S Q row g k j row'):row'.length=row.length:=by
 obtain ⟨x,rfl,_⟩:=h.ex
 exact List.length_set
theorem drop_at {l:List Int} {j:Nat} (h:j<(l.drop 1).length):(l.drop (1+j))=(l.drop 1).getD j 0::l.drop (1+(j+1))∧(l.drop 1).getD j 0∈l:=by
 have h1:1+j<l.length:=by rw [List.length_drop] at h;omega
 have e:(l.drop 1).getD j 0=l[1+j]:=by
  rw [getD_ok 0 h,List.getElem_drop]
 rw [e]
 exact ⟨List.drop_eq_getElem_cons h1,List.getElem_mem _⟩
theorem EvK.step {S:SR T} {Q:T→Prop} {row row':List T} {g:Gate} {k j:Nat} (h:EvK S Q row g k j row') (hk:k<row.length) (hj:j<(g.2.2.1.drop 1).length) (hne:((g.2.2.1.drop 1).getD j 0).toNat≠k) {v:T} (hv:Q v) (e:S.op g (row'.getD k S.z) (row'.getD ((g.2.2.1.drop 1).getD j 0).toNat S.z)=(v,0)):EvK S Q row g k (j+1) (row'.set k v):=by
 have hq:=set_q (z:=S.z) (by rw [h.len];exact hk) h.qs hv
 obtain ⟨x,rfl,hx,ho,_,hG⟩:=h.vals hk
 rw [hx,ho _ hne] at e
 refine ⟨⟨v,by rw [List.set_set],?_⟩,hq⟩
 rw [hG,(drop_at hj).1,List.map_cons]
 have e':S.op g x (atL S.z row ((g.2.2.1.drop 1).getD j 0))=(v,0):=e
 rw [joinL_go (by rw [e']),e']
theorem EvK.stop {S:SR T} {Q:T→Prop} {row row':List T} {g:Gate} {k j:Nat} (h:EvK S Q row g k j row') (hk:k<row.length) (hj:j<(g.2.2.1.drop 1).length) (hne:((g.2.2.1.drop 1).getD j 0).toNat≠k) (e:¬ (S.op g (row'.getD k S.z) (row'.getD ((g.2.2.1.drop 1).getD j 0).toNat S.z)).2=0):gateS S row g=(S.z,(S.op g (row'.getD k S.z) (row'.getD ((g.2.2.1.drop 1).getD j 0).toNat S.z)).2):=by
 obtain ⟨x,rfl,hx,ho,_,hG⟩:=h.vals hk
 rw [hx,ho _ hne] at e ⊢
 rw [hG,(drop_at hj).1,List.map_cons]
 exact joinL_stop e
theorem EvK.fin {S:SR T} {Q:T→Prop} {row row':List T} {g:Gate} {k j:Nat} (h:EvK S Q row g k j row') (hk:k<row.length) (hj:(g.2.2.1.drop 1).length≤j):∃ x,row'=row.set k x∧Q x∧gateS S row g=(x,0):=by
 have hqk:=h.qs k
 obtain ⟨x,rfl,hx,_,_,hG⟩:=h.vals hk
 rw [hx] at hqk
 rw [List.drop_of_length_le (by rw [List.length_drop] at hj;omega)] at hG
 exact ⟨x,rfl,hqk,hG⟩
theorem drop1 {l:List Int}:List.drop 1 (List.take l.length l)=l.drop 1:=by rw [List.take_length]
def KD (g:Gate) (j:Nat):Int:=List.getD (List.drop 1 (List.take (List.length g.2.2.1) g.2.2.1)) j 0
def KL (g:Gate):Nat:=List.length (List.drop 1 (List.take (List.length g.2.2.1) g.2.2.1))
theorem KL_eq (g:Gate):KL g=(g.2.2.1.drop 1).length:=congrArg List.length drop1
theorem KD_eq (g:Gate) (j:Nat):KD g j=(g.2.2.1.drop 1).getD j 0:=by unfold KD;rw [drop1]
structure KOk (gs:List Gate) (k n j:Nat):Prop where
 lo:0≤KD ((List.getD gs k ((0,0,[],()):Gate))) j
 hi:KD ((List.getD gs k ((0,0,[],()):Gate))) j<(n:Int)
 nt:(KD ((List.getD gs k ((0,0,[],()):Gate))) j).toNat<n
 ne:(KD ((List.getD gs k ((0,0,[],()):Gate))) j).toNat≠k
 ln:j+1≤KL ((List.getD gs k ((0,0,[],()):Gate)))
theorem kid_rng {gs:List Gate} (hV:ValidC gs) {k n j:Nat} (hk:k<gs.length) (hn:k<n) (h:(j:Int)<(KL ((List.getD gs k ((0,0,[],()):Gate))):Int)):KOk gs k n j:=by
 have h':j<(((List.getD gs k ((0,0,[],()):Gate))).2.2.1.drop 1).length:=by rw [← KL_eq];omega
 have h2:=kid_in hV hk (drop_at h').2
 rw [← KD_eq] at h2
 exact ⟨h2.1,by omega,by omega,by omega,by omega⟩
theorem kid0_rng {gs:List Gate} (hV:ValidC gs) {k n:Nat} (hk:k<gs.length) (hn:k<n) (h:inner ((List.getD gs k ((0,0,[],()):Gate))).1):0≤((List.getD gs k ((0,0,[],()):Gate))).2.2.1.getD 0 0∧((List.getD gs k ((0,0,[],()):Gate))).2.2.1.getD 0 0<(n:Int)∧(((List.getD gs k ((0,0,[],()):Gate))).2.2.1.getD 0 0).toNat<n:=by
 have h1:=kid_in hV hk (getD_mem (d:=(0:Int)) (show 0<((List.getD gs k ((0,0,[],()):Gate))).2.2.1.length from Nat.lt_of_lt_of_le (by decide) ((hV.2 k hk).2.1 h)))
 omega
theorem leaf_val {gs:List Gate} (hV:ValidC gs) {k:Nat} (hk:k<gs.length) (h:((List.getD gs k ((0,0,[],()):Gate))).1=2):0≤((List.getD gs k ((0,0,[],()):Gate))).2.1:=by
 have h9:=leaf_kind hV hk (by rw [h];decide)
 omega
theorem kind_rg {gs:List Gate} (hV:ValidC gs) {k:Nat} (hk:k<gs.length) (hi:¬ inner ((List.getD gs k ((0,0,[],()):Gate))).1): -1000000000≤((List.getD gs k ((0,0,[],()):Gate))).1∧((List.getD gs k ((0,0,[],()):Gate))).1≤1000000000:=by
 have:=leaf_kind hV hk hi
 omega
theorem EvK.on {S:SR T} {Q:T→Prop} {row row':List T} {gs:List Gate} {k j:Nat} (h:EvK S Q row ((List.getD gs k ((0,0,[],()):Gate))) k j row') (hk:k<row.length) (ho:KOk gs k row'.length j) {v:T} (hv:Q v) (e:S.op ((List.getD gs k ((0,0,[],()):Gate))) (row'.getD k S.z) (row'.getD (KD ((List.getD gs k ((0,0,[],()):Gate))) j).toNat S.z)=(v,0)):EvK S Q row ((List.getD gs k ((0,0,[],()):Gate))) k (j+1) (row'.set k v):=by
 have h1:=ho.ln
 have h2:=ho.ne
 rw [KL_eq] at h1
 rw [KD_eq] at h2 e
 exact h.step hk (by omega) h2 hv e
theorem EvK.off {S:SR T} {Q:T→Prop} {row row':List T} {gs:List Gate} {k j:Nat} (h:EvK S Q row ((List.getD gs k ((0,0,[],()):Gate))) k j row') (hk:k<row.length) (ho:KOk gs k row'.length j) (e:¬ (S.op ((List.getD gs k ((0,0,[],()):Gate))) (row'.getD k S.z) (row'.getD (KD ((List.getD gs k ((0,0,[],()):Gate))) j).toNat S.z)).2=0):gateS S row ((List.getD gs k ((0,0,[],()):Gate)))=(S.z,(S.op ((List.getD gs k ((0,0,[],()):Gate))) (row'.getD k S.z) (row'.getD (KD ((List.getD gs k ((0,0,[],()):Gate))) j).toNat S.z)).2):=by
 have h1:=ho.ln
 have h2:=ho.ne
 rw [KL_eq] at h1
 rw [KD_eq] at h2 e ⊢
 exact h.stop hk (by omega) h2 e
theorem EvR.kids {S:SR T} {Q:T→Prop} {gs:List Gate} {i:Int} {k j:Nat} {rest:List Nat} {row row':List T} (hl:row.length=i.toNat+1) (hq:∀ m,Q (row.getD m S.z)) (hk:k<row.length) (h2:∀ k∈rest,k∈reachT gs i.toNat) (h:runR S.ge gs i=runE S.ge gs (k::rest) row) (hK:EvK S Q row ((List.getD gs k ((0,0,[],()):Gate))) k j row') (hj:¬ (j:Int)<(KL ((List.getD gs k ((0,0,[],()):Gate))):Int)):EvR S.ge Q gs i (rest.map (elG gs)) row':=by
 obtain ⟨x,rfl,hx,hG⟩:=hK.fin hk (by rw [← KL_eq];omega)
 exact EvR.next (S:=S.ge) hl hq hk h2 h hx hG
theorem leaf_stop {S:SR T} {gs:List Gate} {i:Int} {k:Nat} {r:List Nat} {row:List T} (hg:GoodI gs i) (h:runR S.ge gs i=runE S.ge gs (k::r) row) (hi:¬ inner ((List.getD gs k ((0,0,[],()):Gate))).1) (e:¬ (S.leaf ((List.getD gs k ((0,0,[],()):Gate))).1 ((List.getD gs k ((0,0,[],()):Gate))).2.1).2=0):evC S.ge gs i=(S.z,(S.leaf ((List.getD gs k ((0,0,[],()):Gate))).1 ((List.getD gs k ((0,0,[],()):Gate))).2.1).2):=by
 have h3:S.ge.G row ((List.getD gs k ((0,0,[],()):Gate)))=_:=gateS_leaf hi
 have h4:=ev_stop (S:=S.ge) hg h (by rw [h3];exact e)
 rw [h3] at h4
 exact h4
theorem ev_stopK {S:SR T} {Q:T→Prop} {gs:List Gate} {i:Int} {k j:Nat} {r:List Nat} {row row':List T} (hg:GoodI gs i) (h:runR S.ge gs i=runE S.ge gs (k::r) row) (hK:EvK S Q row ((List.getD gs k ((0,0,[],()):Gate))) k j row') (hk:k<row.length) (ho:KOk gs k row'.length j) (e:¬ (S.op ((List.getD gs k ((0,0,[],()):Gate))) (row'.getD k S.z) (row'.getD (KD ((List.getD gs k ((0,0,[],()):Gate))) j).toNat S.z)).2=0):evC S.ge gs i=(S.z,(S.op ((List.getD gs k ((0,0,[],()):Gate))) (row'.getD k S.z) (row'.getD (KD ((List.getD gs k ((0,0,[],()):Gate))) j).toNat S.z)).2):=by
 have h3:S.ge.G row ((List.getD gs k ((0,0,[],()):Gate)))=_:=hK.off hk ho e
 have h4:=ev_stop (S:=S.ge) hg h (by rw [h3];exact e)
 rw [h3] at h4
 exact h4
end
@[reducible] noncomputable def S_ev_bool:Spec:={ ins:=(.cons (.d tCirc) (.cons (.d tInt) (.cons (.agg (.cons (.clos fi_z1 (.cons (.d (.pt (.sl .bool))) .nil)) (.cons (.clos fi_z2 .nil) (.cons (.clos fi_z3 .nil) .nil)))) .nil))),pre:=(fun x=>(fun c i s=>SmallG c.1∧∃ l,s.1.1=some l) x.1 x.2.1 x.2.2.1),alts:=[{ outs:=(.cons (.d .bool) (.cons (.d tInt) .nil)),res:=(fun x=>(fun c i s=>((evC (srB (s.1.1.getD [])).ge c.1 i).1,(evC (srB (s.1.1.getD [])).ge c.1 i).2,())) x.1 x.2.1 x.2.2.1)}],noisy:=true}
noncomputable def c_ev_bool:Cf:={ cf_z6 (Fl [(fi_z5,S_z5),(fi_z9,S_z9),(fi_z14,S_z14),(fi_z1,S_z1),(fi_z2,S_z2),(fi_z3,S_z3)]) with nz:=true,eat:=Eats SP,I:=Il [(fi_z15,S_z15)]}
theorem g_ev_bool:∀ x,S_ev_bool.pre x→shOK S_ev_bool.ins x→fnGoal c_ev_bool fn_z6 S_ev_bool x:=by
 rintro ⟨⟨gs,⟨⟩⟩,(i:Int),s,⟨⟩⟩ hpre hok
 try dsimp only [Dat,SDat,dflt,Ty.size,keepS,bkUpd,Gv.bk,backS,wayA,maxI,minI,negI] at hpre
 have hln:=shLn_of _ hok;replace hok:=Hd.mk hok;try simp only [shLn,datLn,inRng,lo,hi,maxLen,true_and,and_true] at hln
 obtain ⟨hsm,hpr⟩:=hpre
 first|refine fn_goal (w_head ?_)|refine fnL_goal (w_head ?_)|refine fnI_goal (w_head ?_)
 intro Kz kz;(conv=>whnf);(try dsimp+instances only);refine kz _ ?_;clear kz Kz;(conv=>(arg 2;whnf))
 repeat' (first|refine an ?_ ?_|((try refine gm ?_);first|((with_reducible show Kz _);(try dsimp+instances only);(with_reducible refine kz _ ?_);clear kz Kz)|refine st ?_|(refine sr ?_;intro Kz kz;conv=>whnf)|(refine cd ?_;(conv=>arg 2;whnf);refine st ?_)|refine blockK_y (by rfl) ?_|(refine sw ?_;conv=>whnf))|(refine gm ?_;conv=>whnf)|(intro hc;(try dsimp+instances only[Dat,SDat,dflt,Ty.size,keepS,bkUpd,Gv.bk,backS,wayA,maxI,minI,negI]at hc);try simp only[LS]at hc))
 all_goals (try ((fail_if_success refine nl ?_);(try dsimp only[Dat,SDat,dflt,Ty.size,keepS,bkUpd,Gv.bk,backS,wayA,maxI,minI,negI]);(try simp only[LS]);first|done|exact dsc|((try simp only[allP,lo,hi,room,true_and,and_true,implies_true]);(repeat' (first|refine an ?_ ?_|((with_reducible refine preA_t ?_ ?_);rotate_left;exact sameP_t)|intro hv))<;>(try omega))))
 all_goals (try ((fail_if_success refine nl ?_);(exact hsm _ (by assumption))))
 all_goals (try ((fail_if_success refine nl ?_);(first|exact (congrArg Prod.fst (ev_bad_ (S:=(srB (s.1.1.getD [])).ge) hc)).symm|exact (congrArg Prod.snd (ev_bad_ (S:=(srB (s.1.1.getD [])).ge) hc)).symm)))
 all_goals (try ((fail_if_success refine nl ?_);(have h1:=(good_of_ hc).hi;have h2:=(good_of_ hc).v.1;omega)))
 have hg:=good_of_ hc
 have hg0:=hg.lo
 have hg1:=hg.hi
 have hV:=hg.v
 have hmx:=hV.1
 refine w_rf S_z15 [(5, .cons (.row .bool) .nil)] (fun l y=>EvR (srB (s.1.1.getD [])).ge (fun _=>True) gs i l y.1.1) (by rfl) (by rfl) (by rfl) (by rfl) (by rfl) (by rfl) (by rfl) ?_ ?_
 rotate_left
 conv=>whnf
 refine And.intro ?_ (And.intro ?_ ?_)
 · exact EvR.start hg (trivial)
 · rintro ⟨k',g',⟨⟩⟩ r ⟨⟨row,⟨⟩⟩,⟨⟩⟩ hR
   have hR:EvR (srB (s.1.1.getD [])).ge (fun _=>True) gs i ((k',g',())::r) row:=hR
   obtain ⟨k,rest,rfl,rfl,rfl,hkr,hrr,hE⟩:=hR.cons
   have hln9:List.length (row:List (Dat .bool))=i.toNat+1:=hR.ln
   have hki:=(reachT_mem.1 hkr).1
   have hkl:k<gs.length:=by omega
   have hlf:=leaf_kind hV hkl
   have hkr9:k<List.length (row:List (Dat .bool)):=Nat.lt_of_lt_of_eq (Nat.lt_succ_of_le hki) hln9.symm
   have hkv:=leaf_val hV hkl
   have h20:inner ((List.getD gs k ((0,0,[],()):Gate))).1→2≤((List.getD gs k ((0,0,[],()):Gate))).2.2.1.length:=(hV.2 k hkl).2.1
   have hk0:=kid0_rng hV hkl hkr9
   have hlast:=fun (h:¬ inner ((List.getD gs k ((0,0,[],()):Gate))).1) (e:((srB (s.1.1.getD [])).leaf ((List.getD gs k ((0,0,[],()):Gate))).1 ((List.getD gs k ((0,0,[],()):Gate))).2.1).2=0) (q:(fun _=>True) ((srB (s.1.1.getD [])).leaf ((List.getD gs k ((0,0,[],()):Gate))).1 ((List.getD gs k ((0,0,[],()):Gate))).2.1).1)=>EvR.next (S:=(srB (s.1.1.getD [])).ge) (Q:=fun _=>True) hln9 hR.qs hkr9 hrr hE q (show gateS (srB (s.1.1.getD [])) row ((List.getD gs k ((0,0,[],()):Gate)))=(((srB (s.1.1.getD [])).leaf ((List.getD gs k ((0,0,[],()):Gate))).1 ((List.getD gs k ((0,0,[],()):Gate))).2.1).1,0) from (gateS_leaf h).trans (Prod.ext rfl e))
   have hstop:=fun (h:¬ inner ((List.getD gs k ((0,0,[],()):Gate))).1) (e:¬ ((srB (s.1.1.getD [])).leaf ((List.getD gs k ((0,0,[],()):Gate))).1 ((List.getD gs k ((0,0,[],()):Gate))).2.1).2=0)=>show evC (srB (s.1.1.getD [])).ge gs i=((srB (s.1.1.getD [])).z,((srB (s.1.1.getD [])).leaf ((List.getD gs k ((0,0,[],()):Gate))).1 ((List.getD gs k ((0,0,[],()):Gate))).2.1).2) from leaf_stop hg hE h e
   have hks:=hsm _ (getD_mem (d:=((0,0,[],()):Gate)) hkl)
   have hks1:KL ((List.getD gs k ((0,0,[],()):Gate)))≤1000000:=by rw [KL_eq,List.length_drop];omega
   repeat' (first|refine an ?_ ?_|((try refine gm ?_);first|((with_reducible show Kz _);(try dsimp+instances only);(with_reducible refine kz _ ?_);clear kz Kz)|refine st ?_|(refine sr ?_;intro Kz kz;conv=>whnf)|(refine cd ?_;(conv=>arg 2;whnf);refine st ?_)|refine blockK_y (by rfl) ?_|(refine sw ?_;conv=>whnf))|(refine gm ?_;conv=>whnf)|(intro hc;(try dsimp+instances only[Dat,SDat,dflt,Ty.size,keepS,bkUpd,Gv.bk,backS,wayA,maxI,minI,negI]at hc);try simp only[LS]at hc))
   all_goals (try ((fail_if_success refine nl ?_);(try dsimp only[Dat,SDat,dflt,Ty.size,keepS,bkUpd,Gv.bk,backS,wayA,maxI,minI,negI]);(try simp only[LS]);first|done|exact dsc|((try simp only[allP,lo,hi,room,true_and,and_true,implies_true]);(repeat' (first|refine an ?_ ?_|((with_reducible refine preA_t ?_ ?_);rotate_left;exact sameP_t)|intro hv))<;>(try omega))))
   all_goals (try ((fail_if_success refine nl ?_);(first|exact hkv (by assumption)|exact (kind_rg hV hkl (by assumption)).1|exact (kind_rg hV hkl (by assumption)).2|(have hin:=h20 (by assumption);omega)|exact (hk0 (by assumption)).1|exact (hk0 (by assumption)).2.1|exact (hk0 (by assumption)).2.2|exact hlast (by assumption) (by first|rfl|assumption) (trivial)|exact (congrArg Prod.fst (hstop (by assumption) (by assumption))).symm|exact (congrArg Prod.snd (hstop (by assumption) (by assumption))).symm)))
   · have hin:inner ((List.getD gs k ((0,0,[],()):Gate))).1:=by assumption
     have h2:=h20 hin
     have hop:(srB (s.1.1.getD [])).op ((List.getD gs k ((0,0,[],()):Gate)))=(srB (s.1.1.getD [])).times:=if_pos hc
     refine w_loop [(78, .d tInt)] [(5, .cons (.row .bool) .nil)] (fun y=>∃ j:Nat,y.1.1=(j:Int)∧j≤KL ((List.getD gs k ((0,0,[],()):Gate)))∧EvK (srB (s.1.1.getD [])) (fun _=>True) (row:List (Dat .bool)) ((List.getD gs k ((0,0,[],()):Gate))) k j y.2.1.1) (fun y=>KL ((List.getD gs k ((0,0,[],()):Gate))) - y.1.1.toNat) ?_
     conv=>whnf
     refine And.intro ?_ ?_
     · exact ⟨0,rfl,Nat.zero_le _,EvK.start hkr9 hR.qs hin h2⟩
     rintro ⟨⟨_,⟨⟩⟩,⟨⟨row',⟨⟩⟩,⟨⟩⟩⟩ ⟨j,rfl,hj,hK⟩
     have hK:EvK (srB (s.1.1.getD [])) (fun _=>True) (row:List (Dat .bool)) ((List.getD gs k ((0,0,[],()):Gate))) k j row':=hK
     have hrl:List.length (row':List (Dat .bool))=i.toNat+1:=hK.len.trans hln9
     have hkr8:k<List.length (row':List (Dat .bool)):=Nat.lt_of_lt_of_eq hkr9 hK.len.symm
     have hd1:KL ((List.getD gs k ((0,0,[],()):Gate)))≤1000000:=hks1
     have hjk:=fun (h:(j:Int)<(KL ((List.getD gs k ((0,0,[],()):Gate))):Int))=>kid_rng hV hkl hkr8 h
     have hfin:=fun (h:¬ (j:Int)<(KL ((List.getD gs k ((0,0,[],()):Gate))):Int))=>EvR.kids hln9 hR.qs hkr9 hrr hE hK h
     have hmu:=fun (h:(j:Int)<(KL ((List.getD gs k ((0,0,[],()):Gate))):Int))=>show KL ((List.getD gs k ((0,0,[],()):Gate))) - ((j:Int)+1).toNat<KL ((List.getD gs k ((0,0,[],()):Gate))) - j by omega
     have hon:=fun (h:(j:Int)<(KL ((List.getD gs k ((0,0,[],()):Gate))):Int)) (e:((srB (s.1.1.getD [])).times (List.getD row' k (srB (s.1.1.getD [])).z) (List.getD row' (KD ((List.getD gs k ((0,0,[],()):Gate))) j).toNat (srB (s.1.1.getD [])).z)).2=0)=>show ∃ j':Nat,(j:Int)+1=(j':Int)∧j'≤KL ((List.getD gs k ((0,0,[],()):Gate)))∧EvK (srB (s.1.1.getD [])) (fun _=>True) (row:List (Dat .bool)) ((List.getD gs k ((0,0,[],()):Gate))) k j' (List.set row' k ((srB (s.1.1.getD [])).times (List.getD row' k (srB (s.1.1.getD [])).z) (List.getD row' (KD ((List.getD gs k ((0,0,[],()):Gate))) j).toNat (srB (s.1.1.getD [])).z)).1) from ⟨j+1,rfl,(hjk h).ln,hK.on hkr9 (hjk h) (trivial) (by rw [hop];exact Prod.ext rfl e)⟩
     have hoff:=fun (h:(j:Int)<(KL ((List.getD gs k ((0,0,[],()):Gate))):Int)) (e:¬ ((srB (s.1.1.getD [])).times (List.getD row' k (srB (s.1.1.getD [])).z) (List.getD row' (KD ((List.getD gs k ((0,0,[],()):Gate))) j).toNat (srB (s.1.1.getD [])).z)).2=0)=>show evC (srB (s.1.1.getD [])).ge gs i=((srB (s.1.1.getD [])).z,((srB (s.1.1.getD [])).times (List.getD row' k (srB (s.1.1.getD [])).z) (List.getD row' (KD ((List.getD gs k ((0,0,[],()):Gate))) j).toNat (srB (s.1.1.getD [])).z)).2) from by rw [← hop];exact ev_stopK hg hE hK hkr9 (hjk h) (by rw [hop];exact e)
     repeat' (first|refine an ?_ ?_|((try refine gm ?_);first|((with_reducible show Kz _);(try dsimp+instances only);(with_reducible refine kz _ ?_);clear kz Kz)|refine st ?_|(refine sr ?_;intro Kz kz;conv=>whnf)|(refine cd ?_;(conv=>arg 2;whnf);refine st ?_)|refine blockK_y (by rfl) ?_|(refine sw ?_;conv=>whnf))|(refine gm ?_;conv=>whnf)|(intro hc;(try dsimp+instances only[Dat,SDat,dflt,Ty.size,keepS,bkUpd,Gv.bk,backS,wayA,maxI,minI,negI]at hc);try simp only[LS]at hc))
     all_goals (try ((fail_if_success refine nl ?_);(try dsimp only[Dat,SDat,dflt,Ty.size,keepS,bkUpd,Gv.bk,backS,wayA,maxI,minI,negI]);(try simp only[LS]);first|done|exact dsc|((try simp only[allP,lo,hi,room,true_and,and_true,implies_true]);(repeat' (first|refine an ?_ ?_|((with_reducible refine preA_t ?_ ?_);rotate_left;exact sameP_t)|intro hv))<;>(try omega))))
     all_goals (try ((fail_if_success refine nl ?_);(first|exact (hjk (by assumption)).lo|exact (hjk (by assumption)).hi|exact (hjk (by assumption)).nt|exact hfin (by assumption)|exact hmu (by assumption)|exact hon (by assumption) (by first|rfl|assumption)|exact ⟨hK.qs _,hK.qs _⟩|exact hK.qs _|exact (congrArg Prod.fst (hoff (by assumption) (by assumption))).symm|exact (congrArg Prod.snd (hoff (by assumption) (by assumption))).symm)))
   · have hin:inner ((List.getD gs k ((0,0,[],()):Gate))).1:=by assumption
     have h2:=h20 hin
     have hop:(srB (s.1.1.getD [])).op ((List.getD gs k ((0,0,[],()):Gate)))=(srB (s.1.1.getD [])).plus:=if_neg hc
     refine w_loop [(78, .d tInt)] [(5, .cons (.row .bool) .nil)] (fun y=>∃ j:Nat,y.1.1=(j:Int)∧j≤KL ((List.getD gs k ((0,0,[],()):Gate)))∧EvK (srB (s.1.1.getD [])) (fun _=>True) (row:List (Dat .bool)) ((List.getD gs k ((0,0,[],()):Gate))) k j y.2.1.1) (fun y=>KL ((List.getD gs k ((0,0,[],()):Gate))) - y.1.1.toNat) ?_
     conv=>whnf
     refine And.intro ?_ ?_
     · exact ⟨0,rfl,Nat.zero_le _,EvK.start hkr9 hR.qs hin h2⟩
     rintro ⟨⟨_,⟨⟩⟩,⟨⟨row',⟨⟩⟩,⟨⟩⟩⟩ ⟨j,rfl,hj,hK⟩
     have hK:EvK (srB (s.1.1.getD [])) (fun _=>True) (row:List (Dat .bool)) ((List.getD gs k ((0,0,[],()):Gate))) k j row':=hK
     have hrl:List.length (row':List (Dat .bool))=i.toNat+1:=hK.len.trans hln9
     have hkr8:k<List.length (row':List (Dat .bool)):=Nat.lt_of_lt_of_eq hkr9 hK.len.symm
     have hd1:KL ((List.getD gs k ((0,0,[],()):Gate)))≤1000000:=hks1
     have hjk:=fun (h:(j:Int)<(KL ((List.getD gs k ((0,0,[],()):Gate))):Int))=>kid_rng hV hkl hkr8 h
     have hfin:=fun (h:¬ (j:Int)<(KL ((List.getD gs k ((0,0,[],()):Gate))):Int))=>EvR.kids hln9 hR.qs hkr9 hrr hE hK h
     have hmu:=fun (h:(j:Int)<(KL ((List.getD gs k ((0,0,[],()):Gate))):Int))=>show KL ((List.getD gs k ((0,0,[],()):Gate))) - ((j:Int)+1).toNat<KL ((List.getD gs k ((0,0,[],()):Gate))) - j by omega
     have hon:=fun (h:(j:Int)<(KL ((List.getD gs k ((0,0,[],()):Gate))):Int)) (e:((srB (s.1.1.getD [])).plus (List.getD row' k (srB (s.1.1.getD [])).z) (List.getD row' (KD ((List.getD gs k ((0,0,[],()):Gate))) j).toNat (srB (s.1.1.getD [])).z)).2=0)=>show ∃ j':Nat,(j:Int)+1=(j':Int)∧j'≤KL ((List.getD gs k ((0,0,[],()):Gate)))∧EvK (srB (s.1.1.getD [])) (fun _=>True) (row:List (Dat .bool)) ((List.getD gs k ((0,0,[],()):Gate))) k j' (List.set row' k ((srB (s.1.1.getD [])).plus (List.getD row' k (srB (s.1.1.getD [])).z) (List.getD row' (KD ((List.getD gs k ((0,0,[],()):Gate))) j).toNat (srB (s.1.1.getD [])).z)).1) from ⟨j+1,rfl,(hjk h).ln,hK.on hkr9 (hjk h) (trivial) (by rw [hop];exact Prod.ext rfl e)⟩
     have hoff:=fun (h:(j:Int)<(KL ((List.getD gs k ((0,0,[],()):Gate))):Int)) (e:¬ ((srB (s.1.1.getD [])).plus (List.getD row' k (srB (s.1.1.getD [])).z) (List.getD row' (KD ((List.getD gs k ((0,0,[],()):Gate))) j).toNat (srB (s.1.1.getD [])).z)).2=0)=>show evC (srB (s.1.1.getD [])).ge gs i=((srB (s.1.1.getD [])).z,((srB (s.1.1.getD [])).plus (List.getD row' k (srB (s.1.1.getD [])).z) (List.getD row' (KD ((List.getD gs k ((0,0,[],()):Gate))) j).toNat (srB (s.1.1.getD [])).z)).2) from by rw [← hop];exact ev_stopK hg hE hK hkr9 (hjk h) (by rw [hop];exact e)
     repeat' (first|refine an ?_ ?_|((try refine gm ?_);first|((with_reducible show Kz _);(try dsimp+instances only);(with_reducible refine kz _ ?_);clear kz Kz)|refine st ?_|(refine sr ?_;intro Kz kz;conv=>whnf)|(refine cd ?_;(conv=>arg 2;whnf);refine st ?_)|refine blockK_y (by rfl) ?_|(refine sw ?_;conv=>whnf))|(refine gm ?_;conv=>whnf)|(intro hc;(try dsimp+instances only[Dat,SDat,dflt,Ty.size,keepS,bkUpd,Gv.bk,backS,wayA,maxI,minI,negI]at hc);try simp only[LS]at hc))
     all_goals (try ((fail_if_success refine nl ?_);(try dsimp only[Dat,SDat,dflt,Ty.size,keepS,bkUpd,Gv.bk,backS,wayA,maxI,minI,negI]);(try simp only[LS]);first|done|exact dsc|((try simp only[allP,lo,hi,room,true_and,and_true,implies_true]);(repeat' (first|refine an ?_ ?_|((with_reducible refine preA_t ?_ ?_);rotate_left;exact sameP_t)|intro hv))<;>(try omega))))
     all_goals (try ((fail_if_success refine nl ?_);(first|exact (hjk (by assumption)).lo|exact (hjk (by assumption)).hi|exact (hjk (by assumption)).nt|exact hfin (by assumption)|exact hmu (by assumption)|exact hon (by assumption) (by first|rfl|assumption)|exact ⟨hK.qs _,hK.qs _⟩|exact hK.qs _|exact (congrArg Prod.fst (hoff (by assumption) (by assumption))).symm|exact (congrArg Prod.snd (hoff (by assumption) (by assumption))).symm)))
 · rintro ⟨⟨row,⟨⟩⟩,⟨⟩⟩ hR
   have hR:EvR (srB (s.1.1.getD [])).ge (fun _=>True) gs i [] row:=hR
   have hf:=hR.fin hg
   have hln9:List.length (row:List (Dat .bool))=i.toNat+1:=hR.ln
   repeat' (first|refine an ?_ ?_|((try refine gm ?_);first|((with_reducible show Kz _);(try dsimp+instances only);(with_reducible refine kz _ ?_);clear kz Kz)|refine st ?_|(refine sr ?_;intro Kz kz;conv=>whnf)|(refine cd ?_;(conv=>arg 2;whnf);refine st ?_)|refine blockK_y (by rfl) ?_|(refine sw ?_;conv=>whnf))|(refine gm ?_;conv=>whnf)|(intro hc;(try dsimp+instances only[Dat,SDat,dflt,Ty.size,keepS,bkUpd,Gv.bk,backS,wayA,maxI,minI,negI]at hc);try simp only[LS]at hc))
   all_goals (try ((fail_if_success refine nl ?_);(try dsimp only[Dat,SDat,dflt,Ty.size,keepS,bkUpd,Gv.bk,backS,wayA,maxI,minI,negI]);(try simp only[LS]);first|done|exact dsc|((try simp only[allP,lo,hi,room,true_and,and_true,implies_true]);(repeat' (first|refine an ?_ ?_|((with_reducible refine preA_t ?_ ?_);rotate_left;exact sameP_t)|intro hv))<;>(try omega))))
   all_goals (try ((fail_if_success refine nl ?_);(first|(rw [hf];done)|(rw [hf];rfl))))
 · exact ⟨i,gs,rfl,rfl,hg,hsm⟩
theorem ok_ev_bool:SpecOK SP glob fi_z6 S_ev_bool:=mk_ok (c:=c_ev_bool) (tab_ok _) mix_ok wf_z6 (by decide) (.cons ok_z5 (.cons ok_z9 (.cons ok_z14 (.cons ok_z1 (.cons ok_z2 (.cons ok_z3 .nil)))))) (fun x hx=>Nat.zero_lt_one) g_ev_bool (hL:=(LateOK.of rfl .nil (.cons ok_z15 .nil)))
end Go.Gv
