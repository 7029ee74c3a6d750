/- Chapter 16: the reference: gates put, what is reached. -/
import Derived.Test.YtoangeemlcbjlaaGreatDoorR16
import Derived.Test.YtoangeemlcbjlaaGreatDoorC16c
set_option linter.all false
namespace Go.Gv
open Go Go.Proofs Go.Proofs.YtoangeemlcbjlaaGreatDoor
set_option maxRecDepth 100000
set_option maxHeartbeats 4000000
@[reducible] noncomputable def S_z68:Spec:={ ins:=(.cons (.d tCirc) (.cons (.d tInt) .nil)),pre:=(fun x=>(fun c i=>SmallG c.1) x.1 x.2.1),alts:=[{ outs:=(.cons (.d .bool) .nil),res:=(fun x=>(fun c i=>(boolOf (GoodI c.1 i),())) x.1 x.2.1)}]}
noncomputable def c_z68:Cf:=(cf_z68 (Fl [(fi_z66,S_z66)]))
theorem g_z68:∀ x,S_z68.pre x→shOK S_z68.ins x→fnGoal c_z68 fn_z68 S_z68 x:=by
 rintro ⟨c,i,⟨⟩⟩ hpre hok
 try dsimp only [Dat,SDat,dflt,Ty.size,keepS,bkUpd,Gv.bk,backS,wayA,maxI,minI,negI] at hpre
 have hln:=shLn_of _ hok;replace hok:=Hd.mk hok;try simp only [shLn,datLn,inRng,lo,hi,maxLen,true_and,and_true] at hln
 first|refine fn_goal (w_head ?_)
 intro Kz kz;(conv=>whnf);(try dsimp+instances only);refine kz _ ?_;clear kz Kz;(conv=>(arg 2;whnf))
 repeat' (first|refine an ?_ ?_|((try refine gm ?_);first|((with_reducible show Kz _);(try dsimp+instances only);(with_reducible refine kz _ ?_);clear kz Kz)|refine st ?_|(refine sr ?_;intro Kz kz;conv=>whnf)|(refine cd ?_;(conv=>arg 2;whnf);refine st ?_)|refine blockK_y (by rfl) ?_|(refine sw ?_;conv=>whnf))|(refine gm ?_;conv=>whnf)|(intro hc;(try dsimp+instances only[Dat,SDat,dflt,Ty.size,keepS,bkUpd,Gv.bk,backS,wayA,maxI,minI,negI]at hc);try simp only[LS]at hc))
 all_goals (try ((fail_if_success refine nl ?_);(try dsimp only[Dat,SDat,dflt,Ty.size,keepS,bkUpd,Gv.bk,backS,wayA,maxI,minI,negI]);(try simp only[LS]);first|done|exact dsc|((try simp only[allP,lo,hi,room,true_and,and_true,implies_true]);(repeat' (first|refine an ?_ ?_|((with_reducible refine preA_t ?_ ?_);rotate_left;exact sameP_t)|intro hv))<;>(try omega))))
 all_goals (first|exact hpre _ (by assumption)|exact congrArg boolOf (propext ⟨fun h=>⟨h.1.1,h.1.2,h.2⟩,fun h=>⟨⟨h.lo,h.hi⟩,h.v⟩⟩))
theorem ok_z68:SpecOK SP glob fi_z68 S_z68:=mk_ok (c:=c_z68) (tab_ok _) mix_ok wf_z68 (by decide) (.cons ok_z66 .nil) (fun x hx=>Nat.zero_lt_one) g_z68
noncomputable def reachB (gs:List Gate) (i:Int):List Bool:=(List.range gs.length).map fun k=>boolOf (Rch gs i.toNat k)
theorem reachB_is {gs:List Gate} {n:Nat} {xs:List Bool} (hM:MarkR gs n xs 0) (hl:xs.length=gs.length):xs=reachB gs (n:Int):=by
 refine List.ext_getElem (by unfold reachB;rw [List.length_map,List.length_range,hl]) fun k h1 h2=>?_
 have h:=hM.done k
 rw [getD_ok false h1] at h
 rw [Bool.eq_iff_iff,h]
 simp [reachB,boolOf_true]
@[reducible] noncomputable def S_z65:Spec:={ ins:=(.cons (.d tCirc) (.cons (.d tInt) .nil)),pre:=(fun x=>(fun c i=>GoodI c.1 i∧SmallG c.1) x.1 x.2.1),alts:=[{ outs:=(.cons (.d (.sl .bool)) .nil),res:=(fun x=>(fun c i=>(reachB c.1 i,())) x.1 x.2.1)}]}
noncomputable def c_z65:Cf:=(cf_z65 (Fl []))
theorem g_z65:∀ x,S_z65.pre x→shOK S_z65.ins x→fnGoal c_z65 fn_z65 S_z65 x:=by
 rintro ⟨⟨gs,⟨⟩⟩,(i:Int),⟨⟩⟩ hpre hok
 try dsimp only [Dat,SDat,dflt,Ty.size,keepS,bkUpd,Gv.bk,backS,wayA,maxI,minI,negI] at hpre
 have hln:=shLn_of _ hok;replace hok:=Hd.mk hok;try simp only [shLn,datLn,inRng,lo,hi,maxLen,true_and,and_true] at hln
 obtain ⟨hg,hsm⟩:=hpre
 have hg:GoodI gs i:=hg
 have hsm:SmallG gs:=hsm
 obtain ⟨n,rfl⟩:∃ n:Nat,i=(n:Int):=⟨i.toNat,(Int.toNat_of_nonneg hg.lo).symm⟩
 have hn:n<gs.length:=by have:=hg.hi;omega
 have hV:=hg.v
 have hmax:=hV.1
 first|refine fn_goal (w_head ?_)
 intro Kz kz;(conv=>whnf);(try dsimp+instances only);refine kz _ ?_;clear kz Kz;(conv=>(arg 2;whnf))
 repeat' (first|refine an ?_ ?_|((try refine gm ?_);first|((with_reducible show Kz _);(try dsimp+instances only);(with_reducible refine kz _ ?_);clear kz Kz)|refine st ?_|(refine sr ?_;intro Kz kz;conv=>whnf)|(refine cd ?_;(conv=>arg 2;whnf);refine st ?_)|refine blockK_y (by rfl) ?_|(refine sw ?_;conv=>whnf))|(refine gm ?_;conv=>whnf)|(intro hc;(try dsimp+instances only[Dat,SDat,dflt,Ty.size,keepS,bkUpd,Gv.bk,backS,wayA,maxI,minI,negI]at hc);try simp only[LS]at hc))
 all_goals (try ((fail_if_success refine nl ?_);(try dsimp only[Dat,SDat,dflt,Ty.size,keepS,bkUpd,Gv.bk,backS,wayA,maxI,minI,negI]);(try simp only[LS]);first|done|exact dsc|((try simp only[allP,lo,hi,room,true_and,and_true,implies_true]);(repeat' (first|refine an ?_ ?_|((with_reducible refine preA_t ?_ ?_);rotate_left;exact sameP_t)|intro hv))<;>(try omega))))
 refine w_loop [(5, .row .bool),(6, .d tInt)] [] (fun y=>∃ m:Nat,y.1.2.1=(m:Int) - 1∧m≤n+1∧List.length y.1.1=gs.length∧MarkR gs n y.1.1 m) (fun y=>(y.1.2.1+1).toNat) ?_
 conv=>whnf
 refine And.intro ?_ ?_
 · refine ⟨n+1,by show (n:Int)=((n+1:Nat):Int) - 1;omega,Nat.le_refl _,?_,mark_start (by omega)⟩
   show ((List.replicate _ _).set _ _).length=_
   rw [List.length_set,List.length_replicate];omega
 rintro ⟨⟨xs,_,⟨⟩⟩,⟨⟩⟩ ⟨m,rfl,hm,hxl,hM⟩
 have hxl:List.length (xs:List Bool)=gs.length:=hxl
 have hM:MarkR gs n (xs:List Bool) m:=hM
 have hK1:0≤(m:Int) - 1→((m:Int) - 1).toNat+1=m∧((m:Int) - 1).toNat<gs.length∧((m:Int) - 1).toNat≤n:=fun h=>by omega
 have hM1:=fun (h:0≤(m:Int) - 1)=>show MarkR gs n (xs:List Bool) (((m:Int) - 1).toNat+1) by rw [(hK1 h).1];exact hM
 have hm1:=fun (h:0≤(m:Int) - 1)=>show (m:Int) - 1 - 1=((((m:Int) - 1).toNat:Nat):Int) - 1 by omega
 repeat' (first|refine an ?_ ?_|((try refine gm ?_);first|((with_reducible show Kz _);(try dsimp+instances only);(with_reducible refine kz _ ?_);clear kz Kz)|refine st ?_|(refine sr ?_;intro Kz kz;conv=>whnf)|(refine cd ?_;(conv=>arg 2;whnf);refine st ?_)|refine blockK_y (by rfl) ?_|(refine sw ?_;conv=>whnf))|(refine gm ?_;conv=>whnf)|(intro hc;(try dsimp+instances only[Dat,SDat,dflt,Ty.size,keepS,bkUpd,Gv.bk,backS,wayA,maxI,minI,negI]at hc);try simp only[LS]at hc))
 all_goals (try ((fail_if_success refine nl ?_);(try dsimp only[Dat,SDat,dflt,Ty.size,keepS,bkUpd,Gv.bk,backS,wayA,maxI,minI,negI]);(try simp only[LS]);first|done|exact dsc|((try simp only[allP,lo,hi,room,true_and,and_true,implies_true]);(repeat' (first|refine an ?_ ?_|((with_reducible refine preA_t ?_ ?_);rotate_left;exact sameP_t)|intro hv))<;>(try omega))))
 · have hh:0≤(m:Int) - 1:=by assumption
   obtain ⟨k1,k2,k3⟩:=hK1 hh
   have hkid:=fun (j:Nat) (h:j<(List.getD gs ((m:Int) - 1).toNat ((0,0,[],()):Gate)).2.2.1.length)=>kid_in hV k2 (getD_mem (d:=(0:Int)) h)
   refine w_loop [(5, .row .bool),(7, .d tInt)] [] (fun y=>∃ j:Nat,y.1.2.1=(j:Int)∧j≤(List.getD gs ((m:Int) - 1).toNat ((0,0,[],()):Gate)).2.2.1.length∧List.length y.1.1=gs.length∧(List.getD y.1.1 ((m:Int) - 1).toNat false=true→MarkK gs n y.1.1 ((m:Int) - 1).toNat j)∧(List.getD y.1.1 ((m:Int) - 1).toNat false=false→MarkR gs n y.1.1 (((m:Int) - 1).toNat+1))) (fun y=>(List.getD gs ((m:Int) - 1).toNat ((0,0,[],()):Gate)).2.2.1.length - y.1.2.1.toNat) ?_
   conv=>whnf
   refine And.intro ?_ ?_
   · exact ⟨0,rfl,Nat.zero_le _,hxl,fun h=>(hM1 hh).open h,fun _=>hM1 hh⟩
   rintro ⟨⟨xs',_,⟨⟩⟩,⟨⟩⟩ ⟨j,rfl,hj,hxl',hMK,hMR⟩
   have hxl':List.length (xs':List Bool)=gs.length:=hxl'
   have hMK:List.getD (xs':List Bool) ((m:Int) - 1).toNat false=true→MarkK gs n (xs':List Bool) ((m:Int) - 1).toNat j:=hMK
   have hMR:List.getD (xs':List Bool) ((m:Int) - 1).toNat false=false→MarkR gs n (xs':List Bool) (((m:Int) - 1).toNat+1):=hMR
   have hkj:=hkid j
   have hstep:=fun (h:j<(List.getD gs ((m:Int) - 1).toNat ((0,0,[],()):Gate)).2.2.1.length) (q:List.getD (xs':List Bool) ((m:Int) - 1).toNat false=true)=>(hMK q).step h (by have:=hkj h;omega) (by have:=hkj h;omega)
   have hks:=hsm _ (getD_mem (d:=((0,0,[],()):Gate)) k2)
   have hend:=fun (h:¬ ((j:Int)<((List.getD gs ((m:Int) - 1).toNat ((0,0,[],()):Gate)).2.2.1.length:Int)∧List.getD (xs':List Bool) ((m:Int) - 1).toNat false=true))=>show MarkR gs n (xs':List Bool) ((m:Int) - 1).toNat from by
    cases q:List.getD (xs':List Bool) ((m:Int) - 1).toNat false
    · exact (hMR q).skip q
    · exact (hMK q).shut (Nat.not_lt.1 fun e=>h ⟨Int.ofNat_lt.2 e,q⟩)
   repeat' (first|refine an ?_ ?_|((try refine gm ?_);first|((with_reducible show Kz _);(try dsimp+instances only);(with_reducible refine kz _ ?_);clear kz Kz)|refine st ?_|(refine sr ?_;intro Kz kz;conv=>whnf)|(refine cd ?_;(conv=>arg 2;whnf);refine st ?_)|refine blockK_y (by rfl) ?_|(refine sw ?_;conv=>whnf))|(refine gm ?_;conv=>whnf)|(intro hc;(try dsimp+instances only[Dat,SDat,dflt,Ty.size,keepS,bkUpd,Gv.bk,backS,wayA,maxI,minI,negI]at hc);try simp only[LS]at hc))
   all_goals (try ((fail_if_success refine nl ?_);(try dsimp only[Dat,SDat,dflt,Ty.size,keepS,bkUpd,Gv.bk,backS,wayA,maxI,minI,negI]);(try simp only[LS]);first|done|exact dsc|((try simp only[allP,lo,hi,room,true_and,and_true,implies_true]);(repeat' (first|refine an ?_ ?_|((with_reducible refine preA_t ?_ ?_);rotate_left;exact sameP_t)|intro hv))<;>(try omega))))
   · have hjl:j<(List.getD gs ((m:Int) - 1).toNat ((0,0,[],()):Gate)).2.2.1.length:=Int.ofNat_lt.1 hc.1
     have h9:=hstep hjl hc.2
     exact ⟨j+1,rfl,hjl,hxl',fun _=>h9,fun q=>by have:=h9.hr;rw [q] at this;cases this⟩
   · exact ⟨((m:Int) - 1).toNat,hm1 hh,by omega,hxl',hend hc⟩
 · have hm0:m=0:=by omega
   subst hm0
   exact reachB_is hM hxl
theorem ok_z65:SpecOK SP glob fi_z65 S_z65:=mk_ok (c:=c_z65) (tab_ok _) mix_ok wf_z65 (by decide) .nil (fun x hx=>Nat.zero_lt_one) g_z65
structure NoG (gs:List Gate) (g':Gate) (m:Nat):Prop where
 le:m≤gs.length
 no:∀ k,k<m→(List.getD gs k ((0,0,[],()):Gate))≠g'
theorem NoG.start {gs:List Gate} {g':Gate}:NoG gs g' 0:=⟨Nat.zero_le _,fun k h=>absurd h (Nat.not_lt_zero k)⟩
theorem NoG.step {gs:List Gate} {g':Gate} {m:Nat} (h:NoG gs g' m) (hm:(m:Int)<(gs.length:Int)) (q:¬ List.getD gs m ((0,0,[],()):Gate)=g'):NoG gs g' (m+1):=⟨by omega,fun k hk=>by
 by_cases e:k=m
 · rw [e];exact q
 · exact h.no k (by omega)⟩
end Go.Gv
