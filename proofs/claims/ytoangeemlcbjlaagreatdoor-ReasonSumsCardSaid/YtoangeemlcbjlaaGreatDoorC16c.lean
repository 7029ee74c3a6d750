/- Chapter 16: the program: sorted kids, a gate put, what is reached. -/
import Derived.Test.YtoangeemlcbjlaaGreatDoorGh
import Derived.Test.YtoangeemlcbjlaaGreatDoorC16b
import Derived.Test.YtoangeemlcbjlaaGreatDoorP16j
import Derived.Test.YtoangeemlcbjlaaGreatDoorY
set_option linter.all false
namespace Go.Gv
open Go Go.Proofs Go.Proofs.YtoangeemlcbjlaaGreatDoor
set_option maxRecDepth 100000
set_option maxHeartbeats 4000000
@[reducible] noncomputable def S_z84:Spec:={ ins:= .cons (.d (.sl tGate)) .nil,pre:=fun x=>List.length x.1≤1000000,alts:=[{ outs:= .cons (.spare tGate) .nil,res:=fun x=>(x.1,())}]}
set_option maxRecDepth 100000 in
theorem ok_z84:SpecOK SP glob fi_z84 S_z84:=by
 refine nil_ok (c:=cf_z84 (Fl [])) (t:=tGate) (tab_ok _) mix_ok wf_z84 .nil (fun _ _=>Nat.zero_lt_one) rfl (by decide) ?_
 rintro ⟨xs,⟨⟩⟩ ys h hpre hok X hX
 have h':(xs,PUnit.unit)=(ys,()):=eq_of_heq h
 simp only [Prod.mk.injEq,and_true] at h'
 subst h'
 have hln:List.length xs≤1000000:=hpre
 clear hpre
 rcases hX with ⟨rfl,h0⟩|⟨rfl,rfl⟩|⟨a,k,rfl,h1,h2,rfl⟩
 · conv=>(arg 2;whnf)
   repeat' (first|refine an ?_ ?_|((try refine gm ?_);first|((with_reducible show Kz _);(try dsimp+instances only);(with_reducible refine kz _ ?_);clear kz Kz)|refine st ?_|(refine sr ?_;intro Kz kz;conv=>whnf)|(refine cd ?_;(conv=>arg 2;whnf);refine st ?_)|refine blockK_y (by rfl) ?_|(refine sw ?_;conv=>whnf))|(refine gm ?_;conv=>whnf)|(intro hc;(try dsimp+instances only[Dat,SDat,dflt,Ty.size,keepS,bkUpd,Gv.bk,backS,wayA,maxI,minI,negI]at hc);try simp only[LS]at hc))
   all_goals (try ((fail_if_success refine nl ?_);(try dsimp only[Dat,SDat,dflt,Ty.size,keepS,bkUpd,Gv.bk,backS,wayA,maxI,minI,negI]);(try simp only[LS]);first|done|exact dsc|((try simp only[allP,lo,hi,room,true_and,and_true,implies_true]);(repeat' (first|refine an ?_ ?_|((with_reducible refine preA_t ?_ ?_);rotate_left;exact sameP_t)|intro hv))<;>(try omega))))
   all_goals (try (change retA _ _ _ _ _;conv=>whnf))
   repeat' (first|refine an ?_ ?_|((try refine gm ?_);first|((with_reducible show Kz _);(try dsimp+instances only);(with_reducible refine kz _ ?_);clear kz Kz)|refine st ?_|(refine sr ?_;intro Kz kz;conv=>whnf)|(refine cd ?_;(conv=>arg 2;whnf);refine st ?_)|refine blockK_y (by rfl) ?_|(refine sw ?_;conv=>whnf))|(refine gm ?_;conv=>whnf)|(intro hc;(try dsimp+instances only[Dat,SDat,dflt,Ty.size,keepS,bkUpd,Gv.bk,backS,wayA,maxI,minI,negI]at hc);try simp only[LS]at hc))
   all_goals (try ((fail_if_success refine nl ?_);(try dsimp only[Dat,SDat,dflt,Ty.size,keepS,bkUpd,Gv.bk,backS,wayA,maxI,minI,negI]);(try simp only[LS]);first|done|exact dsc|((try simp only[allP,lo,hi,room,true_and,and_true,implies_true]);(repeat' (first|refine an ?_ ?_|((with_reducible refine preA_t ?_ ?_);rotate_left;exact sameP_t)|intro hv))<;>(try omega))))
 · conv=>(arg 2;whnf)
   repeat' (first|refine an ?_ ?_|((try refine gm ?_);first|((with_reducible show Kz _);(try dsimp+instances only);(with_reducible refine kz _ ?_);clear kz Kz)|refine st ?_|(refine sr ?_;intro Kz kz;conv=>whnf)|(refine cd ?_;(conv=>arg 2;whnf);refine st ?_)|refine blockK_y (by rfl) ?_|(refine sw ?_;conv=>whnf))|(refine gm ?_;conv=>whnf)|(intro hc;(try dsimp+instances only[Dat,SDat,dflt,Ty.size,keepS,bkUpd,Gv.bk,backS,wayA,maxI,minI,negI]at hc);try simp only[LS]at hc))
   all_goals (try ((fail_if_success refine nl ?_);(try dsimp only[Dat,SDat,dflt,Ty.size,keepS,bkUpd,Gv.bk,backS,wayA,maxI,minI,negI]);(try simp only[LS]);first|done|exact dsc|((try simp only[allP,lo,hi,room,true_and,and_true,implies_true]);(repeat' (first|refine an ?_ ?_|((with_reducible refine preA_t ?_ ?_);rotate_left;exact sameP_t)|intro hv))<;>(try omega))))
   all_goals (try (change retA _ _ _ _ _;conv=>whnf))
   repeat' (first|refine an ?_ ?_|((try refine gm ?_);first|((with_reducible show Kz _);(try dsimp+instances only);(with_reducible refine kz _ ?_);clear kz Kz)|refine st ?_|(refine sr ?_;intro Kz kz;conv=>whnf)|(refine cd ?_;(conv=>arg 2;whnf);refine st ?_)|refine blockK_y (by rfl) ?_|(refine sw ?_;conv=>whnf))|(refine gm ?_;conv=>whnf)|(intro hc;(try dsimp+instances only[Dat,SDat,dflt,Ty.size,keepS,bkUpd,Gv.bk,backS,wayA,maxI,minI,negI]at hc);try simp only[LS]at hc))
   all_goals (try ((fail_if_success refine nl ?_);(try dsimp only[Dat,SDat,dflt,Ty.size,keepS,bkUpd,Gv.bk,backS,wayA,maxI,minI,negI]);(try simp only[LS]);first|done|exact dsc|((try simp only[allP,lo,hi,room,true_and,and_true,implies_true]);(repeat' (first|refine an ?_ ?_|((with_reducible refine preA_t ?_ ?_);rotate_left;exact sameP_t)|intro hv))<;>(try omega))))
 · conv=>(arg 2;whnf)
   repeat' (first|refine an ?_ ?_|((try refine gm ?_);first|((with_reducible show Kz _);(try dsimp+instances only);(with_reducible refine kz _ ?_);clear kz Kz)|refine st ?_|(refine sr ?_;intro Kz kz;conv=>whnf)|(refine cd ?_;(conv=>arg 2;whnf);refine st ?_)|refine blockK_y (by rfl) ?_|(refine sw ?_;conv=>whnf))|(refine gm ?_;conv=>whnf)|(intro hc;(try dsimp+instances only[Dat,SDat,dflt,Ty.size,keepS,bkUpd,Gv.bk,backS,wayA,maxI,minI,negI]at hc);try simp only[LS]at hc))
   all_goals (try ((fail_if_success refine nl ?_);(try dsimp only[Dat,SDat,dflt,Ty.size,keepS,bkUpd,Gv.bk,backS,wayA,maxI,minI,negI]);(try simp only[LS]);first|done|exact dsc|((try simp only[allP,lo,hi,room,true_and,and_true,implies_true]);(repeat' (first|refine an ?_ ?_|((with_reducible refine preA_t ?_ ?_);rotate_left;exact sameP_t)|intro hv))<;>(try omega))))
   all_goals (try (change retA _ _ _ _ _;conv=>whnf))
   repeat' (first|refine an ?_ ?_|((try refine gm ?_);first|((with_reducible show Kz _);(try dsimp+instances only);(with_reducible refine kz _ ?_);clear kz Kz)|refine st ?_|(refine sr ?_;intro Kz kz;conv=>whnf)|(refine cd ?_;(conv=>arg 2;whnf);refine st ?_)|refine blockK_y (by rfl) ?_|(refine sw ?_;conv=>whnf))|(refine gm ?_;conv=>whnf)|(intro hc;(try dsimp+instances only[Dat,SDat,dflt,Ty.size,keepS,bkUpd,Gv.bk,backS,wayA,maxI,minI,negI]at hc);try simp only[LS]at hc))
   all_goals (try ((fail_if_success refine nl ?_);(try dsimp only[Dat,SDat,dflt,Ty.size,keepS,bkUpd,Gv.bk,backS,wayA,maxI,minI,negI]);(try simp only[LS]);first|done|exact dsc|((try simp only[allP,lo,hi,room,true_and,and_true,implies_true]);(repeat' (first|refine an ?_ ?_|((with_reducible refine preA_t ?_ ?_);rotate_left;exact sameP_t)|intro hv))<;>(try omega))))
   all_goals (first|assumption|exact h2 (by assumption))
theorem fn_hf16 {f : Nat} {fn : Func} {n : Nat} (h : FnOK SP f fn n) : ∃ fn, SP.funcs[f]? = some fn ∧ fn.body.isNone = false ∧ (fn.name == "runtime.NumGoroutine") = false := by
 refine ⟨fn,h.at',?_,h.name⟩
 have:=h.body
 cases hb:fn.body with
 |none=>rw [hb] at this;cases this
 |some _=>rfl
@[reducible] noncomputable def S_z101:Spec:={ ins:=(.cons (.d (.sl tInt)) .nil),pre:=fun _=>True,alts:=[{ outs:=(.cons (.clos fi_z102 (.cons (.d (.pt (.sl tInt))) .nil)) .nil),res:=(fun x=>(fun s=>((some s,()),())) x.1)}]}
noncomputable def c_z101:Cf:=(cf_z101 (Fl []))
theorem g_z101:∀ x,S_z101.pre x→shOK S_z101.ins x→fnGoal c_z101 fn_z101 S_z101 x:=by
 rintro ⟨s,⟨⟩⟩ hpre hok
 clear hpre
 have hln:=shLn_of _ hok;replace hok:=Hd.mk hok;try simp only [shLn,datLn,inRng,lo,hi,maxLen,true_and,and_true] at hln
 first|refine fn_goal (w_head ?_)
 intro Kz kz;(conv=>whnf);(try dsimp+instances only);refine kz _ ?_;clear kz Kz;(conv=>(arg 2;whnf))
 repeat' (first|refine an ?_ ?_|((try refine gm ?_);first|((with_reducible show Kz _);(try dsimp+instances only);(with_reducible refine kz _ ?_);clear kz Kz)|refine st ?_|(refine sr ?_;intro Kz kz;conv=>whnf)|(refine cd ?_;(conv=>arg 2;whnf);refine st ?_)|refine blockK_y (by rfl) ?_|(refine sw ?_;conv=>whnf))|(refine gm ?_;conv=>whnf)|(intro hc;(try dsimp+instances only[Dat,SDat,dflt,Ty.size,keepS,bkUpd,Gv.bk,backS,wayA,maxI,minI,negI]at hc);try simp only[LS]at hc))
 all_goals (try ((fail_if_success refine nl ?_);(try dsimp only[Dat,SDat,dflt,Ty.size,keepS,bkUpd,Gv.bk,backS,wayA,maxI,minI,negI]);(try simp only[LS]);first|done|exact dsc|((try simp only[allP,lo,hi,room,true_and,and_true,implies_true]);(repeat' (first|refine an ?_ ?_|((with_reducible refine preA_t ?_ ?_);rotate_left;exact sameP_t)|intro hv))<;>(try omega))))
theorem ok_z101:SpecOK SP glob fi_z101 S_z101:=mk_ok (c:=c_z101) (tab_ok _) mix_ok wf_z101 (by decide) .nil (fun x hx=>Nat.zero_lt_one) g_z101
@[reducible] noncomputable def S_z102:ItSpec:={ ts:=[tInt],caps:=(.cons (.d (.pt (.sl tInt))) .nil),pre:=(fun x=>(fun s=>∃ l,s=some l∧l.length≤1000000) x.1),seq:=(fun x=>(fun s=>match s with|some l=>l.map (fun x=>(x,()))|none=>[]) x.1)}
noncomputable def c_z102:Cf:={ cf_z102 (Fl []) with eat:=Eats SP}
theorem g_z102:∀ x:SDat (.cons (.ob (.log S_z102.ts)) S_z102.caps),S_z102.pre x.2→x.1.1=S_z102.seq x.2→c_z102.eat S_z102.ts x.1.2.2 x.1.1 x.1.2.1→shOK (.cons (.ob (.log S_z102.ts)) S_z102.caps) x→fnGoalI c_z102 fn_z102 S_z102 x:=by
 rintro ⟨⟨ys,E,D⟩,s,⟨⟩⟩ hpre hys heat hok
 try dsimp only [Dat,SDat,dflt,Ty.size,keepS,bkUpd,Gv.bk,backS,wayA,maxI,minI,negI] at hpre
 dsimp only at hys heat
 have hln:=shLn_of _ hok;replace hok:=Hd.mk hok;try simp only [shLn,datLn,inRng,lo,hi,maxLen,true_and,and_true] at hln
 obtain ⟨l,rfl,hl6⟩:=hpre
 first|refine fn_goal (w_head ?_)|refine fnL_goal (w_head ?_)|refine fnI_goal (w_head ?_)
 intro Kz kz;(conv=>whnf);(try dsimp+instances only);refine kz _ ?_;clear kz Kz;(conv=>(arg 2;whnf))
 repeat' (first|refine an ?_ ?_|((try refine gm ?_);first|((with_reducible show Kz _);(try dsimp+instances only);(with_reducible refine kz _ ?_);clear kz Kz)|refine st ?_|(refine sr ?_;intro Kz kz;conv=>whnf)|(refine cd ?_;(conv=>arg 2;whnf);refine st ?_)|refine blockK_y (by rfl) ?_|(refine sw ?_;conv=>whnf))|(refine gm ?_;conv=>whnf)|(intro hc;(try dsimp+instances only[Dat,SDat,dflt,Ty.size,keepS,bkUpd,Gv.bk,backS,wayA,maxI,minI,negI]at hc);try simp only[LS]at hc))
 all_goals (try ((fail_if_success refine nl ?_);(try dsimp only[Dat,SDat,dflt,Ty.size,keepS,bkUpd,Gv.bk,backS,wayA,maxI,minI,negI]);(try simp only[LS]);first|done|exact dsc|((try simp only[allP,lo,hi,room,true_and,and_true,implies_true]);(repeat' (first|refine an ?_ ?_|((with_reducible refine preA_t ?_ ?_);rotate_left;exact sameP_t)|intro hv))<;>(try omega))))
 refine w_loop [(7, .d tInt),(0, .ob (.log [tInt]))] [] (fun y=>∃ k:Nat,y.1.1=(k:Int)∧k≤l.length∧y.1.2.1.2.2=D∧y.1.2.1.1=(l.drop k).map (fun x=>(x,()))∧Eats SP [tInt] D y.1.2.1.1 y.1.2.1.2.1) (fun y=>(l.length - y.1.1).toNat) ?_
 conv=>whnf
 refine And.intro ?_ ?_
 · exact ⟨0,rfl,Nat.zero_le _,rfl,by simpa using hys,heat⟩
 rintro ⟨⟨_,⟨ys',E',D'⟩,⟨⟩⟩,⟨⟩⟩ ⟨k,rfl,hk,hD,hy,he⟩
 dsimp only at hD hy he
 subst hD
 have hd:(k:Int)<(l.length:Int)→l.drop k=l.getD k 0::l.drop (k+1):=fun h=>by
  have h':k<l.length:=by omega
  rw [List.drop_eq_getElem_cons h',getD_ok _ h']
 repeat' (first|refine an ?_ ?_|((try refine gm ?_);first|((with_reducible show Kz _);(try dsimp+instances only);(with_reducible refine kz _ ?_);clear kz Kz)|refine st ?_|(refine sr ?_;intro Kz kz;conv=>whnf)|(refine cd ?_;(conv=>arg 2;whnf);refine st ?_)|refine blockK_y (by rfl) ?_|(refine sw ?_;conv=>whnf))|(refine gm ?_;conv=>whnf)|(intro hc;(try dsimp+instances only[Dat,SDat,dflt,Ty.size,keepS,bkUpd,Gv.bk,backS,wayA,maxI,minI,negI]at hc);try simp only[LS]at hc))
 all_goals (try ((fail_if_success refine nl ?_);(try dsimp only[Dat,SDat,dflt,Ty.size,keepS,bkUpd,Gv.bk,backS,wayA,maxI,minI,negI]);(try simp only[LS]);first|done|exact dsc|((try simp only[allP,lo,hi,room,true_and,and_true,implies_true]);(repeat' (first|refine an ?_ ?_|((with_reducible refine preA_t ?_ ?_);rotate_left;exact sameP_t)|intro hv))<;>(try omega))))
 · rw [hy,hd (by assumption)];rfl
 · exact he
 · refine w_it 1 _ _ (by rfl) ?_
   rename_i q hq
   rw [hc] at hq ⊢
   exact ⟨rfl,hq⟩
 · rename_i q hq
   have hc':q.1=true:=(Bool.eq_false_or_eq_true q.1).resolve_right hc
   rw [if_pos hc'] at hq ⊢
   exact ⟨k+1,by omega,by omega,by rw [hy,hd (by assumption)];rfl,hq⟩
 · refine w_it 1 _ _ (by rfl) ?_
   have hy0:ys'=[]:=by rw [hy,List.drop_of_length_le (by omega)];rfl
   subst hy0
   exact ⟨rfl,he⟩
theorem ok_z102:ItOK SP glob fi_z102 S_z102:=mk_it (c:=c_z102) (tab_ok _) mix_ok wf_z102 (by decide) .nil (LateOK.of rfl .nil .nil) rfl rfl g_z102
@[reducible] noncomputable def S_z82:Spec:={ ins:=(.cons (.nils) (.cons (.clos fi_z102 (.cons (.d (.pt (.sl tInt))) .nil)) .nil)),pre:=(fun x=>(fun s c=>∃ l,c.1=some l∧l.length≤1000000) x.1 x.2.1),alts:=[{ outs:=(.cons (.row tInt) .nil),res:=(fun x=>(fun s c=>(c.1.getD [],())) x.1 x.2.1)}]}
noncomputable def c_z82:Cf:={ cf_z82 (Fl []) with eat:=Eats SP,I:=Il [(fi_z102,S_z102)]}
theorem g_z82:∀ x,S_z82.pre x→shOK S_z82.ins x→fnGoal c_z82 fn_z82 S_z82 x:=by
 rintro ⟨⟨⟩,⟨to,⟨⟩⟩,⟨⟩⟩ hpre hok
 try dsimp only [Dat,SDat,dflt,Ty.size,keepS,bkUpd,Gv.bk,backS,wayA,maxI,minI,negI] at hpre
 have hln:=shLn_of _ hok;replace hok:=Hd.mk hok;try simp only [shLn,datLn,inRng,lo,hi,maxLen,true_and,and_true] at hln
 obtain ⟨t,rfl,ht⟩:=hpre
 first|refine fn_goal (w_head ?_)|refine fnL_goal (w_head ?_)|refine fnI_goal (w_head ?_)
 intro Kz kz;(conv=>whnf);(try dsimp+instances only);refine kz _ ?_;clear kz Kz;(conv=>(arg 2;whnf))
 repeat' (first|refine an ?_ ?_|((try refine gm ?_);first|((with_reducible show Kz _);(try dsimp+instances only);(with_reducible refine kz _ ?_);clear kz Kz)|refine st ?_|(refine sr ?_;intro Kz kz;conv=>whnf)|(refine cd ?_;(conv=>arg 2;whnf);refine st ?_)|refine blockK_y (by rfl) ?_|(refine sw ?_;conv=>whnf))|(refine gm ?_;conv=>whnf)|(intro hc;(try dsimp+instances only[Dat,SDat,dflt,Ty.size,keepS,bkUpd,Gv.bk,backS,wayA,maxI,minI,negI]at hc);try simp only[LS]at hc))
 all_goals (try ((fail_if_success refine nl ?_);(try dsimp only[Dat,SDat,dflt,Ty.size,keepS,bkUpd,Gv.bk,backS,wayA,maxI,minI,negI]);(try simp only[LS]);first|done|exact dsc|((try simp only[allP,lo,hi,room,true_and,and_true,implies_true]);(repeat' (first|refine an ?_ ?_|((with_reducible refine preA_t ?_ ?_);rotate_left;exact sameP_t)|intro hv))<;>(try omega))))
 refine w_rf S_z102 [(0, .cons (.row tInt) .nil)] (fun l y=>y.1.1++l.map Prod.fst=t) (by rfl) (by rfl) (by rfl) (by rfl) (by rfl) (by rfl) (by rfl) ?_ ?_
 rotate_left
 conv=>whnf
 refine And.intro ?_ (And.intro ?_ ?_)
 · show []++(t.map fun x=>(x,())).map Prod.fst=t
   rw [List.nil_append,List.map_map]
   exact List.map_id _
 · rintro ⟨s,⟨⟩⟩ r ⟨⟨row,⟨⟩⟩,⟨⟩⟩ hi
   dsimp only at hi
   have hl:=congrArg List.length hi
   rw [List.length_append,List.length_map,List.length_cons] at hl
   repeat' (first|refine an ?_ ?_|((try refine gm ?_);first|((with_reducible show Kz _);(try dsimp+instances only);(with_reducible refine kz _ ?_);clear kz Kz)|refine st ?_|(refine sr ?_;intro Kz kz;conv=>whnf)|(refine cd ?_;(conv=>arg 2;whnf);refine st ?_)|refine blockK_y (by rfl) ?_|(refine sw ?_;conv=>whnf))|(refine gm ?_;conv=>whnf)|(intro hc;(try dsimp+instances only[Dat,SDat,dflt,Ty.size,keepS,bkUpd,Gv.bk,backS,wayA,maxI,minI,negI]at hc);try simp only[LS]at hc))
   all_goals (try ((fail_if_success refine nl ?_);(try dsimp only[Dat,SDat,dflt,Ty.size,keepS,bkUpd,Gv.bk,backS,wayA,maxI,minI,negI]);(try simp only[LS]);first|done|exact dsc|((try simp only[allP,lo,hi,room,true_and,and_true,implies_true]);(repeat' (first|refine an ?_ ?_|((with_reducible refine preA_t ?_ ?_);rotate_left;exact sameP_t)|intro hv))<;>(try omega))))
   rw [← hi];simp
 · rintro ⟨⟨row,⟨⟩⟩,⟨⟩⟩ hi
   dsimp only at hi
   repeat' (first|refine an ?_ ?_|((try refine gm ?_);first|((with_reducible show Kz _);(try dsimp+instances only);(with_reducible refine kz _ ?_);clear kz Kz)|refine st ?_|(refine sr ?_;intro Kz kz;conv=>whnf)|(refine cd ?_;(conv=>arg 2;whnf);refine st ?_)|refine blockK_y (by rfl) ?_|(refine sw ?_;conv=>whnf))|(refine gm ?_;conv=>whnf)|(intro hc;(try dsimp+instances only[Dat,SDat,dflt,Ty.size,keepS,bkUpd,Gv.bk,backS,wayA,maxI,minI,negI]at hc);try simp only[LS]at hc))
   all_goals (try ((fail_if_success refine nl ?_);(try dsimp only[Dat,SDat,dflt,Ty.size,keepS,bkUpd,Gv.bk,backS,wayA,maxI,minI,negI]);(try simp only[LS]);first|done|exact dsc|((try simp only[allP,lo,hi,room,true_and,and_true,implies_true]);(repeat' (first|refine an ?_ ?_|((with_reducible refine preA_t ?_ ?_);rotate_left;exact sameP_t)|intro hv))<;>(try omega))))
   rw [List.map_nil,List.append_nil] at hi
   exact hi
 · exact ⟨t,rfl,ht⟩
theorem ok_z82:SpecOK SP glob fi_z82 S_z82:=mk_ok (c:=c_z82) (tab_ok _) mix_ok wf_z82 (by decide) .nil (fun x hx=>Nat.zero_lt_one) g_z82 (hL:=(LateOK.of rfl .nil (.cons ok_z102 .nil)))
@[reducible] noncomputable def S_z86:Spec:={ ins:=(.cons (.clos fi_z102 (.cons (.d (.pt (.sl tInt))) .nil)) .nil),pre:=(fun x=>(fun c=>∃ l,c.1=some l∧l.length≤1000000) x.1),alts:=[{ outs:=(.cons (.row tInt) .nil),res:=(fun x=>(fun c=>(c.1.getD [],())) x.1)}]}
noncomputable def c_z86:Cf:=(cf_z86 (Fl [(fi_z82,S_z82)]))
theorem g_z86:∀ x,S_z86.pre x→shOK S_z86.ins x→fnGoal c_z86 fn_z86 S_z86 x:=by
 rintro ⟨⟨to,⟨⟩⟩,⟨⟩⟩ hpre hok
 try dsimp only [Dat,SDat,dflt,Ty.size,keepS,bkUpd,Gv.bk,backS,wayA,maxI,minI,negI] at hpre
 have hln:=shLn_of _ hok;replace hok:=Hd.mk hok;try simp only [shLn,datLn,inRng,lo,hi,maxLen,true_and,and_true] at hln
 obtain ⟨t,rfl,ht⟩:=hpre
 first|refine fn_goal (w_head ?_)
 intro Kz kz;(conv=>whnf);(try dsimp+instances only);refine kz _ ?_;clear kz Kz;(conv=>(arg 2;whnf))
 repeat' (first|refine an ?_ ?_|((try refine gm ?_);first|((with_reducible show Kz _);(try dsimp+instances only);(with_reducible refine kz _ ?_);clear kz Kz)|refine st ?_|(refine sr ?_;intro Kz kz;conv=>whnf)|(refine cd ?_;(conv=>arg 2;whnf);refine st ?_)|refine blockK_y (by rfl) ?_|(refine sw ?_;conv=>whnf))|(refine gm ?_;conv=>whnf)|(intro hc;(try dsimp+instances only[Dat,SDat,dflt,Ty.size,keepS,bkUpd,Gv.bk,backS,wayA,maxI,minI,negI]at hc);try simp only[LS]at hc))
 all_goals (try ((fail_if_success refine nl ?_);(try dsimp only[Dat,SDat,dflt,Ty.size,keepS,bkUpd,Gv.bk,backS,wayA,maxI,minI,negI]);(try simp only[LS]);first|done|exact dsc|((try simp only[allP,lo,hi,room,true_and,and_true,implies_true]);(repeat' (first|refine an ?_ ?_|((with_reducible refine preA_t ?_ ?_);rotate_left;exact sameP_t)|intro hv))<;>(try omega))))
 exact ⟨t,rfl,ht⟩
theorem ok_z86:SpecOK SP glob fi_z86 S_z86:=mk_ok (c:=c_z86) (tab_ok _) mix_ok wf_z86 (by decide) (.cons ok_z82 .nil) (fun x hx=>Nat.zero_lt_one) g_z86
@[reducible] noncomputable def S_z99:Spec:={ ins:= .cons (.row tInt) .nil,pre:=fun x=>List.length x.1<4611686018427387904,alts:=[{ outs:= .nil,res:=fun _=>(),upd:=fun x=>(List.mergeSort x.1 (fun (x y:Int)=>decide (x≤y)),())}]}
theorem ok_z99:SpecOK SP glob fi_z99 S_z99:=sortI_ok lays189 (fn_hf16 wf_z99)
@[reducible] noncomputable def S_z100:Spec:={ ins:=(.cons (.clos fi_z102 (.cons (.d (.pt (.sl tInt))) .nil)) .nil),pre:=(fun x=>(fun c=>∃ l,c.1=some l∧l.length≤1000000) x.1),alts:=[{ outs:=(.cons (.d (.sl tInt)) .nil),res:=(fun x=>(fun c=>(sortI (c.1.getD []),())) x.1)}]}
noncomputable def c_z100:Cf:=(cf_z100 (Fl [(fi_z86,S_z86),(fi_z99,S_z99)]))
theorem g_z100:∀ x,S_z100.pre x→shOK S_z100.ins x→fnGoal c_z100 fn_z100 S_z100 x:=by
 rintro ⟨⟨to,⟨⟩⟩,⟨⟩⟩ hpre hok
 try dsimp only [Dat,SDat,dflt,Ty.size,keepS,bkUpd,Gv.bk,backS,wayA,maxI,minI,negI] at hpre
 have hln:=shLn_of _ hok;replace hok:=Hd.mk hok;try simp only [shLn,datLn,inRng,lo,hi,maxLen,true_and,and_true] at hln
 obtain ⟨t,rfl,ht⟩:=hpre
 first|refine fn_goal (w_head ?_)
 intro Kz kz;(conv=>whnf);(try dsimp+instances only);refine kz _ ?_;clear kz Kz;(conv=>(arg 2;whnf))
 repeat' (first|refine an ?_ ?_|((try refine gm ?_);first|((with_reducible show Kz _);(try dsimp+instances only);(with_reducible refine kz _ ?_);clear kz Kz)|refine st ?_|(refine sr ?_;intro Kz kz;conv=>whnf)|(refine cd ?_;(conv=>arg 2;whnf);refine st ?_)|refine blockK_y (by rfl) ?_|(refine sw ?_;conv=>whnf))|(refine gm ?_;conv=>whnf)|(intro hc;(try dsimp+instances only[Dat,SDat,dflt,Ty.size,keepS,bkUpd,Gv.bk,backS,wayA,maxI,minI,negI]at hc);try simp only[LS]at hc))
 all_goals (try ((fail_if_success refine nl ?_);(try dsimp only[Dat,SDat,dflt,Ty.size,keepS,bkUpd,Gv.bk,backS,wayA,maxI,minI,negI]);(try simp only[LS]);first|done|exact dsc|((try simp only[allP,lo,hi,room,true_and,and_true,implies_true]);(repeat' (first|refine an ?_ ?_|((with_reducible refine preA_t ?_ ?_);rotate_left;exact sameP_t)|intro hv))<;>(try omega))))
 · exact ⟨t,rfl,ht⟩
 · exact Nat.lt_of_le_of_lt (show t.length≤1000000 from ht) (by decide)
theorem ok_z100:SpecOK SP glob fi_z100 S_z100:=mk_ok (c:=c_z100) (tab_ok _) mix_ok wf_z100 (by decide) (.cons ok_z86 (.cons ok_z99 .nil)) (fun x hx=>Nat.zero_lt_one) g_z100
theorem mapN_some {gs:List Gate} {n:Nat} {g:Gate} {v:Int} (h:mget (mapN gs n) (nmG g)=some v):∃ k:Nat,k<n∧v=(k:Int)∧gs.getD k ((0,0,[],()):Gate)=g:=by
 have:=mget_some h
 unfold mapN at this
 obtain ⟨k,hk,e⟩:=List.mem_map.1 this
 simp only [Prod.mk.injEq] at e
 exact ⟨k,List.mem_range.1 hk,e.2.symm,nmG_inj e.1⟩
theorem tail_hit {gs:List Gate} {g g':Gate} (hP:PutOK gs g) (hO:¬ OneK gs g) (e:nrmG gs g=g') (h:(mget (mapN gs gs.length) (nmG g')).isSome=true):putC gs g=(gs,(mget (mapN gs gs.length) (nmG g')).getD 0,0):=by
 obtain ⟨v,hv⟩:=Option.isSome_iff_exists.1 h
 obtain ⟨k,hk,rfl,hg⟩:=mapN_some hv
 have hi:=idxG_is hP.v hk hg
 rw [put_hit hP hO (by rw [e];exact hi.1),e,hi.2,hv]
 rfl
theorem tail_no {gs:List Gate} {g':Gate} (h:¬ (mget (mapN gs gs.length) (nmG g')).isSome=true):g' ∉ gs:=fun hm=>by
 obtain ⟨k,hk,rfl⟩:=List.getElem_of_mem hm
 refine h ?_
 cases e:mget (mapN gs gs.length) (nmG gs[k]) with
 |none=>exact absurd (getD_ok ((0,0,[],()):Gate) hk) (mapN_none.1 e k hk)
 |some _=>rfl
theorem tail_full {gs:List Gate} {g g':Gate} (hP:PutOK gs g) (hO:¬ OneK gs g) (e:nrmG gs g=g') (h:¬ (mget (mapN gs gs.length) (nmG g')).isSome=true) (l:(gs.length:Int)=100000):putC gs g=([],0,3):=put_full hP hO (by rw [e];exact tail_no h) (by omega)
theorem tail_new {gs:List Gate} {g g':Gate} (hP:PutOK gs g) (hO:¬ OneK gs g) (e:nrmG gs g=g') (h:¬ (mget (mapN gs gs.length) (nmG g')).isSome=true) (l:¬ (gs.length:Int)=100000):putC gs g=(gs++[g'],(gs.length:Int),0):=by
 rw [put_new hP hO (by rw [e];exact tail_no h) (by omega),e]
theorem nrm_leaf {gs:List Gate} {g:Gate} (h:¬ inner g.1):nrmG gs g=g∧¬ OneK gs g:=by
 refine ⟨?_,fun k=>h k.i⟩
 unfold nrmG
 rw [if_neg h]
structure KidR (gs:List Gate) (gk:Int) (l:List Int) (k:Nat) (ze:Bool) (ks:List Int):Prop where
 z:ze=true↔∃ j∈l.take k,kindAt gs j=0
 f:ks=(l.take k).filter fun j=>keptB gk (kindAt gs j)
theorem KidR.start (gs:List Gate) (gk:Int) (l:List Int):KidR gs gk l 0 false []:=⟨by simp,rfl⟩
theorem KidR.step {gs:List Gate} {gk:Int} {l:List Int} {k:Nat} {ze ze':Bool} {ks:List Int} (h:KidR gs gk l k ze ks) (hk:k<l.length) (hz:ze'=true↔(ze=true∨kindAt gs (l.getD k 0)=0)):KidR gs gk l (k+1) ze' (ks++if keptB gk (kindAt gs (l.getD k 0))=true then [l.getD k 0] else []):=by
 have e:l.take (k+1)=l.take k++[l.getD k 0]:=by rw [List.take_succ_eq_append_getElem hk,← getD_ok 0 hk]
 refine ⟨?_,?_⟩
 · rw [hz,h.z,e]
   constructor
   · rintro (⟨j,hj,q⟩|q)
     · exact ⟨j,List.mem_append_left _ hj,q⟩
     · exact ⟨_,List.mem_append_right _ (List.mem_singleton.2 rfl),q⟩
   · rintro ⟨j,hj,q⟩
     rcases List.mem_append.1 hj with hj|hj
     · exact .inl ⟨j,hj,q⟩
     · rw [List.mem_singleton.1 hj] at q;exact .inr q
 · rw [e,List.filter_append,h.f]
   congr 1
   by_cases q:keptB gk (kindAt gs (l.getD k 0))=true
   · rw [if_pos q,List.filter_cons_of_pos (p:=fun j=>keptB gk (kindAt gs j)) q];rfl
   · rw [if_neg q,List.filter_cons_of_neg (p:=fun j=>keptB gk (kindAt gs j)) q];rfl
theorem KidR.done {gs:List Gate} {g:Gate} {k:Nat} {ze:Bool} {ks:List Int} (h:KidR gs g.1 (sortI g.2.2.1) k ze ks) (hk:(sortI g.2.2.1).length≤k):ks=keptK gs g∧(g.1=4→(ze=true↔zeroK gs g)):=by
 obtain ⟨h1,h2⟩:=h
 rw [List.take_of_length_le hk] at h1 h2
 exact ⟨h2,fun h4=>h1.trans ⟨fun ⟨j,hj,q⟩=>⟨h4,j,sortI_mem.1 hj,q⟩,fun ⟨_,j,hj,q⟩=>⟨j,sortI_mem.2 hj,q⟩⟩⟩
theorem nrm_zero {gs:List Gate} {g:Gate} (hi:inner g.1) (h:zeroK gs g∨(g.1=3∧(keptK gs g).length=0)):nrmG gs g=(0,0,[],())∧¬ OneK gs g:=by
 refine ⟨?_,fun k=>?_⟩
 · unfold nrmG;rw [if_pos hi,if_pos h]
 · rcases h with h|h
   · exact k.z h
   · have:=k.l;omega
theorem nrm_unit {gs:List Gate} {g:Gate} (hi:inner g.1) (h:¬ (zeroK gs g∨(g.1=3∧(keptK gs g).length=0))) (hl:(keptK gs g).length=0):nrmG gs g=(1,0,[],())∧¬ OneK gs g:=by
 refine ⟨?_,fun k=>by have:=k.l;omega⟩
 unfold nrmG;rw [if_pos hi,if_neg h,if_pos hl]
theorem nrm_many {gs:List Gate} {g:Gate} (hi:inner g.1) (h:¬ (zeroK gs g∨(g.1=3∧(keptK gs g).length=0))) (hl:¬ (keptK gs g).length=0) (h1:¬ (keptK gs g).length=1):nrmG gs g=(g.1,g.2.1,keptK gs g,())∧¬ OneK gs g:=by
 refine ⟨?_,fun k=>h1 k.l⟩
 unfold nrmG;rw [if_pos hi,if_neg h,if_neg hl]
@[reducible] noncomputable def S_z4:Spec:={ ins:=(.cons (.d tCirc) (.cons (.d tGate) .nil)),pre:=(fun x=>(fun c g=>SmallG c.1∧g.2.2.1.length≤1000000) x.1 x.2.1),alts:=[{ outs:=(.cons (.d tCirc) (.cons (.d tInt) (.cons (.d tInt) .nil))),res:=(fun x=>(fun c g=>(((putC c.1 g).1,()),(putC c.1 g).2.1,(putC c.1 g).2.2,())) x.1 x.2.1)}]}
noncomputable def c_z4:Cf:=(cf_z4 (Fl [(fi_z12,S_z12),(fi_z7,S_z7),(fi_z9,S_z9),(fi_z101,S_z101),(fi_z100,S_z100),(fi_z10,S_z10),(fi_z11,S_z11),(fi_z84,S_z84)]))
theorem g_z4:∀ x,S_z4.pre x→shOK S_z4.ins x→fnGoal c_z4 fn_z4 S_z4 x:=by
 rintro ⟨⟨gs,⟨⟩⟩,⟨gk,gv,gkids,⟨⟩⟩,⟨⟩⟩ hpre hok
 try dsimp only [Dat,SDat,dflt,Ty.size,keepS,bkUpd,Gv.bk,backS,wayA,maxI,minI,negI] at hpre
 have hln:=shLn_of _ hok;replace hok:=Hd.mk hok;try simp only [shLn,datLn,inRng,lo,hi,maxLen,true_and,and_true] at hln
 obtain ⟨hsm,hkl⟩:=hpre
 have hbad:=fun (h:¬ PutOK gs (gk,gv,gkids,()))=>put_bad h
 first|refine fn_goal (w_head ?_)
 intro Kz kz;(conv=>whnf);(try dsimp+instances only);refine kz _ ?_;clear kz Kz;(conv=>(arg 2;whnf))
 repeat' (first|refine an ?_ ?_|((try refine gm ?_);first|((with_reducible show Kz _);(try dsimp+instances only);(with_reducible refine kz _ ?_);clear kz Kz)|refine st ?_|(refine sr ?_;intro Kz kz;conv=>whnf)|(refine cd ?_;(conv=>arg 2;whnf);refine st ?_)|refine blockK_y (by rfl) ?_|(refine sw ?_;conv=>whnf))|(refine gm ?_;conv=>whnf)|(intro hc;(try dsimp+instances only[Dat,SDat,dflt,Ty.size,keepS,bkUpd,Gv.bk,backS,wayA,maxI,minI,negI]at hc);try simp only[LS]at hc))
 all_goals (try ((fail_if_success refine nl ?_);(try dsimp only[Dat,SDat,dflt,Ty.size,keepS,bkUpd,Gv.bk,backS,wayA,maxI,minI,negI]);(try simp only[LS]);first|done|exact dsc|((try simp only[allP,lo,hi,room,true_and,and_true,implies_true]);(repeat' (first|refine an ?_ ?_|((with_reducible refine preA_t ?_ ?_);rotate_left;exact sameP_t)|intro hv))<;>(try omega))))
 all_goals (try ((fail_if_success refine nl ?_);(exact (by assumption:SmallG gs))))
 all_goals (try ((fail_if_success refine nl ?_);(exact hsm _ (by assumption))))
 all_goals (try ((fail_if_success refine nl ?_);(have h9:=hbad (fun h=>(by assumption:¬ ValidC gs) h.v);first|exact (congrArg (fun p=>p.1) h9).symm|exact (congrArg (fun p=>p.2.1) h9).symm|exact (congrArg (fun p=>p.2.2) h9).symm)))
 all_goals (try ((fail_if_success refine nl ?_);(have h9:=hbad (fun h=>(by assumption:False∨¬ formed (gk,gv,gkids,()) (List.length gs)).elim id (fun k=>k h.f));first|exact (congrArg (fun p=>p.1) h9).symm|exact (congrArg (fun p=>p.2.1) h9).symm|exact (congrArg (fun p=>p.2.2) h9).symm)))
 all_goals (first|(exfalso;exact (by assumption:¬ (True∨¬ formed (gk,gv,gkids,()) (List.length gs))) (.inl trivial))|skip)
 all_goals have hP:PutOK gs (gk,gv,gkids,()):=⟨by assumption,Classical.not_not.1 (not_or.1 (by assumption:¬ (False∨¬ formed (gk,gv,gkids,()) (List.length gs)))).2⟩
 all_goals have hnn:=formed_nn hP.f
 all_goals (try ((fail_if_success refine nl ?_);(with_reducible first|exact ⟨gkids,rfl,hkl⟩|exact hnn.2.1|exact hnn.1|exact hnn.2.2 _ (by assumption)|exact hkl)))
 · have hi:inner gk:=by assumption
   refine w_loop [(9, .row tInt),(10, .d .bool),(40, .d tInt)] [] (fun y=>∃ k:Nat,y.1.2.2.1=(k:Int)∧k≤(sortI gkids).length∧KidR gs gk (sortI gkids) k y.1.2.1 y.1.1) (fun y=>(sortI gkids).length - y.1.2.2.1.toNat) ?_
   conv=>whnf
   refine And.intro ?_ ?_
   · exact ⟨0,rfl,Nat.zero_le _,KidR.start _ _ _⟩
   rintro ⟨⟨ks,ze,_,⟨⟩⟩,⟨⟩⟩ ⟨k,rfl,hk,hR⟩
   have hR:KidR gs gk (sortI gkids) k ze ks:=hR
   have hsl:=sortI_len gkids
   have hkr:=fun (h:k<(sortI gkids).length)=>hP.f.1 _ (sortI_mem.1 (getD_mem (d:=(0:Int)) h))
   have hksl:List.length (ks:List Int)≤1000000:=by
    rw [hR.f]
    have:=List.length_filter_le (fun j=>keptB gk (kindAt gs j)) ((sortI gkids).take k)
    rw [List.length_take] at this
    omega
   have hn9:=fun (h:k<(sortI gkids).length)=>hR.step h (ze':=boolOf (ze=true∨kindAt gs ((sortI gkids).getD k 0)=0)) (by rw [boolOf_true])
   have hy:=fun (h:k<(sortI gkids).length) (q:¬ kindAt gs ((sortI gkids).getD k 0)=0∧(¬ kindAt gs ((sortI gkids).getD k 0)=1∨gk=3))=>show ∃ k_1:Nat,(k:Int)+1=(k_1:Int)∧k_1≤(sortI gkids).length∧KidR gs gk (sortI gkids) k_1 (boolOf (ze=true∨kindAt gs ((sortI gkids).getD k 0)=0)) (ks++[(sortI gkids).getD k 0]) from by
    have h9:=hn9 h
    rw [if_pos (show keptB gk (kindAt gs ((sortI gkids).getD k 0))=true from decide_eq_true q)] at h9
    exact ⟨k+1,by omega,by omega,h9⟩
   have hno:=fun (h:k<(sortI gkids).length) (q:¬ (¬ kindAt gs ((sortI gkids).getD k 0)=0∧(¬ kindAt gs ((sortI gkids).getD k 0)=1∨gk=3)))=>show ∃ k_1:Nat,(k:Int)+1=(k_1:Int)∧k_1≤(sortI gkids).length∧KidR gs gk (sortI gkids) k_1 (boolOf (ze=true∨kindAt gs ((sortI gkids).getD k 0)=0)) ks from by
    have h9:=hn9 h
    rw [if_neg (show ¬ keptB gk (kindAt gs ((sortI gkids).getD k 0))=true from fun e=>q (of_decide_eq_true e)),List.append_nil] at h9
    exact ⟨k+1,by omega,by omega,h9⟩
   have hlt:∀ {x:Nat},(x:Int)<((sortI ((some gkids).getD [])).length:Int)→x<(sortI gkids).length:=fun h=>Int.ofNat_lt.1 h
   have hge:=fun (h:¬ (k:Int)<((sortI ((some gkids).getD [])).length:Int))=>hR.done (g:=(gk,gv,gkids,())) (show (sortI gkids).length≤k from Nat.not_lt.1 fun q=>h (Int.ofNat_lt.2 q))
   have hmn:(sortI gkids).length - ((k:Int)+1).toNat<(sortI gkids).length - k↔k<(sortI gkids).length:=by omega
   have hzero:=fun (h:¬ (k:Int)<((sortI ((some gkids).getD [])).length:Int)) (q:gk=4∧ze=true)=>nrm_zero (g:=(gk,gv,gkids,())) hi (.inl (((hge h).2 q.1).1 q.2))
   have hcase:=fun (h:¬ (k:Int)<((sortI ((some gkids).getD [])).length:Int)) (q:¬ (gk=4∧ze=true))=>show ¬ zeroK gs (gk,gv,gkids,()) from fun z=>q ⟨z.1,((hge h).2 z.1).2 z⟩
   have hplus:=fun (h:¬ (k:Int)<((sortI ((some gkids).getD [])).length:Int)) (q:gk=3∧((ks:List Int).length:Int)=0)=>nrm_zero (g:=(gk,gv,gkids,())) hi (.inr ⟨q.1,by rw [← (hge h).1];omega⟩)
   have hunit:=fun (h:¬ (k:Int)<((sortI ((some gkids).getD [])).length:Int)) (q:¬ (gk=4∧ze=true)) (q2:¬ (gk=3∧((ks:List Int).length:Int)=0)) (q3:((ks:List Int).length:Int)=0)=>nrm_unit (g:=(gk,gv,gkids,())) hi (fun z=>z.elim (hcase h q) fun z=>q2 ⟨z.1,q3⟩) (by rw [← (hge h).1];omega)
   have hmany:=fun (h:¬ (k:Int)<((sortI ((some gkids).getD [])).length:Int)) (q:¬ (gk=4∧ze=true)) (q3:¬ ((ks:List Int).length:Int)=0) (q4:¬ ((ks:List Int).length:Int)=1)=>show nrmG gs (gk,gv,gkids,())=(gk,gv,ks,())∧¬ OneK gs (gk,gv,gkids,()) by
    have h9:=nrm_many (gs:=gs) (g:=(gk,gv,gkids,())) hi (fun z=>z.elim (hcase h q) fun z=>q3 (by have:=z.2;rw [← (hge h).1] at this;omega)) (by rw [← (hge h).1];omega) (by rw [← (hge h).1];omega)
    rw [← (hge h).1] at h9
    exact h9
   have hone:=fun (h:¬ (k:Int)<((sortI ((some gkids).getD [])).length:Int)) (q:¬ (gk=4∧ze=true)) (q4:((ks:List Int).length:Int)=1)=>show putC gs (gk,gv,gkids,())=(gs,(ks:List Int).getD 0 0,0) by
    have h9:=put_one hP ⟨hi,hcase h q,by rw [← (hge h).1];omega⟩
    rw [← (hge h).1] at h9
    exact h9
   have hks9:∀ x∈(ks:List Int),0≤x:=fun x hx=>by
    rw [hR.f] at hx
    exact hnn.2.2 _ (sortI_mem.1 (List.mem_of_mem_take (List.mem_filter.1 hx).1))
   clear hR hn9
   repeat' (first|refine an ?_ ?_|((try refine gm ?_);first|((with_reducible show Kz _);(try dsimp+instances only);(with_reducible refine kz _ ?_);clear kz Kz)|refine st ?_|(refine sr ?_;intro Kz kz;conv=>whnf)|(refine cd ?_;(conv=>arg 2;whnf);refine st ?_)|refine blockK_y (by rfl) ?_|(refine sw ?_;conv=>whnf))|(refine gm ?_;conv=>whnf)|(intro hc;(try dsimp+instances only[Dat,SDat,dflt,Ty.size,keepS,bkUpd,Gv.bk,backS,wayA,maxI,minI,negI]at hc);try simp only[LS]at hc))
   all_goals (try ((fail_if_success refine nl ?_);(try dsimp only[Dat,SDat,dflt,Ty.size,keepS,bkUpd,Gv.bk,backS,wayA,maxI,minI,negI]);(try simp only[LS]);first|done|exact dsc|((try simp only[allP,lo,hi,room,true_and,and_true,implies_true]);(repeat' (first|refine an ?_ ?_|((with_reducible refine preA_t ?_ ?_);rotate_left;exact sameP_t)|intro hv))<;>(try omega))))
   all_goals (try (exfalso;exact (by assumption:¬ (gk=4∧ze=true)) (by assumption)))
   all_goals (try simp only [Option.getD_some])
   all_goals (first
    |(with_reducible exact (hkr (hlt (by assumption))).1)
    |(with_reducible exact (hkr (hlt (by assumption))).2)
    |exact hy (hlt (by assumption)) hc
    |exact hno (hlt (by assumption)) hc
    |(with_reducible exact hmn.2 (hlt (by assumption)))
    |(have:=hlt (by assumption);simp only [Gv.hi];omega)
    |(have:=hP.v.1;omega)
    |(with_reducible exact hnn.2.1)
    |(rename_i hv;exact absurd hv List.not_mem_nil)
    |(rename_i hv;with_reducible exact hks9 _ hv)
    |exact (congrArg (fun p=>p.1) (hone (by assumption) (by assumption) (by assumption))).symm
    |exact (congrArg (fun p=>p.2.1) (hone (by assumption) (by assumption) (by assumption))).symm
    |exact (congrArg (fun p=>p.2.2) (hone (by assumption) (by assumption) (by assumption))).symm
    |skip)
   all_goals (first
    |(refine And.elim (fun he hO=>?_) (hzero (by assumption) (by assumption)))
    |(refine And.elim (fun he hO=>?_) (hplus (by assumption) (by assumption)))
    |(refine And.elim (fun he hO=>?_) (hunit (by assumption) (by assumption) (by assumption) (by assumption)))
    |(refine And.elim (fun he hO=>?_) (hmany (by assumption) (by assumption) (by assumption) (by assumption))))
   all_goals (first
    |exact (congrArg (fun p=>p.1) (tail_hit hP hO he (by assumption))).symm
    |exact (congrArg (fun p=>p.2.1) (tail_hit hP hO he (by assumption))).symm
    |exact (congrArg (fun p=>p.2.2) (tail_hit hP hO he (by assumption))).symm
    |exact (congrArg (fun p=>p.1) (tail_full hP hO he (by rw [Bool.not_eq_true];assumption) (by assumption))).symm
    |exact (congrArg (fun p=>p.2.1) (tail_full hP hO he (by rw [Bool.not_eq_true];assumption) (by assumption))).symm
    |exact (congrArg (fun p=>p.2.2) (tail_full hP hO he (by rw [Bool.not_eq_true];assumption) (by assumption))).symm
    |exact (congrArg (fun p=>p.1) (tail_new hP hO he (by rw [Bool.not_eq_true];assumption) (by assumption))).symm
    |exact (congrArg (fun p=>p.2.1) (tail_new hP hO he (by rw [Bool.not_eq_true];assumption) (by assumption))).symm
    |exact (congrArg (fun p=>p.2.2) (tail_new hP hO he (by rw [Bool.not_eq_true];assumption) (by assumption))).symm)
 all_goals (refine And.elim (fun he hO=>?_) (nrm_leaf (gs:=gs) (g:=(gk,gv,gkids,())) (by assumption)))
 all_goals (first
  |exact (congrArg (fun p=>p.1) (tail_hit hP hO he (by assumption))).symm
  |exact (congrArg (fun p=>p.2.1) (tail_hit hP hO he (by assumption))).symm
  |exact (congrArg (fun p=>p.2.2) (tail_hit hP hO he (by assumption))).symm
  |exact (congrArg (fun p=>p.1) (tail_full hP hO he (by rw [Bool.not_eq_true];assumption) (by assumption))).symm
  |exact (congrArg (fun p=>p.2.1) (tail_full hP hO he (by rw [Bool.not_eq_true];assumption) (by assumption))).symm
  |exact (congrArg (fun p=>p.2.2) (tail_full hP hO he (by rw [Bool.not_eq_true];assumption) (by assumption))).symm
  |exact (congrArg (fun p=>p.1) (tail_new hP hO he (by rw [Bool.not_eq_true];assumption) (by assumption))).symm
  |exact (congrArg (fun p=>p.2.1) (tail_new hP hO he (by rw [Bool.not_eq_true];assumption) (by assumption))).symm
  |exact (congrArg (fun p=>p.2.2) (tail_new hP hO he (by rw [Bool.not_eq_true];assumption) (by assumption))).symm
  |(have:=hP.v.1;omega)
  |skip)
theorem ok_z4:SpecOK SP glob fi_z4 S_z4:=mk_ok (c:=c_z4) (tab_ok _) mix_ok wf_z4 (by decide) (.cons ok_z12 (.cons ok_z7 (.cons ok_z9 (.cons ok_z101 (.cons ok_z100 (.cons ok_z10 (.cons ok_z11 (.cons ok_z84 .nil)))))))) (fun x hx=>Nat.zero_lt_one) g_z4
end Go.Gv
