/- Chapter 17: the program: unions, pairs, the search. -/
import Derived.Test.YtoangeemlcbjlaaGreatDoorC17
set_option linter.all false
namespace Go.Gv
open Go Go.Proofs Go.Proofs.YtoangeemlcbjlaaGreatDoor
set_option maxRecDepth 100000
set_option maxHeartbeats 4000000
theorem flat_take_le {α:Type} (l:List (List α)) (k:Nat):(List.flatten (l.take k)).length≤(List.flatten l).length:=by
 conv=>rhs;rw [← List.take_append_drop k l,List.flatten_append,List.length_append]
 omega
theorem flat_step {α:Type} {l:List (List α)} {k:Nat} (h:k<l.length):List.flatten (l.take (k+1))=List.flatten (l.take k)++l.getD k []:=by
 rw [List.take_succ_eq_append_getElem h,List.flatten_append,getD_ok _ h];simp
@[reducible] noncomputable def S_z93:Spec:={ ins:=(.cons (.nils) (.cons (.d tInt) .nil)),pre:=(fun x=>(fun s n=>0≤n∧n≤1000000000) x.1 x.2.1),alts:=[{ outs:=(.cons (.row tInt) .nil),res:=(fun x=>(fun s n=>([],())) x.1 x.2.1)}]}
noncomputable def c_z93:Cf:={ cf_z93 (Fl []) with E:={ (cf_z93 (Fl [])).E with rows:=[22]}}
theorem g_z93:∀ x,S_z93.pre x→shOK S_z93.ins x→fnGoal c_z93 fn_z93 S_z93 x:=by
 rintro ⟨s,n,⟨⟩⟩ hpre hok
 try dsimp only [Dat,SDat,dflt,Ty.size,keepS,bkUpd,Gv.bk,backS,wayA,maxI,minI,negI] at hpre
 have hln:=shLn_of _ hok;replace hok:=Hd.mk hok;try simp only [shLn,datLn,inRng,lo,hi,maxLen,true_and,and_true] at hln
 have h0:0≤n:=hpre.1
 have h1:n≤1000000000:=hpre.2
 first|refine fn_goal (w_head ?_)
 intro Kz kz;(conv=>whnf);(try dsimp+instances only);refine kz _ ?_;clear kz Kz;(conv=>(arg 2;whnf))
 repeat' (first|refine an ?_ ?_|((try refine gm ?_);first|((with_reducible show Kz _);(try dsimp+instances only);(with_reducible refine kz _ ?_);clear kz Kz)|refine st ?_|(refine sr ?_;intro Kz kz;conv=>whnf)|(refine cd ?_;(conv=>arg 2;whnf);refine st ?_)|refine blockK_y (by rfl) ?_|(refine sw ?_;conv=>whnf))|(refine gm ?_;conv=>whnf)|(intro hc;(try dsimp+instances only[Dat,SDat,dflt,Ty.size,keepS,bkUpd,Gv.bk,backS,wayA,maxI,minI,negI]at hc);try simp only[LS]at hc))
 all_goals (try ((fail_if_success refine nl ?_);(try dsimp only[Dat,SDat,dflt,Ty.size,keepS,bkUpd,Gv.bk,backS,wayA,maxI,minI,negI]);(try simp only[LS]);first|done|exact dsc|((try simp only[allP,lo,hi,room,true_and,and_true,implies_true]);(repeat' (first|refine an ?_ ?_|((with_reducible refine preA_t ?_ ?_);rotate_left;exact sameP_t)|intro hv))<;>(try omega))))
theorem ok_z93:SpecOK SP glob fi_z93 S_z93:=mk_ok (c:=c_z93) (tab_ok _) mix_ok wf_z93 (by decide) .nil (fun x hx=>Nat.zero_lt_one) g_z93
@[reducible] noncomputable def S_z89:Spec:={ ins:=(.cons (.d (.sl (.sl tInt))) .nil),pre:=(fun x=>(fun l=>(List.flatten l).length≤1000000000∧l.length≤1000) x.1),alts:=[{ outs:=(.cons (.row tInt) .nil),res:=(fun x=>(fun l=>(List.flatten l,())) x.1)}]}
noncomputable def c_z89:Cf:=(cf_z89 (Fl [(fi_z93,S_z93)]))
theorem g_z89:∀ x,S_z89.pre x→shOK S_z89.ins x→fnGoal c_z89 fn_z89 S_z89 x:=by
 rintro ⟨l,⟨⟩⟩ hpre hok
 try dsimp only [Dat,SDat,dflt,Ty.size,keepS,bkUpd,Gv.bk,backS,wayA,maxI,minI,negI] at hpre
 have hln:=shLn_of _ hok;replace hok:=Hd.mk hok;try simp only [shLn,datLn,inRng,lo,hi,maxLen,true_and,and_true] at hln
 have hl0:(List.flatten l).length≤1000000000:=hpre.1
 have hl1:l.length≤1000:=hpre.2
 first|refine fn_goal (w_head ?_)
 intro Kz kz;(conv=>whnf);(try dsimp+instances only);refine kz _ ?_;clear kz Kz;(conv=>(arg 2;whnf))
 repeat' (first|refine an ?_ ?_|((try refine gm ?_);first|((with_reducible show Kz _);(try dsimp+instances only);(with_reducible refine kz _ ?_);clear kz Kz)|refine st ?_|(refine sr ?_;intro Kz kz;conv=>whnf)|(refine cd ?_;(conv=>arg 2;whnf);refine st ?_)|refine blockK_y (by rfl) ?_|(refine sw ?_;conv=>whnf))|(refine gm ?_;conv=>whnf)|(intro hc;(try dsimp+instances only[Dat,SDat,dflt,Ty.size,keepS,bkUpd,Gv.bk,backS,wayA,maxI,minI,negI]at hc);try simp only[LS]at hc))
 all_goals (try ((fail_if_success refine nl ?_);(try dsimp only[Dat,SDat,dflt,Ty.size,keepS,bkUpd,Gv.bk,backS,wayA,maxI,minI,negI]);(try simp only[LS]);first|done|exact dsc|((try simp only[allP,lo,hi,room,true_and,and_true,implies_true]);(repeat' (first|refine an ?_ ?_|((with_reducible refine preA_t ?_ ?_);rotate_left;exact sameP_t)|intro hv))<;>(try omega))))
 refine w_loop [(3, .d tInt),(11, .d tInt)] [] (fun y=>∃ k:Nat,y.1.2.1=(k:Int)∧k≤l.length∧y.1.1=((List.flatten (l.take k)).length:Int)) (fun y=>l.length - y.1.2.1.toNat) ?_
 conv=>whnf
 refine And.intro ?_ ?_
 · exact ⟨0,by simp⟩
 rintro ⟨⟨_,_,⟨⟩⟩,⟨⟩⟩ ⟨k,rfl,hk,rfl⟩
 have hfl:(List.flatten (l.take k)).length≤1000000000:=Nat.le_trans (flat_take_le l k) hl0
 have hfs:k<l.length→(List.flatten (l.take (k+1))).length=(List.flatten (l.take k)).length+(List.getD l k []).length∧(List.flatten (l.take (k+1))).length≤1000000000:=fun h=>⟨by rw [flat_step h,List.length_append],Nat.le_trans (flat_take_le l (k+1)) hl0⟩
 repeat' (first|refine an ?_ ?_|((try refine gm ?_);first|((with_reducible show Kz _);(try dsimp+instances only);(with_reducible refine kz _ ?_);clear kz Kz)|refine st ?_|(refine sr ?_;intro Kz kz;conv=>whnf)|(refine cd ?_;(conv=>arg 2;whnf);refine st ?_)|refine blockK_y (by rfl) ?_|(refine sw ?_;conv=>whnf))|(refine gm ?_;conv=>whnf)|(intro hc;(try dsimp+instances only[Dat,SDat,dflt,Ty.size,keepS,bkUpd,Gv.bk,backS,wayA,maxI,minI,negI]at hc);try simp only[LS]at hc))
 all_goals (try ((fail_if_success refine nl ?_);(try dsimp only[Dat,SDat,dflt,Ty.size,keepS,bkUpd,Gv.bk,backS,wayA,maxI,minI,negI]);(try simp only[LS]);first|done|exact dsc|((try simp only[allP,lo,hi,room,true_and,and_true,implies_true]);(repeat' (first|refine an ?_ ?_|((with_reducible refine preA_t ?_ ?_);rotate_left;exact sameP_t)|intro hv))<;>(try omega))))
 · exact ⟨k+1,rfl,by omega,by have:=hfs (by omega);omega⟩
 refine w_loop [(6, .row tInt),(27, .d tInt)] [] (fun y=>∃ i:Nat,y.1.2.1=(i:Int)∧i≤l.length∧y.1.1=List.flatten (l.take i)) (fun y=>l.length - y.1.2.1.toNat) ?_
 conv=>whnf
 refine And.intro ?_ ?_
 · exact ⟨0,by simp⟩
 rintro ⟨⟨ou,_,⟨⟩⟩,⟨⟩⟩ ⟨i,rfl,hi,hou⟩
 have hou:ou=List.flatten (l.take i):=hou
 subst hou
 have hgl:(List.flatten (l.take i)).length≤1000000000:=Nat.le_trans (flat_take_le l i) hl0
 have hgs:i<l.length→(List.flatten (l.take (i+1))).length=(List.flatten (l.take i)).length+(List.getD l i []).length∧(List.flatten (l.take (i+1))).length≤1000000000:=fun h=>⟨by rw [flat_step h,List.length_append],Nat.le_trans (flat_take_le l (i+1)) hl0⟩
 repeat' (first|refine an ?_ ?_|((try refine gm ?_);first|((with_reducible show Kz _);(try dsimp+instances only);(with_reducible refine kz _ ?_);clear kz Kz)|refine st ?_|(refine sr ?_;intro Kz kz;conv=>whnf)|(refine cd ?_;(conv=>arg 2;whnf);refine st ?_)|refine blockK_y (by rfl) ?_|(refine sw ?_;conv=>whnf))|(refine gm ?_;conv=>whnf)|(intro hc;(try dsimp+instances only[Dat,SDat,dflt,Ty.size,keepS,bkUpd,Gv.bk,backS,wayA,maxI,minI,negI]at hc);try simp only[LS]at hc))
 all_goals (try ((fail_if_success refine nl ?_);(try dsimp only[Dat,SDat,dflt,Ty.size,keepS,bkUpd,Gv.bk,backS,wayA,maxI,minI,negI]);(try simp only[LS]);first|done|exact dsc|((try simp only[allP,lo,hi,room,true_and,and_true,implies_true]);(repeat' (first|refine an ?_ ?_|((with_reducible refine preA_t ?_ ?_);rotate_left;exact sameP_t)|intro hv))<;>(try omega))))
 · simp only [Gv.hi];omega
 · exact ⟨i+1,rfl,by omega,by rw [flat_step (by omega)]⟩
 · rw [List.take_of_length_le (by omega)]
theorem ok_z89:SpecOK SP glob fi_z89 S_z89:=mk_ok (c:=c_z89) (tab_ok _) mix_ok wf_z89 (by decide) (.cons ok_z93 .nil) (fun x hx=>Nat.zero_lt_one) g_z89
@[reducible] noncomputable def S_z85:Spec:={ ins:= .cons (.d (.sl tIs)) .nil,pre:=fun x=>List.length x.1≤100000000000,alts:=[{ outs:= .cons (.row tIs) .nil,res:=fun x=>(x.1,())}]}
set_option maxRecDepth 100000 in
theorem ok_z85:SpecOK SP glob fi_z85 S_z85:=by
 refine nil_ok (c:={ cf_z85 (Fl []) with E:={ (cf_z85 (Fl [])).E with rows:=[5,7]}}) (t:=tIs) (tab_ok _) mix_ok wf_z85 .nil (fun _ _=>Nat.zero_lt_one) rfl (by decide) ?_
 rintro ⟨xs,⟨⟩⟩ ys h hpre hok X hX
 have h':(xs,PUnit.unit)=(ys,()):=eq_of_heq h
 simp only [Prod.mk.injEq,and_true] at h'
 subst h'
 have hln:List.length xs≤100000000000:=hpre
 clear hpre
 rcases hX with ⟨rfl,h0⟩|⟨rfl,rfl⟩|⟨a,k,rfl,h1,h2,rfl⟩
 · conv=>(arg 2;whnf)
   repeat' (first|refine an ?_ ?_|((try refine gm ?_);first|((with_reducible show Kz _);(try dsimp+instances only);(with_reducible refine kz _ ?_);clear kz Kz)|refine st ?_|(refine sr ?_;intro Kz kz;conv=>whnf)|(refine cd ?_;(conv=>arg 2;whnf);refine st ?_)|refine blockK_y (by rfl) ?_|(refine sw ?_;conv=>whnf))|(refine gm ?_;conv=>whnf)|(intro hc;(try dsimp+instances only[Dat,SDat,dflt,Ty.size,keepS,bkUpd,Gv.bk,backS,wayA,maxI,minI,negI]at hc);try simp only[LS]at hc))
   all_goals (try ((fail_if_success refine nl ?_);(try dsimp only[Dat,SDat,dflt,Ty.size,keepS,bkUpd,Gv.bk,backS,wayA,maxI,minI,negI]);(try simp only[LS]);first|done|exact dsc|((try simp only[allP,lo,hi,room,true_and,and_true,implies_true]);(repeat' (first|refine an ?_ ?_|((with_reducible refine preA_t ?_ ?_);rotate_left;exact sameP_t)|intro hv))<;>(try omega))))
   all_goals (try (change retA _ _ _ _ _;conv=>whnf))
   repeat' (first|refine an ?_ ?_|((try refine gm ?_);first|((with_reducible show Kz _);(try dsimp+instances only);(with_reducible refine kz _ ?_);clear kz Kz)|refine st ?_|(refine sr ?_;intro Kz kz;conv=>whnf)|(refine cd ?_;(conv=>arg 2;whnf);refine st ?_)|refine blockK_y (by rfl) ?_|(refine sw ?_;conv=>whnf))|(refine gm ?_;conv=>whnf)|(intro hc;(try dsimp+instances only[Dat,SDat,dflt,Ty.size,keepS,bkUpd,Gv.bk,backS,wayA,maxI,minI,negI]at hc);try simp only[LS]at hc))
   all_goals (try ((fail_if_success refine nl ?_);(try dsimp only[Dat,SDat,dflt,Ty.size,keepS,bkUpd,Gv.bk,backS,wayA,maxI,minI,negI]);(try simp only[LS]);first|done|exact dsc|((try simp only[allP,lo,hi,room,true_and,and_true,implies_true]);(repeat' (first|refine an ?_ ?_|((with_reducible refine preA_t ?_ ?_);rotate_left;exact sameP_t)|intro hv))<;>(try omega))))
 · conv=>(arg 2;whnf)
   repeat' (first|refine an ?_ ?_|((try refine gm ?_);first|((with_reducible show Kz _);(try dsimp+instances only);(with_reducible refine kz _ ?_);clear kz Kz)|refine st ?_|(refine sr ?_;intro Kz kz;conv=>whnf)|(refine cd ?_;(conv=>arg 2;whnf);refine st ?_)|refine blockK_y (by rfl) ?_|(refine sw ?_;conv=>whnf))|(refine gm ?_;conv=>whnf)|(intro hc;(try dsimp+instances only[Dat,SDat,dflt,Ty.size,keepS,bkUpd,Gv.bk,backS,wayA,maxI,minI,negI]at hc);try simp only[LS]at hc))
   all_goals (try ((fail_if_success refine nl ?_);(try dsimp only[Dat,SDat,dflt,Ty.size,keepS,bkUpd,Gv.bk,backS,wayA,maxI,minI,negI]);(try simp only[LS]);first|done|exact dsc|((try simp only[allP,lo,hi,room,true_and,and_true,implies_true]);(repeat' (first|refine an ?_ ?_|((with_reducible refine preA_t ?_ ?_);rotate_left;exact sameP_t)|intro hv))<;>(try omega))))
   all_goals (try (change retA _ _ _ _ _;conv=>whnf))
   repeat' (first|refine an ?_ ?_|((try refine gm ?_);first|((with_reducible show Kz _);(try dsimp+instances only);(with_reducible refine kz _ ?_);clear kz Kz)|refine st ?_|(refine sr ?_;intro Kz kz;conv=>whnf)|(refine cd ?_;(conv=>arg 2;whnf);refine st ?_)|refine blockK_y (by rfl) ?_|(refine sw ?_;conv=>whnf))|(refine gm ?_;conv=>whnf)|(intro hc;(try dsimp+instances only[Dat,SDat,dflt,Ty.size,keepS,bkUpd,Gv.bk,backS,wayA,maxI,minI,negI]at hc);try simp only[LS]at hc))
   all_goals (try ((fail_if_success refine nl ?_);(try dsimp only[Dat,SDat,dflt,Ty.size,keepS,bkUpd,Gv.bk,backS,wayA,maxI,minI,negI]);(try simp only[LS]);first|done|exact dsc|((try simp only[allP,lo,hi,room,true_and,and_true,implies_true]);(repeat' (first|refine an ?_ ?_|((with_reducible refine preA_t ?_ ?_);rotate_left;exact sameP_t)|intro hv))<;>(try omega))))
 · conv=>(arg 2;whnf)
   repeat' (first|refine an ?_ ?_|((try refine gm ?_);first|((with_reducible show Kz _);(try dsimp+instances only);(with_reducible refine kz _ ?_);clear kz Kz)|refine st ?_|(refine sr ?_;intro Kz kz;conv=>whnf)|(refine cd ?_;(conv=>arg 2;whnf);refine st ?_)|refine blockK_y (by rfl) ?_|(refine sw ?_;conv=>whnf))|(refine gm ?_;conv=>whnf)|(intro hc;(try dsimp+instances only[Dat,SDat,dflt,Ty.size,keepS,bkUpd,Gv.bk,backS,wayA,maxI,minI,negI]at hc);try simp only[LS]at hc))
   all_goals (try ((fail_if_success refine nl ?_);(try dsimp only[Dat,SDat,dflt,Ty.size,keepS,bkUpd,Gv.bk,backS,wayA,maxI,minI,negI]);(try simp only[LS]);first|done|exact dsc|((try simp only[allP,lo,hi,room,true_and,and_true,implies_true]);(repeat' (first|refine an ?_ ?_|((with_reducible refine preA_t ?_ ?_);rotate_left;exact sameP_t)|intro hv))<;>(try omega))))
   all_goals (try (change retA _ _ _ _ _;conv=>whnf))
   repeat' (first|refine an ?_ ?_|((try refine gm ?_);first|((with_reducible show Kz _);(try dsimp+instances only);(with_reducible refine kz _ ?_);clear kz Kz)|refine st ?_|(refine sr ?_;intro Kz kz;conv=>whnf)|(refine cd ?_;(conv=>arg 2;whnf);refine st ?_)|refine blockK_y (by rfl) ?_|(refine sw ?_;conv=>whnf))|(refine gm ?_;conv=>whnf)|(intro hc;(try dsimp+instances only[Dat,SDat,dflt,Ty.size,keepS,bkUpd,Gv.bk,backS,wayA,maxI,minI,negI]at hc);try simp only[LS]at hc))
   all_goals (try ((fail_if_success refine nl ?_);(try dsimp only[Dat,SDat,dflt,Ty.size,keepS,bkUpd,Gv.bk,backS,wayA,maxI,minI,negI]);(try simp only[LS]);first|done|exact dsc|((try simp only[allP,lo,hi,room,true_and,and_true,implies_true]);(repeat' (first|refine an ?_ ?_|((with_reducible refine preA_t ?_ ?_);rotate_left;exact sameP_t)|intro hv))<;>(try omega))))
   all_goals (try (first|assumption|exact h2 (by assumption)))
@[reducible] noncomputable def S_z58:Spec:={ ins:=(.cons (.d (.sl tInt)) (.cons (.d (.sl tInt)) .nil)),pre:=(fun x=>(fun a b=>a.length≤100000∧b.length≤100000) x.1 x.2.1),alts:=[{ outs:=(.cons (.d (.sl tInt)) .nil),res:=(fun x=>(fun a b=>(unionL a b,())) x.1 x.2.1)}]}
noncomputable def c_z58:Cf:=(cf_z58 (Fl [(fi_z89,S_z89),(fi_z99,S_z99),(fi_z87,S_z87)]))
theorem g_z58:∀ x,S_z58.pre x→shOK S_z58.ins x→fnGoal c_z58 fn_z58 S_z58 x:=by
 rintro ⟨a,b,⟨⟩⟩ hpre hok
 try dsimp only [Dat,SDat,dflt,Ty.size,keepS,bkUpd,Gv.bk,backS,wayA,maxI,minI,negI] at hpre
 have hln:=shLn_of _ hok;replace hok:=Hd.mk hok;try simp only [shLn,datLn,inRng,lo,hi,maxLen,true_and,and_true] at hln
 have h0:a.length≤100000:=hpre.1
 have h1:b.length≤100000:=hpre.2
 have hf:List.flatten [a,b]=a++b:=by simp
 have hu:Lib.compact (sortI (List.flatten [a,b]))=unionL a b:=by rw [hf,lib_compact];rfl
 have hfl:(List.flatten [a,b]).length≤200000:=by rw [hf,List.length_append];omega
 have hfs:(List.mergeSort (List.flatten [a,b]) fun (x y:Int)=>decide (x≤y)).length≤200000:=by rw [List.length_mergeSort];exact hfl
 first|refine fn_goal (w_head ?_)
 intro Kz kz;(conv=>whnf);(try dsimp+instances only);refine kz _ ?_;clear kz Kz;(conv=>(arg 2;whnf))
 repeat' (first|refine an ?_ ?_|((try refine gm ?_);first|((with_reducible show Kz _);(try dsimp+instances only);(with_reducible refine kz _ ?_);clear kz Kz)|refine st ?_|(refine sr ?_;intro Kz kz;conv=>whnf)|(refine cd ?_;(conv=>arg 2;whnf);refine st ?_)|refine blockK_y (by rfl) ?_|(refine sw ?_;conv=>whnf))|(refine gm ?_;conv=>whnf)|(intro hc;(try dsimp+instances only[Dat,SDat,dflt,Ty.size,keepS,bkUpd,Gv.bk,backS,wayA,maxI,minI,negI]at hc);try simp only[LS]at hc))
 all_goals (try ((fail_if_success refine nl ?_);(try dsimp only[Dat,SDat,dflt,Ty.size,keepS,bkUpd,Gv.bk,backS,wayA,maxI,minI,negI]);(try simp only[LS]);first|done|exact dsc|((try simp only[allP,lo,hi,room,true_and,and_true,implies_true]);(repeat' (first|refine an ?_ ?_|((with_reducible refine preA_t ?_ ?_);rotate_left;exact sameP_t)|intro hv))<;>(try omega))))
 all_goals (first|omega|exact hu|skip)
theorem ok_z58:SpecOK SP glob fi_z58 S_z58:=mk_ok (c:=c_z58) (tab_ok _) mix_ok wf_z58 (by decide) (.cons ok_z89 (.cons ok_z99 (.cons ok_z87 .nil))) (fun x hx=>Nat.zero_lt_one) g_z58
@[reducible] noncomputable def S_z57:Spec:={ ins:=(.cons (.d (.sl tIs)) (.cons (.d (.sl tIs)) (.cons (.clos fi_z58 .nil) .nil))),pre:=(fun x=>(fun a b f=>a.length≤65536∧b.length≤65536∧(∀ s∈a,List.length s≤100000)∧∀ s∈b,List.length s≤100000) x.1 x.2.1 x.2.2.1),alts:=[{ outs:=(.cons (.row tIs) .nil),res:=(fun x=>(fun a b f=>(pairsU a b,())) x.1 x.2.1 x.2.2.1)}]}
noncomputable def c_z57:Cf:=(cf_z57 (Fl [(fi_z58,S_z58)]))
theorem g_z57:∀ x,S_z57.pre x→shOK S_z57.ins x→fnGoal c_z57 fn_z57 S_z57 x:=by
 rintro ⟨a,b,⟨⟩,⟨⟩⟩ hpre hok
 try dsimp only [Dat,SDat,dflt,Ty.size,keepS,bkUpd,Gv.bk,backS,wayA,maxI,minI,negI] at hpre
 have hln:=shLn_of _ hok;replace hok:=Hd.mk hok;try simp only [shLn,datLn,inRng,lo,hi,maxLen,true_and,and_true] at hln
 obtain ⟨ha,hb,hsa,hsb⟩:=hpre
 have ha:List.length a≤65536:=ha
 have hb:List.length b≤65536:=hb
 have hab:a.length * b.length≤65536 * 65536:=Nat.mul_le_mul ha hb
 first|refine fn_goal (w_head ?_)
 intro Kz kz;(conv=>whnf);(try dsimp+instances only);refine kz _ ?_;clear kz Kz;(conv=>(arg 2;whnf))
 repeat' (first|refine an ?_ ?_|((try refine gm ?_);first|((with_reducible show Kz _);(try dsimp+instances only);(with_reducible refine kz _ ?_);clear kz Kz)|refine st ?_|(refine sr ?_;intro Kz kz;conv=>whnf)|(refine cd ?_;(conv=>arg 2;whnf);refine st ?_)|refine blockK_y (by rfl) ?_|(refine sw ?_;conv=>whnf))|(refine gm ?_;conv=>whnf)|(intro hc;(try dsimp+instances only[Dat,SDat,dflt,Ty.size,keepS,bkUpd,Gv.bk,backS,wayA,maxI,minI,negI]at hc);try simp only[LS]at hc))
 all_goals (try ((fail_if_success refine nl ?_);(try dsimp only[Dat,SDat,dflt,Ty.size,keepS,bkUpd,Gv.bk,backS,wayA,maxI,minI,negI]);(try simp only[LS]);first|done|exact dsc|((try simp only[allP,lo,hi,room,true_and,and_true,implies_true]);(repeat' (first|refine an ?_ ?_|((with_reducible refine preA_t ?_ ?_);rotate_left;exact sameP_t)|intro hv))<;>(try omega))))
 refine w_loop [(14, .d tInt),(7, .row tIs)] [] (fun y=>∃ k:Nat,y.1.1=(k:Int)∧k≤a.length∧y.1.2.1=pairsU (a.take k) b) (fun y=>a.length - y.1.1.toNat) ?_
 conv=>whnf
 refine And.intro ?_ ?_
 · exact ⟨0,rfl,Nat.zero_le _,rfl⟩
 rintro ⟨⟨_,ou,⟨⟩⟩,⟨⟩⟩ ⟨k,rfl,hk,hou⟩
 have hou:ou=pairsU (a.take k) b:=hou
 have hst:=fun (h:k<a.length)=>show pairsU (a.take (k+1)) b=pairsU (a.take k) b++b.map fun t=>unionL (a.getD k []) t from by
  unfold pairsU
  rw [List.take_succ_eq_append_getElem h,List.flatMap_append,← getD_ok [] h];simp
 repeat' (first|refine an ?_ ?_|((try refine gm ?_);first|((with_reducible show Kz _);(try dsimp+instances only);(with_reducible refine kz _ ?_);clear kz Kz)|refine st ?_|(refine sr ?_;intro Kz kz;conv=>whnf)|(refine cd ?_;(conv=>arg 2;whnf);refine st ?_)|refine blockK_y (by rfl) ?_|(refine sw ?_;conv=>whnf))|(refine gm ?_;conv=>whnf)|(intro hc;(try dsimp+instances only[Dat,SDat,dflt,Ty.size,keepS,bkUpd,Gv.bk,backS,wayA,maxI,minI,negI]at hc);try simp only[LS]at hc))
 all_goals (try ((fail_if_success refine nl ?_);(try dsimp only[Dat,SDat,dflt,Ty.size,keepS,bkUpd,Gv.bk,backS,wayA,maxI,minI,negI]);(try simp only[LS]);first|done|exact dsc|((try simp only[allP,lo,hi,room,true_and,and_true,implies_true]);(repeat' (first|refine an ?_ ?_|((with_reducible refine preA_t ?_ ?_);rotate_left;exact sameP_t)|intro hv))<;>(try omega))))
 refine w_loop [(20, .d tInt),(7, .row tIs)] [] (fun y=>∃ i:Nat,y.1.1=(i:Int)∧i≤b.length∧y.1.2.1=pairsU (a.take k) b++(b.take i).map (fun t=>unionL (a.getD k []) t)) (fun y=>b.length - y.1.1.toNat) ?_
 conv=>whnf
 refine And.intro ?_ ?_
 · exact ⟨0,rfl,Nat.zero_le _,by rw [hou];simp⟩
 rintro ⟨⟨_,ou2,⟨⟩⟩,⟨⟩⟩ ⟨i,rfl,hi,hou2⟩
 have hou2:ou2=pairsU (a.take k) b++(b.take i).map (fun t=>unionL (a.getD k []) t):=hou2
 have hol:List.length ou2≤65536 * 65536+65536:=by
  rw [hou2,List.length_append,pairsU_len,List.length_map,List.length_take,List.length_take]
  have:=Nat.mul_le_mul (show min k a.length≤65536 by omega) hb
  omega
 have hsi:=fun (h:i<b.length)=>show ou2++[unionL (a.getD k []) (b.getD i [])]=pairsU (a.take k) b++(b.take (i+1)).map (fun t=>unionL (a.getD k []) t) from by
  rw [hou2,List.take_succ_eq_append_getElem h,List.map_append,← getD_ok [] h,List.append_assoc];rfl
 have hfi:=fun (h:¬ i<b.length) (h2:k<a.length)=>show ou2=pairsU (a.take (k+1)) b from by
  rw [hou2,hst h2,List.take_of_length_le (l:=b) (i:=i) (by omega)]
 have hla:=fun (h2:k<a.length)=>hsa _ (getD_mem (d:=([]:Is)) h2)
 have hlb:=fun (h:i<b.length)=>hsb _ (getD_mem (d:=([]:Is)) h)
 have hi8:i<b.length→(i:Int)+1≤Gv.hi IntKind.i64:=fun h=>Int.le_trans (show (i:Int)+1≤65536 by omega) (by decide)
 have hk8:k<a.length→(k:Int)+1≤Gv.hi IntKind.i64:=fun h=>Int.le_trans (show (k:Int)+1≤65536 by omega) (by decide)
 repeat' (first|refine an ?_ ?_|((try refine gm ?_);first|((with_reducible show Kz _);(try dsimp+instances only);(with_reducible refine kz _ ?_);clear kz Kz)|refine st ?_|(refine sr ?_;intro Kz kz;conv=>whnf)|(refine cd ?_;(conv=>arg 2;whnf);refine st ?_)|refine blockK_y (by rfl) ?_|(refine sw ?_;conv=>whnf))|(refine gm ?_;conv=>whnf)|(intro hc;(try dsimp+instances only[Dat,SDat,dflt,Ty.size,keepS,bkUpd,Gv.bk,backS,wayA,maxI,minI,negI]at hc);try simp only[LS]at hc))
 all_goals (try ((fail_if_success refine nl ?_);(try dsimp only[Dat,SDat,dflt,Ty.size,keepS,bkUpd,Gv.bk,backS,wayA,maxI,minI,negI]);(try simp only[LS]);first|done|exact dsc|((try simp only[allP,lo,hi,room,true_and,and_true,implies_true]);(repeat' (first|refine an ?_ ?_|((with_reducible refine preA_t ?_ ?_);rotate_left;exact sameP_t)|intro hv))<;>(try omega))))
 all_goals (first|(with_reducible exact hi8 (by omega))|(with_reducible exact hk8 (by omega))|exact ⟨i+1,rfl,by omega,hsi (by omega)⟩|exact ⟨k+1,rfl,by omega,hfi (by omega) (by omega)⟩|(rw [hou,List.take_of_length_le (by omega)];done))
theorem ok_z57:SpecOK SP glob fi_z57 S_z57:=mk_ok (c:=c_z57) (tab_ok _) mix_ok wf_z57 (by decide) (.cons ok_z58 .nil) (fun x hx=>Nat.zero_lt_one) g_z57
end Go.Gv
