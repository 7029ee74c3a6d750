/- Chapter 15: the library's Grow (at nil) and Concat; the program's product of powers. -/
import Derived.Test.YtibnojoffhlekaaGreatDoorC15f
set_option linter.all false
namespace Go.Gv
open Go Go.Proofs Go.Proofs.YtibnojoffhlekaaGreatDoor
set_option maxRecDepth 100000
set_option maxHeartbeats 4000000
theorem flat_take_le {α:Type} (l:List (List α)) (k:Nat):(List.flatten (l.take k)).length≤(List.flatten l).length:=by
 conv=>rhs;rw [← List.take_append_drop k l,List.flatten_append,List.length_append]
 omega
theorem flat_step {α:Type} {l:List (List α)} {k:Nat} (h:k<l.length):List.flatten (l.take (k+1))=List.flatten (l.take k)++l.getD k []:=by
 rw [List.take_succ_eq_append_getElem h,List.flatten_append,getD_ok _ h];simp
@[reducible] noncomputable def S_z119:Spec:={ ins:=(.cons (.nils) (.cons (.d tInt) .nil)),pre:=(fun x=>(fun s n=>0≤n∧n≤1000000000) x.1 x.2.1),alts:=[{ outs:=(.cons (.row tPw) .nil),res:=(fun x=>(fun s n=>([],())) x.1 x.2.1)}]}
noncomputable def c_z119:Cf:={ cf_z119 (Fl []) with E:={ (cf_z119 (Fl [])).E with rows:=[22]}}
theorem g_z119:∀ x,S_z119.pre x→shOK S_z119.ins x→fnGoal c_z119 fn_z119 S_z119 x:=by
 rintro ⟨s,n,⟨⟩⟩ hpre hok
 try dsimp only [Dat,SDat,dflt,Ty.size,keepS,bkUpd,Gv.bk,backS,wayA,maxI,minI,negI] at hpre
 have hln:=shLn_of _ hok;replace hok:=Hd.mk hok;try simp only [shLn,datLn,inRng,lo,hi,maxLen,true_and,and_true] at hln
 have h0:0≤n:=hpre.1
 have h1:n≤1000000000:=hpre.2
 first|refine fn_goal (w_head ?_)
 intro Kz kz;(conv=>whnf);(try dsimp+instances only);refine kz _ ?_;clear kz Kz;(conv=>(arg 2;whnf))
 repeat' (first|refine an ?_ ?_|((try refine gm ?_);first|((with_reducible show Kz _);(try dsimp+instances only);(with_reducible refine kz _ ?_);clear kz Kz)|refine st ?_|(refine sr ?_;intro Kz kz;conv=>whnf)|(refine cd ?_;(conv=>arg 2;whnf);refine st ?_)|refine blockK_y (by rfl) ?_|(refine sw ?_;conv=>whnf))|(refine gm ?_;conv=>whnf)|(intro hc;(try dsimp+instances only[Dat,SDat,dflt,Ty.size,keepS,bkUpd,Gv.bk,backS,wayA,maxI,minI,negI]at hc);try simp only[LS]at hc))
 all_goals (try ((fail_if_success refine nl ?_);(try dsimp only[Dat,SDat,dflt,Ty.size,keepS,bkUpd,Gv.bk,backS,wayA,maxI,minI,negI]);(try simp only[LS]);first|done|exact dsc|((try simp only[allP,lo,hi,room,true_and,and_true,implies_true]);(repeat' (first|refine an ?_ ?_|((with_reducible refine preA_t ?_ ?_);rotate_left;exact sameP_t)|intro hv))<;>(try omega))))
theorem ok_z119:SpecOK SP glob fi_z119 S_z119:=mk_ok (c:=c_z119) (tab_ok _) mix_ok wf_z119 (by decide) .nil (fun x hx=>Nat.zero_lt_one) g_z119
@[reducible] noncomputable def S_z115:Spec:={ ins:=(.cons (.d (.sl (.sl tPw))) .nil),pre:=(fun x=>(fun l=>(List.flatten l).length≤1000000000∧l.length≤1000) x.1),alts:=[{ outs:=(.cons (.d (.sl tPw)) .nil),res:=(fun x=>(fun l=>(List.flatten l,())) x.1)}]}
noncomputable def c_z115:Cf:=(cf_z115 (Fl [(fi_z119,S_z119)]))
theorem g_z115:∀ x,S_z115.pre x→shOK S_z115.ins x→fnGoal c_z115 fn_z115 S_z115 x:=by
 rintro ⟨l,⟨⟩⟩ hpre hok
 try dsimp only [Dat,SDat,dflt,Ty.size,keepS,bkUpd,Gv.bk,backS,wayA,maxI,minI,negI] at hpre
 have hln:=shLn_of _ hok;replace hok:=Hd.mk hok;try simp only [shLn,datLn,inRng,lo,hi,maxLen,true_and,and_true] at hln
 have hl0:(List.flatten l).length≤1000000000:=hpre.1
 have hl1:l.length≤1000:=hpre.2
 first|refine fn_goal (w_head ?_)
 intro Kz kz;(conv=>whnf);(try dsimp+instances only);refine kz _ ?_;clear kz Kz;(conv=>(arg 2;whnf))
 repeat' (first|refine an ?_ ?_|((try refine gm ?_);first|((with_reducible show Kz _);(try dsimp+instances only);(with_reducible refine kz _ ?_);clear kz Kz)|refine st ?_|(refine sr ?_;intro Kz kz;conv=>whnf)|(refine cd ?_;(conv=>arg 2;whnf);refine st ?_)|refine blockK_y (by rfl) ?_|(refine sw ?_;conv=>whnf))|(refine gm ?_;conv=>whnf)|(intro hc;(try dsimp+instances only[Dat,SDat,dflt,Ty.size,keepS,bkUpd,Gv.bk,backS,wayA,maxI,minI,negI]at hc);try simp only[LS]at hc))
 all_goals (try ((fail_if_success refine nl ?_);(try dsimp only[Dat,SDat,dflt,Ty.size,keepS,bkUpd,Gv.bk,backS,wayA,maxI,minI,negI]);(try simp only[LS]);first|done|exact dsc|((try simp only[allP,lo,hi,room,true_and,and_true,implies_true]);(repeat' (first|refine an ?_ ?_|((with_reducible refine preA_t ?_ ?_);rotate_left;exact sameP_t)|intro hv))<;>(try omega))))
 refine w_loop [(3, .d tInt),(11, .d tInt)] [] (fun y=>∃ k:Nat,y.1.2.1=(k:Int)∧k≤l.length∧y.1.1=((List.flatten (l.take k)).length:Int)) (fun y=>l.length - y.1.2.1.toNat) ?_
 conv=>whnf
 refine And.intro ?_ ?_
 · exact ⟨0,by simp⟩
 rintro ⟨⟨_,_,⟨⟩⟩,⟨⟩⟩ ⟨k,rfl,hk,rfl⟩
 have hfl:(List.flatten (l.take k)).length≤1000000000:=Nat.le_trans (flat_take_le l k) hl0
 have hfs:k<l.length→(List.flatten (l.take (k+1))).length=(List.flatten (l.take k)).length+(List.getD l k []).length∧(List.flatten (l.take (k+1))).length≤1000000000:=fun h=>⟨by rw [flat_step h,List.length_append],Nat.le_trans (flat_take_le l (k+1)) hl0⟩
 repeat' (first|refine an ?_ ?_|((try refine gm ?_);first|((with_reducible show Kz _);(try dsimp+instances only);(with_reducible refine kz _ ?_);clear kz Kz)|refine st ?_|(refine sr ?_;intro Kz kz;conv=>whnf)|(refine cd ?_;(conv=>arg 2;whnf);refine st ?_)|refine blockK_y (by rfl) ?_|(refine sw ?_;conv=>whnf))|(refine gm ?_;conv=>whnf)|(intro hc;(try dsimp+instances only[Dat,SDat,dflt,Ty.size,keepS,bkUpd,Gv.bk,backS,wayA,maxI,minI,negI]at hc);try simp only[LS]at hc))
 all_goals (try ((fail_if_success refine nl ?_);(try dsimp only[Dat,SDat,dflt,Ty.size,keepS,bkUpd,Gv.bk,backS,wayA,maxI,minI,negI]);(try simp only[LS]);first|done|exact dsc|((try simp only[allP,lo,hi,room,true_and,and_true,implies_true]);(repeat' (first|refine an ?_ ?_|((with_reducible refine preA_t ?_ ?_);rotate_left;exact sameP_t)|intro hv))<;>(try omega))))
 · exact ⟨k+1,rfl,by omega,by have:=hfs (by omega);omega⟩
 refine w_loop [(6, .row tPw),(27, .d tInt)] [] (fun y=>∃ i:Nat,y.1.2.1=(i:Int)∧i≤l.length∧y.1.1=List.flatten (l.take i)) (fun y=>l.length - y.1.2.1.toNat) ?_
 conv=>whnf
 refine And.intro ?_ ?_
 · exact ⟨0,by simp⟩
 rintro ⟨⟨ou,_,⟨⟩⟩,⟨⟩⟩ ⟨i,rfl,hi,hou⟩
 have hou:ou=List.flatten (l.take i):=hou
 subst hou
 have hgl:(List.flatten (l.take i)).length≤1000000000:=Nat.le_trans (flat_take_le l i) hl0
 have hgs:i<l.length→(List.flatten (l.take (i+1))).length=(List.flatten (l.take i)).length+(List.getD l i []).length∧(List.flatten (l.take (i+1))).length≤1000000000:=fun h=>⟨by rw [flat_step h,List.length_append],Nat.le_trans (flat_take_le l (i+1)) hl0⟩
 repeat' (first|refine an ?_ ?_|((try refine gm ?_);first|((with_reducible show Kz _);(try dsimp+instances only);(with_reducible refine kz _ ?_);clear kz Kz)|refine st ?_|(refine sr ?_;intro Kz kz;conv=>whnf)|(refine cd ?_;(conv=>arg 2;whnf);refine st ?_)|refine blockK_y (by rfl) ?_|(refine sw ?_;conv=>whnf))|(refine gm ?_;conv=>whnf)|(intro hc;(try dsimp+instances only[Dat,SDat,dflt,Ty.size,keepS,bkUpd,Gv.bk,backS,wayA,maxI,minI,negI]at hc);try simp only[LS]at hc))
 all_goals (try ((fail_if_success refine nl ?_);(try dsimp only[Dat,SDat,dflt,Ty.size,keepS,bkUpd,Gv.bk,backS,wayA,maxI,minI,negI]);(try simp only[LS]);first|done|exact dsc|((try simp only[allP,lo,hi,room,true_and,and_true,implies_true]);(repeat' (first|refine an ?_ ?_|((with_reducible refine preA_t ?_ ?_);rotate_left;exact sameP_t)|intro hv))<;>(try omega))))
 · simp only [Gv.hi];omega
 · exact ⟨i+1,rfl,by omega,by rw [flat_step (by omega)]⟩
 · rw [List.take_of_length_le (by omega)]
theorem ok_z115:SpecOK SP glob fi_z115 S_z115:=mk_ok (c:=c_z115) (tab_ok _) mix_ok wf_z115 (by decide) (.cons ok_z119 .nil) (fun x hx=>Nat.zero_lt_one) g_z115
@[reducible] noncomputable def S_z118:Spec:={ ins:=(.cons (.nils) (.cons (.d tInt) .nil)),pre:=(fun x=>(fun s n=>0≤n∧n≤1000000000) x.1 x.2.1),alts:=[{ outs:=(.cons (.row tMo) .nil),res:=(fun x=>(fun s n=>([],())) x.1 x.2.1)}]}
noncomputable def c_z118:Cf:={ cf_z118 (Fl []) with E:={ (cf_z118 (Fl [])).E with rows:=[22]}}
theorem g_z118:∀ x,S_z118.pre x→shOK S_z118.ins x→fnGoal c_z118 fn_z118 S_z118 x:=by
 rintro ⟨s,n,⟨⟩⟩ hpre hok
 try dsimp only [Dat,SDat,dflt,Ty.size,keepS,bkUpd,Gv.bk,backS,wayA,maxI,minI,negI] at hpre
 have hln:=shLn_of _ hok;replace hok:=Hd.mk hok;try simp only [shLn,datLn,inRng,lo,hi,maxLen,true_and,and_true] at hln
 have h0:0≤n:=hpre.1
 have h1:n≤1000000000:=hpre.2
 first|refine fn_goal (w_head ?_)
 intro Kz kz;(conv=>whnf);(try dsimp+instances only);refine kz _ ?_;clear kz Kz;(conv=>(arg 2;whnf))
 repeat' (first|refine an ?_ ?_|((try refine gm ?_);first|((with_reducible show Kz _);(try dsimp+instances only);(with_reducible refine kz _ ?_);clear kz Kz)|refine st ?_|(refine sr ?_;intro Kz kz;conv=>whnf)|(refine cd ?_;(conv=>arg 2;whnf);refine st ?_)|refine blockK_y (by rfl) ?_|(refine sw ?_;conv=>whnf))|(refine gm ?_;conv=>whnf)|(intro hc;(try dsimp+instances only[Dat,SDat,dflt,Ty.size,keepS,bkUpd,Gv.bk,backS,wayA,maxI,minI,negI]at hc);try simp only[LS]at hc))
 all_goals (try ((fail_if_success refine nl ?_);(try dsimp only[Dat,SDat,dflt,Ty.size,keepS,bkUpd,Gv.bk,backS,wayA,maxI,minI,negI]);(try simp only[LS]);first|done|exact dsc|((try simp only[allP,lo,hi,room,true_and,and_true,implies_true]);(repeat' (first|refine an ?_ ?_|((with_reducible refine preA_t ?_ ?_);rotate_left;exact sameP_t)|intro hv))<;>(try omega))))
theorem ok_z118:SpecOK SP glob fi_z118 S_z118:=mk_ok (c:=c_z118) (tab_ok _) mix_ok wf_z118 (by decide) .nil (fun x hx=>Nat.zero_lt_one) g_z118
@[reducible] noncomputable def S_z114:Spec:={ ins:=(.cons (.d (.sl (.sl tMo))) .nil),pre:=(fun x=>(fun l=>(List.flatten l).length≤1000000000∧l.length≤1000) x.1),alts:=[{ outs:=(.cons (.d (.sl tMo)) .nil),res:=(fun x=>(fun l=>(List.flatten l,())) x.1)}]}
noncomputable def c_z114:Cf:=(cf_z114 (Fl [(fi_z118,S_z118)]))
theorem g_z114:∀ x,S_z114.pre x→shOK S_z114.ins x→fnGoal c_z114 fn_z114 S_z114 x:=by
 rintro ⟨l,⟨⟩⟩ hpre hok
 try dsimp only [Dat,SDat,dflt,Ty.size,keepS,bkUpd,Gv.bk,backS,wayA,maxI,minI,negI] at hpre
 have hln:=shLn_of _ hok;replace hok:=Hd.mk hok;try simp only [shLn,datLn,inRng,lo,hi,maxLen,true_and,and_true] at hln
 have hl0:(List.flatten l).length≤1000000000:=hpre.1
 have hl1:l.length≤1000:=hpre.2
 first|refine fn_goal (w_head ?_)
 intro Kz kz;(conv=>whnf);(try dsimp+instances only);refine kz _ ?_;clear kz Kz;(conv=>(arg 2;whnf))
 repeat' (first|refine an ?_ ?_|((try refine gm ?_);first|((with_reducible show Kz _);(try dsimp+instances only);(with_reducible refine kz _ ?_);clear kz Kz)|refine st ?_|(refine sr ?_;intro Kz kz;conv=>whnf)|(refine cd ?_;(conv=>arg 2;whnf);refine st ?_)|refine blockK_y (by rfl) ?_|(refine sw ?_;conv=>whnf))|(refine gm ?_;conv=>whnf)|(intro hc;(try dsimp+instances only[Dat,SDat,dflt,Ty.size,keepS,bkUpd,Gv.bk,backS,wayA,maxI,minI,negI]at hc);try simp only[LS]at hc))
 all_goals (try ((fail_if_success refine nl ?_);(try dsimp only[Dat,SDat,dflt,Ty.size,keepS,bkUpd,Gv.bk,backS,wayA,maxI,minI,negI]);(try simp only[LS]);first|done|exact dsc|((try simp only[allP,lo,hi,room,true_and,and_true,implies_true]);(repeat' (first|refine an ?_ ?_|((with_reducible refine preA_t ?_ ?_);rotate_left;exact sameP_t)|intro hv))<;>(try omega))))
 refine w_loop [(3, .d tInt),(11, .d tInt)] [] (fun y=>∃ k:Nat,y.1.2.1=(k:Int)∧k≤l.length∧y.1.1=((List.flatten (l.take k)).length:Int)) (fun y=>l.length - y.1.2.1.toNat) ?_
 conv=>whnf
 refine And.intro ?_ ?_
 · exact ⟨0,by simp⟩
 rintro ⟨⟨_,_,⟨⟩⟩,⟨⟩⟩ ⟨k,rfl,hk,rfl⟩
 have hfl:(List.flatten (l.take k)).length≤1000000000:=Nat.le_trans (flat_take_le l k) hl0
 have hfs:k<l.length→(List.flatten (l.take (k+1))).length=(List.flatten (l.take k)).length+(List.getD l k []).length∧(List.flatten (l.take (k+1))).length≤1000000000:=fun h=>⟨by rw [flat_step h,List.length_append],Nat.le_trans (flat_take_le l (k+1)) hl0⟩
 repeat' (first|refine an ?_ ?_|((try refine gm ?_);first|((with_reducible show Kz _);(try dsimp+instances only);(with_reducible refine kz _ ?_);clear kz Kz)|refine st ?_|(refine sr ?_;intro Kz kz;conv=>whnf)|(refine cd ?_;(conv=>arg 2;whnf);refine st ?_)|refine blockK_y (by rfl) ?_|(refine sw ?_;conv=>whnf))|(refine gm ?_;conv=>whnf)|(intro hc;(try dsimp+instances only[Dat,SDat,dflt,Ty.size,keepS,bkUpd,Gv.bk,backS,wayA,maxI,minI,negI]at hc);try simp only[LS]at hc))
 all_goals (try ((fail_if_success refine nl ?_);(try dsimp only[Dat,SDat,dflt,Ty.size,keepS,bkUpd,Gv.bk,backS,wayA,maxI,minI,negI]);(try simp only[LS]);first|done|exact dsc|((try simp only[allP,lo,hi,room,true_and,and_true,implies_true]);(repeat' (first|refine an ?_ ?_|((with_reducible refine preA_t ?_ ?_);rotate_left;exact sameP_t)|intro hv))<;>(try omega))))
 · exact ⟨k+1,rfl,by omega,by have:=hfs (by omega);omega⟩
 refine w_loop [(6, .row tMo),(27, .d tInt)] [] (fun y=>∃ i:Nat,y.1.2.1=(i:Int)∧i≤l.length∧y.1.1=List.flatten (l.take i)) (fun y=>l.length - y.1.2.1.toNat) ?_
 conv=>whnf
 refine And.intro ?_ ?_
 · exact ⟨0,by simp⟩
 rintro ⟨⟨ou,_,⟨⟩⟩,⟨⟩⟩ ⟨i,rfl,hi,hou⟩
 have hou:ou=List.flatten (l.take i):=hou
 subst hou
 have hgl:(List.flatten (l.take i)).length≤1000000000:=Nat.le_trans (flat_take_le l i) hl0
 have hgs:i<l.length→(List.flatten (l.take (i+1))).length=(List.flatten (l.take i)).length+(List.getD l i []).length∧(List.flatten (l.take (i+1))).length≤1000000000:=fun h=>⟨by rw [flat_step h,List.length_append],Nat.le_trans (flat_take_le l (i+1)) hl0⟩
 repeat' (first|refine an ?_ ?_|((try refine gm ?_);first|((with_reducible show Kz _);(try dsimp+instances only);(with_reducible refine kz _ ?_);clear kz Kz)|refine st ?_|(refine sr ?_;intro Kz kz;conv=>whnf)|(refine cd ?_;(conv=>arg 2;whnf);refine st ?_)|refine blockK_y (by rfl) ?_|(refine sw ?_;conv=>whnf))|(refine gm ?_;conv=>whnf)|(intro hc;(try dsimp+instances only[Dat,SDat,dflt,Ty.size,keepS,bkUpd,Gv.bk,backS,wayA,maxI,minI,negI]at hc);try simp only[LS]at hc))
 all_goals (try ((fail_if_success refine nl ?_);(try dsimp only[Dat,SDat,dflt,Ty.size,keepS,bkUpd,Gv.bk,backS,wayA,maxI,minI,negI]);(try simp only[LS]);first|done|exact dsc|((try simp only[allP,lo,hi,room,true_and,and_true,implies_true]);(repeat' (first|refine an ?_ ?_|((with_reducible refine preA_t ?_ ?_);rotate_left;exact sameP_t)|intro hv))<;>(try omega))))
 · simp only [Gv.hi];omega
 · exact ⟨i+1,rfl,by omega,by rw [flat_step (by omega)]⟩
 · rw [List.take_of_length_le (by omega)]
theorem ok_z114:SpecOK SP glob fi_z114 S_z114:=mk_ok (c:=c_z114) (tab_ok _) mix_ok wf_z114 (by decide) (.cons ok_z118 .nil) (fun x hx=>Nat.zero_lt_one) g_z114
theorem mulP_room {a b:List Pw}:(mulP a b).length≤a.length+b.length:=by
 fun_induction mulP a b<;>simp only [List.length_cons,List.length_nil] at *<;>omega
theorem mulP_x {x y:Pw} {a b:List Pw} (h:x.1<y.1):mulP (x::a) (y::b)=x::mulP a (y::b):=by rw [mulP,if_pos h]
theorem mulP_y {x y:Pw} {a b:List Pw} (h:y.1<x.1):mulP (x::a) (y::b)=y::mulP (x::a) b:=by rw [mulP,if_neg (by omega),if_pos h]
theorem mulP_z {x y:Pw} {a b:List Pw} (h:x.1=y.1):mulP (x::a) (y::b)=(x.1,x.2.1+y.2.1,())::mulP a b:=by rw [mulP,if_neg (by omega),if_neg (by omega)]
theorem smP_tl {l:List Pw} (h:smP l):smP (List.drop 1 (List.take (List.length l) l)):=by
 rw [List.take_length]
 exact ⟨by have:=h.1;rw [List.length_drop];omega,fun x hx=>h.2 x (List.mem_of_mem_drop hx)⟩
@[reducible] noncomputable def S_z75:Spec:={ ins:=(.cons (.d (.sl tPw)) (.cons (.d (.sl tPw)) .nil)),pre:=(fun x=>(fun a b=>smP a∧smP b) x.1 x.2.1),alts:=[{ outs:=(.cons (.d (.sl tPw)) .nil),res:=(fun x=>(fun a b=>(mulP a b,())) x.1 x.2.1)}]}
noncomputable def c_z75:Cf:=(cf_z75 (Fl [(fi_z115,S_z115)]))
theorem g_z75:∀ x,S_z75.pre x→shOK S_z75.ins x→fnGoal c_z75 fn_z75 S_z75 x:=by
 rintro ⟨a,b,⟨⟩⟩ hpre hok
 try dsimp only [Dat,SDat,dflt,Ty.size,keepS,bkUpd,Gv.bk,backS,wayA,maxI,minI,negI] at hpre
 have hln:=shLn_of _ hok;replace hok:=Hd.mk hok;try simp only [shLn,datLn,inRng,lo,hi,maxLen,true_and,and_true] at hln
 have ha:smP a:=hpre.1
 have hb:smP b:=hpre.2
 have hla:=ha.1
 have hlb:=hb.1
 first|refine fn_goal (w_head ?_)
 intro Kz kz;(conv=>whnf);(try dsimp+instances only);refine kz _ ?_;clear kz Kz;(conv=>(arg 2;whnf))
 repeat' (first|refine an ?_ ?_|((try refine gm ?_);first|((with_reducible show Kz _);(try dsimp+instances only);(with_reducible refine kz _ ?_);clear kz Kz)|refine st ?_|(refine sr ?_;intro Kz kz;conv=>whnf)|(refine cd ?_;(conv=>arg 2;whnf);refine st ?_)|refine blockK_y (by rfl) ?_|(refine sw ?_;conv=>whnf))|(refine gm ?_;conv=>whnf)|(intro hc;(try dsimp+instances only[Dat,SDat,dflt,Ty.size,keepS,bkUpd,Gv.bk,backS,wayA,maxI,minI,negI]at hc);try simp only[LS]at hc))
 all_goals (try ((fail_if_success refine nl ?_);(try dsimp only[Dat,SDat,dflt,Ty.size,keepS,bkUpd,Gv.bk,backS,wayA,maxI,minI,negI]);(try simp only[LS]);first|done|exact dsc|((try simp only[allP,lo,hi,room,true_and,and_true,implies_true]);(repeat' (first|refine an ?_ ?_|((with_reducible refine preA_t ?_ ?_);rotate_left;exact sameP_t)|intro hv))<;>(try omega))))
 refine w_loop [(5, .spare tPw),(0, .d (.sl tPw)),(1, .d (.sl tPw))] [] (fun y=>smP y.1.2.1∧smP y.1.2.2.1∧List.length y.1.1+List.length y.1.2.1+List.length y.1.2.2.1≤200000∧(y.1.1:List Pw)++mulP y.1.2.1 y.1.2.2.1=mulP a b) (fun y=>List.length y.1.2.1+List.length y.1.2.2.1) ?_
 conv=>whnf
 refine And.intro ?_ ?_
 · exact ⟨ha,hb,by simp;omega,by simp⟩
 rintro ⟨⟨ou,u,v,⟨⟩⟩,⟨⟩⟩ ⟨hu,hv,hol,hou⟩
 have hu:smP u:=hu
 have hv:smP v:=hv
 have hol:List.length ou+List.length u+List.length v≤200000:=hol
 have hou:(ou:List Pw)++mulP u v=mulP a b:=hou
 have hxu:0<u.length→smX (List.getD u 0 ((0,0,()):Pw)):=fun h=>hu.2 _ (getD_mem h)
 have hxv:0<v.length→smX (List.getD v 0 ((0,0,()):Pw)):=fun h=>hv.2 _ (getD_mem h)
 have hul:=hu.1
 have hvl:=hv.1
 unfold smX at hxu hxv
 repeat' (first|refine an ?_ ?_|((try refine gm ?_);first|((with_reducible show Kz _);(try dsimp+instances only);(with_reducible refine kz _ ?_);clear kz Kz)|refine st ?_|(refine sr ?_;intro Kz kz;conv=>whnf)|(refine cd ?_;(conv=>arg 2;whnf);refine st ?_)|refine blockK_y (by rfl) ?_|(refine sw ?_;conv=>whnf))|(refine gm ?_;conv=>whnf)|(intro hc;(try dsimp+instances only[Dat,SDat,dflt,Ty.size,keepS,bkUpd,Gv.bk,backS,wayA,maxI,minI,negI]at hc);try simp only[LS]at hc))
 all_goals (try ((fail_if_success refine nl ?_);(try dsimp only[Dat,SDat,dflt,Ty.size,keepS,bkUpd,Gv.bk,backS,wayA,maxI,minI,negI]);(try simp only[LS]);first|done|exact dsc|((try simp only[allP,lo,hi,room,true_and,and_true,implies_true]);(repeat' (first|refine an ?_ ?_|((with_reducible refine preA_t ?_ ?_);rotate_left;exact sameP_t)|intro hv))<;>(try omega))))
 all_goals (first
  |exact smP_tl hu
  |exact smP_tl hv
  |(simp only [List.length_drop,List.length_take,Nat.min_self];omega)
  |(simp only [List.flatten_cons,List.flatten_nil,List.length_append,List.length_nil];omega)
  |(have h1:u≠[]:=by rintro rfl;simp at *
    have h2:v≠[]:=by rintro rfl;simp at *
    obtain ⟨x,u,rfl⟩:=List.exists_cons_of_ne_nil h1
    obtain ⟨y,v,rfl⟩:=List.exists_cons_of_ne_nil h2
    simp only [List.getD_cons_zero,List.take_length,List.drop_succ_cons,List.drop_zero] at *
    rw [← hou,List.append_assoc,List.singleton_append]
    congr 1
    first
     |exact (mulP_x hc).symm
     |exact (mulP_y hc).symm
     |(refine (mulP_z ?_).symm;rename_i h0;exact Int.le_antisymm (Int.not_lt.1 hc) (Int.not_lt.1 h0)))
  |(rw [← hou]
    simp only [List.flatten_cons,List.flatten_nil,List.append_nil]
    congr 1
    have h1:u=[]∨v=[]:=by
     rcases Nat.eq_zero_or_pos u.length with h|h
     · exact .inl (List.eq_nil_of_length_eq_zero h)
     · rcases Nat.eq_zero_or_pos v.length with h'|h'
       · exact .inr (List.eq_nil_of_length_eq_zero h')
       · exact absurd ⟨by omega,by omega⟩ hc
    rcases h1 with rfl|rfl
    · simp [mulP]
    · simp [mulP_nil]))
theorem ok_z75:SpecOK SP glob fi_z75 S_z75:=mk_ok (c:=c_z75) (tab_ok _) mix_ok wf_z75 (by decide) (.cons ok_z115 .nil) (fun x hx=>Nat.zero_lt_one) g_z75
end Go.Gv
