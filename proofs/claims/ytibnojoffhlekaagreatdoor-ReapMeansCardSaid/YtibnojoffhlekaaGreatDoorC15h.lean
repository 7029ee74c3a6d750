/- Chapter 15: the program's sums. -/
import Derived.Test.YtibnojoffhlekaaGreatDoorC15g
import Derived.Test.YtibnojoffhlekaaGreatDoorC15f
set_option linter.all false
namespace Go.Gv
open Go Go.Proofs Go.Proofs.YtibnojoffhlekaaGreatDoor
set_option maxRecDepth 100000
set_option maxHeartbeats 4000000
abbrev SumM:Type:=List (List UInt8 × Mo)
def getSum (s:SumM) (k:List UInt8):Mo:=(@mget (Dat .str) (Dat tMo) (instDecidableEqDat .str) s k).getD ((0,[],()):Mo)
def putSum (s:SumM) (m:Mo):SumM:=@mput (Dat .str) (Dat tMo) (instDecidableEqDat .str) s (facT m.2.1) (min (m.1+(getSum s (facT m.2.1)).1) 1000000001,m.2.1,())
def coOK (s:SumM):Prop:=∀ k,0≤(getSum s k).1∧(getSum s k).1≤1000000001
@[reducible] noncomputable def S_z71:Spec:={ ins:=(.cons (.map .str tMo) (.cons (.d tMo) .nil)),pre:=(fun x=>(fun s m=>(wkP m.2.1∧0≤m.1∧m.1≤1000000001)∧coOK s) x.1 x.2.1),alts:=[{ outs:= .nil,res:=(fun x=>(fun s m=>(())) x.1 x.2.1),upd:=(fun x=>(fun s m=>(putSum s m,m,())) x.1 x.2.1)}],noisy:=true}
noncomputable def c_z71:Cf:={ cf_z71 (Fl [(fi_z68,S_z68)]) with nz:=true}
theorem g_z71:∀ x,S_z71.pre x→shOK S_z71.ins x→fnGoal c_z71 fn_z71 S_z71 x:=by
 rintro ⟨s,⟨mc,ml,⟨⟩⟩,⟨⟩⟩ hpre hok
 try dsimp only [Dat,SDat,dflt,Ty.size,keepS,bkUpd,Gv.bk,backS,wayA,maxI,minI,negI] at hpre
 have hln:=shLn_of _ hok;replace hok:=Hd.mk hok;try simp only [shLn,datLn,inRng,lo,hi,maxLen,true_and,and_true] at hln
 have hw:wkP ml:=hpre.1.1
 have h0:0≤mc:=hpre.1.2.1
 have h1:mc≤1000000001:=hpre.1.2.2
 have hco:=hpre.2 (facT ml)
 have hfl:=facT_len hw
 have hco:0≤(getSum s (facT ml)).1∧(getSum s (facT ml)).1≤1000000001:=hco
 unfold getSum at hco
 first|refine fn_goal (w_head ?_)
 intro Kz kz;(conv=>whnf);(try dsimp+instances only);refine kz _ ?_;clear kz Kz;(conv=>(arg 2;whnf))
 repeat' (first|refine an ?_ ?_|((try refine gm ?_);first|((with_reducible show Kz _);(try dsimp+instances only);(with_reducible refine kz _ ?_);clear kz Kz)|refine st ?_|(refine sr ?_;intro Kz kz;conv=>whnf)|(refine cd ?_;(conv=>arg 2;whnf);refine st ?_)|refine blockK_y (by rfl) ?_|(refine sw ?_;conv=>whnf))|(refine gm ?_;conv=>whnf)|(intro hc;(try dsimp+instances only[Dat,SDat,dflt,Ty.size,keepS,bkUpd,Gv.bk,backS,wayA,maxI,minI,negI]at hc);try simp only[LS]at hc))
 all_goals (try ((fail_if_success refine nl ?_);(try dsimp only[Dat,SDat,dflt,Ty.size,keepS,bkUpd,Gv.bk,backS,wayA,maxI,minI,negI]);(try simp only[LS]);first|done|exact dsc|((try simp only[allP,lo,hi,room,true_and,and_true,implies_true]);(repeat' (first|refine an ?_ ?_|((with_reducible refine preA_t ?_ ?_);rotate_left;exact sameP_t)|intro hv))<;>(try omega))))
 all_goals (first|omega|rfl|(have h:=hco;unfold getSum at h;omega))
theorem ok_z71:SpecOK SP glob fi_z71 S_z71:=mk_ok (c:=c_z71) (tab_ok _) mix_ok wf_z71 (by decide) (.cons ok_z68 .nil) (fun x hx=>Nat.zero_lt_one) g_z71
@[reducible] noncomputable def S_z73:Spec:={ ins:=(.cons (.d tPw) .nil),pre:=fun _=>True,alts:=[{ outs:=(.cons (.d .bool) .nil),res:=(fun x=>(fun x=>(decide (100<x.2.1),())) x.1)}]}
noncomputable def c_z73:Cf:=(cf_z73 (Fl []))
theorem g_z73:∀ x,S_z73.pre x→shOK S_z73.ins x→fnGoal c_z73 fn_z73 S_z73 x:=by
 rintro ⟨x,⟨⟩⟩ hpre hok
 clear hpre
 have hln:=shLn_of _ hok;replace hok:=Hd.mk hok;try simp only [shLn,datLn,inRng,lo,hi,maxLen,true_and,and_true] at hln
 first|refine fn_goal (w_head ?_)
 intro Kz kz;(conv=>whnf);(try dsimp+instances only);refine kz _ ?_;clear kz Kz;(conv=>(arg 2;whnf))
 repeat' (first|refine an ?_ ?_|((try refine gm ?_);first|((with_reducible show Kz _);(try dsimp+instances only);(with_reducible refine kz _ ?_);clear kz Kz)|refine st ?_|(refine sr ?_;intro Kz kz;conv=>whnf)|(refine cd ?_;(conv=>arg 2;whnf);refine st ?_)|refine blockK_y (by rfl) ?_|(refine sw ?_;conv=>whnf))|(refine gm ?_;conv=>whnf)|(intro hc;(try dsimp+instances only[Dat,SDat,dflt,Ty.size,keepS,bkUpd,Gv.bk,backS,wayA,maxI,minI,negI]at hc);try simp only[LS]at hc))
 all_goals (try ((fail_if_success refine nl ?_);(try dsimp only[Dat,SDat,dflt,Ty.size,keepS,bkUpd,Gv.bk,backS,wayA,maxI,minI,negI]);(try simp only[LS]);first|done|exact dsc|((try simp only[allP,lo,hi,room,true_and,and_true,implies_true]);(repeat' (first|refine an ?_ ?_|((with_reducible refine preA_t ?_ ?_);rotate_left;exact sameP_t)|intro hv))<;>(try omega))))
theorem ok_z73:SpecOK SP glob fi_z73 S_z73:=mk_ok (c:=c_z73) (tab_ok _) mix_ok wf_z73 (by decide) .nil (fun x hx=>Nat.zero_lt_one) g_z73
@[reducible] noncomputable def S_idx_result_1:Spec:={ ins:=(.cons (.d (.sl tPw)) (.cons (.clos fi_z73 .nil) .nil)),pre:=fun _=>True,alts:=[{ outs:=(.cons (.d tInt) .nil),res:=(fun x=>(fun s c=>(findI (fun k=>(fun (_:Unit) (x:Pw)=>decide (100<x.2.1)) c k) s,())) x.1 x.2.1)}]}
noncomputable def c_idx_result_1:Cf:=(cf_z120 (Fl [(fi_z73,S_z73)]))
theorem g_idx_result_1:∀ x,S_idx_result_1.pre x→shOK S_idx_result_1.ins x→fnGoal c_idx_result_1 fn_z120 S_idx_result_1 x:=by
 rintro ⟨s,⟨⟩,⟨⟩⟩ hpre hok
 clear hpre
 have hln:=shLn_of _ hok;replace hok:=Hd.mk hok;try simp only [shLn,datLn,inRng,lo,hi,maxLen,true_and,and_true] at hln
 first|refine fn_goal (w_head ?_)
 intro Kz kz;(conv=>whnf);(try dsimp+instances only);refine kz _ ?_;clear kz Kz;(conv=>(arg 2;whnf))
 repeat' (first|refine an ?_ ?_|((try refine gm ?_);first|((with_reducible show Kz _);(try dsimp+instances only);(with_reducible refine kz _ ?_);clear kz Kz)|refine st ?_|(refine sr ?_;intro Kz kz;conv=>whnf)|(refine cd ?_;(conv=>arg 2;whnf);refine st ?_)|refine blockK_y (by rfl) ?_|(refine sw ?_;conv=>whnf))|(refine gm ?_;conv=>whnf)|(intro hc;(try dsimp+instances only[Dat,SDat,dflt,Ty.size,keepS,bkUpd,Gv.bk,backS,wayA,maxI,minI,negI]at hc);try simp only[LS]at hc))
 all_goals (try ((fail_if_success refine nl ?_);(try dsimp only[Dat,SDat,dflt,Ty.size,keepS,bkUpd,Gv.bk,backS,wayA,maxI,minI,negI]);(try simp only[LS]);first|done|exact dsc|((try simp only[allP,lo,hi,room,true_and,and_true,implies_true]);(repeat' (first|refine an ?_ ?_|((with_reducible refine preA_t ?_ ?_);rotate_left;exact sameP_t)|intro hv))<;>(try omega))))
 refine w_loop [(8, .d tInt)] [] (fun y=>∃ k:Nat,y.1.1=(k:Int)∧k≤s.length∧∀ x∈s.take k,(fun (_:Unit) (x:Pw)=>decide (100<x.2.1)) ⟨⟩ x=false) (fun y=>s.length - y.1.1.toNat) ?_
 conv=>whnf
 refine And.intro ?_ ?_
 · exact ⟨0,by simp⟩
 rintro ⟨⟨_,⟨⟩⟩,⟨⟩⟩ ⟨k,rfl,hk,hj⟩
 repeat' (first|refine an ?_ ?_|((try refine gm ?_);first|((with_reducible show Kz _);(try dsimp+instances only);(with_reducible refine kz _ ?_);clear kz Kz)|refine st ?_|(refine sr ?_;intro Kz kz;conv=>whnf)|(refine cd ?_;(conv=>arg 2;whnf);refine st ?_)|refine blockK_y (by rfl) ?_|(refine sw ?_;conv=>whnf))|(refine gm ?_;conv=>whnf)|(intro hc;(try dsimp+instances only[Dat,SDat,dflt,Ty.size,keepS,bkUpd,Gv.bk,backS,wayA,maxI,minI,negI]at hc);try simp only[LS]at hc))
 all_goals (try ((fail_if_success refine nl ?_);(try dsimp only[Dat,SDat,dflt,Ty.size,keepS,bkUpd,Gv.bk,backS,wayA,maxI,minI,negI]);(try simp only[LS]);first|done|exact dsc|((try simp only[allP,lo,hi,room,true_and,and_true,implies_true]);(repeat' (first|refine an ?_ ?_|((with_reducible refine preA_t ?_ ?_);rotate_left;exact sameP_t)|intro hv))<;>(try omega))))
 · exact (findI_hit (d:=((0,0,()):Pw)) hj (by omega) (by first|exact hc|(simpa using hc)|(simp at hc ⊢;grind))).symm
 · refine ⟨k+1,by omega,by omega,fun x hx=>?_⟩
   have hst:=all_step (p:=fun x=>(fun (_:Unit) (x:Pw)=>decide (100<x.2.1)) ⟨⟩ x=false) (d:=((0,0,()):Pw)) hj (by omega) (by first|exact hc|(simpa using hc)|(simp at hc ⊢;grind)) x hx
   first|exact hst|simpa using hst|(simp at hst ⊢;grind)
 · exact (findI_miss hj (by omega)).symm
theorem ok_idx_result_1:SpecOK SP glob fi_z120 S_idx_result_1:=mk_ok (c:=c_idx_result_1) (tab_ok _) mix_ok wf_z120 (by decide) (.cons ok_z73 .nil) (fun x hx=>Nat.zero_lt_one) g_idx_result_1
@[reducible] noncomputable def S_con_result_1:Spec:={ ins:=(.cons (.d (.sl tPw)) (.cons (.clos fi_z73 .nil) .nil)),pre:=fun _=>True,alts:=[{ outs:=(.cons (.d .bool) .nil),res:=(fun x=>(fun s c=>(s.any (fun k=>(fun (_:Unit) (x:Pw)=>decide (100<x.2.1)) c k),())) x.1 x.2.1)}]}
noncomputable def c_con_result_1:Cf:=(cf_z116 (Fl [(fi_z120,S_idx_result_1)]))
theorem g_con_result_1:∀ x,S_con_result_1.pre x→shOK S_con_result_1.ins x→fnGoal c_con_result_1 fn_z116 S_con_result_1 x:=by
 rintro ⟨s,⟨⟩,⟨⟩⟩ hpre hok
 clear hpre
 have hln:=shLn_of _ hok;replace hok:=Hd.mk hok;try simp only [shLn,datLn,inRng,lo,hi,maxLen,true_and,and_true] at hln
 first|refine fn_goal (w_head ?_)
 intro Kz kz;(conv=>whnf);(try dsimp+instances only);refine kz _ ?_;clear kz Kz;(conv=>(arg 2;whnf))
 repeat' (first|refine an ?_ ?_|((try refine gm ?_);first|((with_reducible show Kz _);(try dsimp+instances only);(with_reducible refine kz _ ?_);clear kz Kz)|refine st ?_|(refine sr ?_;intro Kz kz;conv=>whnf)|(refine cd ?_;(conv=>arg 2;whnf);refine st ?_)|refine blockK_y (by rfl) ?_|(refine sw ?_;conv=>whnf))|(refine gm ?_;conv=>whnf)|(intro hc;(try dsimp+instances only[Dat,SDat,dflt,Ty.size,keepS,bkUpd,Gv.bk,backS,wayA,maxI,minI,negI]at hc);try simp only[LS]at hc))
 all_goals (try ((fail_if_success refine nl ?_);(try dsimp only[Dat,SDat,dflt,Ty.size,keepS,bkUpd,Gv.bk,backS,wayA,maxI,minI,negI]);(try simp only[LS]);first|done|exact dsc|((try simp only[allP,lo,hi,room,true_and,and_true,implies_true]);(repeat' (first|refine an ?_ ?_|((with_reducible refine preA_t ?_ ?_);rotate_left;exact sameP_t)|intro hv))<;>(try omega))))
 · rw [boolOf_eq,Bool.eq_iff_iff,decide_eq_true_eq];exact findI_ge
theorem ok_con_result_1:SpecOK SP glob fi_z116 S_con_result_1:=mk_ok (c:=c_con_result_1) (tab_ok _) mix_ok wf_z116 (by decide) (.cons ok_idx_result_1 .nil) (fun x hx=>Nat.zero_lt_one) g_con_result_1
@[reducible] noncomputable def S_z74:Spec:={ ins:=(.cons (.d tMo) (.cons (.d tMo) .nil)),pre:=fun _=>True,alts:=[{ outs:=(.cons (.d tInt) .nil),res:=(fun x=>(fun a b=>(cmpP a.2.1 b.2.1,())) x.1 x.2.1)}]}
noncomputable def c_z74:Cf:=(cf_z74 (Fl [(fi_z69,S_z69)]))
theorem g_z74:∀ x,S_z74.pre x→shOK S_z74.ins x→fnGoal c_z74 fn_z74 S_z74 x:=by
 rintro ⟨a,b,⟨⟩⟩ hpre hok
 clear hpre
 have hln:=shLn_of _ hok;replace hok:=Hd.mk hok;try simp only [shLn,datLn,inRng,lo,hi,maxLen,true_and,and_true] at hln
 first|refine fn_goal (w_head ?_)
 intro Kz kz;(conv=>whnf);(try dsimp+instances only);refine kz _ ?_;clear kz Kz;(conv=>(arg 2;whnf))
 repeat' (first|refine an ?_ ?_|((try refine gm ?_);first|((with_reducible show Kz _);(try dsimp+instances only);(with_reducible refine kz _ ?_);clear kz Kz)|refine st ?_|(refine sr ?_;intro Kz kz;conv=>whnf)|(refine cd ?_;(conv=>arg 2;whnf);refine st ?_)|refine blockK_y (by rfl) ?_|(refine sw ?_;conv=>whnf))|(refine gm ?_;conv=>whnf)|(intro hc;(try dsimp+instances only[Dat,SDat,dflt,Ty.size,keepS,bkUpd,Gv.bk,backS,wayA,maxI,minI,negI]at hc);try simp only[LS]at hc))
 all_goals (try ((fail_if_success refine nl ?_);(try dsimp only[Dat,SDat,dflt,Ty.size,keepS,bkUpd,Gv.bk,backS,wayA,maxI,minI,negI]);(try simp only[LS]);first|done|exact dsc|((try simp only[allP,lo,hi,room,true_and,and_true,implies_true]);(repeat' (first|refine an ?_ ?_|((with_reducible refine preA_t ?_ ?_);rotate_left;exact sameP_t)|intro hv))<;>(try omega))))
theorem ok_z74:SpecOK SP glob fi_z74 S_z74:=mk_ok (c:=c_z74) (tab_ok _) mix_ok wf_z74 (by decide) (.cons ok_z69 .nil) (fun x hx=>Nat.zero_lt_one) g_z74
end Go.Gv
