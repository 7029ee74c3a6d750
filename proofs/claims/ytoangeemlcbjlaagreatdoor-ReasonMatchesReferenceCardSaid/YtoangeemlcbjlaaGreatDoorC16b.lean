/- Chapter 16: the program's circuits. -/
import Derived.Test.YtoangeemlcbjlaaGreatDoorGg
import Derived.Test.YtoangeemlcbjlaaGreatDoorC16
import Derived.Test.YtoangeemlcbjlaaGreatDoorN10
import Derived.Test.YtoangeemlcbjlaaGreatDoorFI
set_option linter.all false
namespace Go.Gv
open Go Go.Proofs Go.Proofs.YtoangeemlcbjlaaGreatDoor
set_option maxRecDepth 100000
set_option maxHeartbeats 4000000
@[reducible] noncomputable def S_z9:Spec:={ ins:=(.cons (.d tInt) .nil),pre:=fun _=>True,alts:=[{ outs:=(.cons (.d .bool) .nil),res:=(fun x=>(fun k=>(decide (inner k),())) x.1)}]}
noncomputable def c_z9:Cf:=(cf_z9 (Fl []))
theorem g_z9:∀ x,S_z9.pre x→shOK S_z9.ins x→fnGoal c_z9 fn_z9 S_z9 x:=by
 rintro ⟨k,⟨⟩⟩ hpre hok
 clear hpre
 have hln:=shLn_of _ hok;replace hok:=Hd.mk hok;try simp only [shLn,datLn,inRng,lo,hi,maxLen,true_and,and_true] at hln
 first|refine fn_goal (w_head ?_)
 intro Kz kz;(conv=>whnf);(try dsimp+instances only);refine kz _ ?_;clear kz Kz;(conv=>(arg 2;whnf))
 repeat' (first|refine an ?_ ?_|((try refine gm ?_);first|((with_reducible show Kz _);(try dsimp+instances only);(with_reducible refine kz _ ?_);clear kz Kz)|refine st ?_|(refine sr ?_;intro Kz kz;conv=>whnf)|(refine cd ?_;(conv=>arg 2;whnf);refine st ?_)|refine blockK_y (by rfl) ?_|(refine sw ?_;conv=>whnf))|(refine gm ?_;conv=>whnf)|(intro hc;(try dsimp+instances only[Dat,SDat,dflt,Ty.size,keepS,bkUpd,Gv.bk,backS,wayA,maxI,minI,negI]at hc);try simp only[LS]at hc))
 all_goals (try ((fail_if_success refine nl ?_);(try dsimp only[Dat,SDat,dflt,Ty.size,keepS,bkUpd,Gv.bk,backS,wayA,maxI,minI,negI]);(try simp only[LS]);first|done|exact dsc|((try simp only[allP,lo,hi,room,true_and,and_true,implies_true]);(repeat' (first|refine an ?_ ?_|((with_reducible refine preA_t ?_ ?_);rotate_left;exact sameP_t)|intro hv))<;>(try omega))))
theorem ok_z9:SpecOK SP glob fi_z9 S_z9:=mk_ok (c:=c_z9) (tab_ok _) mix_ok wf_z9 (by decide) .nil (fun x hx=>Nat.zero_lt_one) g_z9
@[reducible] noncomputable def S_z8:Spec:={ ins:=(.cons (.d tInt) (.cons (.d (.pt tInt)) .nil)),pre:=(fun x=>(fun k n=>n.isSome=true) x.1 x.2.1),alts:=[{ outs:=(.cons (.d .bool) .nil),res:=(fun x=>(fun k n=>(decide (k<0∨n.getD 0≤k),())) x.1 x.2.1)}]}
noncomputable def c_z8:Cf:=(cf_z8 (Fl []))
theorem g_z8:∀ x,S_z8.pre x→shOK S_z8.ins x→fnGoal c_z8 fn_z8 S_z8 x:=by
 rintro ⟨k,n,⟨⟩⟩ hpre hok
 try dsimp only [Dat,SDat,dflt,Ty.size,keepS,bkUpd,Gv.bk,backS,wayA,maxI,minI,negI] at hpre
 have hln:=shLn_of _ hok;replace hok:=Hd.mk hok;try simp only [shLn,datLn,inRng,lo,hi,maxLen,true_and,and_true] at hln
 obtain ⟨n,rfl⟩:=Option.isSome_iff_exists.1 hpre
 first|refine fn_goal (w_head ?_)
 intro Kz kz;(conv=>whnf);(try dsimp+instances only);refine kz _ ?_;clear kz Kz;(conv=>(arg 2;whnf))
 repeat' (first|refine an ?_ ?_|((try refine gm ?_);first|((with_reducible show Kz _);(try dsimp+instances only);(with_reducible refine kz _ ?_);clear kz Kz)|refine st ?_|(refine sr ?_;intro Kz kz;conv=>whnf)|(refine cd ?_;(conv=>arg 2;whnf);refine st ?_)|refine blockK_y (by rfl) ?_|(refine sw ?_;conv=>whnf))|(refine gm ?_;conv=>whnf)|(intro hc;(try dsimp+instances only[Dat,SDat,dflt,Ty.size,keepS,bkUpd,Gv.bk,backS,wayA,maxI,minI,negI]at hc);try simp only[LS]at hc))
 all_goals (try ((fail_if_success refine nl ?_);(try dsimp only[Dat,SDat,dflt,Ty.size,keepS,bkUpd,Gv.bk,backS,wayA,maxI,minI,negI]);(try simp only[LS]);first|done|exact dsc|((try simp only[allP,lo,hi,room,true_and,and_true,implies_true]);(repeat' (first|refine an ?_ ?_|((with_reducible refine preA_t ?_ ?_);rotate_left;exact sameP_t)|intro hv))<;>(try omega))))
theorem ok_z8:SpecOK SP glob fi_z8 S_z8:=mk_ok (c:=c_z8) (tab_ok _) mix_ok wf_z8 (by decide) .nil (fun x hx=>Nat.zero_lt_one) g_z8
@[reducible] noncomputable def S_idx_formed_1:Spec:={ ins:=(.cons (.d (.sl tInt)) (.cons (.clos fi_z8 (.cons (.d (.pt tInt)) .nil)) .nil)),pre:=(fun x=>(fun s c=>∀ k∈s,(fun (c:Option Int × Unit) _=>c.1.isSome=true) c k) x.1 x.2.1),alts:=[{ outs:=(.cons (.d tInt) .nil),res:=(fun x=>(fun s c=>(findI (fun k=>(fun (c:Option Int × Unit) (k:Int)=>decide (k<0∨c.1.getD 0≤k)) c k) s,())) x.1 x.2.1)}]}
noncomputable def c_idx_formed_1:Cf:=(cf_z94 (Fl [(fi_z8,S_z8)]))
theorem g_idx_formed_1:∀ x,S_idx_formed_1.pre x→shOK S_idx_formed_1.ins x→fnGoal c_idx_formed_1 fn_z94 S_idx_formed_1 x:=by
 rintro ⟨s,⟨n,⟨⟩⟩,⟨⟩⟩ hpre hok
 try dsimp only [Dat,SDat,dflt,Ty.size,keepS,bkUpd,Gv.bk,backS,wayA,maxI,minI,negI] at hpre
 have hln:=shLn_of _ hok;replace hok:=Hd.mk hok;try simp only [shLn,datLn,inRng,lo,hi,maxLen,true_and,and_true] at hln
 first|refine fn_goal (w_head ?_)
 intro Kz kz;(conv=>whnf);(try dsimp+instances only);refine kz _ ?_;clear kz Kz;(conv=>(arg 2;whnf))
 repeat' (first|refine an ?_ ?_|((try refine gm ?_);first|((with_reducible show Kz _);(try dsimp+instances only);(with_reducible refine kz _ ?_);clear kz Kz)|refine st ?_|(refine sr ?_;intro Kz kz;conv=>whnf)|(refine cd ?_;(conv=>arg 2;whnf);refine st ?_)|refine blockK_y (by rfl) ?_|(refine sw ?_;conv=>whnf))|(refine gm ?_;conv=>whnf)|(intro hc;(try dsimp+instances only[Dat,SDat,dflt,Ty.size,keepS,bkUpd,Gv.bk,backS,wayA,maxI,minI,negI]at hc);try simp only[LS]at hc))
 all_goals (try ((fail_if_success refine nl ?_);(try dsimp only[Dat,SDat,dflt,Ty.size,keepS,bkUpd,Gv.bk,backS,wayA,maxI,minI,negI]);(try simp only[LS]);first|done|exact dsc|((try simp only[allP,lo,hi,room,true_and,and_true,implies_true]);(repeat' (first|refine an ?_ ?_|((with_reducible refine preA_t ?_ ?_);rotate_left;exact sameP_t)|intro hv))<;>(try omega))))
 refine w_loop [(8, .d tInt)] [] (fun y=>∃ k:Nat,y.1.1=(k:Int)∧k≤s.length∧∀ x∈s.take k,(fun (c:Option Int × Unit) (k:Int)=>decide (k<0∨c.1.getD 0≤k)) ⟨n,⟨⟩⟩ x=false) (fun y=>s.length - y.1.1.toNat) ?_
 conv=>whnf
 refine And.intro ?_ ?_
 · exact ⟨0,by simp⟩
 rintro ⟨⟨_,⟨⟩⟩,⟨⟩⟩ ⟨k,rfl,hk,hj⟩
 repeat' (first|refine an ?_ ?_|((try refine gm ?_);first|((with_reducible show Kz _);(try dsimp+instances only);(with_reducible refine kz _ ?_);clear kz Kz)|refine st ?_|(refine sr ?_;intro Kz kz;conv=>whnf)|(refine cd ?_;(conv=>arg 2;whnf);refine st ?_)|refine blockK_y (by rfl) ?_|(refine sw ?_;conv=>whnf))|(refine gm ?_;conv=>whnf)|(intro hc;(try dsimp+instances only[Dat,SDat,dflt,Ty.size,keepS,bkUpd,Gv.bk,backS,wayA,maxI,minI,negI]at hc);try simp only[LS]at hc))
 all_goals (try ((fail_if_success refine nl ?_);(try dsimp only[Dat,SDat,dflt,Ty.size,keepS,bkUpd,Gv.bk,backS,wayA,maxI,minI,negI]);(try simp only[LS]);first|done|exact dsc|((try simp only[allP,lo,hi,room,true_and,and_true,implies_true]);(repeat' (first|refine an ?_ ?_|((with_reducible refine preA_t ?_ ?_);rotate_left;exact sameP_t)|intro hv))<;>(try omega))))
 · exact hpre _ (getD_mem (l:=s) (d:=0) (k:=k) (by omega))
 · exact (findI_hit (d:=0) hj (by omega) (by first|exact hc|(simpa using hc)|(simp at hc ⊢;grind))).symm
 · refine ⟨k+1,by omega,by omega,fun x hx=>?_⟩
   have hst:=all_step (p:=fun x=>(fun (c:Option Int × Unit) (k:Int)=>decide (k<0∨c.1.getD 0≤k)) ⟨n,⟨⟩⟩ x=false) (d:=0) hj (by omega) (by first|exact hc|(simpa using hc)|(simp at hc ⊢;grind)) x hx
   first|exact hst|simpa using hst|(simp at hst ⊢;grind)
 · exact (findI_miss hj (by omega)).symm
theorem ok_idx_formed_1:SpecOK SP glob fi_z94 S_idx_formed_1:=mk_ok (c:=c_idx_formed_1) (tab_ok _) mix_ok wf_z94 (by decide) (.cons ok_z8 .nil) (fun x hx=>Nat.zero_lt_one) g_idx_formed_1
@[reducible] noncomputable def S_con_formed_1:Spec:={ ins:=(.cons (.d (.sl tInt)) (.cons (.clos fi_z8 (.cons (.d (.pt tInt)) .nil)) .nil)),pre:=(fun x=>(fun s c=>∀ k∈s,(fun (c:Option Int × Unit) _=>c.1.isSome=true) c k) x.1 x.2.1),alts:=[{ outs:=(.cons (.d .bool) .nil),res:=(fun x=>(fun s c=>(s.any (fun k=>(fun (c:Option Int × Unit) (k:Int)=>decide (k<0∨c.1.getD 0≤k)) c k),())) x.1 x.2.1)}]}
noncomputable def c_con_formed_1:Cf:=(cf_z90 (Fl [(fi_z94,S_idx_formed_1)]))
theorem g_con_formed_1:∀ x,S_con_formed_1.pre x→shOK S_con_formed_1.ins x→fnGoal c_con_formed_1 fn_z90 S_con_formed_1 x:=by
 rintro ⟨s,⟨n,⟨⟩⟩,⟨⟩⟩ hpre hok
 try dsimp only [Dat,SDat,dflt,Ty.size,keepS,bkUpd,Gv.bk,backS,wayA,maxI,minI,negI] at hpre
 have hln:=shLn_of _ hok;replace hok:=Hd.mk hok;try simp only [shLn,datLn,inRng,lo,hi,maxLen,true_and,and_true] at hln
 first|refine fn_goal (w_head ?_)
 intro Kz kz;(conv=>whnf);(try dsimp+instances only);refine kz _ ?_;clear kz Kz;(conv=>(arg 2;whnf))
 repeat' (first|refine an ?_ ?_|((try refine gm ?_);first|((with_reducible show Kz _);(try dsimp+instances only);(with_reducible refine kz _ ?_);clear kz Kz)|refine st ?_|(refine sr ?_;intro Kz kz;conv=>whnf)|(refine cd ?_;(conv=>arg 2;whnf);refine st ?_)|refine blockK_y (by rfl) ?_|(refine sw ?_;conv=>whnf))|(refine gm ?_;conv=>whnf)|(intro hc;(try dsimp+instances only[Dat,SDat,dflt,Ty.size,keepS,bkUpd,Gv.bk,backS,wayA,maxI,minI,negI]at hc);try simp only[LS]at hc))
 all_goals (try ((fail_if_success refine nl ?_);(try dsimp only[Dat,SDat,dflt,Ty.size,keepS,bkUpd,Gv.bk,backS,wayA,maxI,minI,negI]);(try simp only[LS]);first|done|exact dsc|((try simp only[allP,lo,hi,room,true_and,and_true,implies_true]);(repeat' (first|refine an ?_ ?_|((with_reducible refine preA_t ?_ ?_);rotate_left;exact sameP_t)|intro hv))<;>(try omega))))
 · exact hpre _ (by assumption)
 · rw [boolOf_eq,Bool.eq_iff_iff,decide_eq_true_eq];exact findI_ge
theorem ok_con_formed_1:SpecOK SP glob fi_z90 S_con_formed_1:=mk_ok (c:=c_con_formed_1) (tab_ok _) mix_ok wf_z90 (by decide) (.cons ok_idx_formed_1 .nil) (fun x hx=>Nat.zero_lt_one) g_con_formed_1
@[reducible] noncomputable def S_z7:Spec:={ ins:=(.cons (.d tGate) (.cons (.d tInt) .nil)),pre:=fun _=>True,alts:=[{ outs:=(.cons (.d .bool) .nil),res:=(fun x=>(fun g n=>(boolOf (formed g n),())) x.1 x.2.1)}]}
noncomputable def c_z7:Cf:=(cf_z7 (Fl [(fi_z9,S_z9),(fi_z90,S_con_formed_1)]))
theorem g_z7:∀ x,S_z7.pre x→shOK S_z7.ins x→fnGoal c_z7 fn_z7 S_z7 x:=by
 rintro ⟨⟨gk,gv,kids,⟨⟩⟩,n,⟨⟩⟩ hpre hok
 clear hpre
 have hln:=shLn_of _ hok;replace hok:=Hd.mk hok;try simp only [shLn,datLn,inRng,lo,hi,maxLen,true_and,and_true] at hln
 have ha:(kids.any fun k=>decide (k<0∨n≤k))=false↔kidsIn kids n:=by
  simp [kidsIn]
 first|refine fn_goal (w_head ?_)
 intro Kz kz;(conv=>whnf);(try dsimp+instances only);refine kz _ ?_;clear kz Kz;(conv=>(arg 2;whnf))
 repeat' (first|refine an ?_ ?_|((try refine gm ?_);first|((with_reducible show Kz _);(try dsimp+instances only);(with_reducible refine kz _ ?_);clear kz Kz)|refine st ?_|(refine sr ?_;intro Kz kz;conv=>whnf)|(refine cd ?_;(conv=>arg 2;whnf);refine st ?_)|refine blockK_y (by rfl) ?_|(refine sw ?_;conv=>whnf))|(refine gm ?_;conv=>whnf)|(intro hc;(try dsimp+instances only[Dat,SDat,dflt,Ty.size,keepS,bkUpd,Gv.bk,backS,wayA,maxI,minI,negI]at hc);try simp only[LS]at hc))
 all_goals (try ((fail_if_success refine nl ?_);(try dsimp only[Dat,SDat,dflt,Ty.size,keepS,bkUpd,Gv.bk,backS,wayA,maxI,minI,negI]);(try simp only[LS]);first|done|exact dsc|((try simp only[allP,lo,hi,room,true_and,and_true,implies_true]);(repeat' (first|refine an ?_ ?_|((with_reducible refine preA_t ?_ ?_);rotate_left;exact sameP_t)|intro hv))<;>(try omega))))
 · refine bF fun h=>?_
   have h2:=ha.2 h.1
   have hc:(kids.any fun k=>decide (k<0∨n≤k))=true:=hc
   rw [h2] at hc;cases hc
 all_goals refine bC ?_
 all_goals have hin:kidsIn kids n:=ha.1 (by assumption)
 all_goals (clear ha;simp only [formed,hin,inner,List.length_eq_zero_iff,Int.natCast_eq_zero];grind)
theorem ok_z7:SpecOK SP glob fi_z7 S_z7:=mk_ok (c:=c_z7) (tab_ok _) mix_ok wf_z7 (by decide) (.cons ok_z9 (.cons ok_con_formed_1 .nil)) (fun x hx=>Nat.zero_lt_one) g_z7
@[reducible] noncomputable def S_z10:Spec:={ ins:=(.cons (.d tInt) (.cons (.d tInt) .nil)),pre:=fun _=>True,alts:=[{ outs:=(.cons (.d .bool) .nil),res:=(fun x=>(fun a b=>(decide (b≠0∧(b≠1∨a=3)),())) x.1 x.2.1)}]}
noncomputable def c_z10:Cf:=(cf_z10 (Fl []))
theorem g_z10:∀ x,S_z10.pre x→shOK S_z10.ins x→fnGoal c_z10 fn_z10 S_z10 x:=by
 rintro ⟨a,b,⟨⟩⟩ hpre hok
 clear hpre
 have hln:=shLn_of _ hok;replace hok:=Hd.mk hok;try simp only [shLn,datLn,inRng,lo,hi,maxLen,true_and,and_true] at hln
 first|refine fn_goal (w_head ?_)
 intro Kz kz;(conv=>whnf);(try dsimp+instances only);refine kz _ ?_;clear kz Kz;(conv=>(arg 2;whnf))
 repeat' (first|refine an ?_ ?_|((try refine gm ?_);first|((with_reducible show Kz _);(try dsimp+instances only);(with_reducible refine kz _ ?_);clear kz Kz)|refine st ?_|(refine sr ?_;intro Kz kz;conv=>whnf)|(refine cd ?_;(conv=>arg 2;whnf);refine st ?_)|refine blockK_y (by rfl) ?_|(refine sw ?_;conv=>whnf))|(refine gm ?_;conv=>whnf)|(intro hc;(try dsimp+instances only[Dat,SDat,dflt,Ty.size,keepS,bkUpd,Gv.bk,backS,wayA,maxI,minI,negI]at hc);try simp only[LS]at hc))
 all_goals (try ((fail_if_success refine nl ?_);(try dsimp only[Dat,SDat,dflt,Ty.size,keepS,bkUpd,Gv.bk,backS,wayA,maxI,minI,negI]);(try simp only[LS]);first|done|exact dsc|((try simp only[allP,lo,hi,room,true_and,and_true,implies_true]);(repeat' (first|refine an ?_ ?_|((with_reducible refine preA_t ?_ ?_);rotate_left;exact sameP_t)|intro hv))<;>(try omega))))
theorem ok_z10:SpecOK SP glob fi_z10 S_z10:=mk_ok (c:=c_z10) (tab_ok _) mix_ok wf_z10 (by decide) .nil (fun x hx=>Nat.zero_lt_one) g_z10
@[reducible] noncomputable def S_z13:Spec:={ ins:=(.cons (.d tInt) (.cons (.box (.cons (.d tInt) (.cons (.d tInt) (.cons (.d (.sl tInt)) .nil)))) (.cons (.d (.pt tCirc)) .nil))),pre:=(fun x=>(fun k g c=>∃ gs,c=some (gs,())∧0≤k∧k<gs.length) x.1 x.2.1 x.2.2.1),alts:=[{ outs:=(.cons (.d .bool) .nil),res:=(fun x=>(fun k g c=>(decide (¬ (kindAt (c.getD ([],())).1 k≠0∧(kindAt (c.getD ([],())).1 k≠1∨g.1=3))),())) x.1 x.2.1 x.2.2.1)}],ro:=true}
noncomputable def c_z13:Cf:=(cf_z13 (Fl [(fi_z10,S_z10)]))
theorem g_z13:∀ x,S_z13.pre x→shOK S_z13.ins x→fnGoal c_z13 fn_z13 S_z13 x:=by
 rintro ⟨k,⟨gk,gv,gkids,⟨⟩⟩,c,⟨⟩⟩ hpre hok
 try dsimp only [Dat,SDat,dflt,Ty.size,keepS,bkUpd,Gv.bk,backS,wayA,maxI,minI,negI] at hpre
 have hln:=shLn_of _ hok;replace hok:=Hd.mk hok;try simp only [shLn,datLn,inRng,lo,hi,maxLen,true_and,and_true] at hln
 obtain ⟨gs,rfl,hk0,hk1⟩:=hpre
 first|refine fn_goal (w_head ?_)
 intro Kz kz;(conv=>whnf);(try dsimp+instances only);refine kz _ ?_;clear kz Kz;(conv=>(arg 2;whnf))
 repeat' (first|refine an ?_ ?_|((try refine gm ?_);first|((with_reducible show Kz _);(try dsimp+instances only);(with_reducible refine kz _ ?_);clear kz Kz)|refine st ?_|(refine sr ?_;intro Kz kz;conv=>whnf)|(refine cd ?_;(conv=>arg 2;whnf);refine st ?_)|refine blockK_y (by rfl) ?_|(refine sw ?_;conv=>whnf))|(refine gm ?_;conv=>whnf)|(intro hc;(try dsimp+instances only[Dat,SDat,dflt,Ty.size,keepS,bkUpd,Gv.bk,backS,wayA,maxI,minI,negI]at hc);try simp only[LS]at hc))
 all_goals (try ((fail_if_success refine nl ?_);(try dsimp only[Dat,SDat,dflt,Ty.size,keepS,bkUpd,Gv.bk,backS,wayA,maxI,minI,negI]);(try simp only[LS]);first|done|exact dsc|((try simp only[allP,lo,hi,room,true_and,and_true,implies_true]);(repeat' (first|refine an ?_ ?_|((with_reducible refine preA_t ?_ ?_);rotate_left;exact sameP_t)|intro hv))<;>(try omega))))
 all_goals (rw [boolOf_eq];simp [kindAt])
theorem ok_z13:SpecOK SP glob fi_z13 S_z13:=mk_ok (c:=c_z13) (tab_ok _) mix_ok wf_z13 (by decide) (.cons ok_z10 .nil) (fun x hx=>Nat.zero_lt_one) g_z13
@[reducible] noncomputable def S_z17:Spec:={ ins:=(.cons (.d tInt) (.cons (.d tInt) .nil)),pre:=fun _=>True,alts:=[{ outs:=(.cons (.d .bool) .nil),res:=(fun x=>(fun x y=>(decide (x<y),())) x.1 x.2.1)}]}
noncomputable def c_z17:Cf:=(cf_z17 (Fl [(fi_z19,S_z19)]))
theorem g_z17:∀ x,S_z17.pre x→shOK S_z17.ins x→fnGoal c_z17 fn_z17 S_z17 x:=by
 rintro ⟨x,y,⟨⟩⟩ hpre hok
 clear hpre
 have hln:=shLn_of _ hok;replace hok:=Hd.mk hok;try simp only [shLn,datLn,inRng,lo,hi,maxLen,true_and,and_true] at hln
 first|refine fn_goal (w_head ?_)
 intro Kz kz;(conv=>whnf);(try dsimp+instances only);refine kz _ ?_;clear kz Kz;(conv=>(arg 2;whnf))
 repeat' (first|refine an ?_ ?_|((try refine gm ?_);first|((with_reducible show Kz _);(try dsimp+instances only);(with_reducible refine kz _ ?_);clear kz Kz)|refine st ?_|(refine sr ?_;intro Kz kz;conv=>whnf)|(refine cd ?_;(conv=>arg 2;whnf);refine st ?_)|refine blockK_y (by rfl) ?_|(refine sw ?_;conv=>whnf))|(refine gm ?_;conv=>whnf)|(intro hc;(try dsimp+instances only[Dat,SDat,dflt,Ty.size,keepS,bkUpd,Gv.bk,backS,wayA,maxI,minI,negI]at hc);try simp only[LS]at hc))
 all_goals (try ((fail_if_success refine nl ?_);(try dsimp only[Dat,SDat,dflt,Ty.size,keepS,bkUpd,Gv.bk,backS,wayA,maxI,minI,negI]);(try simp only[LS]);first|done|exact dsc|((try simp only[allP,lo,hi,room,true_and,and_true,implies_true]);(repeat' (first|refine an ?_ ?_|((with_reducible refine preA_t ?_ ?_);rotate_left;exact sameP_t)|intro hv))<;>(try omega))))
 rw [boolOf_eq];simp
theorem ok_z17:SpecOK SP glob fi_z17 S_z17:=mk_ok (c:=c_z17) (tab_ok _) mix_ok wf_z17 (by decide) (.cons ok_z19 .nil) (fun x hx=>Nat.zero_lt_one) g_z17
def Asc (l:List Int):Prop:=∀ j,0<j→j<l.length→l.getD (j - 1) 0≤l.getD j 0
@[reducible] noncomputable def S_z97:Spec:={ ins:=(.cons (.d (.sl tInt)) .nil),pre:=fun _=>True,alts:=[{ outs:=(.cons (.d .bool) .nil),res:=(fun x=>(fun l=>(boolOf (Asc l),())) x.1)}]}
noncomputable def c_z97:Cf:=(cf_z97 (Fl [(fi_z17,S_z17)]))
theorem g_z97:∀ x,S_z97.pre x→shOK S_z97.ins x→fnGoal c_z97 fn_z97 S_z97 x:=by
 rintro ⟨l,⟨⟩⟩ hpre hok
 clear hpre
 have hln:=shLn_of _ hok;replace hok:=Hd.mk hok;try simp only [shLn,datLn,inRng,lo,hi,maxLen,true_and,and_true] at hln
 first|refine fn_goal (w_head ?_)
 intro Kz kz;(conv=>whnf);(try dsimp+instances only);refine kz _ ?_;clear kz Kz;(conv=>(arg 2;whnf))
 repeat' (first|refine an ?_ ?_|((try refine gm ?_);first|((with_reducible show Kz _);(try dsimp+instances only);(with_reducible refine kz _ ?_);clear kz Kz)|refine st ?_|(refine sr ?_;intro Kz kz;conv=>whnf)|(refine cd ?_;(conv=>arg 2;whnf);refine st ?_)|refine blockK_y (by rfl) ?_|(refine sw ?_;conv=>whnf))|(refine gm ?_;conv=>whnf)|(intro hc;(try dsimp+instances only[Dat,SDat,dflt,Ty.size,keepS,bkUpd,Gv.bk,backS,wayA,maxI,minI,negI]at hc);try simp only[LS]at hc))
 all_goals (try ((fail_if_success refine nl ?_);(try dsimp only[Dat,SDat,dflt,Ty.size,keepS,bkUpd,Gv.bk,backS,wayA,maxI,minI,negI]);(try simp only[LS]);first|done|exact dsc|((try simp only[allP,lo,hi,room,true_and,and_true,implies_true]);(repeat' (first|refine an ?_ ?_|((with_reducible refine preA_t ?_ ?_);rotate_left;exact sameP_t)|intro hv))<;>(try omega))))
 refine w_loop [(3, .d tInt)] [] (fun y=>∃ k:Nat,y.1.1=(k:Int) - 1∧k≤l.length∧∀ j,k≤j→0<j→j<l.length→l.getD (j - 1) 0≤l.getD j 0) (fun y=>(y.1.1+1).toNat) ?_
 conv=>whnf
 refine And.intro ?_ ?_
 · exact ⟨l.length,rfl,Nat.le_refl _,fun j h1 h2 h3=>by omega⟩
 rintro ⟨⟨_,⟨⟩⟩,⟨⟩⟩ ⟨k,rfl,hk,hj⟩
 have e1:((k:Int) - 1).toNat=k - 1:=by omega
 have e2:((k:Int) - 1 - 1).toNat=k - 1 - 1:=by omega
 repeat' (first|refine an ?_ ?_|((try refine gm ?_);first|((with_reducible show Kz _);(try dsimp+instances only);(with_reducible refine kz _ ?_);clear kz Kz)|refine st ?_|(refine sr ?_;intro Kz kz;conv=>whnf)|(refine cd ?_;(conv=>arg 2;whnf);refine st ?_)|refine blockK_y (by rfl) ?_|(refine sw ?_;conv=>whnf))|(refine gm ?_;conv=>whnf)|(intro hc;(try dsimp+instances only[Dat,SDat,dflt,Ty.size,keepS,bkUpd,Gv.bk,backS,wayA,maxI,minI,negI]at hc);try simp only[LS]at hc))
 all_goals (try ((fail_if_success refine nl ?_);(try dsimp only[Dat,SDat,dflt,Ty.size,keepS,bkUpd,Gv.bk,backS,wayA,maxI,minI,negI]);(try simp only[LS]);first|done|exact dsc|((try simp only[allP,lo,hi,room,true_and,and_true,implies_true]);(repeat' (first|refine an ?_ ?_|((with_reducible refine preA_t ?_ ?_);rotate_left;exact sameP_t)|intro hv))<;>(try omega))))
 · rw [e1,e2] at hc
   refine bF fun h=>?_
   have:=h (k - 1) (by omega) (by omega)
   omega
 · rw [e1,e2] at hc
   refine ⟨k - 1,by omega,by omega,fun j h1 h2 h3=>?_⟩
   by_cases e:k≤j
   · exact hj j e h2 h3
   · have:j=k - 1:=by omega
     subst this;omega
 · exact bT fun j h1 h2=>hj j (by omega) h1 h2
theorem ok_z97:SpecOK SP glob fi_z97 S_z97:=mk_ok (c:=c_z97) (tab_ok _) mix_ok wf_z97 (by decide) (.cons ok_z17 .nil) (fun x hx=>Nat.zero_lt_one) g_z97
theorem dig_len (n:Int) (h: -9223372036854775808≤n∧n≤9223372036854775807):(dig n).length≤21:=by
 unfold dig;rw [List.length_map];exact Lib.itoa_length_le n h.1 h.2
theorem dig_byte (n:Int):(dig n).map byteOf=Lib.itoa n:=by
 unfold dig
 rw [List.map_map]
 exact List.map_id'' (fun b=>by simp [byteOf]) _
def sepI (l:List Int):List Int:=l.flatMap fun k=>44::dig k
theorem sepI_len:∀ (l:List Int),(∀ n∈l, -9223372036854775808≤n∧n≤9223372036854775807)→(sepI l).length≤22 * l.length
 |[],_=>by simp [sepI]
 |k::l,h=>by
  have h1:=sepI_len l (fun n hn=>h n (List.mem_cons_of_mem _ hn))
  have h2:=dig_len k (h k List.mem_cons_self)
  have:sepI (k::l)=44::(dig k++sepI l):=by simp [sepI]
  rw [this];simp;omega
theorem sepI_snoc (l:List Int) (k:Int):sepI (l++[k])=sepI l++44::dig k:=by simp [sepI]
theorem sepI_byte (l:List Int):(sepI l).map byteOf=sepD 44 l:=by
 induction l with
 |nil=>rfl
 |cons k l ih=>
  have e1:sepI (k::l)=44::(dig k++sepI l):=by simp [sepI]
  have e2:sepD 44 (k::l)=44::(Lib.itoa k++sepD 44 l):=by simp [sepD]
  rw [e1,e2,List.map_cons,List.map_append,dig_byte,ih];rfl
@[reducible] noncomputable def S_z11:Spec:={ ins:=(.cons (.d tGate) .nil),pre:=(fun x=>(fun g=>g.2.2.1.length≤1000000∧0≤g.1∧0≤g.2.1∧∀ k∈g.2.2.1,0≤k) x.1),alts:=[{ outs:=(.cons (.d .str) .nil),res:=(fun x=>(fun g=>(nameD g.1 g.2.1 g.2.2.1,())) x.1)}]}
noncomputable def c_z11:Cf:=(cf_z11 (Fl [(fi_z132,S_z132)]))
theorem g_z11:∀ x,S_z11.pre x→shOK S_z11.ins x→fnGoal c_z11 fn_z11 S_z11 x:=by
 rintro ⟨⟨gk,gv,kids,⟨⟩⟩,⟨⟩⟩ hpre hok
 try dsimp only [Dat,SDat,dflt,Ty.size,keepS,bkUpd,Gv.bk,backS,wayA,maxI,minI,negI] at hpre
 have hln:=shLn_of _ hok;replace hok:=Hd.mk hok;try simp only [shLn,datLn,inRng,lo,hi,maxLen,true_and,and_true] at hln
 have hk1:=dig_len gk (by omega)
 have hk2:=dig_len gv (by omega)
 have hki:=(hok.out.1.2.2.1.2)
 first|refine fn_goal (w_head ?_)
 intro Kz kz;(conv=>whnf);(try dsimp+instances only);refine kz _ ?_;clear kz Kz;(conv=>(arg 2;whnf))
 repeat' (first|refine an ?_ ?_|((try refine gm ?_);first|((with_reducible show Kz _);(try dsimp+instances only);(with_reducible refine kz _ ?_);clear kz Kz)|refine st ?_|(refine sr ?_;intro Kz kz;conv=>whnf)|(refine cd ?_;(conv=>arg 2;whnf);refine st ?_)|refine blockK_y (by rfl) ?_|(refine sw ?_;conv=>whnf))|(refine gm ?_;conv=>whnf)|(intro hc;(try dsimp+instances only[Dat,SDat,dflt,Ty.size,keepS,bkUpd,Gv.bk,backS,wayA,maxI,minI,negI]at hc);try simp only[LS]at hc))
 all_goals (try ((fail_if_success refine nl ?_);(try dsimp only[Dat,SDat,dflt,Ty.size,keepS,bkUpd,Gv.bk,backS,wayA,maxI,minI,negI]);(try simp only[LS]);first|done|exact dsc|((try simp only[allP,lo,hi,room,true_and,and_true,implies_true]);(repeat' (first|refine an ?_ ?_|((with_reducible refine preA_t ?_ ?_);rotate_left;exact sameP_t)|intro hv))<;>(try omega))))
 refine w_loop [(18, .d tInt),(3, .spare (.int .u8))] [] (fun y=>∃ k:Nat,y.1.1=(k:Int)∧k≤kids.length∧y.1.2.1=dig gk++[46]++dig gv++sepI (kids.take k)) (fun y=>kids.length - y.1.1.toNat) ?_
 conv=>whnf
 refine And.intro ?_ ?_
 · exact ⟨0,rfl,Nat.zero_le _,by simp [sepI]⟩
 rintro ⟨⟨_,_,⟨⟩⟩,⟨⟩⟩ ⟨k,rfl,hk,rfl⟩
 have hsl:=sepI_len (kids.take k) (fun n hn=>hki n (List.mem_of_mem_take hn))
 have htl:(kids.take k).length≤k:=List.length_take_le _ _
 repeat' (first|refine an ?_ ?_|((try refine gm ?_);first|((with_reducible show Kz _);(try dsimp+instances only);(with_reducible refine kz _ ?_);clear kz Kz)|refine st ?_|(refine sr ?_;intro Kz kz;conv=>whnf)|(refine cd ?_;(conv=>arg 2;whnf);refine st ?_)|refine blockK_y (by rfl) ?_|(refine sw ?_;conv=>whnf))|(refine gm ?_;conv=>whnf)|(intro hc;(try dsimp+instances only[Dat,SDat,dflt,Ty.size,keepS,bkUpd,Gv.bk,backS,wayA,maxI,minI,negI]at hc);try simp only[LS]at hc))
 all_goals (try ((fail_if_success refine nl ?_);(try dsimp only[Dat,SDat,dflt,Ty.size,keepS,bkUpd,Gv.bk,backS,wayA,maxI,minI,negI]);(try simp only[LS]);first|done|exact dsc|((try simp only[allP,lo,hi,room,true_and,and_true,implies_true]);(repeat' (first|refine an ?_ ?_|((with_reducible refine preA_t ?_ ?_);rotate_left;exact sameP_t)|intro hv))<;>(try omega))))
 all_goals (try ((fail_if_success refine nl ?_);exact hpre.2.2.2 _ (getD_mem (by omega))))
 · refine ⟨k+1,by omega,by omega,?_⟩
   rw [List.take_succ_eq_append_getElem (by omega),sepI_snoc,getD_ok 0 (by omega)]
   simp
 · rw [List.take_of_length_le (by omega)]
   simp only [List.map_append,dig_byte,sepI_byte,nameD]
   simp [byteOf]
theorem ok_z11:SpecOK SP glob fi_z11 S_z11:=mk_ok (c:=c_z11) (tab_ok _) mix_ok wf_z11 (by decide) (.cons ok_z132 .nil) (fun x hx=>Nat.zero_lt_one) g_z11
@[reducible] noncomputable def S_idx_names_1:Spec:={ ins:=(.cons (.d (.sl tInt)) (.cons (.clos fi_z13 (.cons (.box (.cons (.d tInt) (.cons (.d tInt) (.cons (.d (.sl tInt)) .nil)))) (.cons (.d (.pt tCirc)) .nil))) .nil)),pre:=(fun x=>(fun s c=>∀ k∈s,(fun (c:(Int × Int × List Int × Unit) × Option (List Gate × Unit) × Unit) k=>∃ gs:List Gate,c.2.1=some (gs,())∧0≤(k:Int)∧(k:Int)<gs.length) c k) x.1 x.2.1),alts:=[{ outs:=(.cons (.d tInt) .nil),res:=(fun x=>(fun s c=>(findI (fun k=>(fun (c:(Int × Int × List Int × Unit) × Option (List Gate × Unit) × Unit) (k:Int)=>decide (¬ (kindAt (c.2.1.getD ([],())).1 k≠0∧(kindAt (c.2.1.getD ([],())).1 k≠1∨c.1.1=3)))) c k) s,())) x.1 x.2.1)}],ro:=true}
noncomputable def c_idx_names_1:Cf:=(cf_z94 (Fl [(fi_z13,S_z13)]))
theorem g_idx_names_1:∀ x,S_idx_names_1.pre x→shOK S_idx_names_1.ins x→fnGoal c_idx_names_1 fn_z94 S_idx_names_1 x:=by
 rintro ⟨s,⟨⟨gk,gv,gkids,⟨⟩⟩,c,⟨⟩⟩,⟨⟩⟩ hpre hok
 try dsimp only [Dat,SDat,dflt,Ty.size,keepS,bkUpd,Gv.bk,backS,wayA,maxI,minI,negI] at hpre
 have hln:=shLn_of _ hok;replace hok:=Hd.mk hok;try simp only [shLn,datLn,inRng,lo,hi,maxLen,true_and,and_true] at hln
 first|refine fn_goal (w_head ?_)
 intro Kz kz;(conv=>whnf);(try dsimp+instances only);refine kz _ ?_;clear kz Kz;(conv=>(arg 2;whnf))
 repeat' (first|refine an ?_ ?_|((try refine gm ?_);first|((with_reducible show Kz _);(try dsimp+instances only);(with_reducible refine kz _ ?_);clear kz Kz)|refine st ?_|(refine sr ?_;intro Kz kz;conv=>whnf)|(refine cd ?_;(conv=>arg 2;whnf);refine st ?_)|refine blockK_y (by rfl) ?_|(refine sw ?_;conv=>whnf))|(refine gm ?_;conv=>whnf)|(intro hc;(try dsimp+instances only[Dat,SDat,dflt,Ty.size,keepS,bkUpd,Gv.bk,backS,wayA,maxI,minI,negI]at hc);try simp only[LS]at hc))
 all_goals (try ((fail_if_success refine nl ?_);(try dsimp only[Dat,SDat,dflt,Ty.size,keepS,bkUpd,Gv.bk,backS,wayA,maxI,minI,negI]);(try simp only[LS]);first|done|exact dsc|((try simp only[allP,lo,hi,room,true_and,and_true,implies_true]);(repeat' (first|refine an ?_ ?_|((with_reducible refine preA_t ?_ ?_);rotate_left;exact sameP_t)|intro hv))<;>(try omega))))
 refine w_loop [(8, .d tInt)] [] (fun y=>∃ k:Nat,y.1.1=(k:Int)∧k≤s.length∧∀ x∈s.take k,(fun (c:(Int × Int × List Int × Unit) × Option (List Gate × Unit) × Unit) (k:Int)=>decide (¬ (kindAt (c.2.1.getD ([],())).1 k≠0∧(kindAt (c.2.1.getD ([],())).1 k≠1∨c.1.1=3)))) ⟨⟨gk,gv,gkids,⟨⟩⟩,c,⟨⟩⟩ x=false) (fun y=>s.length - y.1.1.toNat) ?_
 conv=>whnf
 refine And.intro ?_ ?_
 · exact ⟨0,by simp⟩
 rintro ⟨⟨_,⟨⟩⟩,⟨⟩⟩ ⟨k,rfl,hk,hj⟩
 repeat' (first|refine an ?_ ?_|((try refine gm ?_);first|((with_reducible show Kz _);(try dsimp+instances only);(with_reducible refine kz _ ?_);clear kz Kz)|refine st ?_|(refine sr ?_;intro Kz kz;conv=>whnf)|(refine cd ?_;(conv=>arg 2;whnf);refine st ?_)|refine blockK_y (by rfl) ?_|(refine sw ?_;conv=>whnf))|(refine gm ?_;conv=>whnf)|(intro hc;(try dsimp+instances only[Dat,SDat,dflt,Ty.size,keepS,bkUpd,Gv.bk,backS,wayA,maxI,minI,negI]at hc);try simp only[LS]at hc))
 all_goals (try ((fail_if_success refine nl ?_);(try dsimp only[Dat,SDat,dflt,Ty.size,keepS,bkUpd,Gv.bk,backS,wayA,maxI,minI,negI]);(try simp only[LS]);first|done|exact dsc|((try simp only[allP,lo,hi,room,true_and,and_true,implies_true]);(repeat' (first|refine an ?_ ?_|((with_reducible refine preA_t ?_ ?_);rotate_left;exact sameP_t)|intro hv))<;>(try omega))))
 · exact hpre _ (getD_mem (l:=s) (d:=0) (k:=k) (by omega))
 · exact (findI_hit (d:=0) hj (by omega) (by first|exact hc|(simpa using hc)|(simp at hc ⊢;grind))).symm
 · refine ⟨k+1,by omega,by omega,fun x hx=>?_⟩
   have hst:=all_step (p:=fun x=>(fun (c:(Int × Int × List Int × Unit) × Option (List Gate × Unit) × Unit) (k:Int)=>decide (¬ (kindAt (c.2.1.getD ([],())).1 k≠0∧(kindAt (c.2.1.getD ([],())).1 k≠1∨c.1.1=3)))) ⟨⟨gk,gv,gkids,⟨⟩⟩,c,⟨⟩⟩ x=false) (d:=0) hj (by omega) (by first|exact hc|(simpa using hc)|(simp at hc ⊢;grind)) x hx
   first|exact hst|simpa using hst|(simp at hst ⊢;grind)
 · exact (findI_miss hj (by omega)).symm
theorem ok_idx_names_1:SpecOK SP glob fi_z94 S_idx_names_1:=mk_ok (c:=c_idx_names_1) (tab_ok _) mix_ok wf_z94 (by decide) (.cons ok_z13 .nil) (fun x hx=>Nat.zero_lt_one) g_idx_names_1
@[reducible] noncomputable def S_con_names_1:Spec:={ ins:=(.cons (.d (.sl tInt)) (.cons (.clos fi_z13 (.cons (.box (.cons (.d tInt) (.cons (.d tInt) (.cons (.d (.sl tInt)) .nil)))) (.cons (.d (.pt tCirc)) .nil))) .nil)),pre:=(fun x=>(fun s c=>∀ k∈s,(fun (c:(Int × Int × List Int × Unit) × Option (List Gate × Unit) × Unit) k=>∃ gs:List Gate,c.2.1=some (gs,())∧0≤(k:Int)∧(k:Int)<gs.length) c k) x.1 x.2.1),alts:=[{ outs:=(.cons (.d .bool) .nil),res:=(fun x=>(fun s c=>(s.any (fun k=>(fun (c:(Int × Int × List Int × Unit) × Option (List Gate × Unit) × Unit) (k:Int)=>decide (¬ (kindAt (c.2.1.getD ([],())).1 k≠0∧(kindAt (c.2.1.getD ([],())).1 k≠1∨c.1.1=3)))) c k),())) x.1 x.2.1)}],ro:=true}
noncomputable def c_con_names_1:Cf:=(cf_z90 (Fl [(fi_z94,S_idx_names_1)]))
theorem g_con_names_1:∀ x,S_con_names_1.pre x→shOK S_con_names_1.ins x→fnGoal c_con_names_1 fn_z90 S_con_names_1 x:=by
 rintro ⟨s,⟨⟨gk,gv,gkids,⟨⟩⟩,c,⟨⟩⟩,⟨⟩⟩ hpre hok
 try dsimp only [Dat,SDat,dflt,Ty.size,keepS,bkUpd,Gv.bk,backS,wayA,maxI,minI,negI] at hpre
 have hln:=shLn_of _ hok;replace hok:=Hd.mk hok;try simp only [shLn,datLn,inRng,lo,hi,maxLen,true_and,and_true] at hln
 first|refine fn_goal (w_head ?_)
 intro Kz kz;(conv=>whnf);(try dsimp+instances only);refine kz _ ?_;clear kz Kz;(conv=>(arg 2;whnf))
 repeat' (first|refine an ?_ ?_|((try refine gm ?_);first|((with_reducible show Kz _);(try dsimp+instances only);(with_reducible refine kz _ ?_);clear kz Kz)|refine st ?_|(refine sr ?_;intro Kz kz;conv=>whnf)|(refine cd ?_;(conv=>arg 2;whnf);refine st ?_)|refine blockK_y (by rfl) ?_|(refine sw ?_;conv=>whnf))|(refine gm ?_;conv=>whnf)|(intro hc;(try dsimp+instances only[Dat,SDat,dflt,Ty.size,keepS,bkUpd,Gv.bk,backS,wayA,maxI,minI,negI]at hc);try simp only[LS]at hc))
 all_goals (try ((fail_if_success refine nl ?_);(try dsimp only[Dat,SDat,dflt,Ty.size,keepS,bkUpd,Gv.bk,backS,wayA,maxI,minI,negI]);(try simp only[LS]);first|done|exact dsc|((try simp only[allP,lo,hi,room,true_and,and_true,implies_true]);(repeat' (first|refine an ?_ ?_|((with_reducible refine preA_t ?_ ?_);rotate_left;exact sameP_t)|intro hv))<;>(try omega))))
 · exact hpre _ (by assumption)
 · rw [boolOf_eq,Bool.eq_iff_iff,decide_eq_true_eq];exact findI_ge
theorem ok_con_names_1:SpecOK SP glob fi_z90 S_con_names_1:=mk_ok (c:=c_con_names_1) (tab_ok _) mix_ok wf_z90 (by decide) (.cons ok_idx_names_1 .nil) (fun x hx=>Nat.zero_lt_one) g_con_names_1
def nmG (g:Gate):List UInt8:=nameD g.1 g.2.1 g.2.2.1
theorem nmG_inj {g h:Gate} (e:nmG g=nmG h):g=h:=by
 obtain ⟨a,b,c,⟨⟩⟩:=g
 obtain ⟨a',b',c',⟨⟩⟩:=h
 obtain ⟨rfl,rfl,rfl⟩:=nameD_inj e
 rfl
def mapN (gs:List Gate) (n:Nat):List (List UInt8 × Int):=(List.range n).map fun i=>(nmG (gs.getD i ((0,0,[],()):Gate)),(i:Int))
theorem mapN_none {gs:List Gate} {n:Nat} {g:Gate}:mget (mapN gs n) (nmG g)=none↔∀ k,k<n→gs.getD k ((0,0,[],()):Gate)≠g:=by
 rw [mget_none]
 constructor
 · intro h k hk e
   exact h (nmG (gs.getD k ((0,0,[],()):Gate)),(k:Int)) (List.mem_map.2 ⟨k,List.mem_range.2 hk,rfl⟩) (by rw [e])
 · rintro h e he
   obtain ⟨k,hk,rfl⟩:=List.mem_map.1 he
   exact fun e=>h k (List.mem_range.1 hk) (nmG_inj e)
theorem mapN_succ (gs:List Gate) (n:Nat):mapN gs (n+1)=mapN gs n++[(nmG (gs.getD n ((0,0,[],()):Gate)),(n:Int))]:=by
 simp [mapN,List.range_succ]
theorem good_iff {gs:List Gate} {n:Nat} {g:Gate} (hn:n≤gs.length):GoodAt gs n g↔formed g n∧(inner g.1→(2≤g.2.2.1.length∧Asc g.2.2.1)∧(g.2.2.1.any fun k=>decide (¬ (¬ kindAt gs k=0∧(¬ kindAt gs k=1∨g.1=3))))=false)∧∀ k,k<n→gs.getD k ((0,0,[],()):Gate)≠g:=by
 have hmem:∀ k∈g.2.2.1,∃ j,j<g.2.2.1.length∧g.2.2.1.getD j 0=k:=fun k hk=>by
  obtain ⟨j,hj,e⟩:=List.getElem_of_mem hk
  exact ⟨j,hj,by rw [getD_ok 0 hj,e]⟩
 constructor
 · rintro ⟨h1,h2,h3,h4⟩
   refine ⟨h1,fun hi=>⟨⟨h2 hi,fun j hj hl=>(h3 j hl).1 hj⟩,?_⟩,h4⟩
   rw [Bool.eq_false_iff]
   intro h
   obtain ⟨k,hk,hd⟩:=List.any_eq_true.1 h
   obtain ⟨j,hj,rfl⟩:=hmem k hk
   obtain ⟨_,k1,k2⟩:=h3 j hj
   refine of_decide_eq_true hd ⟨k1,?_⟩
   unfold inner at hi
   omega
 · rintro ⟨h1,h2,h4⟩
   refine ⟨h1,fun hi=>(h2 hi).1.1,fun j hj=>?_,h4⟩
   have hi:inner g.1:=by
    rcases h1.2 with h|h|h
    · rw [h.2.1] at hj;simp at hj
    · rw [h.2.1] at hj;simp at hj
    · exact h.1
   obtain ⟨⟨_,ha⟩,hk⟩:=h2 hi
   refine ⟨fun h0=>ha j h0 hj,?_⟩
   have:=List.any_eq_false.1 hk _ (getD_mem (d:=0) hj)
   simp only [decide_eq_true_eq,Classical.not_not] at this
   omega
theorem formed_nn {g:Gate} {n:Int} (h:formed g n):0≤g.1∧0≤g.2.1∧∀ k∈g.2.2.1,0≤k:=by
 refine ⟨?_,?_,fun k hk=>(h.1 k hk).1⟩
 · rcases h.2 with h|h|h
   · omega
   · omega
   · have:=h.1;unfold inner at this;omega
 · rcases h.2 with h|h|h<;>omega
@[reducible] noncomputable def S_z12:Spec:={ ins:=(.cons (.d tCirc) .nil),pre:=(fun x=>(fun c=>SmallG c.1) x.1),sel:=(fun x=>(fun c=>selB (boolOf (ValidC c.1))) x.1),alts:=[{ outs:=(.cons (.d (.mp .str tInt)) (.cons (.d .bool) .nil)),res:=(fun x=>(fun c=>([],false,())) x.1)},{ outs:=(.cons (.map .str tInt) (.cons (.d .bool) .nil)),res:=(fun x=>(fun c=>(mapN c.1 c.1.length,true,())) x.1)}]}
noncomputable def c_z12:Cf:=(cf_z12 (Fl [(fi_z7,S_z7),(fi_z9,S_z9),(fi_z97,S_z97),(fi_z90,S_con_names_1),(fi_z11,S_z11)]))
theorem g_z12:∀ x,S_z12.pre x→shOK S_z12.ins x→fnGoal c_z12 fn_z12 S_z12 x:=by
 rintro ⟨⟨gs,⟨⟩⟩,⟨⟩⟩ hpre hok
 try dsimp only [Dat,SDat,dflt,Ty.size,keepS,bkUpd,Gv.bk,backS,wayA,maxI,minI,negI] at hpre
 have hln:=shLn_of _ hok;replace hok:=Hd.mk hok;try simp only [shLn,datLn,inRng,lo,hi,maxLen,true_and,and_true] at hln
 first|refine fn_goal (w_head ?_)
 intro Kz kz;(conv=>whnf);(try dsimp+instances only);refine kz _ ?_;clear kz Kz;(conv=>(arg 2;whnf))
 repeat' (first|refine an ?_ ?_|((try refine gm ?_);first|((with_reducible show Kz _);(try dsimp+instances only);(with_reducible refine kz _ ?_);clear kz Kz)|refine st ?_|(refine sr ?_;intro Kz kz;conv=>whnf)|(refine cd ?_;(conv=>arg 2;whnf);refine st ?_)|refine blockK_y (by rfl) ?_|(refine sw ?_;conv=>whnf))|(refine gm ?_;conv=>whnf)|(intro hc;(try dsimp+instances only[Dat,SDat,dflt,Ty.size,keepS,bkUpd,Gv.bk,backS,wayA,maxI,minI,negI]at hc);try simp only[LS]at hc))
 all_goals (try ((fail_if_success refine nl ?_);(try dsimp only[Dat,SDat,dflt,Ty.size,keepS,bkUpd,Gv.bk,backS,wayA,maxI,minI,negI]);(try simp only[LS]);first|done|exact dsc|((try simp only[allP,lo,hi,room,true_and,and_true,implies_true]);(repeat' (first|refine an ?_ ?_|((with_reducible refine preA_t ?_ ?_);rotate_left;exact sameP_t)|intro hv))<;>(try omega))))
 · refine ⟨0,_,rfl,?_⟩
   conv=>whnf
   repeat' (first|refine an ?_ ?_|((try refine gm ?_);first|((with_reducible show Kz _);(try dsimp+instances only);(with_reducible refine kz _ ?_);clear kz Kz)|refine st ?_|(refine sr ?_;intro Kz kz;conv=>whnf)|(refine cd ?_;(conv=>arg 2;whnf);refine st ?_)|refine blockK_y (by rfl) ?_|(refine sw ?_;conv=>whnf))|(refine gm ?_;conv=>whnf)|(intro hc;(try dsimp+instances only[Dat,SDat,dflt,Ty.size,keepS,bkUpd,Gv.bk,backS,wayA,maxI,minI,negI]at hc);try simp only[LS]at hc))
   all_goals (try ((fail_if_success refine nl ?_);(try dsimp only[Dat,SDat,dflt,Ty.size,keepS,bkUpd,Gv.bk,backS,wayA,maxI,minI,negI]);(try simp only[LS]);first|done|exact dsc|((try simp only[allP,lo,hi,room,true_and,and_true,implies_true]);(repeat' (first|refine an ?_ ?_|((with_reducible refine preA_t ?_ ?_);rotate_left;exact sameP_t)|intro hv))<;>(try omega))))
   have:=hv.1;omega
 refine w_loop [(20, .d tInt),(4, .map .str tInt)] [] (fun y=>∃ n:Nat,y.1.1=(n:Int)∧n≤gs.length∧y.1.2.1=mapN gs n∧∀ m,m<n→GoodAt gs m (gs.getD m ((0,0,[],()):Gate))) (fun y=>gs.length - y.1.1.toNat) ?_
 conv=>whnf
 refine And.intro ?_ ?_
 · exact ⟨0,rfl,Nat.zero_le _,rfl,fun m h=>by omega⟩
 rintro ⟨⟨_,_,⟨⟩⟩,⟨⟩⟩ ⟨n,rfl,hn,rfl,hG⟩
 have hgi:=good_iff (gs:=gs) (n:=n) (g:=gs.getD n ((0,0,[],()):Gate)) hn
 repeat' (first|refine an ?_ ?_|((try refine gm ?_);first|((with_reducible show Kz _);(try dsimp+instances only);(with_reducible refine kz _ ?_);clear kz Kz)|refine st ?_|(refine sr ?_;intro Kz kz;conv=>whnf)|(refine cd ?_;(conv=>arg 2;whnf);refine st ?_)|refine blockK_y (by rfl) ?_|(refine sw ?_;conv=>whnf))|(refine gm ?_;conv=>whnf)|(intro hc;(try dsimp+instances only[Dat,SDat,dflt,Ty.size,keepS,bkUpd,Gv.bk,backS,wayA,maxI,minI,negI]at hc);try simp only[LS]at hc))
 all_goals (try ((fail_if_success refine nl ?_);(try dsimp only[Dat,SDat,dflt,Ty.size,keepS,bkUpd,Gv.bk,backS,wayA,maxI,minI,negI]);(try simp only[LS]);first|done|exact dsc|((try simp only[allP,lo,hi,room,true_and,and_true,implies_true]);(repeat' (first|refine an ?_ ?_|((with_reducible refine preA_t ?_ ?_);rotate_left;exact sameP_t)|intro hv))<;>(try omega))))
 all_goals (try ((fail_if_success refine nl ?_);first|exact hpre _ (getD_mem (by omega))|(rename ¬ (_∨_)=>hq;have hff:=formed_nn (Classical.byContradiction fun h=>hq (.inl h));first|exact hff.1|exact hff.2.1|exact hff.2.2 _ (by assumption))))
 · rename_i hf hi hq k
   have:=hf.1 k hv
   exact ⟨gs,rfl,by omega,by omega⟩
 · refine ⟨0,_,rfl,?_⟩
   conv=>whnf
   repeat' (first|refine an ?_ ?_|((try refine gm ?_);first|((with_reducible show Kz _);(try dsimp+instances only);(with_reducible refine kz _ ?_);clear kz Kz)|refine st ?_|(refine sr ?_;intro Kz kz;conv=>whnf)|(refine cd ?_;(conv=>arg 2;whnf);refine st ?_)|refine blockK_y (by rfl) ?_|(refine sw ?_;conv=>whnf))|(refine gm ?_;conv=>whnf)|(intro hc;(try dsimp+instances only[Dat,SDat,dflt,Ty.size,keepS,bkUpd,Gv.bk,backS,wayA,maxI,minI,negI]at hc);try simp only[LS]at hc))
   all_goals (try ((fail_if_success refine nl ?_);(try dsimp only[Dat,SDat,dflt,Ty.size,keepS,bkUpd,Gv.bk,backS,wayA,maxI,minI,negI]);(try simp only[LS]);first|done|exact dsc|((try simp only[allP,lo,hi,room,true_and,and_true,implies_true]);(repeat' (first|refine an ?_ ?_|((with_reducible refine preA_t ?_ ?_);rotate_left;exact sameP_t)|intro hv))<;>(try omega))))
   have hgn:=(hgi.1 (hv.2 n (by omega)))
   rcases hc with hc|⟨hi,hc⟩
   · exact hc hgn.1
   · obtain ⟨⟨h1,h2⟩,h3⟩:=hgn.2.1 hi
     rcases hc with (hc|hc)|hc
     · omega
     · exact hc h2
     · exact Bool.noConfusion (h3.symm.trans hc)
 · refine ⟨0,_,rfl,?_⟩
   conv=>whnf
   repeat' (first|refine an ?_ ?_|((try refine gm ?_);first|((with_reducible show Kz _);(try dsimp+instances only);(with_reducible refine kz _ ?_);clear kz Kz)|refine st ?_|(refine sr ?_;intro Kz kz;conv=>whnf)|(refine cd ?_;(conv=>arg 2;whnf);refine st ?_)|refine blockK_y (by rfl) ?_|(refine sw ?_;conv=>whnf))|(refine gm ?_;conv=>whnf)|(intro hc;(try dsimp+instances only[Dat,SDat,dflt,Ty.size,keepS,bkUpd,Gv.bk,backS,wayA,maxI,minI,negI]at hc);try simp only[LS]at hc))
   all_goals (try ((fail_if_success refine nl ?_);(try dsimp only[Dat,SDat,dflt,Ty.size,keepS,bkUpd,Gv.bk,backS,wayA,maxI,minI,negI]);(try simp only[LS]);first|done|exact dsc|((try simp only[allP,lo,hi,room,true_and,and_true,implies_true]);(repeat' (first|refine an ?_ ?_|((with_reducible refine preA_t ?_ ?_);rotate_left;exact sameP_t)|intro hv))<;>(try omega))))
   have hgn:=(hgi.1 (hv.2 n (by omega))).2.2
   have:=mapN_none.2 hgn
   have hc:(mget (mapN gs n) (nmG (gs.getD n ((0,0,[],()):Gate)))).isSome=true:=by assumption
   rw [this] at hc;cases hc
 · have hmn:mget (mapN gs n) (nmG (gs.getD n ((0,0,[],()):Gate)))=none:=by
    have hc:(mget (mapN gs n) (nmG (gs.getD n ((0,0,[],()):Gate)))).isSome=false:=hc
    simpa using hc
   refine ⟨n+1,by omega,by omega,?_,lt_step hG (hgi.2 ⟨?_,fun hi=>⟨⟨?_,?_⟩,?_⟩,mapN_none.1 hmn⟩)⟩
   · rw [mapN_succ];exact mput_none hmn
   · rename_i h0 h1 h2;exact Classical.byContradiction fun h=>h2 (.inl h)
   · rename_i h0 h1 h2;exact Classical.byContradiction fun h=>h2 (.inr ⟨hi, .inl (.inl (by omega))⟩)
   · rename_i h0 h1 h2;exact Classical.byContradiction fun h=>h2 (.inr ⟨hi, .inl (.inr h)⟩)
   · rename_i h0 h1 h2;exact Bool.eq_false_iff.2 fun h=>h2 (.inr ⟨hi, .inr h⟩)
 · refine ⟨1,_,rfl,?_⟩
   conv=>whnf
   repeat' (first|refine an ?_ ?_|((try refine gm ?_);first|((with_reducible show Kz _);(try dsimp+instances only);(with_reducible refine kz _ ?_);clear kz Kz)|refine st ?_|(refine sr ?_;intro Kz kz;conv=>whnf)|(refine cd ?_;(conv=>arg 2;whnf);refine st ?_)|refine blockK_y (by rfl) ?_|(refine sw ?_;conv=>whnf))|(refine gm ?_;conv=>whnf)|(intro hc;(try dsimp+instances only[Dat,SDat,dflt,Ty.size,keepS,bkUpd,Gv.bk,backS,wayA,maxI,minI,negI]at hc);try simp only[LS]at hc))
   all_goals (try ((fail_if_success refine nl ?_);(try dsimp only[Dat,SDat,dflt,Ty.size,keepS,bkUpd,Gv.bk,backS,wayA,maxI,minI,negI]);(try simp only[LS]);first|done|exact dsc|((try simp only[allP,lo,hi,room,true_and,and_true,implies_true]);(repeat' (first|refine an ?_ ?_|((with_reducible refine preA_t ?_ ?_);rotate_left;exact sameP_t)|intro hv))<;>(try omega))))
   · exact ⟨by omega,fun m hm=>hG m (by omega)⟩
   · have:n=gs.length:=by omega
     rw [this]
theorem ok_z12:SpecOK SP glob fi_z12 S_z12:=mk_ok (c:=c_z12) (tab_ok _) mix_ok wf_z12 (by decide) (.cons ok_z7 (.cons ok_z9 (.cons ok_z97 (.cons ok_con_names_1 (.cons ok_z11 .nil))))) (by intro x hx;first|exact selB_lt _|(dsimp only;(first|omega|(split<;>simp)|(split<;>(try split)<;>simp)))) g_z12
@[reducible] noncomputable def S_z5:Spec:={ ins:=(.cons (.d tCirc) .nil),pre:=(fun x=>(fun c=>SmallG c.1) x.1),alts:=[{ outs:=(.cons (.d .bool) .nil),res:=(fun x=>(fun c=>(boolOf (ValidC c.1),())) x.1)}]}
noncomputable def c_z5:Cf:=(cf_z5 (Fl [(fi_z12,S_z12)]))
theorem g_z5:∀ x,S_z5.pre x→shOK S_z5.ins x→fnGoal c_z5 fn_z5 S_z5 x:=by
 rintro ⟨⟨gs,⟨⟩⟩,⟨⟩⟩ hpre hok
 try dsimp only [Dat,SDat,dflt,Ty.size,keepS,bkUpd,Gv.bk,backS,wayA,maxI,minI,negI] at hpre
 have hln:=shLn_of _ hok;replace hok:=Hd.mk hok;try simp only [shLn,datLn,inRng,lo,hi,maxLen,true_and,and_true] at hln
 first|refine fn_goal (w_head ?_)
 intro Kz kz;(conv=>whnf);(try dsimp+instances only);refine kz _ ?_;clear kz Kz;(conv=>(arg 2;whnf))
 repeat' (first|refine an ?_ ?_|((try refine gm ?_);first|((with_reducible show Kz _);(try dsimp+instances only);(with_reducible refine kz _ ?_);clear kz Kz)|refine st ?_|(refine sr ?_;intro Kz kz;conv=>whnf)|(refine cd ?_;(conv=>arg 2;whnf);refine st ?_)|refine blockK_y (by rfl) ?_|(refine sw ?_;conv=>whnf))|(refine gm ?_;conv=>whnf)|(intro hc;(try dsimp+instances only[Dat,SDat,dflt,Ty.size,keepS,bkUpd,Gv.bk,backS,wayA,maxI,minI,negI]at hc);try simp only[LS]at hc))
 all_goals (try ((fail_if_success refine nl ?_);(try dsimp only[Dat,SDat,dflt,Ty.size,keepS,bkUpd,Gv.bk,backS,wayA,maxI,minI,negI]);(try simp only[LS]);first|done|exact dsc|((try simp only[allP,lo,hi,room,true_and,and_true,implies_true]);(repeat' (first|refine an ?_ ?_|((with_reducible refine preA_t ?_ ?_);rotate_left;exact sameP_t)|intro hv))<;>(try omega))))
 · exact hpre _ (by assumption)
 · exact bF hc
 · exact bT hc
theorem ok_z5:SpecOK SP glob fi_z5 S_z5:=mk_ok (c:=c_z5) (tab_ok _) mix_ok wf_z5 (by decide) (.cons ok_z12 .nil) (fun x hx=>Nat.zero_lt_one) g_z5
end Go.Gv
