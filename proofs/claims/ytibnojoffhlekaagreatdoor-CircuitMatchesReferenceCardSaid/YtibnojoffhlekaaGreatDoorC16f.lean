/- Chapter 16: the program: Poly, Holds, Cost and Count. -/
import Derived.Test.YtibnojoffhlekaaGreatDoorC16e
import Derived.Test.YtibnojoffhlekaaGreatDoorP16h
set_option linter.all false
namespace Go.Gv
open Go Go.Proofs Go.Proofs.YtibnojoffhlekaaGreatDoor
set_option maxRecDepth 100000
set_option maxHeartbeats 4000000
@[reducible] noncomputable def S_z10:Spec:={ ins:=(.cons (.d tCirc) (.cons (.d tInt) .nil)),pre:=(fun x=>(fun c i=>SmallG c.1) x.1 x.2.1),alts:=[{ outs:=(.cons (.d tPoly) (.cons (.d tInt) .nil)),res:=(fun x=>(fun c i=>((evC srP.ge c.1 i).1,(evC srP.ge c.1 i).2,())) x.1 x.2.1)}],noisy:=true}
noncomputable def c_z10:Cf:={ cf_z10 (Fl [(fi_z14,S_ev_poly)]) with nz:=true}
theorem g_z10:∀ x,S_z10.pre x→shOK S_z10.ins x→fnGoal c_z10 fn_z10 S_z10 x:=by
 rintro ⟨c,i,⟨⟩⟩ hpre hok
 try dsimp only [Dat,SDat,dflt,Ty.size,keepS,bkUpd,Gv.bk,backS,wayA,maxI,minI,negI] at hpre
 have hln:=shLn_of _ hok;replace hok:=Hd.mk hok;try simp only [shLn,datLn,inRng,lo,hi,maxLen,true_and,and_true] at hln
 first|refine fn_goal (w_head ?_)
 intro Kz kz;(conv=>whnf);(try dsimp+instances only);refine kz _ ?_;clear kz Kz;(conv=>(arg 2;whnf))
 repeat' (first|refine an ?_ ?_|((try refine gm ?_);first|((with_reducible show Kz _);(try dsimp+instances only);(with_reducible refine kz _ ?_);clear kz Kz)|refine st ?_|(refine sr ?_;intro Kz kz;conv=>whnf)|(refine cd ?_;(conv=>arg 2;whnf);refine st ?_)|refine blockK_y (by rfl) ?_|(refine sw ?_;conv=>whnf))|(refine gm ?_;conv=>whnf)|(intro hc;(try dsimp+instances only[Dat,SDat,dflt,Ty.size,keepS,bkUpd,Gv.bk,backS,wayA,maxI,minI,negI]at hc);try simp only[LS]at hc))
 all_goals (try ((fail_if_success refine nl ?_);(try dsimp only[Dat,SDat,dflt,Ty.size,keepS,bkUpd,Gv.bk,backS,wayA,maxI,minI,negI]);(try simp only[LS]);first|done|exact dsc|((try simp only[allP,lo,hi,room,true_and,and_true,implies_true]);(repeat' (first|refine an ?_ ?_|((with_reducible refine preA_t ?_ ?_);rotate_left;exact sameP_t)|intro hv))<;>(try omega))))
 exact hpre _ (by assumption)
theorem ok_z10:SpecOK SP glob fi_z10 S_z10:=mk_ok (c:=c_z10) (tab_ok _) mix_ok wf_z10 (by decide) (.cons ok_ev_poly .nil) (fun x hx=>Nat.zero_lt_one) g_z10
noncomputable def holdsV (gs:List Gate) (i:Int) (h:List Bool):Bool:=if (evC (srB h).ge gs i).2=0 then (evC (srB h).ge gs i).1 else false
@[reducible] noncomputable def S_z6:Spec:={ ins:=(.cons (.d tCirc) (.cons (.d tInt) (.cons (.d (.sl .bool)) .nil))),pre:=(fun x=>(fun c i h=>SmallG c.1) x.1 x.2.1 x.2.2.1),alts:=[{ outs:=(.cons (.d .bool) .nil),res:=(fun x=>(fun c i h=>(holdsV c.1 i h,())) x.1 x.2.1 x.2.2.1)}],noisy:=true}
noncomputable def c_z6:Cf:={ cf_z6 (Fl [(fi_z15,S_ev_bool)]) with nz:=true}
theorem g_z6:∀ x,S_z6.pre x→shOK S_z6.ins x→fnGoal c_z6 fn_z6 S_z6 x:=by
 rintro ⟨c,i,h,⟨⟩⟩ hpre hok
 try dsimp only [Dat,SDat,dflt,Ty.size,keepS,bkUpd,Gv.bk,backS,wayA,maxI,minI,negI] at hpre
 have hln:=shLn_of _ hok;replace hok:=Hd.mk hok;try simp only [shLn,datLn,inRng,lo,hi,maxLen,true_and,and_true] at hln
 first|refine fn_goal (w_head ?_)
 intro Kz kz;(conv=>whnf);(try dsimp+instances only);refine kz _ ?_;clear kz Kz;(conv=>(arg 2;whnf))
 repeat' (first|refine an ?_ ?_|((try refine gm ?_);first|((with_reducible show Kz _);(try dsimp+instances only);(with_reducible refine kz _ ?_);clear kz Kz)|refine st ?_|(refine sr ?_;intro Kz kz;conv=>whnf)|(refine cd ?_;(conv=>arg 2;whnf);refine st ?_)|refine blockK_y (by rfl) ?_|(refine sw ?_;conv=>whnf))|(refine gm ?_;conv=>whnf)|(intro hc;(try dsimp+instances only[Dat,SDat,dflt,Ty.size,keepS,bkUpd,Gv.bk,backS,wayA,maxI,minI,negI]at hc);try simp only[LS]at hc))
 all_goals (try ((fail_if_success refine nl ?_);(try dsimp only[Dat,SDat,dflt,Ty.size,keepS,bkUpd,Gv.bk,backS,wayA,maxI,minI,negI]);(try simp only[LS]);first|done|exact dsc|((try simp only[allP,lo,hi,room,true_and,and_true,implies_true]);(repeat' (first|refine an ?_ ?_|((with_reducible refine preA_t ?_ ?_);rotate_left;exact sameP_t)|intro hv))<;>(try omega))))
 all_goals (try ((fail_if_success refine nl ?_);(first|exact hpre _ (by assumption)|exact ⟨_,rfl⟩)))
 show boolOf ((evC (srB h).ge c.1 i).2=0∧(evC (srB h).ge c.1 i).1=true)=holdsV c.1 i h
 unfold holdsV
 by_cases e:(evC (srB h).ge c.1 i).2=0
 · rw [if_pos e]
   cases q:(evC (srB h).ge c.1 i).1
   · exact boolOf_false.2 fun a=>by cases a.2
   · exact boolOf_true.2 ⟨e,rfl⟩
 · rw [if_neg e]
   exact boolOf_false.2 fun a=>e a.1
theorem ok_z6:SpecOK SP glob fi_z6 S_z6:=mk_ok (c:=c_z6) (tab_ok _) mix_ok wf_z6 (by decide) (.cons ok_ev_bool .nil) (fun x hx=>Nat.zero_lt_one) g_z6
noncomputable def costV (gs:List Gate) (i:Int) (cs:List Int):Int × Bool:=if ¬ (evC (srC cs).ge gs i).2=0∨(evC (srC cs).ge gs i).1= -1 then (0,false) else ((evC (srC cs).ge gs i).1,true)
theorem costV_no {gs:List Gate} {i:Int} {cs:List Int} (h:¬ (evC (srC cs).ge gs i).2=0∨(evC (srC cs).ge gs i).1= -1):costV gs i cs=(0,false):=if_pos h
theorem costV_yes {gs:List Gate} {i:Int} {cs:List Int} (h:¬ (¬ (evC (srC cs).ge gs i).2=0∨(evC (srC cs).ge gs i).1= -1)):costV gs i cs=((evC (srC cs).ge gs i).1,true):=if_neg h
@[reducible] noncomputable def S_z0:Spec:={ ins:=(.cons (.d tCirc) (.cons (.d tInt) (.cons (.d (.sl tInt)) .nil))),pre:=(fun x=>(fun c i h=>SmallG c.1) x.1 x.2.1 x.2.2.1),alts:=[{ outs:=(.cons (.d tInt) (.cons (.d .bool) .nil)),res:=(fun x=>(fun c i h=>((costV c.1 i h).1,(costV c.1 i h).2,())) x.1 x.2.1 x.2.2.1)}],noisy:=true}
noncomputable def c_z0:Cf:={ cf_z0 (Fl [(fi_z16,S_ev_int)]) with nz:=true}
theorem g_z0:∀ x,S_z0.pre x→shOK S_z0.ins x→fnGoal c_z0 fn_z0 S_z0 x:=by
 rintro ⟨c,i,h,⟨⟩⟩ hpre hok
 try dsimp only [Dat,SDat,dflt,Ty.size,keepS,bkUpd,Gv.bk,backS,wayA,maxI,minI,negI] at hpre
 have hln:=shLn_of _ hok;replace hok:=Hd.mk hok;try simp only [shLn,datLn,inRng,lo,hi,maxLen,true_and,and_true] at hln
 first|refine fn_goal (w_head ?_)
 intro Kz kz;(conv=>whnf);(try dsimp+instances only);refine kz _ ?_;clear kz Kz;(conv=>(arg 2;whnf))
 repeat' (first|refine an ?_ ?_|((try refine gm ?_);first|((with_reducible show Kz _);(try dsimp+instances only);(with_reducible refine kz _ ?_);clear kz Kz)|refine st ?_|(refine sr ?_;intro Kz kz;conv=>whnf)|(refine cd ?_;(conv=>arg 2;whnf);refine st ?_)|refine blockK_y (by rfl) ?_|(refine sw ?_;conv=>whnf))|(refine gm ?_;conv=>whnf)|(intro hc;(try dsimp+instances only[Dat,SDat,dflt,Ty.size,keepS,bkUpd,Gv.bk,backS,wayA,maxI,minI,negI]at hc);try simp only[LS]at hc))
 all_goals (try ((fail_if_success refine nl ?_);(try dsimp only[Dat,SDat,dflt,Ty.size,keepS,bkUpd,Gv.bk,backS,wayA,maxI,minI,negI]);(try simp only[LS]);first|done|exact dsc|((try simp only[allP,lo,hi,room,true_and,and_true,implies_true]);(repeat' (first|refine an ?_ ?_|((with_reducible refine preA_t ?_ ?_);rotate_left;exact sameP_t)|intro hv))<;>(try omega))))
 all_goals (try ((fail_if_success refine nl ?_);(first|exact hpre _ (by assumption)|exact ⟨_,rfl⟩)))
 all_goals (try ((fail_if_success refine nl ?_);(first|exact (congrArg Prod.fst (costV_no (cs:=h) hc)).symm|exact (congrArg Prod.snd (costV_no (cs:=h) hc)).symm|exact (congrArg Prod.fst (costV_yes (cs:=h) hc)).symm|exact (congrArg Prod.snd (costV_yes (cs:=h) hc)).symm)))
theorem ok_z0:SpecOK SP glob fi_z0 S_z0:=mk_ok (c:=c_z0) (tab_ok _) mix_ok wf_z0 (by decide) (.cons ok_ev_int .nil) (fun x hx=>Nat.zero_lt_one) g_z0
@[reducible] noncomputable def S_z5:Spec:={ ins:=(.cons (.d tInt) .nil),pre:=fun _=>True,alts:=[{ outs:=(.cons (.d .bool) .nil),res:=(fun x=>(fun k=>(decide (k<0),())) x.1)}]}
noncomputable def c_z5:Cf:=(cf_z5 (Fl []))
theorem g_z5:∀ x,S_z5.pre x→shOK S_z5.ins x→fnGoal c_z5 fn_z5 S_z5 x:=by
 rintro ⟨k,⟨⟩⟩ hpre hok
 clear hpre
 have hln:=shLn_of _ hok;replace hok:=Hd.mk hok;try simp only [shLn,datLn,inRng,lo,hi,maxLen,true_and,and_true] at hln
 first|refine fn_goal (w_head ?_)
 intro Kz kz;(conv=>whnf);(try dsimp+instances only);refine kz _ ?_;clear kz Kz;(conv=>(arg 2;whnf))
 repeat' (first|refine an ?_ ?_|((try refine gm ?_);first|((with_reducible show Kz _);(try dsimp+instances only);(with_reducible refine kz _ ?_);clear kz Kz)|refine st ?_|(refine sr ?_;intro Kz kz;conv=>whnf)|(refine cd ?_;(conv=>arg 2;whnf);refine st ?_)|refine blockK_y (by rfl) ?_|(refine sw ?_;conv=>whnf))|(refine gm ?_;conv=>whnf)|(intro hc;(try dsimp+instances only[Dat,SDat,dflt,Ty.size,keepS,bkUpd,Gv.bk,backS,wayA,maxI,minI,negI]at hc);try simp only[LS]at hc))
 all_goals (try ((fail_if_success refine nl ?_);(try dsimp only[Dat,SDat,dflt,Ty.size,keepS,bkUpd,Gv.bk,backS,wayA,maxI,minI,negI]);(try simp only[LS]);first|done|exact dsc|((try simp only[allP,lo,hi,room,true_and,and_true,implies_true]);(repeat' (first|refine an ?_ ?_|((with_reducible refine preA_t ?_ ?_);rotate_left;exact sameP_t)|intro hv))<;>(try omega))))
theorem ok_z5:SpecOK SP glob fi_z5 S_z5:=mk_ok (c:=c_z5) (tab_ok _) mix_ok wf_z5 (by decide) .nil (fun x hx=>Nat.zero_lt_one) g_z5
@[reducible] noncomputable def S_idx_count_1:Spec:={ ins:=(.cons (.d (.sl tInt)) (.cons (.clos fi_z5 .nil) .nil)),pre:=fun _=>True,alts:=[{ outs:=(.cons (.d tInt) .nil),res:=(fun x=>(fun s c=>(findI (fun k=>(fun (_:Unit) (k:Int)=>decide (k<0)) c k) s,())) x.1 x.2.1)}]}
noncomputable def c_idx_count_1:Cf:=(cf_z121 (Fl [(fi_z5,S_z5)]))
theorem g_idx_count_1:∀ x,S_idx_count_1.pre x→shOK S_idx_count_1.ins x→fnGoal c_idx_count_1 fn_z121 S_idx_count_1 x:=by
 rintro ⟨s,⟨⟩,⟨⟩⟩ hpre hok
 clear hpre
 have hln:=shLn_of _ hok;replace hok:=Hd.mk hok;try simp only [shLn,datLn,inRng,lo,hi,maxLen,true_and,and_true] at hln
 first|refine fn_goal (w_head ?_)
 intro Kz kz;(conv=>whnf);(try dsimp+instances only);refine kz _ ?_;clear kz Kz;(conv=>(arg 2;whnf))
 repeat' (first|refine an ?_ ?_|((try refine gm ?_);first|((with_reducible show Kz _);(try dsimp+instances only);(with_reducible refine kz _ ?_);clear kz Kz)|refine st ?_|(refine sr ?_;intro Kz kz;conv=>whnf)|(refine cd ?_;(conv=>arg 2;whnf);refine st ?_)|refine blockK_y (by rfl) ?_|(refine sw ?_;conv=>whnf))|(refine gm ?_;conv=>whnf)|(intro hc;(try dsimp+instances only[Dat,SDat,dflt,Ty.size,keepS,bkUpd,Gv.bk,backS,wayA,maxI,minI,negI]at hc);try simp only[LS]at hc))
 all_goals (try ((fail_if_success refine nl ?_);(try dsimp only[Dat,SDat,dflt,Ty.size,keepS,bkUpd,Gv.bk,backS,wayA,maxI,minI,negI]);(try simp only[LS]);first|done|exact dsc|((try simp only[allP,lo,hi,room,true_and,and_true,implies_true]);(repeat' (first|refine an ?_ ?_|((with_reducible refine preA_t ?_ ?_);rotate_left;exact sameP_t)|intro hv))<;>(try omega))))
 refine w_loop [(8, .d tInt)] [] (fun y=>∃ k:Nat,y.1.1=(k:Int)∧k≤s.length∧∀ x∈s.take k,(fun (_:Unit) (k:Int)=>decide (k<0)) ⟨⟩ x=false) (fun y=>s.length - y.1.1.toNat) ?_
 conv=>whnf
 refine And.intro ?_ ?_
 · exact ⟨0,by simp⟩
 rintro ⟨⟨_,⟨⟩⟩,⟨⟩⟩ ⟨k,rfl,hk,hj⟩
 repeat' (first|refine an ?_ ?_|((try refine gm ?_);first|((with_reducible show Kz _);(try dsimp+instances only);(with_reducible refine kz _ ?_);clear kz Kz)|refine st ?_|(refine sr ?_;intro Kz kz;conv=>whnf)|(refine cd ?_;(conv=>arg 2;whnf);refine st ?_)|refine blockK_y (by rfl) ?_|(refine sw ?_;conv=>whnf))|(refine gm ?_;conv=>whnf)|(intro hc;(try dsimp+instances only[Dat,SDat,dflt,Ty.size,keepS,bkUpd,Gv.bk,backS,wayA,maxI,minI,negI]at hc);try simp only[LS]at hc))
 all_goals (try ((fail_if_success refine nl ?_);(try dsimp only[Dat,SDat,dflt,Ty.size,keepS,bkUpd,Gv.bk,backS,wayA,maxI,minI,negI]);(try simp only[LS]);first|done|exact dsc|((try simp only[allP,lo,hi,room,true_and,and_true,implies_true]);(repeat' (first|refine an ?_ ?_|((with_reducible refine preA_t ?_ ?_);rotate_left;exact sameP_t)|intro hv))<;>(try omega))))
 · exact (findI_hit (d:=0) hj (by omega) (by first|exact hc|(simpa using hc)|(simp at hc ⊢;grind))).symm
 · refine ⟨k+1,by omega,by omega,fun x hx=>?_⟩
   have hst:=all_step (p:=fun x=>(fun (_:Unit) (k:Int)=>decide (k<0)) ⟨⟩ x=false) (d:=0) hj (by omega) (by first|exact hc|(simpa using hc)|(simp at hc ⊢;grind)) x hx
   first|exact hst|simpa using hst|(simp at hst ⊢;grind)
 · exact (findI_miss hj (by omega)).symm
theorem ok_idx_count_1:SpecOK SP glob fi_z121 S_idx_count_1:=mk_ok (c:=c_idx_count_1) (tab_ok _) mix_ok wf_z121 (by decide) (.cons ok_z5 .nil) (fun x hx=>Nat.zero_lt_one) g_idx_count_1
@[reducible] noncomputable def S_con_count_1:Spec:={ ins:=(.cons (.d (.sl tInt)) (.cons (.clos fi_z5 .nil) .nil)),pre:=fun _=>True,alts:=[{ outs:=(.cons (.d .bool) .nil),res:=(fun x=>(fun s c=>(s.any (fun k=>(fun (_:Unit) (k:Int)=>decide (k<0)) c k),())) x.1 x.2.1)}]}
noncomputable def c_con_count_1:Cf:=(cf_z117 (Fl [(fi_z121,S_idx_count_1)]))
theorem g_con_count_1:∀ x,S_con_count_1.pre x→shOK S_con_count_1.ins x→fnGoal c_con_count_1 fn_z117 S_con_count_1 x:=by
 rintro ⟨s,⟨⟩,⟨⟩⟩ hpre hok
 clear hpre
 have hln:=shLn_of _ hok;replace hok:=Hd.mk hok;try simp only [shLn,datLn,inRng,lo,hi,maxLen,true_and,and_true] at hln
 first|refine fn_goal (w_head ?_)
 intro Kz kz;(conv=>whnf);(try dsimp+instances only);refine kz _ ?_;clear kz Kz;(conv=>(arg 2;whnf))
 repeat' (first|refine an ?_ ?_|((try refine gm ?_);first|((with_reducible show Kz _);(try dsimp+instances only);(with_reducible refine kz _ ?_);clear kz Kz)|refine st ?_|(refine sr ?_;intro Kz kz;conv=>whnf)|(refine cd ?_;(conv=>arg 2;whnf);refine st ?_)|refine blockK_y (by rfl) ?_|(refine sw ?_;conv=>whnf))|(refine gm ?_;conv=>whnf)|(intro hc;(try dsimp+instances only[Dat,SDat,dflt,Ty.size,keepS,bkUpd,Gv.bk,backS,wayA,maxI,minI,negI]at hc);try simp only[LS]at hc))
 all_goals (try ((fail_if_success refine nl ?_);(try dsimp only[Dat,SDat,dflt,Ty.size,keepS,bkUpd,Gv.bk,backS,wayA,maxI,minI,negI]);(try simp only[LS]);first|done|exact dsc|((try simp only[allP,lo,hi,room,true_and,and_true,implies_true]);(repeat' (first|refine an ?_ ?_|((with_reducible refine preA_t ?_ ?_);rotate_left;exact sameP_t)|intro hv))<;>(try omega))))
 · rw [boolOf_eq,Bool.eq_iff_iff,decide_eq_true_eq];exact findI_ge
theorem ok_con_count_1:SpecOK SP glob fi_z117 S_con_count_1:=mk_ok (c:=c_con_count_1) (tab_ok _) mix_ok wf_z117 (by decide) (.cons ok_idx_count_1 .nil) (fun x hx=>Nat.zero_lt_one) g_con_count_1
def cntR (vs:List Int) (gs:List Gate) (i:Int):Prop:=¬ (vs.any fun k=>decide (k<0))=true
noncomputable def cntV (gs:List Gate) (i:Int) (vs:List Int):Int × Int:=if vs.any (fun k=>decide (k<0))=true then (0,1) else evC (geN vs) gs i
def rgN (v:Int):Prop:=0≤v∧v≤1000000000
theorem kid_j {gs:List Gate} (hV:ValidC gs) {k n j:Nat} (hk:k<gs.length) (hn:k<n) (h:(j:Int)<(((List.getD gs k ((0,0,[],()):Gate))).2.2.1.length:Int)):0≤((List.getD gs k ((0,0,[],()):Gate))).2.2.1.getD j 0∧((List.getD gs k ((0,0,[],()):Gate))).2.2.1.getD j 0<(n:Int)∧(((List.getD gs k ((0,0,[],()):Gate))).2.2.1.getD j 0).toNat<n:=by
 have h2:=kid_in hV hk (getD_mem (d:=(0:Int)) (show j<((List.getD gs k ((0,0,[],()):Gate))).2.2.1.length by omega))
 omega
theorem rgN_1:rgN 1:=by unfold rgN;omega
theorem rgN_z:rgN 0:=by unfold rgN;omega
theorem neg_no {vs:List Int} (h:¬ (vs.any fun k=>decide (k<0))=true) (n:Nat):0≤vs.getD n 0:=by
 rw [List.any_eq_true] at h
 by_cases hn:n<vs.length
 · exact Int.not_lt.1 fun e=>h ⟨_,getD_mem (d:=(0:Int)) hn,decide_eq_true e⟩
 · rw [List.getD_eq_getElem?_getD,List.getElem?_eq_none (by omega)];exact Int.le_refl 0
theorem cntV_bad {vs:List Int} {gs:List Gate} {i:Int} (h:(((vs.any fun k=>decide (k<0))=true∨i<0)∨(List.length gs:Int)≤i)∨¬ ValidC gs):cntV gs i vs=(0,1):=by
 unfold cntV
 by_cases e:(vs.any fun k=>decide (k<0))=true
 · exact if_pos e
 · rw [if_neg e]
   refine ev_bad_ (S:=geN vs) ?_
   rcases h with ((h|h)|h)|h
   · exact (e h).elim
   · exact .inl (.inl h)
   · exact .inl (.inr h)
   · exact .inr h
theorem cntV_good {vs:List Int} {gs:List Gate} {i:Int} (h:¬ ((((vs.any fun k=>decide (k<0))=true∨i<0)∨(List.length gs:Int)≤i)∨¬ ValidC gs)):GoodI gs i∧(∀ n,0≤vs.getD n 0)∧cntV gs i vs=evC (geN vs) gs i:=by
 have h1:=not_or.1 h
 have h2:=not_or.1 h1.1
 have h3:=not_or.1 h2.1
 refine ⟨good_of_ fun e=>?_,neg_no h3.1,if_neg h3.1⟩
 rcases e with (e|e)|e
 · exact h3.2 e
 · exact h2.2 e
 · exact h1.2 e
section
variable {vs all:List Int} {g:Gate}
theorem cnt1 (h:g.1=1):cntG vs all g=(1,0):=if_pos h
theorem cnt2 (h:g.1=2) (h2:g.2.1<(vs.length:Int)) (h3:¬ 1000000000<vs.getD g.2.1.toNat 0):cntG vs all g=(vs.getD g.2.1.toNat 0,0):=by
 unfold cntG
 rw [if_neg (by omega),if_pos h,if_pos h2,if_neg h3]
theorem cnt2b (h:g.1=2) (h2:g.2.1<(vs.length:Int)) (h3:1000000000<vs.getD g.2.1.toNat 0):(cntG vs all g).2=2:=by
 unfold cntG
 rw [if_neg (by omega),if_pos h,if_pos h2,if_pos h3]
theorem cnt2n (h:g.1=2) (h2:¬ g.2.1<(vs.length:Int)):cntG vs all g=(0,0):=by
 unfold cntG
 rw [if_neg (by omega),if_pos h,if_neg h2]
theorem cnt3 {n:Int} (h:g.1=3) (hn:n=sumN (g.2.2.1.map (atL 0 all))) (h3:¬ 1000000000<n):cntG vs all g=(n,0):=by
 subst hn
 unfold cntG
 rw [if_neg (by omega),if_neg (by omega),if_pos h,if_neg h3]
theorem cnt3b {n:Int} (h:g.1=3) (hn:n=sumN (g.2.2.1.map (atL 0 all))) (h3:1000000000<n):(cntG vs all g).2=2:=by
 subst hn
 unfold cntG
 rw [if_neg (by omega),if_neg (by omega),if_pos h,if_pos h3]
theorem cnt4z (h:g.1=4) (h0:0∈g.2.2.1.map (atL 0 all)):cntG vs all g=(0,0):=by
 unfold cntG
 rw [if_neg (by omega),if_neg (by omega),if_neg (by omega),if_pos h,if_pos h0]
theorem cnt4 {n:Int} (h:g.1=4) (ht:TimN (g.2.2.1.map (atL 0 all)) n false):cntG vs all g=(n,0):=by
 unfold cntG
 rw [if_neg (by omega),if_neg (by omega),if_neg (by omega),if_pos h,if_neg ht.no,if_neg ht.le,← ht.sm rfl]
theorem cnt4b {n:Int} (h:g.1=4) (ht:TimN (g.2.2.1.map (atL 0 all)) n true):(cntG vs all g).2=2:=by
 unfold cntG
 rw [if_neg (by omega),if_neg (by omega),if_neg (by omega),if_pos h,if_neg ht.no,if_pos (ht.gt rfl)]
theorem cnt5 (h1:¬ g.1=1) (h2:¬ g.1=2) (h3:¬ g.1=3) (h4:¬ g.1=4):cntG vs all g=(0,0):=by
 unfold cntG
 rw [if_neg h1,if_neg h2,if_neg h3,if_neg h4]
theorem take_snoc {l:List Int} {j:Nat} (h:j<l.length):(l.take (j+1)).map (atL 0 all)=(l.take j).map (atL 0 all)++[all.getD (l.getD j 0).toNat 0]:=by
 rw [List.take_succ_eq_append_getElem h,List.map_append,getD_ok 0 h]
 rfl
theorem take_all {l:List Int} {j:Nat} (h:¬ (j:Int)<(l.length:Int)):l.take j=l:=List.take_of_length_le (by omega)
theorem atL_mem {l:List Int} {j:Nat} (h:j<l.length) (e:all.getD (l.getD j 0).toNat 0=0):0∈l.map (atL 0 all):=List.mem_map.2 ⟨_,getD_mem h,e⟩
structure SumJ (all l:List Int) (idx n:Int) (lg:Bool) (j:Nat):Prop where
 ix:idx=(j:Int)
 le:j≤l.length
 eq:n=sumN ((l.take j).map (atL 0 all))
 lo:0≤n
 hi:n≤1000000001
 f:lg=false
theorem SumJ.start {l:List Int}:SumJ all l 0 0 false 0:=⟨rfl,Nat.zero_le _,rfl,by omega,by omega,rfl⟩
theorem SumJ.step {l:List Int} {n:Int} {lg:Bool} {j:Nat} (h:SumJ all l (j:Int) n lg j) (hj:(j:Int)<(l.length:Int)) (hq:0≤all.getD (l.getD j 0).toNat 0):SumJ all l ((j:Int)+1) (min (n+all.getD (l.getD j 0).toNat 0) 1000000001) lg (j+1):=by
 refine ⟨rfl,by omega,?_,?_,?_,h.f⟩
 · rw [take_snoc (by omega),sumN_snoc,← h.eq]
 · have:=h.lo;omega
 · omega
theorem SumJ.fin {l:List Int} {n:Int} {lg:Bool} {j:Nat} (h:SumJ all l (j:Int) n lg j) (hj:¬ (j:Int)<(l.length:Int)):n=sumN (l.map (atL 0 all)):=by
 have:=h.eq
 rw [take_all hj] at this
 exact this
structure TimJ (all l:List Int) (idx n:Int) (lg:Bool) (j:Nat):Prop where
 i:idx=(j:Int)
 le:j≤l.length
 t:TimN ((l.take j).map (atL 0 all)) n lg
theorem TimJ.start {l:List Int}:TimJ all l 0 1 false 0:=⟨rfl,Nat.zero_le _,TimN.nil⟩
theorem TimJ.big {l:List Int} {n:Int} {lg:Bool} {j:Nat} (h:TimJ all l (j:Int) n lg j) (hj:(j:Int)<(l.length:Int)) (hq:rgN (all.getD (l.getD j 0).toNat 0)) (h0:¬ all.getD (l.getD j 0).toNat 0=0) (hb:1000000000<n * all.getD (l.getD j 0).toNat 0):TimJ all l ((j:Int)+1) 1 true (j+1):=by
 refine ⟨rfl,by omega,?_⟩
 rw [take_snoc (by omega)]
 exact h.t.big (by have:=hq.1;omega) hb
theorem TimJ.step {l:List Int} {n:Int} {lg:Bool} {j:Nat} (h:TimJ all l (j:Int) n lg j) (hj:(j:Int)<(l.length:Int)) (hq:rgN (all.getD (l.getD j 0).toNat 0)) (h0:¬ all.getD (l.getD j 0).toNat 0=0) (hb:¬ 1000000000<n * all.getD (l.getD j 0).toNat 0):TimJ all l ((j:Int)+1) (n * all.getD (l.getD j 0).toNat 0) lg (j+1):=by
 refine ⟨rfl,by omega,?_⟩
 rw [take_snoc (by omega)]
 exact h.t.step (by have:=hq.1;omega) hb
theorem TimJ.fin {l:List Int} {n:Int} {lg:Bool} {j:Nat} (h:TimJ all l (j:Int) n lg j) (hj:¬ (j:Int)<(l.length:Int)):TimN (l.map (atL 0 all)) n lg:=by
 have:=h.t
 rw [take_all hj] at this
 exact this
end
theorem rgN_mul {a b:Int} (ha:1≤a∧a≤1000000000) (hb:rgN b):0≤a * b∧a * b≤1000000000000000000:=by
 have h1:=hb.1
 have h2:=hb.2
 have h3:a * b≤1000000000 * 1000000000:=Int.mul_le_mul ha.2 h2 h1 (by omega)
 exact ⟨Int.mul_nonneg (by omega) h1,by omega⟩
@[reducible] noncomputable def S_z4:Spec:={ ins:=(.cons (.d tCirc) (.cons (.d tInt) (.cons (.d (.sl tInt)) .nil))),pre:=(fun x=>(fun c i vs=>SmallG c.1) x.1 x.2.1 x.2.2.1),alts:=[{ outs:=(.cons (.d tInt) (.cons (.d tInt) .nil)),res:=(fun x=>(fun c i vs=>((cntV c.1 i vs).1,(cntV c.1 i vs).2,())) x.1 x.2.1 x.2.2.1)}],noisy:=true}
noncomputable def c_z4:Cf:={ cf_z4 (Fl [(fi_z13,S_z13),(fi_z24,S_z24),(fi_z117,S_con_count_1)]) with E:={ (cf_z4 (Fl [(fi_z13,S_z13),(fi_z24,S_z24),(fi_z117,S_con_count_1)])).E with rows:=[13,18,28]},nz:=true,eat:=Eats SP,I:=Il [(fi_z25,S_z25)]}
theorem g_z4:∀ x,S_z4.pre x→shOK S_z4.ins x→fnGoal c_z4 fn_z4 S_z4 x:=by
 rintro ⟨⟨gs,⟨⟩⟩,(i:Int),(vs:List Int),⟨⟩⟩ hpre hok
 try dsimp only [Dat,SDat,dflt,Ty.size,keepS,bkUpd,Gv.bk,backS,wayA,maxI,minI,negI] at hpre
 have hln:=shLn_of _ hok;replace hok:=Hd.mk hok;try simp only [shLn,datLn,inRng,lo,hi,maxLen,true_and,and_true] at hln
 have hsm:SmallG gs:=hpre
 first|refine fn_goal (w_head ?_)|refine fnL_goal (w_head ?_)|refine fnI_goal (w_head ?_)
 intro Kz kz;(conv=>whnf);(try dsimp+instances only);refine kz _ ?_;clear kz Kz;(conv=>(arg 2;whnf))
 repeat' (first|refine an ?_ ?_|((try refine gm ?_);first|((with_reducible show Kz _);(try dsimp+instances only);(with_reducible refine kz _ ?_);clear kz Kz)|refine st ?_|(refine sr ?_;intro Kz kz;conv=>whnf)|(refine cd ?_;(conv=>arg 2;whnf);refine st ?_)|refine blockK_y (by rfl) ?_|(refine sw ?_;conv=>whnf))|(refine gm ?_;conv=>whnf)|(intro hc;(try dsimp+instances only[Dat,SDat,dflt,Ty.size,keepS,bkUpd,Gv.bk,backS,wayA,maxI,minI,negI]at hc);try simp only[LS]at hc))
 all_goals (try ((fail_if_success refine nl ?_);(try dsimp only[Dat,SDat,dflt,Ty.size,keepS,bkUpd,Gv.bk,backS,wayA,maxI,minI,negI]);(try simp only[LS]);first|done|exact dsc|((try simp only[allP,lo,hi,room,true_and,and_true,implies_true]);(repeat' (first|refine an ?_ ?_|((with_reducible refine preA_t ?_ ?_);rotate_left;exact sameP_t)|intro hv))<;>(try omega))))
 all_goals (try ((fail_if_success refine nl ?_);(exact hsm _ (by assumption))))
 all_goals (try ((fail_if_success refine nl ?_);(first|exact (congrArg Prod.fst (cntV_bad hc)).symm|exact (congrArg Prod.snd (cntV_bad hc)).symm)))
 all_goals (try ((fail_if_success refine nl ?_);(have h1:=(cntV_good hc).1.hi;have h2:=(cntV_good hc).1.v.1;omega)))
 obtain ⟨hg,hnn,hcv⟩:=cntV_good hc
 have hg0:=hg.lo
 have hg1:=hg.hi
 have hV:=hg.v
 have hmx:=hV.1
 refine w_rf S_z25 [(3, .cons (.row tInt) .nil)] (fun l y=>EvR (geN vs) rgN gs i l y.1.1) (by rfl) (by rfl) (by rfl) (by rfl) (by rfl) (by rfl) (by rfl) ?_ ?_
 rotate_left
 conv=>whnf
 refine And.intro ?_ (And.intro ?_ ?_)
 · exact EvR.start hg rgN_z
 · rintro ⟨k',g',⟨⟩⟩ r ⟨⟨row,⟨⟩⟩,⟨⟩⟩ hR
   have hR:EvR (geN vs) rgN gs i ((k',g',())::r) row:=hR
   obtain ⟨k,rest,rfl,rfl,rfl,hkr,hrr,hE⟩:=hR.cons
   have hln9:List.length (row:List Int)=i.toNat+1:=hR.ln
   have hki:=(reachT_mem.1 hkr).1
   have hkl:k<gs.length:=by omega
   have hkr9:k<List.length (row:List Int):=Nat.lt_of_lt_of_eq (Nat.lt_succ_of_le hki) hln9.symm
   have hkv:=leaf_val hV hkl
   have hks:=hsm _ (getD_mem (d:=((0,0,[],()):Gate)) hkl)
   have hset:=fun (v:Int) (h:cntG vs row ((List.getD gs k ((0,0,[],()):Gate)))=(v,0)) (q:rgN v)=>EvR.next (S:=geN vs) (Q:=rgN) hln9 hR.qs hkr9 hrr hE q h
   have hstop:=fun (h:(cntG vs row ((List.getD gs k ((0,0,[],()):Gate)))).2=2)=>show cntV gs i vs=(0,2) from by
    rw [hcv,ev_stop (S:=geN vs) hg hE (by show ¬ (cntG vs row ((List.getD gs k ((0,0,[],()):Gate)))).2=0;rw [h];decide)]
    exact Prod.ext rfl h
   have hkid:=fun (j:Nat) (h:(j:Int)<(((List.getD gs k ((0,0,[],()):Gate))).2.2.1.length:Int))=>kid_j hV hkl hkr9 h
   repeat' (first|refine an ?_ ?_|((try refine gm ?_);first|((with_reducible show Kz _);(try dsimp+instances only);(with_reducible refine kz _ ?_);clear kz Kz)|refine st ?_|(refine sr ?_;intro Kz kz;conv=>whnf)|(refine cd ?_;(conv=>arg 2;whnf);refine st ?_)|refine blockK_y (by rfl) ?_|(refine sw ?_;conv=>whnf))|(refine gm ?_;conv=>whnf)|(intro hc;(try dsimp+instances only[Dat,SDat,dflt,Ty.size,keepS,bkUpd,Gv.bk,backS,wayA,maxI,minI,negI]at hc);try simp only[LS]at hc))
   all_goals (try ((fail_if_success refine nl ?_);(try dsimp only[Dat,SDat,dflt,Ty.size,keepS,bkUpd,Gv.bk,backS,wayA,maxI,minI,negI]);(try simp only[LS]);first|done|exact dsc|((try simp only[allP,lo,hi,room,true_and,and_true,implies_true]);(repeat' (first|refine an ?_ ?_|((with_reducible refine preA_t ?_ ?_);rotate_left;exact sameP_t)|intro hv))<;>(try omega))))
   · exact hset 1 (cnt1 hc) rgN_1
   · exact (congrArg Prod.fst (hstop (cnt2b (by assumption) (by assumption) hc))).symm
   · exact (congrArg Prod.snd (hstop (cnt2b (by assumption) (by assumption) hc))).symm
   · exact hset _ (cnt2 (by assumption) (by assumption) hc) ⟨hnn _,Int.not_lt.1 hc⟩
   · exact hset 0 (cnt2n (by assumption) hc) rgN_z
   · refine w_loop [(72, .d tInt)] [(7, .cons (.d tInt) (.cons (.d .bool) .nil))] (fun y=>∃ j:Nat,SumJ row ((List.getD gs k ((0,0,[],()):Gate))).2.2.1 y.1.1 y.2.1.1 y.2.1.2.1 j) (fun y=>((List.getD gs k ((0,0,[],()):Gate))).2.2.1.length - y.1.1.toNat) ?_
     conv=>whnf
     refine And.intro ?_ ?_
     · exact ⟨0,SumJ.start⟩
     rintro ⟨⟨idx,⟨⟩⟩,⟨⟨n,lg,⟨⟩⟩,⟨⟩⟩⟩ ⟨j,hJ⟩
     have hJ:SumJ row ((List.getD gs k ((0,0,[],()):Gate))).2.2.1 idx n lg j:=hJ
     have hi9:=hJ.ix
     subst hi9
     have hf9:=hJ.f
     subst hf9
     have hlo:=hJ.lo
     have hhi:=hJ.hi
     have hle:=hJ.le
     have hkj:=hkid j
     have hq:=hR.qs (((List.getD gs k ((0,0,[],()):Gate))).2.2.1.getD j 0).toNat
     have hq1:0≤List.getD (row:List Int) (((List.getD gs k ((0,0,[],()):Gate))).2.2.1.getD j 0).toNat 0:=hq.1
     have hq2:List.getD (row:List Int) (((List.getD gs k ((0,0,[],()):Gate))).2.2.1.getD j 0).toNat 0≤1000000000:=hq.2
     have hs1: -9223372036854775808≤n+List.getD (row:List Int) (((List.getD gs k ((0,0,[],()):Gate))).2.2.1.getD j 0).toNat 0:=Int.le_trans (by decide) (Int.add_nonneg hlo hq1)
     have hs2:n+List.getD (row:List Int) (((List.getD gs k ((0,0,[],()):Gate))).2.2.1.getD j 0).toNat 0≤9223372036854775807:=Int.le_trans (Int.add_le_add hhi hq2) (by decide)
     repeat' (first|refine an ?_ ?_|((try refine gm ?_);first|((with_reducible show Kz _);(try dsimp+instances only);(with_reducible refine kz _ ?_);clear kz Kz)|refine st ?_|(refine sr ?_;intro Kz kz;conv=>whnf)|(refine cd ?_;(conv=>arg 2;whnf);refine st ?_)|refine blockK_y (by rfl) ?_|(refine sw ?_;conv=>whnf))|(refine gm ?_;conv=>whnf)|(intro hc;(try dsimp+instances only[Dat,SDat,dflt,Ty.size,keepS,bkUpd,Gv.bk,backS,wayA,maxI,minI,negI]at hc);try simp only[LS]at hc))
     all_goals (try ((fail_if_success refine nl ?_);(try dsimp only[Dat,SDat,dflt,Ty.size,keepS,bkUpd,Gv.bk,backS,wayA,maxI,minI,negI]);(try simp only[LS]);first|done|exact dsc|((try simp only[allP,lo,hi,room,true_and,and_true,implies_true]);(repeat' (first|refine an ?_ ?_|((with_reducible refine preA_t ?_ ?_);rotate_left;exact sameP_t)|intro hv))<;>(try omega))))
     · exact ⟨j+1,hJ.step (by assumption) hq1⟩
     · exact (congrArg Prod.fst (hstop (cnt3b (by assumption) (hJ.fin (by assumption)) hc))).symm
     · exact (congrArg Prod.snd (hstop (cnt3b (by assumption) (hJ.fin (by assumption)) hc))).symm
     · exact hset n (cnt3 (by assumption) (hJ.fin (by assumption)) hc) ⟨hlo,Int.not_lt.1 hc⟩
   · refine w_loop [(96, .d tInt)] [(7, .cons (.d tInt) (.cons (.d .bool) .nil))] (fun y=>∃ j:Nat,TimJ row ((List.getD gs k ((0,0,[],()):Gate))).2.2.1 y.1.1 y.2.1.1 y.2.1.2.1 j) (fun y=>((List.getD gs k ((0,0,[],()):Gate))).2.2.1.length - y.1.1.toNat) ?_
     conv=>whnf
     refine And.intro ?_ ?_
     · exact ⟨0,TimJ.start⟩
     rintro ⟨⟨idx,⟨⟩⟩,⟨⟨n,lg,⟨⟩⟩,⟨⟩⟩⟩ ⟨j,hJ⟩
     have hJ:TimJ row ((List.getD gs k ((0,0,[],()):Gate))).2.2.1 idx n lg j:=hJ
     have hi9:=hJ.i
     subst hi9
     have hle:=hJ.le
     have hkj:=hkid j
     have hq:=hR.qs (((List.getD gs k ((0,0,[],()):Gate))).2.2.1.getD j 0).toNat
     have hm9:=rgN_mul hJ.t.rg hq
     have hm1:0≤n * List.getD (row:List Int) (((List.getD gs k ((0,0,[],()):Gate))).2.2.1.getD j 0).toNat 0:=hm9.1
     have hm2:n * List.getD (row:List Int) (((List.getD gs k ((0,0,[],()):Gate))).2.2.1.getD j 0).toNat 0≤1000000000000000000:=hm9.2
     repeat' (first|refine an ?_ ?_|((try refine gm ?_);first|((with_reducible show Kz _);(try dsimp+instances only);(with_reducible refine kz _ ?_);clear kz Kz)|refine st ?_|(refine sr ?_;intro Kz kz;conv=>whnf)|(refine cd ?_;(conv=>arg 2;whnf);refine st ?_)|refine blockK_y (by rfl) ?_|(refine sw ?_;conv=>whnf))|(refine gm ?_;conv=>whnf)|(intro hc;(try dsimp+instances only[Dat,SDat,dflt,Ty.size,keepS,bkUpd,Gv.bk,backS,wayA,maxI,minI,negI]at hc);try simp only[LS]at hc))
     all_goals (try ((fail_if_success refine nl ?_);(try dsimp only[Dat,SDat,dflt,Ty.size,keepS,bkUpd,Gv.bk,backS,wayA,maxI,minI,negI]);(try simp only[LS]);first|done|exact dsc|((try simp only[allP,lo,hi,room,true_and,and_true,implies_true]);(repeat' (first|refine an ?_ ?_|((with_reducible refine preA_t ?_ ?_);rotate_left;exact sameP_t)|intro hv))<;>(try omega))))
     · exact hset 0 (cnt4z (by assumption) (atL_mem (show j<((List.getD gs k ((0,0,[],()):Gate))).2.2.1.length by omega) hc)) rgN_z
     · exact Int.le_trans (by decide) hm1
     · exact Int.le_trans hm2 (by decide)
     · exact ⟨j+1,hJ.big (by assumption) hq (by assumption) hc⟩
     · exact ⟨j+1,hJ.step (by assumption) hq (by assumption) hc⟩
     · subst hc
       exact (congrArg Prod.fst (hstop (cnt4b (by assumption) (hJ.fin (by assumption))))).symm
     · subst hc
       exact (congrArg Prod.snd (hstop (cnt4b (by assumption) (hJ.fin (by assumption))))).symm
     · subst hc
       have h4:=hJ.t.rg
       exact hset n (cnt4 (by assumption) (hJ.fin (by assumption))) ⟨by omega,h4.2⟩
   · exact hset 0 (cnt5 (by assumption) (by assumption) (by assumption) hc) rgN_z
 · rintro ⟨⟨row,⟨⟩⟩,⟨⟩⟩ hR
   have hR:EvR (geN vs) rgN gs i [] row:=hR
   have hf:=hR.fin hg
   have hln9:List.length (row:List Int)=i.toNat+1:=hR.ln
   repeat' (first|refine an ?_ ?_|((try refine gm ?_);first|((with_reducible show Kz _);(try dsimp+instances only);(with_reducible refine kz _ ?_);clear kz Kz)|refine st ?_|(refine sr ?_;intro Kz kz;conv=>whnf)|(refine cd ?_;(conv=>arg 2;whnf);refine st ?_)|refine blockK_y (by rfl) ?_|(refine sw ?_;conv=>whnf))|(refine gm ?_;conv=>whnf)|(intro hc;(try dsimp+instances only[Dat,SDat,dflt,Ty.size,keepS,bkUpd,Gv.bk,backS,wayA,maxI,minI,negI]at hc);try simp only[LS]at hc))
   all_goals (try ((fail_if_success refine nl ?_);(try dsimp only[Dat,SDat,dflt,Ty.size,keepS,bkUpd,Gv.bk,backS,wayA,maxI,minI,negI]);(try simp only[LS]);first|done|exact dsc|((try simp only[allP,lo,hi,room,true_and,and_true,implies_true]);(repeat' (first|refine an ?_ ?_|((with_reducible refine preA_t ?_ ?_);rotate_left;exact sameP_t)|intro hv))<;>(try omega))))
   · rw [hcv,hf];rfl
   · rw [hcv,hf]
 · exact ⟨i,gs,rfl,rfl,hg,hsm⟩
theorem ok_z4:SpecOK SP glob fi_z4 S_z4:=mk_ok (c:=c_z4) (tab_ok _) mix_ok wf_z4 (by decide) (.cons ok_z13 (.cons ok_z24 (.cons ok_con_count_1 .nil))) (fun x hx=>Nat.zero_lt_one) g_z4 (hL:=(LateOK.of rfl .nil (.cons ok_z25 .nil)))
end Go.Gv
