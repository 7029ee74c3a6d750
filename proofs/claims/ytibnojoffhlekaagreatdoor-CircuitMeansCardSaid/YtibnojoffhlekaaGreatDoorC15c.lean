/- Chapter 15: the program's values. -/
import Derived.Test.YtibnojoffhlekaaGreatDoorC15b
set_option linter.all false
namespace Go.Gv
open Go Go.Proofs Go.Proofs.YtibnojoffhlekaaGreatDoor
set_option maxRecDepth 100000
set_option maxHeartbeats 4000000
theorem okP_mono {l:List Pw} (h:okP l):∀ (j i:Nat),i≤j→j<l.length→(l.getD i ((0,0,()):Pw)).1≤(l.getD j ((0,0,()):Pw)).1
 |0,i,hi,_=>by rw [Nat.le_zero.1 hi];exact Int.le_refl _
 |j+1,i,hi,hj=>by
  rcases Nat.lt_or_ge i (j+1) with h1|h1
  · have ih:=okP_mono h j i (by omega) (by omega)
    have:=(h (j+1) hj).2.2.2.2 (by omega)
    exact Int.le_trans ih (Int.le_of_lt this)
  · rw [show i=j+1 by omega];exact Int.le_refl _
theorem okP_last {l:List Pw} (h:okP l) {v:Int} (hv:0<l.length→(l.getD (l.length - 1) ((0,0,()):Pw)).1<v):∀ x∈l,x.1<v:=fun x hx=>by
 obtain ⟨i,hi,rfl⟩:=List.getElem_of_mem hx
 have:=okP_mono h (l.length - 1) i (by omega) (by omega)
 rw [getD_ok ((0,0,()):Pw) hi] at this
 exact Int.lt_of_le_of_lt this (hv (by omega))
theorem any_vs {vals:List Int}:(vals.any fun v=>decide (v<0∨1000000000<v))=false↔vsOK vals:=by
 simp [vsOK]
@[reducible] noncomputable def S_z64:Spec:={ ins:=(.cons (.d tInt) .nil),pre:=fun _=>True,alts:=[{ outs:=(.cons (.d .bool) .nil),res:=(fun x=>(fun v=>(decide (v<0∨1000000000<v),())) x.1)}]}
noncomputable def c_z64:Cf:=(cf_z64 (Fl []))
theorem g_z64:∀ x,S_z64.pre x→shOK S_z64.ins x→fnGoal c_z64 fn_z64 S_z64 x:=by
 rintro ⟨v,⟨⟩⟩ hpre hok
 clear hpre
 have hln:=shLn_of _ hok;replace hok:=Hd.mk hok;try simp only [shLn,datLn,inRng,lo,hi,maxLen,true_and,and_true] at hln
 first|refine fn_goal (w_head ?_)
 intro Kz kz;(conv=>whnf);(try dsimp+instances only);refine kz _ ?_;clear kz Kz;(conv=>(arg 2;whnf))
 repeat' (first|refine an ?_ ?_|((try refine gm ?_);first|((with_reducible show Kz _);(try dsimp+instances only);(with_reducible refine kz _ ?_);clear kz Kz)|refine st ?_|(refine sr ?_;intro Kz kz;conv=>whnf)|(refine cd ?_;(conv=>arg 2;whnf);refine st ?_)|refine blockK_y (by rfl) ?_|(refine sw ?_;conv=>whnf))|(refine gm ?_;conv=>whnf)|(intro hc;(try dsimp+instances only[Dat,SDat,dflt,Ty.size,keepS,bkUpd,Gv.bk,backS,wayA,maxI,minI,negI]at hc);try simp only[LS]at hc))
 all_goals (try ((fail_if_success refine nl ?_);(try dsimp only[Dat,SDat,dflt,Ty.size,keepS,bkUpd,Gv.bk,backS,wayA,maxI,minI,negI]);(try simp only[LS]);first|done|exact dsc|((try simp only[allP,lo,hi,room,true_and,and_true,implies_true]);(repeat' (first|refine an ?_ ?_|((with_reducible refine preA_t ?_ ?_);rotate_left;exact sameP_t)|intro hv))<;>(try omega))))
theorem ok_z64:SpecOK SP glob fi_z64 S_z64:=mk_ok (c:=c_z64) (tab_ok _) mix_ok wf_z64 (by decide) .nil (fun x hx=>Nat.zero_lt_one) g_z64
@[reducible] noncomputable def S_idx_eval_1:Spec:={ ins:=(.cons (.d (.sl tInt)) (.cons (.clos fi_z64 .nil) .nil)),pre:=fun _=>True,alts:=[{ outs:=(.cons (.d tInt) .nil),res:=(fun x=>(fun s c=>(findI (fun k=>(fun (_:Unit) (k:Int)=>decide (k<0∨1000000000<k)) c k) s,())) x.1 x.2.1)}]}
noncomputable def c_idx_eval_1:Cf:=(cf_z121 (Fl [(fi_z64,S_z64)]))
theorem g_idx_eval_1:∀ x,S_idx_eval_1.pre x→shOK S_idx_eval_1.ins x→fnGoal c_idx_eval_1 fn_z121 S_idx_eval_1 x:=by
 rintro ⟨s,⟨⟩,⟨⟩⟩ hpre hok
 clear hpre
 have hln:=shLn_of _ hok;replace hok:=Hd.mk hok;try simp only [shLn,datLn,inRng,lo,hi,maxLen,true_and,and_true] at hln
 first|refine fn_goal (w_head ?_)
 intro Kz kz;(conv=>whnf);(try dsimp+instances only);refine kz _ ?_;clear kz Kz;(conv=>(arg 2;whnf))
 repeat' (first|refine an ?_ ?_|((try refine gm ?_);first|((with_reducible show Kz _);(try dsimp+instances only);(with_reducible refine kz _ ?_);clear kz Kz)|refine st ?_|(refine sr ?_;intro Kz kz;conv=>whnf)|(refine cd ?_;(conv=>arg 2;whnf);refine st ?_)|refine blockK_y (by rfl) ?_|(refine sw ?_;conv=>whnf))|(refine gm ?_;conv=>whnf)|(intro hc;(try dsimp+instances only[Dat,SDat,dflt,Ty.size,keepS,bkUpd,Gv.bk,backS,wayA,maxI,minI,negI]at hc);try simp only[LS]at hc))
 all_goals (try ((fail_if_success refine nl ?_);(try dsimp only[Dat,SDat,dflt,Ty.size,keepS,bkUpd,Gv.bk,backS,wayA,maxI,minI,negI]);(try simp only[LS]);first|done|exact dsc|((try simp only[allP,lo,hi,room,true_and,and_true,implies_true]);(repeat' (first|refine an ?_ ?_|((with_reducible refine preA_t ?_ ?_);rotate_left;exact sameP_t)|intro hv))<;>(try omega))))
 refine w_loop [(8, .d tInt)] [] (fun y=>∃ k:Nat,y.1.1=(k:Int)∧k≤s.length∧∀ x∈s.take k,(fun (_:Unit) (k:Int)=>decide (k<0∨1000000000<k)) ⟨⟩ x=false) (fun y=>s.length - y.1.1.toNat) ?_
 conv=>whnf
 refine And.intro ?_ ?_
 · exact ⟨0,by simp⟩
 rintro ⟨⟨_,⟨⟩⟩,⟨⟩⟩ ⟨k,rfl,hk,hj⟩
 repeat' (first|refine an ?_ ?_|((try refine gm ?_);first|((with_reducible show Kz _);(try dsimp+instances only);(with_reducible refine kz _ ?_);clear kz Kz)|refine st ?_|(refine sr ?_;intro Kz kz;conv=>whnf)|(refine cd ?_;(conv=>arg 2;whnf);refine st ?_)|refine blockK_y (by rfl) ?_|(refine sw ?_;conv=>whnf))|(refine gm ?_;conv=>whnf)|(intro hc;(try dsimp+instances only[Dat,SDat,dflt,Ty.size,keepS,bkUpd,Gv.bk,backS,wayA,maxI,minI,negI]at hc);try simp only[LS]at hc))
 all_goals (try ((fail_if_success refine nl ?_);(try dsimp only[Dat,SDat,dflt,Ty.size,keepS,bkUpd,Gv.bk,backS,wayA,maxI,minI,negI]);(try simp only[LS]);first|done|exact dsc|((try simp only[allP,lo,hi,room,true_and,and_true,implies_true]);(repeat' (first|refine an ?_ ?_|((with_reducible refine preA_t ?_ ?_);rotate_left;exact sameP_t)|intro hv))<;>(try omega))))
 · exact (findI_hit (d:=0) hj (by omega) (by first|exact hc|(simpa using hc)|(simp at hc ⊢;grind))).symm
 · refine ⟨k+1,by omega,by omega,fun x hx=>?_⟩
   have hst:=all_step (p:=fun x=>(fun (_:Unit) (k:Int)=>decide (k<0∨1000000000<k)) ⟨⟩ x=false) (d:=0) hj (by omega) (by first|exact hc|(simpa using hc)|(simp at hc ⊢;grind)) x hx
   first|exact hst|simpa using hst|(simp at hst ⊢;grind)
 · exact (findI_miss hj (by omega)).symm
theorem ok_idx_eval_1:SpecOK SP glob fi_z121 S_idx_eval_1:=mk_ok (c:=c_idx_eval_1) (tab_ok _) mix_ok wf_z121 (by decide) (.cons ok_z64 .nil) (fun x hx=>Nat.zero_lt_one) g_idx_eval_1
@[reducible] noncomputable def S_con_eval_1:Spec:={ ins:=(.cons (.d (.sl tInt)) (.cons (.clos fi_z64 .nil) .nil)),pre:=fun _=>True,alts:=[{ outs:=(.cons (.d .bool) .nil),res:=(fun x=>(fun s c=>(s.any (fun k=>(fun (_:Unit) (k:Int)=>decide (k<0∨1000000000<k)) c k),())) x.1 x.2.1)}]}
noncomputable def c_con_eval_1:Cf:=(cf_z117 (Fl [(fi_z121,S_idx_eval_1)]))
theorem g_con_eval_1:∀ x,S_con_eval_1.pre x→shOK S_con_eval_1.ins x→fnGoal c_con_eval_1 fn_z117 S_con_eval_1 x:=by
 rintro ⟨s,⟨⟩,⟨⟩⟩ hpre hok
 clear hpre
 have hln:=shLn_of _ hok;replace hok:=Hd.mk hok;try simp only [shLn,datLn,inRng,lo,hi,maxLen,true_and,and_true] at hln
 first|refine fn_goal (w_head ?_)
 intro Kz kz;(conv=>whnf);(try dsimp+instances only);refine kz _ ?_;clear kz Kz;(conv=>(arg 2;whnf))
 repeat' (first|refine an ?_ ?_|((try refine gm ?_);first|((with_reducible show Kz _);(try dsimp+instances only);(with_reducible refine kz _ ?_);clear kz Kz)|refine st ?_|(refine sr ?_;intro Kz kz;conv=>whnf)|(refine cd ?_;(conv=>arg 2;whnf);refine st ?_)|refine blockK_y (by rfl) ?_|(refine sw ?_;conv=>whnf))|(refine gm ?_;conv=>whnf)|(intro hc;(try dsimp+instances only[Dat,SDat,dflt,Ty.size,keepS,bkUpd,Gv.bk,backS,wayA,maxI,minI,negI]at hc);try simp only[LS]at hc))
 all_goals (try ((fail_if_success refine nl ?_);(try dsimp only[Dat,SDat,dflt,Ty.size,keepS,bkUpd,Gv.bk,backS,wayA,maxI,minI,negI]);(try simp only[LS]);first|done|exact dsc|((try simp only[allP,lo,hi,room,true_and,and_true,implies_true]);(repeat' (first|refine an ?_ ?_|((with_reducible refine preA_t ?_ ?_);rotate_left;exact sameP_t)|intro hv))<;>(try omega))))
 · rw [boolOf_eq,Bool.eq_iff_iff,decide_eq_true_eq];exact findI_ge
theorem ok_con_eval_1:SpecOK SP glob fi_z117 S_con_eval_1:=mk_ok (c:=c_con_eval_1) (tab_ok _) mix_ok wf_z117 (by decide) (.cons ok_idx_eval_1 .nil) (fun x hx=>Nat.zero_lt_one) g_con_eval_1
@[reducible] noncomputable def S_z63:Spec:={ ins:=(.cons (.d tPoly) (.cons (.d (.sl tInt)) .nil)),pre:=fun _=>True,alts:=[{ outs:=(.cons (.d tInt) (.cons (.d tInt) .nil)),res:=(fun x=>(fun p vals=>(evV p vals,evE p vals,())) x.1 x.2.1)}]}
noncomputable def c_z63:Cf:=(cf_z63 (Fl [(fi_z66,S_z66),(fi_z117,S_con_eval_1)]))
theorem g_z63:∀ x,S_z63.pre x→shOK S_z63.ins x→fnGoal c_z63 fn_z63 S_z63 x:=by
 rintro ⟨p,vals,⟨⟩⟩ hpre hok
 clear hpre
 have hln:=shLn_of _ hok;replace hok:=Hd.mk hok;try simp only [shLn,datLn,inRng,lo,hi,maxLen,true_and,and_true] at hln
 first|refine fn_goal (w_head ?_)
 intro Kz kz;(conv=>whnf);(try dsimp+instances only);refine kz _ ?_;clear kz Kz;(conv=>(arg 2;whnf))
 repeat' (first|refine an ?_ ?_|((try refine gm ?_);first|((with_reducible show Kz _);(try dsimp+instances only);(with_reducible refine kz _ ?_);clear kz Kz)|refine st ?_|(refine sr ?_;intro Kz kz;conv=>whnf)|(refine cd ?_;(conv=>arg 2;whnf);refine st ?_)|refine blockK_y (by rfl) ?_|(refine sw ?_;conv=>whnf))|(refine gm ?_;conv=>whnf)|(intro hc;(try dsimp+instances only[Dat,SDat,dflt,Ty.size,keepS,bkUpd,Gv.bk,backS,wayA,maxI,minI,negI]at hc);try simp only[LS]at hc))
 all_goals (try ((fail_if_success refine nl ?_);(try dsimp only[Dat,SDat,dflt,Ty.size,keepS,bkUpd,Gv.bk,backS,wayA,maxI,minI,negI]);(try simp only[LS]);first|done|exact dsc|((try simp only[allP,lo,hi,room,true_and,and_true,implies_true]);(repeat' (first|refine an ?_ ?_|((with_reducible refine preA_t ?_ ?_);rotate_left;exact sameP_t)|intro hv))<;>(try omega))))
 · refine (ev_no fun h=>hc.elim (fun a=>a h.1) (fun a=>?_)).1.symm
   rw [any_vs.2 h.2.1] at a;cases a
 · refine (ev_no fun h=>hc.elim (fun a=>a h.1) (fun a=>?_)).2.symm
   rw [any_vs.2 h.2.1] at a;cases a
 have hc2:=not_or.1 hc
 have hval:ValidP p:=Classical.not_not.1 hc2.1
 have hvs:vsOK vals:=any_vs.1 (Bool.eq_false_iff.2 hc2.2)
 clear hc hc2
 refine w_loop [(24, .d tInt)] [] (fun y=>∃ k:Nat,y.1.1=(k:Int)∧k≤p.length∧∀ m∈p.take k,0<m.2.1.length→(m.2.1.getD (m.2.1.length - 1) ((0,0,()):Pw)).1<vals.length) (fun y=>p.length - y.1.1.toNat) ?_
 conv=>whnf
 refine And.intro ?_ ?_
 · exact ⟨0,by simp⟩
 rintro ⟨⟨_,⟨⟩⟩,⟨⟩⟩ ⟨n,rfl,hn,hj⟩
 have hgl:n<p.length→(List.getD p n ((0,[],()):Mo)).2.1.length≤2 ^ 63 - 1:=fun h=>(hok.out.1.2 _ (getD_mem (l:=p) (d:=((0,[],()):Mo)) h)).2.1.1
 repeat' (first|refine an ?_ ?_|((try refine gm ?_);first|((with_reducible show Kz _);(try dsimp+instances only);(with_reducible refine kz _ ?_);clear kz Kz)|refine st ?_|(refine sr ?_;intro Kz kz;conv=>whnf)|(refine cd ?_;(conv=>arg 2;whnf);refine st ?_)|refine blockK_y (by rfl) ?_|(refine sw ?_;conv=>whnf))|(refine gm ?_;conv=>whnf)|(intro hc;(try dsimp+instances only[Dat,SDat,dflt,Ty.size,keepS,bkUpd,Gv.bk,backS,wayA,maxI,minI,negI]at hc);try simp only[LS]at hc))
 all_goals (try ((fail_if_success refine nl ?_);(try dsimp only[Dat,SDat,dflt,Ty.size,keepS,bkUpd,Gv.bk,backS,wayA,maxI,minI,negI]);(try simp only[LS]);first|done|exact dsc|((try simp only[allP,lo,hi,room,true_and,and_true,implies_true]);(repeat' (first|refine an ?_ ?_|((with_reducible refine preA_t ?_ ?_);rotate_left;exact sameP_t)|intro hv))<;>(try omega))))
 · have e:(((List.getD p n ((0,[],()):Mo)).2.1.length:Int) - 1).toNat=(List.getD p n ((0,[],()):Mo)).2.1.length - 1:=by omega
   rw [e] at hc
   exact (ev_no fun h=>absurd (h.2.2 _ (getD_mem (l:=p) (d:=((0,[],()):Mo)) (k:=n) (by omega)) _ (getD_mem (l:=(List.getD p n ((0,[],()):Mo)).2.1) (d:=((0,0,()):Pw)) (k:=(List.getD p n ((0,[],()):Mo)).2.1.length - 1) (by omega))) (Int.not_lt.2 hc.2)).1.symm
 · have e:(((List.getD p n ((0,[],()):Mo)).2.1.length:Int) - 1).toNat=(List.getD p n ((0,[],()):Mo)).2.1.length - 1:=by omega
   rw [e] at hc
   exact (ev_no fun h=>absurd (h.2.2 _ (getD_mem (l:=p) (d:=((0,[],()):Mo)) (k:=n) (by omega)) _ (getD_mem (l:=(List.getD p n ((0,[],()):Mo)).2.1) (d:=((0,0,()):Pw)) (k:=(List.getD p n ((0,[],()):Mo)).2.1.length - 1) (by omega))) (Int.not_lt.2 hc.2)).2.symm
 · have e:(((List.getD p n ((0,[],()):Mo)).2.1.length:Int) - 1).toNat=(List.getD p n ((0,[],()):Mo)).2.1.length - 1:=by omega
   rw [e] at hc
   exact ⟨n+1,by omega,by omega,all_step (d:=((0,[],()):Mo)) hj (by omega) (fun h=>Int.not_le.1 fun a=>hc ⟨by omega,a⟩)⟩
 have hev:evOK p vals:=⟨hval,hvs,fun m hm=>okP_last (valid_mem hval hm).2.2 (all_end hj (by omega) m hm)⟩
 clear hj hgl
 have hmv:=fun m hm=>ev_mv hev (m:=m) hm
 refine w_loop [(9, .d tInt),(48, .d tInt)] [] (fun y=>∃ k:Nat,y.1.2.1=(k:Int)∧k≤p.length∧y.1.1=sumS vals (p.take k)) (fun y=>p.length - y.1.2.1.toNat) ?_
 conv=>whnf
 refine And.intro ?_ ?_
 · exact ⟨0,by simp [sumS]⟩
 rintro ⟨⟨su,_,⟨⟩⟩,⟨⟩⟩ ⟨n,rfl,hn,hsu⟩
 have hsu:@Eq Int su (sumS vals (p.take n)):=hsu
 subst hsu
 have hsr:=sumS_rg (fun v hv=>(hvs v hv).1) (p:=p.take n) fun m hm=>⟨(hmv m (List.mem_of_mem_take hm)).1,(hmv m (List.mem_of_mem_take hm)).2.1⟩
 have hpr:n<p.length→(0≤(p.getD n ((0,[],()):Mo)).1∧(p.getD n ((0,[],()):Mo)).1≤1000000001∧mvOK vals (p.getD n ((0,[],()):Mo)).2.1∧vsOK vals)∧0≤prodS vals (p.getD n ((0,[],()):Mo)).1 (p.getD n ((0,[],()):Mo)).2.1∧prodS vals (p.getD n ((0,[],()):Mo)).1 (p.getD n ((0,[],()):Mo)).2.1≤1000000001:=fun h=>by
  have h1:=hmv _ (getD_mem (d:=((0,[],()):Mo)) h)
  exact ⟨h1,prodS_rg (fun v hv=>(hvs v hv).1) h1.1 h1.2.1⟩
 repeat' (first|refine an ?_ ?_|((try refine gm ?_);first|((with_reducible show Kz _);(try dsimp+instances only);(with_reducible refine kz _ ?_);clear kz Kz)|refine st ?_|(refine sr ?_;intro Kz kz;conv=>whnf)|(refine cd ?_;(conv=>arg 2;whnf);refine st ?_)|refine blockK_y (by rfl) ?_|(refine sw ?_;conv=>whnf))|(refine gm ?_;conv=>whnf)|(intro hc;(try dsimp+instances only[Dat,SDat,dflt,Ty.size,keepS,bkUpd,Gv.bk,backS,wayA,maxI,minI,negI]at hc);try simp only[LS]at hc))
 all_goals (try ((fail_if_success refine nl ?_);(try dsimp only[Dat,SDat,dflt,Ty.size,keepS,bkUpd,Gv.bk,backS,wayA,maxI,minI,negI]);(try simp only[LS]);first|done|exact dsc|((try simp only[allP,lo,hi,room,true_and,and_true,implies_true]);(repeat' (first|refine an ?_ ?_|((with_reducible refine preA_t ?_ ?_);rotate_left;exact sameP_t)|intro hv))<;>(try omega))))
 · have hp:=hpr (by omega)
   have hgl:(List.getD p n ((0,[],()):Mo)).2.1.length≤2 ^ 63 - 1:=(hok.out.1.2 _ (getD_mem (l:=p) (d:=((0,[],()):Mo)) (by omega))).2.1.1
   refine w_loop [(12, .d tInt),(57, .d tInt)] [] (fun y=>∃ q:Nat,y.1.2.1=(q:Int)∧q≤(List.getD p n ((0,[],()):Mo)).2.1.length∧y.1.1=prodS vals (List.getD p n ((0,[],()):Mo)).1 ((List.getD p n ((0,[],()):Mo)).2.1.take q)) (fun y=>(List.getD p n ((0,[],()):Mo)).2.1.length - y.1.2.1.toNat) ?_
   conv=>whnf
   refine And.intro ?_ ?_
   · exact ⟨0,rfl,by omega,rfl⟩
   rintro ⟨⟨ou,_,⟨⟩⟩,⟨⟩⟩ ⟨q,rfl,hq,hou⟩
   have hou:@Eq Int ou (prodS vals (List.getD p n ((0,[],()):Mo)).1 ((List.getD p n ((0,[],()):Mo)).2.1.take q)):=hou
   subst hou
   have hps:=prodS_rg (vals:=vals) (fun v hv=>(hvs v hv).1) (l:=(List.getD p n ((0,[],()):Mo)).2.1.take q) hp.1.1 hp.1.2.1
   have hx:q<(List.getD p n ((0,[],()):Mo)).2.1.length→mvAt vals ((List.getD p n ((0,[],()):Mo)).2.1.getD q ((0,0,()):Pw)):=fun h=>hp.1.2.2.1 _ (getD_mem (d:=((0,0,()):Pw)) h)
   have hv:q<(List.getD p n ((0,[],()):Mo)).2.1.length→0≤(List.getD vals (List.getD (List.getD p n ((0,[],()):Mo)).2.1 q ((0,0,()):Pw)).1.toNat 0)∧(List.getD vals (List.getD (List.getD p n ((0,[],()):Mo)).2.1 q ((0,0,()):Pw)).1.toNat 0)≤1000000000:=fun h=>hvs _ (getD_mem (by have:=hx h;unfold mvAt at this;omega))
   unfold mvAt at hx
   repeat' (first|refine an ?_ ?_|((try refine gm ?_);first|((with_reducible show Kz _);(try dsimp+instances only);(with_reducible refine kz _ ?_);clear kz Kz)|refine st ?_|(refine sr ?_;intro Kz kz;conv=>whnf)|(refine cd ?_;(conv=>arg 2;whnf);refine st ?_)|refine blockK_y (by rfl) ?_|(refine sw ?_;conv=>whnf))|(refine gm ?_;conv=>whnf)|(intro hc;(try dsimp+instances only[Dat,SDat,dflt,Ty.size,keepS,bkUpd,Gv.bk,backS,wayA,maxI,minI,negI]at hc);try simp only[LS]at hc))
   all_goals (try ((fail_if_success refine nl ?_);(try dsimp only[Dat,SDat,dflt,Ty.size,keepS,bkUpd,Gv.bk,backS,wayA,maxI,minI,negI]);(try simp only[LS]);first|done|exact dsc|((try simp only[allP,lo,hi,room,true_and,and_true,implies_true]);(repeat' (first|refine an ?_ ?_|((with_reducible refine preA_t ?_ ?_);rotate_left;exact sameP_t)|intro hv))<;>(try omega))))
   · have hx:=hx (by omega)
     have hv:=hv (by omega)
     refine w_loop [(12, .d tInt),(69, .d tInt)] [] (fun y=>∃ j:Nat,y.1.2.1=(j:Int)∧(j:Int)≤(List.getD (List.getD p n ((0,[],()):Mo)).2.1 q ((0,0,()):Pw)).2.1∧y.1.1=powS (0) (List.getD vals (List.getD (List.getD p n ((0,[],()):Mo)).2.1 q ((0,0,()):Pw)).1.toNat 0) j) (fun y=>(List.getD (List.getD p n ((0,[],()):Mo)).2.1 q ((0,0,()):Pw)).2.1.toNat - y.1.2.1.toNat) ?_
     conv=>whnf
     refine And.intro ?_ ?_
     · exact ⟨0,rfl,by omega,rfl⟩
     rintro ⟨⟨ou,_,⟨⟩⟩,⟨⟩⟩ ⟨j,rfl,hj,hou⟩
     have hou:@Eq Int ou (powS (0) (List.getD vals (List.getD (List.getD p n ((0,[],()):Mo)).2.1 q ((0,0,()):Pw)).1.toNat 0) j):=hou
     subst hou
     have hr:=powS_rg (c:=0) (by omega) (by omega) hv.1 j
     have hm:=mul_rg hr.1 hr.2 hv.1 hv.2
     repeat' (first|refine an ?_ ?_|((try refine gm ?_);first|((with_reducible show Kz _);(try dsimp+instances only);(with_reducible refine kz _ ?_);clear kz Kz)|refine st ?_|(refine sr ?_;intro Kz kz;conv=>whnf)|(refine cd ?_;(conv=>arg 2;whnf);refine st ?_)|refine blockK_y (by rfl) ?_|(refine sw ?_;conv=>whnf))|(refine gm ?_;conv=>whnf)|(intro hc;(try dsimp+instances only[Dat,SDat,dflt,Ty.size,keepS,bkUpd,Gv.bk,backS,wayA,maxI,minI,negI]at hc);try simp only[LS]at hc))
     all_goals (try ((fail_if_success refine nl ?_);(try dsimp only[Dat,SDat,dflt,Ty.size,keepS,bkUpd,Gv.bk,backS,wayA,maxI,minI,negI]);(try simp only[LS]);first|done|exact dsc|((try simp only[allP,lo,hi,room,true_and,and_true,implies_true]);(repeat' (first|refine an ?_ ?_|((with_reducible refine preA_t ?_ ?_);rotate_left;exact sameP_t)|intro hv))<;>(try omega))))
     · exact ⟨j+1,by omega,by omega,rfl⟩
     · refine ⟨q+1,by omega,by omega,?_⟩
       rw [prodS_step (by omega)]
       rw [show (List.getD vals (List.getD (List.getD p n ((0,[],()):Mo)).2.1 q ((0,0,()):Pw)).1.toNat 0)=0 from by assumption,powS_zero,powS_at0 (by omega)]
   · have hx:=hx (by omega)
     have hv:=hv (by omega)
     refine w_loop [(12, .d tInt),(69, .d tInt)] [] (fun y=>∃ j:Nat,y.1.2.1=(j:Int)∧(j:Int)≤(List.getD (List.getD p n ((0,[],()):Mo)).2.1 q ((0,0,()):Pw)).2.1∧y.1.1=powS (prodS vals (List.getD p n ((0,[],()):Mo)).1 ((List.getD p n ((0,[],()):Mo)).2.1.take q)) (List.getD vals (List.getD (List.getD p n ((0,[],()):Mo)).2.1 q ((0,0,()):Pw)).1.toNat 0) j) (fun y=>(List.getD (List.getD p n ((0,[],()):Mo)).2.1 q ((0,0,()):Pw)).2.1.toNat - y.1.2.1.toNat) ?_
     conv=>whnf
     refine And.intro ?_ ?_
     · exact ⟨0,rfl,by omega,rfl⟩
     rintro ⟨⟨ou,_,⟨⟩⟩,⟨⟩⟩ ⟨j,rfl,hj,hou⟩
     have hou:@Eq Int ou (powS (prodS vals (List.getD p n ((0,[],()):Mo)).1 ((List.getD p n ((0,[],()):Mo)).2.1.take q)) (List.getD vals (List.getD (List.getD p n ((0,[],()):Mo)).2.1 q ((0,0,()):Pw)).1.toNat 0) j):=hou
     subst hou
     have hr:=powS_rg (c:=prodS vals (List.getD p n ((0,[],()):Mo)).1 ((List.getD p n ((0,[],()):Mo)).2.1.take q)) (by omega) (by omega) hv.1 j
     have hm:=mul_rg hr.1 hr.2 hv.1 hv.2
     repeat' (first|refine an ?_ ?_|((try refine gm ?_);first|((with_reducible show Kz _);(try dsimp+instances only);(with_reducible refine kz _ ?_);clear kz Kz)|refine st ?_|(refine sr ?_;intro Kz kz;conv=>whnf)|(refine cd ?_;(conv=>arg 2;whnf);refine st ?_)|refine blockK_y (by rfl) ?_|(refine sw ?_;conv=>whnf))|(refine gm ?_;conv=>whnf)|(intro hc;(try dsimp+instances only[Dat,SDat,dflt,Ty.size,keepS,bkUpd,Gv.bk,backS,wayA,maxI,minI,negI]at hc);try simp only[LS]at hc))
     all_goals (try ((fail_if_success refine nl ?_);(try dsimp only[Dat,SDat,dflt,Ty.size,keepS,bkUpd,Gv.bk,backS,wayA,maxI,minI,negI]);(try simp only[LS]);first|done|exact dsc|((try simp only[allP,lo,hi,room,true_and,and_true,implies_true]);(repeat' (first|refine an ?_ ?_|((with_reducible refine preA_t ?_ ?_);rotate_left;exact sameP_t)|intro hv))<;>(try omega))))
     · exact ⟨j+1,by omega,by omega,rfl⟩
     · refine ⟨q+1,by omega,by omega,?_⟩
       rw [prodS_step (by omega)]
       congr 1
       omega
   · have hT:(List.getD p n ((0,[],()):Mo)).2.1.take q=(List.getD p n ((0,[],()):Mo)).2.1:=List.take_of_length_le (by omega)
     rw [hT]
     exact ⟨n+1,by omega,by omega,(sumS_step (by omega)).symm⟩
 all_goals
  have hT:p.take n=p:=List.take_of_length_le (by omega)
  rw [hT] at hc
  first|rw [(ev_yes hev).1,if_pos hc]|rw [(ev_yes hev).2,if_pos hc]|rw [(ev_yes hev).2,if_neg hc]|rw [hT,(ev_yes hev).1,if_neg hc]
theorem ok_z63:SpecOK SP glob fi_z63 S_z63:=mk_ok (c:=c_z63) (tab_ok _) mix_ok wf_z63 (by decide) (.cons ok_z66 (.cons ok_con_eval_1 .nil)) (fun x hx=>Nat.zero_lt_one) g_z63
end Go.Gv
