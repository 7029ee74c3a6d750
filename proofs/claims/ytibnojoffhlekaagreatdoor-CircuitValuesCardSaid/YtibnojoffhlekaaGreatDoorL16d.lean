/- The statements of chapter 16: counts are values of polynomials. -/
import Derived.Test.YtibnojoffhlekaaGreatDoorL16
import Derived.Test.YtibnojoffhlekaaGreatDoorP16n
set_option linter.all false
namespace Go.Gv
open Go Go.Proofs Go.Proofs.YtibnojoffhlekaaGreatDoor
set_option maxRecDepth 100000
set_option maxHeartbeats 4000000
theorem cntV_nn {gs:List Gate} {i:Int} {vs:List Int} (h:∀ v∈vs,0≤v):cntV gs i vs=evC (geN vs) gs i:=if_neg fun q=>by
 obtain ⟨x,hx,k⟩:=List.any_eq_true.1 q
 have:=h x hx
 have:=of_decide_eq_true k
 omega
theorem set_nn {l:List Int} {k:Nat} {v:Int} (h:∀ x∈l,0≤x) (hv:0≤v):∀ x∈l.set k v,0≤x:=fun x hx=>by
 rcases List.mem_or_eq_of_mem_set hx with hx|hx
 · exact h x hx
 · rw [hx];exact hv
@[reducible] noncomputable def S_z47:Spec:={ ins:=(.cons (.d tCirc) (.cons (.d tInt) (.cons (.d (.sl (.int .u8))) .nil))),pre:=fun _=>True,alts:=[{ outs:=(.cons (.d .bool) .nil),res:=(fun x=>(fun c i raw=>(true,())) x.1 x.2.1 x.2.2.1)}],noisy:=true}
noncomputable def c_z47:Cf:={ cf_z47 (Fl [(fi_z50,S_z50),(fi_z98,S_z98),(fi_z4,S_z4),(fi_z10,S_z10),(fi_z63,S_z63)]) with E:={ (cf_z47 (Fl [(fi_z50,S_z50),(fi_z98,S_z98),(fi_z4,S_z4),(fi_z10,S_z10),(fi_z63,S_z63)])).E with wraps:=[42]},nz:=true}
theorem g_z47:∀ x,S_z47.pre x→shOK S_z47.ins x→fnGoal c_z47 fn_z47 S_z47 x:=by
 rintro ⟨⟨gs,⟨⟩⟩,(i:Int),(raw:List Int),⟨⟩⟩ hpre hok
 clear hpre
 have hln:=shLn_of _ hok;replace hok:=Hd.mk hok;try simp only [shLn,datLn,inRng,lo,hi,maxLen,true_and,and_true] at hln
 first|refine fn_goal (w_head ?_)
 intro Kz kz;(conv=>whnf);(try dsimp+instances only);refine kz _ ?_;clear kz Kz;(conv=>(arg 2;whnf))
 repeat' (first|refine an ?_ ?_|((try refine gm ?_);first|((with_reducible show Kz _);(try dsimp+instances only);(with_reducible refine kz _ ?_);clear kz Kz)|refine st ?_|(refine sr ?_;intro Kz kz;conv=>whnf)|(refine cd ?_;(conv=>arg 2;whnf);refine st ?_)|refine blockK_y (by rfl) ?_|(refine sw ?_;conv=>whnf))|(refine gm ?_;conv=>whnf)|(intro hc;(try dsimp+instances only[Dat,SDat,dflt,Ty.size,keepS,bkUpd,Gv.bk,backS,wayA,maxI,minI,negI]at hc);try simp only[LS]at hc))
 all_goals (try ((fail_if_success refine nl ?_);(try dsimp only[Dat,SDat,dflt,Ty.size,keepS,bkUpd,Gv.bk,backS,wayA,maxI,minI,negI]);(try simp only[LS]);first|done|exact dsc|((try simp only[allP,lo,hi,room,true_and,and_true,implies_true]);(repeat' (first|refine an ?_ ?_|((with_reducible refine preA_t ?_ ?_);rotate_left;exact sameP_t)|intro hv))<;>(try omega))))
 have hc9:=(by assumption:¬ (¬ ((List.length gs:Int)≤20∧∀ g∈gs,g.2.2.1.length≤20)∨20<(List.length raw:Int)))
 have hfew:=few_of2 hc9
 refine w_loop [(8, .d tInt),(9, .d tInt)] [] (fun y=>∃ k:Nat,y.1.2.1=(k:Int)∧k≤List.length gs∧0≤y.1.1) (fun y=>List.length gs - y.1.2.1.toNat) ?_
 conv=>whnf
 refine And.intro ?_ ?_
 · exact ⟨0,rfl,Nat.zero_le _,Int.le_refl 0⟩
 rintro ⟨⟨(mo:Int),_,⟨⟩⟩,⟨⟩⟩ ⟨k,rfl,hk,hm0⟩
 have hm0:0≤mo:=hm0
 have hst:=fun (q:(k:Int)<(List.length gs:Int)) (x:Int)=>show ∃ k':Nat,(k:Int)+1=(k':Int)∧k'≤List.length gs∧0≤max mo x from ⟨k+1,rfl,Int.ofNat_lt.1 q,Int.le_trans hm0 (Int.le_max_left _ _)⟩
 repeat' (first|refine an ?_ ?_|((try refine gm ?_);first|((with_reducible show Kz _);(try dsimp+instances only);(with_reducible refine kz _ ?_);clear kz Kz)|refine st ?_|(refine sr ?_;intro Kz kz;conv=>whnf)|(refine cd ?_;(conv=>arg 2;whnf);refine st ?_)|refine blockK_y (by rfl) ?_|(refine sw ?_;conv=>whnf))|(refine gm ?_;conv=>whnf)|(intro hc;(try dsimp+instances only[Dat,SDat,dflt,Ty.size,keepS,bkUpd,Gv.bk,backS,wayA,maxI,minI,negI]at hc);try simp only[LS]at hc))
 all_goals (try ((fail_if_success refine nl ?_);(try dsimp only[Dat,SDat,dflt,Ty.size,keepS,bkUpd,Gv.bk,backS,wayA,maxI,minI,negI]);(try simp only[LS]);first|done|exact dsc|((try simp only[allP,lo,hi,room,true_and,and_true,implies_true]);(repeat' (first|refine an ?_ ?_|((with_reducible refine preA_t ?_ ?_);rotate_left;exact sameP_t)|intro hv))<;>(try omega))))
 · exact hst (by assumption) _
 have hm1:mo≤100:=Int.not_lt.1 (by assumption)
 clear hst
 refine w_loop [(10, .row tInt),(11, .d tInt)] [] (fun y=>∃ k:Nat,y.1.2.1=(k:Int)∧(k:Int)≤mo∧List.length y.1.1=mo.toNat∧∀ x∈y.1.1,0≤x) (fun y=>(mo - y.1.2.1).toNat) ?_
 conv=>whnf
 refine And.intro ?_ ?_
 · refine ⟨0,rfl,hm0,List.length_replicate,fun x hx=>?_⟩
   have:=List.eq_of_mem_replicate hx
   rw [this]
   exact Int.le_refl 0
 rintro ⟨⟨(vs:List Int),_,⟨⟩⟩,⟨⟩⟩ ⟨j,rfl,hj,hvl,hvn⟩
 have hvl:List.length vs=mo.toNat:=hvl
 have hvn:∀ x∈vs,0≤x:=hvn
 have hcv:=cntV_nn (gs:=gs) (i:=i) hvn
 have hrb:=fun (q:(j:Int)<mo∧(j:Int)<(List.length raw:Int))=>show 0≤List.getD raw j 0∧List.getD raw j 0≤255 from hok.out.2.2.1.2 _ (getD_mem (l:=raw) (d:=(0:Int)) (Int.ofNat_lt.1 q.2))
 have hr1:=fun (q:(j:Int)<mo∧(j:Int)<(List.length raw:Int))=>show -9223372036854775808≤List.getD raw j 0 from Int.le_trans (by decide) (hrb q).1
 have hr2:=fun (q:(j:Int)<mo∧(j:Int)<(List.length raw:Int))=>show List.getD raw j 0≤9223372036854775807 from Int.le_trans (hrb q).2 (by decide)
 have htm:=fun (q:(j:Int)<mo∧(j:Int)<(List.length raw:Int))=>show 0≤(List.getD raw j 0).tmod 10∧(List.getD raw j 0).tmod 10≤9 by
  have h1:=(hrb q).1
  rw [Int.tmod_eq_emod_of_nonneg h1]
  omega
 have hr3:=fun (q:(j:Int)<mo∧(j:Int)<(List.length raw:Int))=>show -9223372036854775808≤(List.getD raw j 0).tmod 10 from Int.le_trans (by decide) (htm q).1
 have hr4:=fun (q:(j:Int)<mo∧(j:Int)<(List.length raw:Int))=>show (List.getD raw j 0).tmod 10≤9223372036854775807 from Int.le_trans (htm q).2 (by decide)
 have hst:=fun (q:(j:Int)<mo∧(j:Int)<(List.length raw:Int))=>show ∃ k:Nat,(j:Int)+1=(k:Int)∧(k:Int)≤mo∧List.length vs=mo.toNat∧∀ x∈List.set vs j ((List.getD raw j 0).tmod 10),0≤x from ⟨j+1,rfl,by have:=q.1;omega,hvl,set_nn hvn (htm q).1⟩
 have hjl:=fun (q:(j:Int)<mo∧(j:Int)<(List.length raw:Int))=>show j<List.length vs by have:=q.1;omega
 have hjl2:=fun (q:(j:Int)<mo∧(j:Int)<(List.length raw:Int))=>show (j:Int)<(List.length vs:Int) from Int.ofNat_lt.2 (hjl q)
 have he1:(cntV gs i vs).2=1↔(evC srP.ge gs i).2=1:=by rw [hcv];exact ev_cnt1.trans ev_pol1.symm
 have hval:=fun (q:¬ (¬ (cntV gs i vs).2=0∨¬ (evC srP.ge gs i).2=0))=>show ¬ evE (evC srP.ge gs i).1 vs=0∨evV (evC srP.ge gs i).1 vs=(cntV gs i vs).1 from Classical.or_iff_not_imp_left.2 fun k=>by
  have q1:=Classical.not_not.1 (not_or.1 q).1
  have q2:=Classical.not_not.1 (not_or.1 q).2
  rw [hcv] at q1 ⊢
  rw [(ev_ok (Classical.not_not.1 k)).2.1,ev_count hvn q2 q1]
 repeat' (first|refine an ?_ ?_|((try refine gm ?_);first|((with_reducible show Kz _);(try dsimp+instances only);(with_reducible refine kz _ ?_);clear kz Kz)|refine st ?_|(refine sr ?_;intro Kz kz;conv=>whnf)|(refine cd ?_;(conv=>arg 2;whnf);refine st ?_)|refine blockK_y (by rfl) ?_|(refine sw ?_;conv=>whnf))|(refine gm ?_;conv=>whnf)|(intro hc;(try dsimp+instances only[Dat,SDat,dflt,Ty.size,keepS,bkUpd,Gv.bk,backS,wayA,maxI,minI,negI]at hc);try simp only[LS]at hc))
 all_goals (try ((fail_if_success refine nl ?_);(try dsimp only[Dat,SDat,dflt,Ty.size,keepS,bkUpd,Gv.bk,backS,wayA,maxI,minI,negI]);(try simp only[LS]);first|done|exact dsc|((try simp only[allP,lo,hi,room,true_and,and_true,implies_true]);(repeat' (first|refine an ?_ ?_|((with_reducible refine preA_t ?_ ?_);rotate_left;exact sameP_t)|intro hv))<;>(try omega))))
 all_goals (try ((fail_if_success refine nl ?_);(first|with_reducible exact hjl (by assumption)|with_reducible exact hjl2 (by assumption)|with_reducible exact hr1 (by assumption)|with_reducible exact hr2 (by assumption)|with_reducible exact hr3 (by assumption)|with_reducible exact hr4 (by assumption)|exact hst (by assumption)|exact few_small hfew.2 _ (by assumption)|exact he1|exact hval (by assumption))))
theorem ok_z47:SpecOK SP glob fi_z47 S_z47:=mk_ok (c:=c_z47) (tab_ok _) mix_ok wf_z47 (by decide) (.cons ok_z50 (.cons ok_z98 (.cons ok_z4 (.cons ok_z10 (.cons ok_z63 .nil))))) (fun x hx=>Nat.zero_lt_one) g_z47
end Go.Gv
