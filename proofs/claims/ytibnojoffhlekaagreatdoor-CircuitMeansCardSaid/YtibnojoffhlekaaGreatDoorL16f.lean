/- The statements of chapter 16: what is put means what it should. -/
import Derived.Test.YtibnojoffhlekaaGreatDoorL16b
import Derived.Test.YtibnojoffhlekaaGreatDoorP16m
set_option linter.all false
namespace Go.Gv
open Go Go.Proofs Go.Proofs.YtibnojoffhlekaaGreatDoor
set_option maxRecDepth 100000
set_option maxHeartbeats 4000000
theorem joinL_snoc {T:Type} {f:T→T→T × Int} {z y:T}:∀ (l:List T) (x:T),(joinL f z x l).2=0→(f (joinL f z x l).1 y).2=0→joinL f z x (l++[y])=f (joinL f z x l).1 y
 |[],x,_,h=>by
  have h:(f x y).2=0:=h
  show joinL f z x [y]=f x y
  rw [joinL_go h]
  exact Prod.ext rfl h.symm
 |a::l,x,h,k=>by
  by_cases c:(f x a).2=0
  · rw [joinL_go c] at h k ⊢
    rw [List.cons_append,joinL_go c]
    exact joinL_snoc l _ h k
  · rw [joinL_stop c] at h;exact absurd h c
structure MeaJ (ds:List Gate) (op:List Mo→List Mo→List Mo × Int) (s0:List Mo) (kids:List Int) (idx:Int) (want:List Mo) (f:Int) (k:Nat):Prop where
 ix:idx=(k:Int)
 le:k≤kids.length
 ok:∀ j∈kids.take k,PolyAt ds j (vlE srP.ge ds j.toNat).1
 w:f=0→joinL op [] s0 ((kids.take k).map fun j=>(vlE srP.ge ds j.toNat).1)=(want,0)
theorem MeaJ.start {ds:List Gate} {op:List Mo→List Mo→List Mo × Int} {s0:List Mo} {kids:List Int}:MeaJ ds op s0 kids 0 s0 0 0:=⟨rfl,Nat.zero_le _,fun j h=>(by cases h),fun _=>rfl⟩
theorem MeaJ.step {ds:List Gate} {op:List Mo→List Mo→List Mo × Int} {s0:List Mo} {kids:List Int} {want:List Mo} {f:Int} {k:Nat} (h:MeaJ ds op s0 kids (k:Int) want f k) (hk:(k:Int)<(kids.length:Int)∧f=0) (he:(evC srP.ge ds (kids.getD k 0)).2=0) {w':List Mo} {f':Int} (e:op want (evC srP.ge ds (kids.getD k 0)).1=(w',f')):MeaJ ds op s0 kids ((k:Int)+1) w' f' (k+1):=by
 have hk':=Int.ofNat_lt.1 hk.1
 have hp:=polyAt_of he
 have et:kids.take (k+1)=kids.take k++[kids.getD k 0]:=by rw [List.take_succ_eq_append_getElem hk',getD_ok 0 hk']
 have hpp:=hp.p
 refine ⟨rfl,hk',fun j hj=>?_,fun hf=>?_⟩
 · rw [et] at hj
   rcases List.mem_append.1 hj with hj|hj
   · exact h.ok j hj
   · rw [List.mem_singleton.1 hj,← hpp];exact hp
 · have h1:=h.w hk.2
   rw [et,List.map_append]
   rw [hpp] at e
   subst hf
   have h2:(op (joinL op [] s0 ((kids.take k).map fun j=>(vlE srP.ge ds j.toNat).1)).1 (vlE srP.ge ds (kids.getD k 0).toNat).1)=(w',0):=by rw [h1];exact e
   exact (joinL_snoc _ _ (by rw [h1]) (by rw [h2])).trans h2
theorem MeaJ.fin {ds:List Gate} {op:List Mo→List Mo→List Mo × Int} {s0:List Mo} {kids:List Int} {want:List Mo} {f:Int} {k:Nat} (h:MeaJ ds op s0 kids (k:Int) want f k) (hk:¬ ((k:Int)<(kids.length:Int)∧f=0)) (hf:f=0):(∀ j∈kids,PolyAt ds j (vlE srP.ge ds j.toNat).1)∧joinL op [] s0 (kids.map fun j=>(vlE srP.ge ds j.toNat).1)=(want,0):=by
 have hl:kids.take k=kids:=List.take_of_length_le (Nat.not_lt.1 fun q=>hk ⟨Int.ofNat_lt.2 q,hf⟩)
 have h1:=h.ok
 have h2:=h.w hf
 rw [hl] at h1 h2
 exact ⟨h1,h2⟩
theorem mean_add {gs ds:List Gate} {g:Gate} {i:Int} {want p:List Mo} (h:PutR gs g ds i) (h3:g.1=3) (hk:∀ j∈g.2.2.1,PolyAt ds j (vlE srP.ge ds j.toNat).1) (hw:joinL srP.plus [] [] (g.2.2.1.map fun j=>(vlE srP.ge ds j.toNat).1)=(want,0)) (hp:PolyAt ds i p):p=want:=by
 have h1:=want_add (xs:=g.2.2.1.map fun j=>(vlE srP.ge ds j.toNat).1) (fun y hy=>by obtain ⟨j,hj,rfl⟩:=List.mem_map.1 hy;exact (hk j hj).valid) (by rw [hw])
 rw [hw] at h1
 exact lin_ext hp.valid h1.1 fun f=>((means h hk hp).1 h3 f).trans (h1.2 f).symm
theorem mean_mul {gs ds:List Gate} {g:Gate} {i:Int} {want p:List Mo} (h:PutR gs g ds i) (h4:g.1=4) (hk:∀ j∈g.2.2.1,PolyAt ds j (vlE srP.ge ds j.toNat).1) (hw:joinL srP.times [] [(1,[],())] (g.2.2.1.map fun j=>(vlE srP.ge ds j.toNat).1)=(want,0)) (hp:PolyAt ds i p):p=want:=by
 have h1:=want_mul (xs:=g.2.2.1.map fun j=>(vlE srP.ge ds j.toNat).1) (fun y hy=>by obtain ⟨j,hj,rfl⟩:=List.mem_map.1 hy;exact (hk j hj).valid) (by rw [hw])
 rw [hw] at h1
 exact lin_ext hp.valid h1.1 fun f=>((means h hk hp).2 h4 f).trans (h1.2 f).symm
@[reducible] noncomputable def S_z43:Spec:={ ins:=(.cons (.d tCirc) (.cons (.d tGate) .nil)),pre:=fun _=>True,alts:=[{ outs:=(.cons (.d .bool) .nil),res:=(fun x=>(fun c g=>(true,())) x.1 x.2.1)}],noisy:=true}
noncomputable def c_z43:Cf:={ cf_z43 (Fl [(fi_z50,S_z50),(fi_z98,S_z98),(fi_z12,S_z12),(fi_z62,S_z62),(fi_z10,S_z10),(fi_z61,S_z61),(fi_z65,S_z65),(fi_z89,S_z89)]) with E:={ (cf_z43 (Fl [(fi_z50,S_z50),(fi_z98,S_z98),(fi_z12,S_z12),(fi_z62,S_z62),(fi_z10,S_z10),(fi_z61,S_z61),(fi_z65,S_z65),(fi_z89,S_z89)])).E with rows:=[14]},nz:=true}
theorem g_z43:∀ x,S_z43.pre x→shOK S_z43.ins x→fnGoal c_z43 fn_z43 S_z43 x:=by
 rintro ⟨⟨gs,⟨⟩⟩,⟨(gk:Int),gv,gkids,⟨⟩⟩,⟨⟩⟩ hpre hok
 clear hpre
 have hln:=shLn_of _ hok;replace hok:=Hd.mk hok;try simp only [shLn,datLn,inRng,lo,hi,maxLen,true_and,and_true] at hln
 first|refine fn_goal (w_head ?_)
 intro Kz kz;(conv=>whnf);(try dsimp+instances only);refine kz _ ?_;clear kz Kz;(conv=>(arg 2;whnf))
 repeat' (first|refine an ?_ ?_|((try refine gm ?_);first|((with_reducible show Kz _);(try dsimp+instances only);(with_reducible refine kz _ ?_);clear kz Kz)|refine st ?_|(refine sr ?_;intro Kz kz;conv=>whnf)|(refine cd ?_;(conv=>arg 2;whnf);refine st ?_)|refine blockK_y (by rfl) ?_|(refine sw ?_;conv=>whnf))|(refine gm ?_;conv=>whnf)|(intro hc;(try dsimp+instances only[Dat,SDat,dflt,Ty.size,keepS,bkUpd,Gv.bk,backS,wayA,maxI,minI,negI]at hc);try simp only[LS]at hc))
 all_goals (try ((fail_if_success refine nl ?_);(try dsimp only[Dat,SDat,dflt,Ty.size,keepS,bkUpd,Gv.bk,backS,wayA,maxI,minI,negI]);(try simp only[LS]);first|done|exact dsc|((try simp only[allP,lo,hi,room,true_and,and_true,implies_true]);(repeat' (first|refine an ?_ ?_|((with_reducible refine preA_t ?_ ?_);rotate_left;exact sameP_t)|intro hv))<;>(try omega))))
 all_goals (have hfew:=few_of3 (by assumption:¬ ((¬ ((List.length gs:Int)≤20∧∀ g∈gs,g.2.2.1.length≤20)∨6<(List.length gkids:Int))∨¬ gk=3∧¬ gk=4)))
 all_goals (try ((fail_if_success refine nl ?_);(exact few_small hfew.2 _ (by assumption))))
 all_goals (have hR:=put_r (gs:=gs) (g:=(gk,gv,gkids,())) (by assumption))
 all_goals (have hk6:¬ 6<(List.length gkids:Int):=fun q=>(by assumption:¬ ((¬ ((List.length gs:Int)≤20∧∀ g∈gs,g.2.2.1.length≤20)∨6<(List.length gkids:Int))∨¬ gk=3∧¬ gk=4)) (.inl (.inr q)))
 all_goals (have hsm:=hR.small (n:=20) hfew.2 (show List.length gkids≤20 by omega))
 · have h4:gk=4:=by assumption
   refine w_loop [(10, .d tPoly),(11, .d tInt),(12, .d tInt)] [] (fun y=>∃ k:Nat,MeaJ ((putC gs (gk,gv,gkids,())).1:List Gate) srP.times [((1,[],()):Mo)] gkids y.1.2.2.1 y.1.1 y.1.2.1 k) (fun y=>List.length gkids - y.1.2.2.1.toNat) ?_
   conv=>whnf
   refine And.intro ?_ ?_
   · exact ⟨0,MeaJ.start⟩
   rintro ⟨⟨(want:List Mo),(f:Int),(idx:Int),⟨⟩⟩,⟨⟩⟩ ⟨k,hJ⟩
   have hJ:MeaJ ((putC gs (gk,gv,gkids,())).1:List Gate) srP.times [((1,[],()):Mo)] gkids idx want f k:=hJ
   have hi9:=hJ.ix
   subst hi9
   have hle:=hJ.le
   have hon:=fun (w':List Mo) (f':Int) (h:(k:Int)<(List.length gkids:Int)∧f=0) (he:(evC srP.ge ((putC gs (gk,gv,gkids,())).1:List Gate) (List.getD gkids k 0)).2=0) (e:srP.times want (evC srP.ge ((putC gs (gk,gv,gkids,())).1:List Gate) (List.getD gkids k 0)).1=(w',f'))=>show ∃ k':Nat,MeaJ ((putC gs (gk,gv,gkids,())).1:List Gate) srP.times [((1,[],()):Mo)] gkids ((k:Int)+1) w' f' k' from ⟨k+1,hJ.step h he e⟩
   have hfin:=fun (h:¬ ((k:Int)<(List.length gkids:Int)∧f=0))=>show (¬ f=0∨¬ (evC srP.ge ((putC gs (gk,gv,gkids,())).1:List Gate) (putC gs (gk,gv,gkids,())).2.1).2=0)∨(evC srP.ge ((putC gs (gk,gv,gkids,())).1:List Gate) (putC gs (gk,gv,gkids,())).2.1).1=want from Classical.or_iff_not_imp_left.2 fun q=>by
    have q1:=Classical.not_not.1 (not_or.1 q).1
    have q2:=Classical.not_not.1 (not_or.1 q).2
    exact mean_mul hR h4 (hJ.fin h q1).1 (hJ.fin h q1).2 (polyAt_of q2)
   repeat' (first|refine an ?_ ?_|((try refine gm ?_);first|((with_reducible show Kz _);(try dsimp+instances only);(with_reducible refine kz _ ?_);clear kz Kz)|refine st ?_|(refine sr ?_;intro Kz kz;conv=>whnf)|(refine cd ?_;(conv=>arg 2;whnf);refine st ?_)|refine blockK_y (by rfl) ?_|(refine sw ?_;conv=>whnf))|(refine gm ?_;conv=>whnf)|(intro hc;(try dsimp+instances only[Dat,SDat,dflt,Ty.size,keepS,bkUpd,Gv.bk,backS,wayA,maxI,minI,negI]at hc);try simp only[LS]at hc))
   all_goals (try ((fail_if_success refine nl ?_);(try dsimp only[Dat,SDat,dflt,Ty.size,keepS,bkUpd,Gv.bk,backS,wayA,maxI,minI,negI]);(try simp only[LS]);first|done|exact dsc|((try simp only[allP,lo,hi,room,true_and,and_true,implies_true]);(repeat' (first|refine an ?_ ?_|((with_reducible refine preA_t ?_ ?_);rotate_left;exact sameP_t)|intro hv))<;>(try omega))))
   all_goals (try ((fail_if_success refine nl ?_);(first|exact few_small hsm _ (by assumption)|exact hon _ _ (by assumption) (by assumption) rfl|exact hfin (by assumption))))
 · have h3:gk=3:=Classical.byContradiction fun q=>(by assumption:¬ ((¬ ((List.length gs:Int)≤20∧∀ g∈gs,g.2.2.1.length≤20)∨6<(List.length gkids:Int))∨¬ gk=3∧¬ gk=4)) (.inr ⟨q,by assumption⟩)
   refine w_loop [(10, .d tPoly),(11, .d tInt),(12, .d tInt)] [] (fun y=>∃ k:Nat,MeaJ ((putC gs (gk,gv,gkids,())).1:List Gate) srP.plus ([]:List Mo) gkids y.1.2.2.1 y.1.1 y.1.2.1 k) (fun y=>List.length gkids - y.1.2.2.1.toNat) ?_
   conv=>whnf
   refine And.intro ?_ ?_
   · exact ⟨0,MeaJ.start⟩
   rintro ⟨⟨(want:List Mo),(f:Int),(idx:Int),⟨⟩⟩,⟨⟩⟩ ⟨k,hJ⟩
   have hJ:MeaJ ((putC gs (gk,gv,gkids,())).1:List Gate) srP.plus ([]:List Mo) gkids idx want f k:=hJ
   have hi9:=hJ.ix
   subst hi9
   have hle:=hJ.le
   have hon:=fun (w':List Mo) (f':Int) (h:(k:Int)<(List.length gkids:Int)∧f=0) (he:(evC srP.ge ((putC gs (gk,gv,gkids,())).1:List Gate) (List.getD gkids k 0)).2=0) (e:srP.plus want (evC srP.ge ((putC gs (gk,gv,gkids,())).1:List Gate) (List.getD gkids k 0)).1=(w',f'))=>show ∃ k':Nat,MeaJ ((putC gs (gk,gv,gkids,())).1:List Gate) srP.plus ([]:List Mo) gkids ((k:Int)+1) w' f' k' from ⟨k+1,hJ.step h he e⟩
   have hfin:=fun (h:¬ ((k:Int)<(List.length gkids:Int)∧f=0))=>show (¬ f=0∨¬ (evC srP.ge ((putC gs (gk,gv,gkids,())).1:List Gate) (putC gs (gk,gv,gkids,())).2.1).2=0)∨(evC srP.ge ((putC gs (gk,gv,gkids,())).1:List Gate) (putC gs (gk,gv,gkids,())).2.1).1=want from Classical.or_iff_not_imp_left.2 fun q=>by
    have q1:=Classical.not_not.1 (not_or.1 q).1
    have q2:=Classical.not_not.1 (not_or.1 q).2
    exact mean_add hR h3 (hJ.fin h q1).1 (hJ.fin h q1).2 (polyAt_of q2)
   repeat' (first|refine an ?_ ?_|((try refine gm ?_);first|((with_reducible show Kz _);(try dsimp+instances only);(with_reducible refine kz _ ?_);clear kz Kz)|refine st ?_|(refine sr ?_;intro Kz kz;conv=>whnf)|(refine cd ?_;(conv=>arg 2;whnf);refine st ?_)|refine blockK_y (by rfl) ?_|(refine sw ?_;conv=>whnf))|(refine gm ?_;conv=>whnf)|(intro hc;(try dsimp+instances only[Dat,SDat,dflt,Ty.size,keepS,bkUpd,Gv.bk,backS,wayA,maxI,minI,negI]at hc);try simp only[LS]at hc))
   all_goals (try ((fail_if_success refine nl ?_);(try dsimp only[Dat,SDat,dflt,Ty.size,keepS,bkUpd,Gv.bk,backS,wayA,maxI,minI,negI]);(try simp only[LS]);first|done|exact dsc|((try simp only[allP,lo,hi,room,true_and,and_true,implies_true]);(repeat' (first|refine an ?_ ?_|((with_reducible refine preA_t ?_ ?_);rotate_left;exact sameP_t)|intro hv))<;>(try omega))))
   all_goals (try ((fail_if_success refine nl ?_);(first|exact few_small hsm _ (by assumption)|exact hon _ _ (by assumption) (by assumption) rfl|exact hfin (by assumption))))
theorem ok_z43:SpecOK SP glob fi_z43 S_z43:=mk_ok (c:=c_z43) (tab_ok _) mix_ok wf_z43 (by decide) (.cons ok_z50 (.cons ok_z98 (.cons ok_z12 (.cons ok_z62 (.cons ok_z10 (.cons ok_z61 (.cons ok_z65 (.cons ok_z89 .nil)))))))) (fun x hx=>Nat.zero_lt_one) g_z43
end Go.Gv
