/- The statements of chapter 16: shared gates. -/
import Derived.Test.YtibnojoffhlekaaGreatDoorL16
set_option linter.all false
namespace Go.Gv
open Go Go.Proofs Go.Proofs.YtibnojoffhlekaaGreatDoor
set_option maxRecDepth 100000
set_option maxHeartbeats 4000000
theorem keptK_len (gs:List Gate) (g:Gate):(keptK gs g).length≤g.2.2.1.length:=by
 unfold keptK
 exact Nat.le_trans (List.length_filter_le _ _) (Nat.le_of_eq (sortI_len _))
theorem nrmG_len (gs:List Gate) (g:Gate):(nrmG gs g).2.2.1.length≤g.2.2.1.length:=by
 unfold nrmG
 split
 · split
   · exact Nat.zero_le _
   · split
     · exact Nat.zero_le _
     · exact keptK_len gs g
 · exact Nat.le_refl _
theorem PutR.small {gs ds:List Gate} {g:Gate} {i:Int} {n:Nat} (h:PutR gs g ds i) (hs:∀ x∈gs,x.2.2.1.length≤n) (hg:g.2.2.1.length≤n):∀ x∈ds,x.2.2.1.length≤n:=fun x hx=>by
 rcases h.ext with e|e
 · rw [e] at hx;exact hs x hx
 · rw [e] at hx
   rcases List.mem_append.1 hx with hx|hx
   · exact hs x hx
   · rw [List.mem_singleton.1 hx];exact Nat.le_trans (nrmG_len gs g) hg
theorem put_rev {gs ds:List Gate} {gk gv:Int} {ks:List Int} {i:Int} (h:PutR gs (gk,gv,ks,()) ds i):putC ds (gk,gv,ks.reverse,())=(ds,i,0):=put_again h rfl rfl (List.reverse_perm ks) fun hi=>by
 rcases h.ok.f.2 with q|q|q
 · have:ks=[]:=q.2.1
   rw [this];rfl
 · have:ks=[]:=q.2.1
   rw [this];rfl
 · exact absurd q.1 hi
theorem PutR.take {gs ds:List Gate} {g:Gate} {i:Int} (h:PutR gs g ds i):ds.take gs.length=gs∧gs.length≤ds.length∧ds.length≤gs.length+1:=by
 rcases h.ext with e|e
 · rw [e];exact ⟨List.take_length,Nat.le_refl _,Nat.le_succ _⟩
 · rw [e];refine ⟨List.take_left,?_,?_⟩<;>simp
theorem rev_drop {l:List Int} {m:Nat} (h:m<l.length):(l.drop m).reverse=(l.drop (m+1)).reverse++[l.getD m 0]:=by
 rw [List.drop_eq_getElem_cons h,List.reverse_cons,getD_ok 0 h]
@[reducible] noncomputable def S_z45:Spec:={ ins:=(.cons (.d tCirc) (.cons (.d tGate) .nil)),pre:=fun _=>True,alts:=[{ outs:=(.cons (.d .bool) .nil),res:=(fun x=>(fun c g=>(true,())) x.1 x.2.1)}],noisy:=true}
noncomputable def c_z45:Cf:={ cf_z45 (Fl [(fi_z50,S_z50),(fi_z98,S_z98),(fi_z12,S_z12),(fi_z103,S_z103),(fi_z13,S_z13)]) with E:={ (cf_z45 (Fl [(fi_z50,S_z50),(fi_z98,S_z98),(fi_z12,S_z12),(fi_z103,S_z103),(fi_z13,S_z13)])).E with rows:=[12,14]},nz:=true}
theorem g_z45:∀ x,S_z45.pre x→shOK S_z45.ins x→fnGoal c_z45 fn_z45 S_z45 x:=by
 rintro ⟨⟨gs,⟨⟩⟩,⟨gk,gv,gkids,⟨⟩⟩,⟨⟩⟩ hpre hok
 clear hpre
 have hln:=shLn_of _ hok;replace hok:=Hd.mk hok;try simp only [shLn,datLn,inRng,lo,hi,maxLen,true_and,and_true] at hln
 first|refine fn_goal (w_head ?_)
 intro Kz kz;(conv=>whnf);(try dsimp+instances only);refine kz _ ?_;clear kz Kz;(conv=>(arg 2;whnf))
 repeat' (first|refine an ?_ ?_|((try refine gm ?_);first|((with_reducible show Kz _);(try dsimp+instances only);(with_reducible refine kz _ ?_);clear kz Kz)|refine st ?_|(refine sr ?_;intro Kz kz;conv=>whnf)|(refine cd ?_;(conv=>arg 2;whnf);refine st ?_)|refine blockK_y (by rfl) ?_|(refine sw ?_;conv=>whnf))|(refine gm ?_;conv=>whnf)|(intro hc;(try dsimp+instances only[Dat,SDat,dflt,Ty.size,keepS,bkUpd,Gv.bk,backS,wayA,maxI,minI,negI]at hc);try simp only[LS]at hc))
 all_goals (try ((fail_if_success refine nl ?_);(try dsimp only[Dat,SDat,dflt,Ty.size,keepS,bkUpd,Gv.bk,backS,wayA,maxI,minI,negI]);(try simp only[LS]);first|done|exact dsc|((try simp only[allP,lo,hi,room,true_and,and_true,implies_true]);(repeat' (first|refine an ?_ ?_|((with_reducible refine preA_t ?_ ?_);rotate_left;exact sameP_t)|intro hv))<;>(try omega))))
 all_goals (try ((fail_if_success refine nl ?_);(exact few_small (few_of2 (by assumption:¬ (¬ ((List.length gs:Int)≤60∧∀ g∈gs,g.2.2.1.length≤20)∨20<(List.length gkids:Int)))).2 _ (by assumption))))
 all_goals (try ((fail_if_success refine nl ?_);(first|exact (put_e (g:=(gk,gv,gkids,())) hc).2|(have h9:=(put_e (gs:=gs) (g:=(gk,gv,gkids,())) hc).1;show ((putC gs (gk,gv,gkids,())).1.length:Int)=0;rw [h9];rfl))))
 have hR:=put_r (gs:=gs) (g:=(gk,gv,gkids,())) (by assumption)
 have hfew:=few_of2 (by assumption:¬ (¬ ((List.length gs:Int)≤60∧∀ g∈gs,g.2.2.1.length≤20)∨20<(List.length gkids:Int)))
 have hk20:(List.length gkids:Int)≤20:=Int.not_lt.1 fun q=>(by assumption:¬ (¬ ((List.length gs:Int)≤60∧∀ g∈gs,g.2.2.1.length≤20)∨20<(List.length gkids:Int))) (.inr q)
 have hk20':List.length gkids≤20:=Int.ofNat_le.1 hk20
 have hsm:=hR.small hfew.2 hk20'
 have hag:=put_rev hR
 have htk:=hR.take
 have hdv:=hR.dv
 have hcv:=hR.ok.v
 have hlo:=hR.lo
 have hhi:=hR.hi
 refine w_loop [(10, .d tInt)] [(1, .cons (.d tInt) (.cons (.d tInt) (.cons (.row tInt) .nil)))] (fun y=>∃ m:Nat,y.1.1=(m:Int) - 1∧m≤List.length gkids∧(gk=y.2.1.1∧gv=y.2.1.2.1)∧y.2.1.2.2.1=List.reverse (List.drop m gkids)) (fun y=>(y.1.1+1).toNat) ?_
 conv=>whnf
 refine And.intro ?_ ?_
 · refine ⟨List.length gkids,rfl,Nat.le_refl _,⟨rfl,rfl⟩,?_⟩
   show ([]:List Int)=List.reverse (List.drop (List.length gkids) gkids)
   rw [List.drop_length];rfl
 rintro ⟨⟨_,⟨⟩⟩,⟨⟨_,_,tk,⟨⟩⟩,⟨⟩⟩⟩ ⟨m,rfl,hm,⟨rfl,rfl⟩,htl⟩
 have htl:(tk:List Int)=List.reverse (List.drop m gkids):=htl
 have htn:List.length (tk:List Int)=List.length gkids - m:=by rw [htl,List.length_reverse,List.length_drop]
 have ht20:List.length (tk:List Int)≤20:=by omega
 have hst:=fun (h:0≤(m:Int) - 1)=>show ∃ m':Nat,(m:Int) - 1 - 1=(m':Int) - 1∧m'≤List.length gkids∧(tk:List Int)++[List.getD gkids ((m:Int) - 1).toNat 0]=List.reverse (List.drop m' gkids) from by
  obtain ⟨j,rfl⟩:∃ j,m=j+1:=⟨m - 1,by omega⟩
  refine ⟨j,by omega,by omega,?_⟩
  rw [show (((j+1:Nat):Int) - 1).toNat=j by omega,rev_drop (show j<List.length gkids by omega),htl]
 have hag0:=fun (h:¬ 0≤(m:Int) - 1)=>show putC (putC gs (gk,gv,gkids,())).1 (gk,gv,tk,())=((putC gs (gk,gv,gkids,())).1,(putC gs (gk,gv,gkids,())).2.1,0) from by
  have hm0:m=0:=by omega
  rw [show (tk:List Int)=List.reverse gkids by rw [htl,hm0];rfl]
  exact hag
 have hcon:¬ ((((putC gs (gk,gv,gkids,())).1.length:Int)<(List.length gs:Int)∨(List.length gs:Int)+1<((putC gs (gk,gv,gkids,())).1.length:Int))∨¬ List.drop 0 (List.take (List.length gs) (putC gs (gk,gv,gkids,())).1)=gs):=by
  obtain ⟨h1,h2,h3⟩:=htk
  rintro ((h|h)|h)
  · omega
  · omega
  · exact h h1
 repeat' (first|refine an ?_ ?_|((try refine gm ?_);first|((with_reducible show Kz _);(try dsimp+instances only);(with_reducible refine kz _ ?_);clear kz Kz)|refine st ?_|(refine sr ?_;intro Kz kz;conv=>whnf)|(refine cd ?_;(conv=>arg 2;whnf);refine st ?_)|refine blockK_y (by rfl) ?_|(refine sw ?_;conv=>whnf))|(refine gm ?_;conv=>whnf)|(intro hc;(try dsimp+instances only[Dat,SDat,dflt,Ty.size,keepS,bkUpd,Gv.bk,backS,wayA,maxI,minI,negI]at hc);try simp only[LS]at hc))
 all_goals (try ((fail_if_success refine nl ?_);(try dsimp only[Dat,SDat,dflt,Ty.size,keepS,bkUpd,Gv.bk,backS,wayA,maxI,minI,negI]);(try simp only[LS]);first|done|exact dsc|((try simp only[allP,lo,hi,room,true_and,and_true,implies_true]);(repeat' (first|refine an ?_ ?_|((with_reducible refine preA_t ?_ ?_);rotate_left;exact sameP_t)|intro hv))<;>(try omega))))
 all_goals (try ((fail_if_success refine nl ?_);(first|exact hst (by assumption)|exact few_small hsm _ (by assumption)|exact few_small hfew.2 _ (by assumption)|exact (hcon (by assumption)).elim|exact congrArg (fun p=>p.2.2) (hag0 (by assumption))|exact congrArg (fun p=>p.2.1) (hag0 (by assumption))|exact congrArg (fun p=>p.1) (hag0 (by assumption)))))
theorem ok_z45:SpecOK SP glob fi_z45 S_z45:=mk_ok (c:=c_z45) (tab_ok _) mix_ok wf_z45 (by decide) (.cons ok_z50 (.cons ok_z98 (.cons ok_z12 (.cons ok_z103 (.cons ok_z13 .nil))))) (fun x hx=>Nat.zero_lt_one) g_z45
end Go.Gv
