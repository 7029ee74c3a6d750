/- Chapter 15: the program's sums and products: collected in a map, sorted. -/
import Derived.Test.YtibnojoffhlekaaGreatDoorP16
import Derived.Test.YtibnojoffhlekaaGreatDoorC15i
set_option linter.all false
namespace Go.Gv
open Go Go.Proofs Go.Proofs.YtibnojoffhlekaaGreatDoor
set_option maxRecDepth 100000
set_option maxHeartbeats 4000000
def sortPre (xs:List Mo):Prop:=DistP xs∧List.length xs≤1000000
@[reducible] noncomputable def S_pdqM:Spec:={ ins:= .cons (.row tMo) (.cons (.d (.int .i64)) (.cons (.d (.int .i64)) (.cons (.d (.int .i64)) (.cons (.clos fi_z74 .nil) .nil)))),pre:=fun x=>sortPre x.1∧x.2.1=0∧x.2.2.1=(List.length x.1:Int)∧0≤x.2.2.2.1∧x.2.2.2.1≤1000000,alts:=[{ outs:= .nil,res:=fun _=>(),upd:=fun x=>(sortM x.1,x.2.1,x.2.2.1,x.2.2.2.1,(),())}]}
theorem ok_pdqM:SpecOK SP glob fi_z149 S_pdqM:=
 pdqF_ok (t:=tMo) (cf:=fun a b=>cmpP a.2.1 b.2.1) (res:=sortM) (pre:=sortPre) laysSlLaysF0_118 rfl (by decide) Tryz.isAgg58 Tryz.sizeOf58 (fn_hf wf_z149) ok_z74 (fun _=>True) (fun _ _ _ _=>trivial)
  (fun x _ h=>by have:=cmpP_same x.2.1;omega) (fun x y z _ _ _ h1 h2=>cmpP_trans h1 h2) (fun x y z _ _ _ h1 h2=>cmpP_le.2 (cmpP_letr (cmpP_le.1 h2) (cmpP_le.1 h1))) (fun _ _ _ _=>trivial) (fun xs h=>by have:=h.2;omega) (fun xs ys h hp hs=>sort_uniq h.1 hp hs)
theorem bitLen_small {n:Int} (h0:0≤n) (h1:n≤1000000):(0:Int)≤(Lib.bitLen (Int.toNat n):Int)∧(Lib.bitLen (Int.toNat n):Int)≤1000000:=by
 have:=Lib.bitLen_le (Int.toNat n) 20 (by decide) (by omega)
 omega
@[reducible] noncomputable def S_z123:Spec:={ ins:=(.cons (.row tMo) (.cons (.clos fi_z74 .nil) .nil)),pre:=(fun x=>(fun l c=>sortPre l) x.1 x.2.1),alts:=[{ outs:= .nil,res:=(fun x=>(fun l c=>(())) x.1 x.2.1),upd:=(fun x=>(fun l c=>(sortM l,(),())) x.1 x.2.1)}]}
noncomputable def c_z123:Cf:=(cf_z123 (Fl [(fi_z55,S_z55),(fi_z149,S_pdqM)]))
theorem g_z123:∀ x,S_z123.pre x→shOK S_z123.ins x→fnGoal c_z123 fn_z123 S_z123 x:=by
 rintro ⟨l,⟨⟩,⟨⟩⟩ hpre hok
 try dsimp only [Dat,SDat,dflt,Ty.size,keepS,bkUpd,Gv.bk,backS,wayA,maxI,minI,negI] at hpre
 have hln:=shLn_of _ hok;replace hok:=Hd.mk hok;try simp only [shLn,datLn,inRng,lo,hi,maxLen,true_and,and_true] at hln
 have hl:List.length l≤1000000:=hpre.2
 have hb:=bitLen_small (n:=(List.length l:Int)) (by omega) (by omega)
 rw [Int.toNat_natCast] at hb
 have hb2:=hb.2
 first|refine fn_goal (w_head ?_)
 intro Kz kz;(conv=>whnf);(try dsimp+instances only);refine kz _ ?_;clear kz Kz;(conv=>(arg 2;whnf))
 repeat' (first|refine an ?_ ?_|((try refine gm ?_);first|((with_reducible show Kz _);(try dsimp+instances only);(with_reducible refine kz _ ?_);clear kz Kz)|refine st ?_|(refine sr ?_;intro Kz kz;conv=>whnf)|(refine cd ?_;(conv=>arg 2;whnf);refine st ?_)|refine blockK_y (by rfl) ?_|(refine sw ?_;conv=>whnf))|(refine gm ?_;conv=>whnf)|(intro hc;(try dsimp+instances only[Dat,SDat,dflt,Ty.size,keepS,bkUpd,Gv.bk,backS,wayA,maxI,minI,negI]at hc);try simp only[LS]at hc))
 all_goals (try ((fail_if_success refine nl ?_);(try dsimp only[Dat,SDat,dflt,Ty.size,keepS,bkUpd,Gv.bk,backS,wayA,maxI,minI,negI]);(try simp only[LS]);first|done|exact dsc|((try simp only[allP,lo,hi,room,true_and,and_true,implies_true]);(repeat' (first|refine an ?_ ?_|((with_reducible refine preA_t ?_ ?_);rotate_left;exact sameP_t)|intro hv))<;>(try omega))))
theorem ok_z123:SpecOK SP glob fi_z123 S_z123:=mk_ok (c:=c_z123) (tab_ok _) mix_ok wf_z123 (by decide) (.cons ok_z55 (.cons ok_pdqM .nil)) (fun x hx=>Nat.zero_lt_one) g_z123
theorem over_sort {l:List Mo} {m:Mo} (hm:m∈l) (h:¬ underC m):overC (sortM l):=by
 refine ⟨m,(List.mergeSort_perm l ltM).mem_iff.2 hm,?_⟩
 unfold underC at h
 by_cases h1:m.1≤1000000000
 · right
   refine Classical.byContradiction fun hn=>h ⟨h1,fun x hx=>Int.not_lt.1 fun hlt=>hn ⟨x,hx,hlt⟩⟩
 · exact .inl (by omega)
theorem under_not {l:List Mo} (h:∀ m∈l,underC m):¬ overC l:=fun ⟨m,hm,ho⟩=>by
 have:=h m hm
 unfold underC at this
 rcases ho with ho|⟨x,hx,ho⟩
 · omega
 · have:=this.2 x hx;omega
theorem sort_perm {l m:List Mo} (hd:DistP m) (h:l.Perm m):sortM l=sortM m:=by
 have hp:(sortM l).Perm l:=List.mergeSort_perm l ltM
 refine sort_uniq hd (hp.trans h) ?_
 have:=List.pairwise_mergeSort (le:=ltM) (fun a b c h1 h2=>by
  simp only [ltM,decide_eq_true_eq] at *
  exact cmpP_letr h1 h2) (fun a b=>by
  simp only [ltM,Bool.or_eq_true,decide_eq_true_eq]
  exact cmpP_total _ _) l
 exact this.imp fun h=>cmpP_le.2 (by simpa [ltM] using h)
theorem erase_perm {α:Type}:∀ {l:List α} {i:Nat} (h:i<l.length),(l[i]::l.eraseIdx i).Perm l
 |[],i,h=>by simp at h
 |x::l,0,_=>List.Perm.refl _
 |x::l,i+1,h=>by
  have:=erase_perm (l:=l) (i:=i) (by simpa using h)
  rw [List.eraseIdx_cons_succ,List.getElem_cons_succ]
  exact (List.Perm.swap x _ _).trans (this.cons x)
theorem walk_step {s left:SumM} {ou:List Mo} {i:Nat} {d:List UInt8 × Mo} (h:(ou++left.map (fun e=>e.2)).Perm (s.map fun e=>e.2)) (hi:i<left.length):(ou++[(left.getD i d).2]++(left.eraseIdx i).map (fun e=>e.2)).Perm (s.map fun e=>e.2):=by
 refine List.Perm.trans ?_ h
 rw [List.append_assoc]
 refine List.Perm.append_left _ ?_
 rw [getD_ok _ hi]
 exact (erase_perm hi).map (fun e=>e.2)
theorem walk_mem {s left:SumM} {ou:List Mo} {i:Nat} {d:List UInt8 × Mo} (h:(ou++left.map (fun e=>e.2)).Perm (s.map fun e=>e.2)) (hi:i<left.length):(left.getD i d).2∈(s.map fun e=>e.2):=
 h.mem_iff.1 (List.mem_append_right _ (List.mem_map.2 ⟨_,getD_mem hi,rfl⟩))
theorem under_of {m:Mo} (h:¬ (1000000000<m.1∨(m.2.1.any fun k=>decide (100<k.2.1))=true)):underC m:=by
 obtain ⟨h1,h2⟩:=not_or.1 h
 refine ⟨Int.not_lt.1 h1,fun x hx=>Int.not_lt.1 fun hlt=>h2 ?_⟩
 rw [List.any_eq_true]
 exact ⟨x,hx,by simpa using hlt⟩
theorem not_under {m:Mo} (h:1000000000<m.1∨(m.2.1.any fun k=>decide (100<k.2.1))=true):¬ underC m:=fun hu=>by
 unfold underC at hu
 rcases h with h|h
 · omega
 · rw [List.any_eq_true] at h
   obtain ⟨x,hx,h⟩:=h
   have:=hu.2 x hx
   simp at h
   omega
@[reducible] noncomputable def S_z72:Spec:={ ins:=(.cons (.ob (.fm .str tMo)) .nil),pre:=(fun x=>(fun s=>sortPre (s.map (fun e=>e.2))) x.1),alts:=[{ outs:=(.cons (.d tPoly) (.cons (.d tInt) .nil)),res:=(fun x=>(fun s=>(doneV (sortM (s.map (fun e=>e.2))),doneE (sortM (s.map (fun e=>e.2))),())) x.1)}]}
noncomputable def c_z72:Cf:=(cf_z72 (Fl [(fi_z116,S_con_result_1),(fi_z123,S_z123)]))
theorem g_z72:∀ x,S_z72.pre x→shOK S_z72.ins x→fnGoal c_z72 fn_z72 S_z72 x:=by
 rintro ⟨s,⟨⟩⟩ hpre hok
 try dsimp only [Dat,SDat,dflt,Ty.size,keepS,bkUpd,Gv.bk,backS,wayA,maxI,minI,negI] at hpre
 have hln:=shLn_of _ hok;replace hok:=Hd.mk hok;try simp only [shLn,datLn,inRng,lo,hi,maxLen,true_and,and_true] at hln
 have hd:DistP (s.map (fun e=>e.2)):=hpre.1
 have hsl:(s.map (fun e=>e.2)).length≤1000000:=hpre.2
 first|refine fn_goal (w_head ?_)
 intro Kz kz;(conv=>whnf);(try dsimp+instances only);refine kz _ ?_;clear kz Kz;(conv=>(arg 2;whnf))
 repeat' (first|refine an ?_ ?_|((try refine gm ?_);first|((with_reducible show Kz _);(try dsimp+instances only);(with_reducible refine kz _ ?_);clear kz Kz)|refine st ?_|(refine sr ?_;intro Kz kz;conv=>whnf)|(refine cd ?_;(conv=>arg 2;whnf);refine st ?_)|refine blockK_y (by rfl) ?_|(refine sw ?_;conv=>whnf))|(refine gm ?_;conv=>whnf)|(intro hc;(try dsimp+instances only[Dat,SDat,dflt,Ty.size,keepS,bkUpd,Gv.bk,backS,wayA,maxI,minI,negI]at hc);try simp only[LS]at hc))
 all_goals (try ((fail_if_success refine nl ?_);(try dsimp only[Dat,SDat,dflt,Ty.size,keepS,bkUpd,Gv.bk,backS,wayA,maxI,minI,negI]);(try simp only[LS]);first|done|exact dsc|((try simp only[allP,lo,hi,room,true_and,and_true,implies_true]);(repeat' (first|refine an ?_ ?_|((with_reducible refine preA_t ?_ ?_);rotate_left;exact sameP_t)|intro hv))<;>(try omega))))
 refine w_loop [(8, .ob (.mit .str tMo)),(4, .row tMo)] [] (fun y=>(List.Perm ((y.1.2.1:List Mo)++(y.1.1.1:SumM).map (fun e=>e.2)) (s.map fun e=>e.2))∧∀ m∈(y.1.2.1:List Mo),underC m) (fun y=>List.length y.1.1.1) ?_
 conv=>whnf
 refine And.intro ?_ ?_
 · exact ⟨List.Perm.refl _,by simp⟩
 rintro ⟨⟨⟨left,cur,q⟩,ou,⟨⟩⟩,⟨⟩⟩ ⟨hp1,hp2⟩
 have hp1:List.Perm ((ou:List Mo)++(left:SumM).map (fun e=>e.2)) (s.map fun e=>e.2):=hp1
 have hp2:∀ m∈(ou:List Mo),underC m:=hp2
 have hol:=hp1.length_eq
 rw [List.length_append] at hol
 have hol:List.length ou≤1000000:=by omega
 repeat' (first|refine an ?_ ?_|((try refine gm ?_);first|((with_reducible show Kz _);(try dsimp+instances only);(with_reducible refine kz _ ?_);clear kz Kz)|refine st ?_|(refine sr ?_;intro Kz kz;conv=>whnf)|(refine cd ?_;(conv=>arg 2;whnf);refine st ?_)|refine blockK_y (by rfl) ?_|(refine sw ?_;conv=>whnf))|(refine gm ?_;conv=>whnf)|(intro hc;(try dsimp+instances only[Dat,SDat,dflt,Ty.size,keepS,bkUpd,Gv.bk,backS,wayA,maxI,minI,negI]at hc);try simp only[LS]at hc))
 all_goals (try ((fail_if_success refine nl ?_);(try dsimp only[Dat,SDat,dflt,Ty.size,keepS,bkUpd,Gv.bk,backS,wayA,maxI,minI,negI]);(try simp only[LS]);first|done|exact dsc|((try simp only[allP,lo,hi,room,true_and,and_true,implies_true]);(repeat' (first|refine an ?_ ?_|((with_reducible refine preA_t ?_ ?_);rotate_left;exact sameP_t)|intro hv))<;>(try omega))))
 all_goals (first
  |(exact absurd hc (by assumption))
  |(simp only [Nat.reduceAdd,Nat.reduceMul];omega)
  |(rename_i i hi hn
    have hi:=hi hn
    first
     |exact (done_yes (over_sort (walk_mem hp1 hi) (not_under hc))).1
     |exact (done_yes (over_sort (walk_mem hp1 hi) (not_under hc))).2
     |exact walk_step hp1 hi
     |(rw [List.length_eraseIdx];split<;>omega))
  |(rename_i i hi hn hu m
    rcases List.mem_append.1 hc with h|h
    · exact hp2 _ h
    · rw [List.mem_singleton] at h;subst h;exact under_of hu)
  |skip)
 all_goals
  rename_i he
  have he:left=[]:=he
  subst he
  have hpe:(ou:List Mo).Perm (s.map fun e=>e.2):=by simpa using hp1
  have hse:=sort_perm hd hpe
  have hle:(sortM (s.map fun e=>e.2)).length=List.length ou:=by rw [← hse];exact (List.mergeSort_perm ou ltM).length_eq
  have hno:¬ overC (sortM (s.map fun e=>e.2)):=by
   rw [← hse]
   exact under_not fun m hm=>hp2 m ((List.mergeSort_perm ou ltM).mem_iff.1 hm)
  have hdn:=done_no hno
  first
   |(rw [hdn.1,if_pos (by omega)];done)
   |(rw [hdn.2,if_pos (by omega)];done)
   |(rw [hdn.1,if_neg (by omega)];exact hse)
   |(rw [hdn.2,if_neg (by omega)];done)
   |exact ⟨dist_perm hpe.symm hd,by omega⟩
theorem ok_z72:SpecOK SP glob fi_z72 S_z72:=mk_ok (c:=c_z72) (tab_ok _) mix_ok wf_z72 (by decide) (.cons ok_con_result_1 (.cons ok_z123 .nil)) (fun x hx=>Nat.zero_lt_one) g_z72
theorem valid_wk {p:List Mo} (h:ValidP p):okMs p:=fun m hm=>⟨wkP_of (valid_mem h hm).2.2,(valid_sum h).2 m hm⟩
theorem okMs_app {p q:List Mo} (hp:okMs p) (hq:okMs q):okMs (p++q):=fun m hm=>(List.mem_append.1 hm).elim (hp m) (hq m)
theorem okMs_take {p:List Mo} (h:okMs p) (k:Nat):okMs (p.take k):=fun m hm=>h m (List.mem_of_mem_take hm)
theorem addS_step {s:SumM} {q:List Mo} {k:Nat} (h:k<q.length):addS s (q.take (k+1))=putSum (addS s (q.take k)) (q.getD k ((0,[],()):Mo)):=by
 unfold addS
 rw [List.take_succ_eq_append_getElem h,List.foldl_append,getD_ok _ h];rfl
theorem addS_pre {q:List Mo} (h:okMs q) (hl:q.length≤1000000):sortPre ((addS [] q).map fun e=>e.2):=
 ⟨dist_perm (addS_is SumIs.nil h).perm.symm (srt_dist (addS_is SumIs.nil h).ok.1),by
  have h1:=(addS_is SumIs.nil h).len
  have h2:=(addL_ok sumOK_nil fun x hx=>(h x hx).2).2
  rw [List.length_map,h1]
  simp only [List.length_nil] at h2
  omega⟩
@[reducible] noncomputable def S_z61:Spec:={ ins:=(.cons (.d tPoly) (.cons (.d tPoly) .nil)),pre:=fun _=>True,alts:=[{ outs:=(.cons (.d tPoly) (.cons (.d tInt) .nil)),res:=(fun x=>(fun p q=>(sumV p q (addL p q),sumE p q (addL p q),())) x.1 x.2.1)}],noisy:=true}
noncomputable def c_z61:Cf:={ cf_z61 (Fl [(fi_z66,S_z66),(fi_z114,S_z114),(fi_z71,S_z71),(fi_z72,S_z72)]) with nz:=true}
theorem g_z61:∀ x,S_z61.pre x→shOK S_z61.ins x→fnGoal c_z61 fn_z61 S_z61 x:=by
 rintro ⟨p,q,⟨⟩⟩ hpre hok
 clear hpre
 have hln:=shLn_of _ hok;replace hok:=Hd.mk hok;try simp only [shLn,datLn,inRng,lo,hi,maxLen,true_and,and_true] at hln
 first|refine fn_goal (w_head ?_)
 intro Kz kz;(conv=>whnf);(try dsimp+instances only);refine kz _ ?_;clear kz Kz;(conv=>(arg 2;whnf))
 repeat' (first|refine an ?_ ?_|((try refine gm ?_);first|((with_reducible show Kz _);(try dsimp+instances only);(with_reducible refine kz _ ?_);clear kz Kz)|refine st ?_|(refine sr ?_;intro Kz kz;conv=>whnf)|(refine cd ?_;(conv=>arg 2;whnf);refine st ?_)|refine blockK_y (by rfl) ?_|(refine sw ?_;conv=>whnf))|(refine gm ?_;conv=>whnf)|(intro hc;(try dsimp+instances only[Dat,SDat,dflt,Ty.size,keepS,bkUpd,Gv.bk,backS,wayA,maxI,minI,negI]at hc);try simp only[LS]at hc))
 all_goals (try ((fail_if_success refine nl ?_);(try dsimp only[Dat,SDat,dflt,Ty.size,keepS,bkUpd,Gv.bk,backS,wayA,maxI,minI,negI]);(try simp only[LS]);first|done|exact dsc|((try simp only[allP,lo,hi,room,true_and,and_true,implies_true]);(repeat' (first|refine an ?_ ?_|((with_reducible refine preA_t ?_ ?_);rotate_left;exact sameP_t)|intro hv))<;>(try omega))))
 · exact (sumV_no (fun h=>hc.elim (fun a=>a h.1) (fun a=>a h.2))).1.symm
 · exact (sumV_no (fun h=>hc.elim (fun a=>a h.1) (fun a=>a h.2))).2.symm
 · have h1:=(Classical.not_not.1 (not_or.1 hc).1).1
   have h2:=(Classical.not_not.1 (not_or.1 hc).2).1
   simp only [List.flatten_cons,List.flatten_nil,List.length_append,List.length_nil]
   omega
 have hva:ValidP p∧ValidP q:=⟨Classical.not_not.1 (not_or.1 hc).1,Classical.not_not.1 (not_or.1 hc).2⟩
 have hpl:=hva.1.1
 have hql:=hva.2.1
 have hfl:[p,q].flatten=p++q:=by simp
 have hms:okMs (List.flatten [p,q]:List Mo):=by rw [hfl];exact okMs_app (valid_wk hva.1) (valid_wk hva.2)
 have hlen:(List.flatten [p,q]:List Mo).length≤800:=by rw [hfl,List.length_append];omega
 have hfin:sortM ((addS [] (List.flatten [p,q]:List Mo)).map fun e=>e.2)=addL p q:=by rw [addS_sort hms,hfl,addL_two (valid_sum hva.1).1]
 refine w_loop [(6, .map .str tMo),(23, .d tInt)] [] (fun y=>∃ k:Nat,y.1.2.1=(k:Int)∧k≤(List.flatten [p,q]:List Mo).length∧y.1.1=addS [] ((List.flatten [p,q]:List Mo).take k)) (fun y=>(List.flatten [p,q]:List Mo).length - y.1.2.1.toNat) ?_
 conv=>whnf
 refine And.intro ?_ ?_
 · exact ⟨0,rfl,by omega,by simp [addS]⟩
 rintro ⟨⟨sm,_,⟨⟩⟩,⟨⟩⟩ ⟨k,rfl,hk,hsm⟩
 have hsm:sm=addS [] ((List.flatten [p,q]:List Mo).take k):=hsm
 subst hsm
 have hco:=(addS_is SumIs.nil (okMs_take hms k)).co
 have hsi:=addS_is SumIs.nil (okMs_take hms k)
 have hml:k<(List.flatten [p,q]:List Mo).length→_:=fun h=>hms _ (getD_mem (l:=(List.flatten [p,q]:List Mo)) (d:=((0,[],()):Mo)) (k:=k) h)
 repeat' (first|refine an ?_ ?_|((try refine gm ?_);first|((with_reducible show Kz _);(try dsimp+instances only);(with_reducible refine kz _ ?_);clear kz Kz)|refine st ?_|(refine sr ?_;intro Kz kz;conv=>whnf)|(refine cd ?_;(conv=>arg 2;whnf);refine st ?_)|refine blockK_y (by rfl) ?_|(refine sw ?_;conv=>whnf))|(refine gm ?_;conv=>whnf)|(intro hc;(try dsimp+instances only[Dat,SDat,dflt,Ty.size,keepS,bkUpd,Gv.bk,backS,wayA,maxI,minI,negI]at hc);try simp only[LS]at hc))
 all_goals (try ((fail_if_success refine nl ?_);(try dsimp only[Dat,SDat,dflt,Ty.size,keepS,bkUpd,Gv.bk,backS,wayA,maxI,minI,negI]);(try simp only[LS]);first|done|exact dsc|((try simp only[allP,lo,hi,room,true_and,and_true,implies_true]);(repeat' (first|refine an ?_ ?_|((with_reducible refine preA_t ?_ ?_);rotate_left;exact sameP_t)|intro hv))<;>(try omega))))
 all_goals (first
  |exact (hml (by omega)).1
  |exact (hml (by omega)).2.1
  |exact (hml (by omega)).2.2
  |exact (hco _).1
  |exact (hco _).2
  |(refine ⟨k+1,rfl,by omega,?_⟩;rw [addS_step (by omega)])
  |omega
  |(rw [List.take_of_length_le (by omega)]
    first
     |exact addS_pre hms (by omega)
     |(rw [hfin];exact (sumV_yes hva).1.symm)
     |(rw [hfin];exact (sumV_yes hva).2.symm))
  |skip)
theorem ok_z61:SpecOK SP glob fi_z61 S_z61:=mk_ok (c:=c_z61) (tab_ok _) mix_ok wf_z61 (by decide) (.cons ok_z66 (.cons ok_z114 (.cons ok_z71 (.cons ok_z72 .nil)))) (fun x hx=>Nat.zero_lt_one) g_z61
theorem prods_take {p q:List Mo} {i:Nat}:∀ m∈prods (p.take i) q,m∈prods p q:=fun m hm=>by
 unfold prods at hm ⊢
 obtain ⟨x,hx,hm⟩:=List.mem_flatMap.1 hm
 exact List.mem_flatMap.2 ⟨x,List.mem_of_mem_take hx,hm⟩
theorem mulP_mem {a b:List Pw} {x:Pw} (h:x∈mulP a b):x∈a∨x∈b∨∃ u∈a,∃ v∈b,x=(u.1,u.2.1+v.2.1,()):=by
 fun_induction mulP a b with
 |case1 b=>exact .inr (.inl h)
 |case2 x a=>exact .inl h
 |case3 u a v b hc ih=>
  rcases List.mem_cons.1 h with rfl|h
  · exact .inl List.mem_cons_self
  · rcases ih h with h|h|⟨w,hw,z,hz,h⟩
    · exact .inl (List.mem_cons_of_mem _ h)
    · exact .inr (.inl h)
    · exact .inr (.inr ⟨w,List.mem_cons_of_mem _ hw,z,hz,h⟩)
 |case4 u a v b hc hc2 ih=>
  rcases List.mem_cons.1 h with rfl|h
  · exact .inr (.inl List.mem_cons_self)
  · rcases ih h with h|h|⟨w,hw,z,hz,h⟩
    · exact .inl h
    · exact .inr (.inl (List.mem_cons_of_mem _ h))
    · exact .inr (.inr ⟨w,hw,z,List.mem_cons_of_mem _ hz,h⟩)
 |case5 u a v b hc hc2 ih=>
  rcases List.mem_cons.1 h with rfl|h
  · exact .inr (.inr ⟨u,List.mem_cons_self,v,List.mem_cons_self,rfl⟩)
  · rcases ih h with h|h|⟨w,hw,z,hz,h⟩
    · exact .inl (List.mem_cons_of_mem _ h)
    · exact .inr (.inl (List.mem_cons_of_mem _ h))
    · exact .inr (.inr ⟨w,List.mem_cons_of_mem _ hw,z,List.mem_cons_of_mem _ hz,h⟩)
theorem mulP_wk {a b:List Pw} (ha:okP a) (hb:okP b):wkP (mulP a b):=by
 refine ⟨by have:=mulP_room (a:=a) (b:=b);have:=okP_len ha;have:=okP_len hb;omega,fun x hx=>?_⟩
 unfold okY
 rcases mulP_mem hx with h|h|⟨u,hu,v,hv,rfl⟩
 · have:=okP_mem ha h;omega
 · have:=okP_mem hb h;omega
 · have:=okP_mem ha hu;have:=okP_mem hb hv;dsimp only;omega
theorem prods_ms {p q:List Mo} (hp:ValidP p) (hq:ValidP q):okMs (prods p q):=fun x hx=>by
 refine ⟨?_,prods_co hp hq x hx⟩
 unfold prods at hx
 obtain ⟨m,hm,hx⟩:=List.mem_flatMap.1 hx
 obtain ⟨n,hn,rfl⟩:=List.mem_map.1 hx
 exact mulP_wk (valid_mem hp hm).2.2 (valid_mem hq hn).2.2
theorem addS_app {s:SumM} {a b:List Mo}:addS s (a++b)=addS (addS s a) b:=by unfold addS;rw [List.foldl_append]
@[reducible] noncomputable def S_z65:Spec:={ ins:=(.cons (.d tPoly) (.cons (.d tPoly) .nil)),pre:=fun _=>True,alts:=[{ outs:=(.cons (.d tPoly) (.cons (.d tInt) .nil)),res:=(fun x=>(fun p q=>(sumV p q (addL [] (prods p q)),sumE p q (addL [] (prods p q)),())) x.1 x.2.1)}],noisy:=true}
noncomputable def c_z65:Cf:={ cf_z65 (Fl [(fi_z66,S_z66),(fi_z75,S_z75),(fi_z71,S_z71),(fi_z72,S_z72)]) with nz:=true}
theorem g_z65:∀ x,S_z65.pre x→shOK S_z65.ins x→fnGoal c_z65 fn_z65 S_z65 x:=by
 rintro ⟨p,q,⟨⟩⟩ hpre hok
 clear hpre
 have hln:=shLn_of _ hok;replace hok:=Hd.mk hok;try simp only [shLn,datLn,inRng,lo,hi,maxLen,true_and,and_true] at hln
 first|refine fn_goal (w_head ?_)
 intro Kz kz;(conv=>whnf);(try dsimp+instances only);refine kz _ ?_;clear kz Kz;(conv=>(arg 2;whnf))
 repeat' (first|refine an ?_ ?_|((try refine gm ?_);first|((with_reducible show Kz _);(try dsimp+instances only);(with_reducible refine kz _ ?_);clear kz Kz)|refine st ?_|(refine sr ?_;intro Kz kz;conv=>whnf)|(refine cd ?_;(conv=>arg 2;whnf);refine st ?_)|refine blockK_y (by rfl) ?_|(refine sw ?_;conv=>whnf))|(refine gm ?_;conv=>whnf)|(intro hc;(try dsimp+instances only[Dat,SDat,dflt,Ty.size,keepS,bkUpd,Gv.bk,backS,wayA,maxI,minI,negI]at hc);try simp only[LS]at hc))
 all_goals (try ((fail_if_success refine nl ?_);(try dsimp only[Dat,SDat,dflt,Ty.size,keepS,bkUpd,Gv.bk,backS,wayA,maxI,minI,negI]);(try simp only[LS]);first|done|exact dsc|((try simp only[allP,lo,hi,room,true_and,and_true,implies_true]);(repeat' (first|refine an ?_ ?_|((with_reducible refine preA_t ?_ ?_);rotate_left;exact sameP_t)|intro hv))<;>(try omega))))
 · exact (sumV_no (fun h=>hc.elim (fun a=>a h.1) (fun a=>a h.2))).1.symm
 · exact (sumV_no (fun h=>hc.elim (fun a=>a h.1) (fun a=>a h.2))).2.symm
 have hva:ValidP p∧ValidP q:=⟨Classical.not_not.1 (not_or.1 hc).1,Classical.not_not.1 (not_or.1 hc).2⟩
 have hpl:=hva.1.1
 have hql:=hva.2.1
 have hms:=prods_ms hva.1 hva.2
 have hlen:(prods p q).length≤160000:=by
  have:=prods_len (p:=p) (q:=q) (i:=p.length) (Nat.le_refl _)
  rw [List.take_length] at this
  rw [this]
  exact Nat.mul_le_mul hpl hql
 have hfin:=addS_sort hms
 have hmt:∀ i,okMs (prods (p.take i) q):=fun i x hx=>hms x (prods_take x hx)
 refine w_loop [(6, .map .str tMo),(22, .d tInt)] [] (fun y=>∃ i:Nat,y.1.2.1=(i:Int)∧i≤p.length∧y.1.1=addS [] (prods (p.take i) q)) (fun y=>p.length - y.1.2.1.toNat) ?_
 conv=>whnf
 refine And.intro ?_ ?_
 · exact ⟨0,rfl,by omega,by simp [addS,prods]⟩
 rintro ⟨⟨sm,_,⟨⟩⟩,⟨⟩⟩ ⟨i,rfl,hi,hsm⟩
 have hsm:sm=addS [] (prods (p.take i) q):=hsm
 subst hsm
 repeat' (first|refine an ?_ ?_|((try refine gm ?_);first|((with_reducible show Kz _);(try dsimp+instances only);(with_reducible refine kz _ ?_);clear kz Kz)|refine st ?_|(refine sr ?_;intro Kz kz;conv=>whnf)|(refine cd ?_;(conv=>arg 2;whnf);refine st ?_)|refine blockK_y (by rfl) ?_|(refine sw ?_;conv=>whnf))|(refine gm ?_;conv=>whnf)|(intro hc;(try dsimp+instances only[Dat,SDat,dflt,Ty.size,keepS,bkUpd,Gv.bk,backS,wayA,maxI,minI,negI]at hc);try simp only[LS]at hc))
 all_goals (try ((fail_if_success refine nl ?_);(try dsimp only[Dat,SDat,dflt,Ty.size,keepS,bkUpd,Gv.bk,backS,wayA,maxI,minI,negI]);(try simp only[LS]);first|done|exact dsc|((try simp only[allP,lo,hi,room,true_and,and_true,implies_true]);(repeat' (first|refine an ?_ ?_|((with_reducible refine preA_t ?_ ?_);rotate_left;exact sameP_t)|intro hv))<;>(try omega))))
 · have hmi:=valid_mem hva.1 (getD_mem (l:=p) (d:=((0,[],()):Mo)) (k:=i) (by omega))
   have hsi:=valid_sm hva.1 (getD_mem (l:=p) (d:=((0,[],()):Mo)) (k:=i) (by omega))
   have hmk:∀ k,k≤q.length→okMs (prods (p.take i) q++(q.take k).map (mulM (List.getD p i ((0,[],()):Mo)))):=fun k hk=>by
    have:=hmt (i+1)
    rw [prods_step (by omega)] at this
    exact okMs_app (hmt i) fun x hx=>this x (List.mem_append_right _ (by
     obtain ⟨n,hn,rfl⟩:=List.mem_map.1 hx
     exact List.mem_map.2 ⟨n,List.mem_of_mem_take hn,rfl⟩))
   refine w_loop [(6, .map .str tMo),(28, .d tInt)] [] (fun y=>∃ k:Nat,y.1.2.1=(k:Int)∧k≤q.length∧y.1.1=addS (addS [] (prods (p.take i) q)) ((q.take k).map (mulM (List.getD p i ((0,[],()):Mo))))) (fun y=>q.length - y.1.2.1.toNat) ?_
   conv=>whnf
   refine And.intro ?_ ?_
   · exact ⟨0,rfl,by omega,by simp [addS]⟩
   rintro ⟨⟨sm,_,⟨⟩⟩,⟨⟩⟩ ⟨k,rfl,hk,hsm⟩
   have hsm:sm=addS (addS [] (prods (p.take i) q)) ((q.take k).map (mulM (List.getD p i ((0,[],()):Mo)))):=hsm
   subst hsm
   have hco:=(addS_is SumIs.nil (hmk k hk)).co
   rw [addS_app] at hco
   have hq1:k<q.length→_:=fun h=>valid_mem hva.2 (getD_mem (l:=q) (d:=((0,[],()):Mo)) (k:=k) h)
   have hsk:k<q.length→_:=fun h=>valid_sm hva.2 (getD_mem (l:=q) (d:=((0,[],()):Mo)) (k:=k) h)
   have hbd:k<q.length→_:=fun h=>mul_bound hmi.1 hmi.2.1 (hq1 h).1 (hq1 h).2.1
   repeat' (first|refine an ?_ ?_|((try refine gm ?_);first|((with_reducible show Kz _);(try dsimp+instances only);(with_reducible refine kz _ ?_);clear kz Kz)|refine st ?_|(refine sr ?_;intro Kz kz;conv=>whnf)|(refine cd ?_;(conv=>arg 2;whnf);refine st ?_)|refine blockK_y (by rfl) ?_|(refine sw ?_;conv=>whnf))|(refine gm ?_;conv=>whnf)|(intro hc;(try dsimp+instances only[Dat,SDat,dflt,Ty.size,keepS,bkUpd,Gv.bk,backS,wayA,maxI,minI,negI]at hc);try simp only[LS]at hc))
   all_goals (try ((fail_if_success refine nl ?_);(try dsimp only[Dat,SDat,dflt,Ty.size,keepS,bkUpd,Gv.bk,backS,wayA,maxI,minI,negI]);(try simp only[LS]);first|done|exact dsc|((try simp only[allP,lo,hi,room,true_and,and_true,implies_true]);(repeat' (first|refine an ?_ ?_|((with_reducible refine preA_t ?_ ?_);rotate_left;exact sameP_t)|intro hv))<;>(try omega))))
   all_goals (first
    |(have:=hbd (by omega);simp only [Gv.hi];omega)
    |(simp only [Gv.hi];omega)
    |omega
    |exact hsi
    |exact hsk (by omega)
    |exact mulP_wk hmi.2.2 (hq1 (by omega)).2.2
    |exact (hco _).1
    |exact (hco _).2
    |(refine ⟨k+1,rfl,by omega,?_⟩
      rw [map_take_sK (by omega)]
      unfold addS
      rw [List.foldl_append];rfl)
    |(have hT:q.take k=q:=List.take_of_length_le (by omega)
      refine ⟨i+1,rfl,by omega,?_⟩
      rw [prods_step (by omega),addS_app,hT])
    |skip)
 all_goals
  have hT:p.take i=p:=List.take_of_length_le (by omega)
  rw [hT]
  first
   |exact addS_pre hms (by omega)
   |(rw [hfin];exact (sumV_yes hva).1.symm)
   |(rw [hfin];exact (sumV_yes hva).2.symm)
theorem ok_z65:SpecOK SP glob fi_z65 S_z65:=mk_ok (c:=c_z65) (tab_ok _) mix_ok wf_z65 (by decide) (.cons ok_z66 (.cons ok_z75 (.cons ok_z71 (.cons ok_z72 .nil)))) (fun x hx=>Nat.zero_lt_one) g_z65
end Go.Gv
