/- Chapter 15: the reference's sums and products. -/
import Derived.Test.YtibnojoffhlekaaGreatDoorC15j
import Derived.Test.YtibnojoffhlekaaGreatDoorC15e
set_option linter.all false
namespace Go.Gv
open Go Go.Proofs Go.Proofs.YtibnojoffhlekaaGreatDoor
set_option maxRecDepth 100000
set_option maxHeartbeats 4000000
theorem insP_mem:∀ {l:List Mo} {m x:Mo},x∈insP l m→x∈l∨x=m∨∃ y∈l,x=(min (y.1+m.1) 1000000001,y.2.1,())
 |[],m,x,h=>by simp [insP] at h;exact .inr (.inl h)
 |y::l,m,x,h=>by
  unfold insP at h
  split at h
  · rcases List.mem_cons.1 h with rfl|h
    · exact .inl List.mem_cons_self
    · rcases insP_mem h with h|h|⟨z,hz,h⟩
      · exact .inl (List.mem_cons_of_mem _ h)
      · exact .inr (.inl h)
      · exact .inr (.inr ⟨z,List.mem_cons_of_mem _ hz,h⟩)
  · split at h
    · rcases List.mem_cons.1 h with h|h
      · exact .inr (.inr ⟨y,List.mem_cons_self,h⟩)
      · exact .inl (List.mem_cons_of_mem _ h)
    · rcases List.mem_cons.1 h with h|h
      · exact .inr (.inl h)
      · exact .inl h
theorem insP_pw {l:List Mo} {m x:Mo} (h:x∈insP l m):(∃ y∈l,y.2.1=x.2.1)∨m.2.1=x.2.1:=by
 rcases insP_mem h with h|h|⟨y,hy,h⟩
 · exact .inl ⟨x,h,rfl⟩
 · exact .inr (by rw [h])
 · exact .inl ⟨y,hy,by rw [h]⟩
theorem insP_srt:∀ {l:List Mo} {m:Mo},srtM l→srtM (insP l m)
 |[],m,_=>List.pairwise_singleton _ _
 |y::l,m,h=>by
  obtain ⟨h1,h2⟩:=List.pairwise_cons.1 h
  unfold insP
  split
  · rename_i hc
    refine List.pairwise_cons.2 ⟨fun x hx=>?_,insP_srt h2⟩
    rcases insP_pw hx with ⟨z,hz,e⟩|e
    · rw [← e];exact h1 z hz
    · rw [← e];exact hc
  · split
    · exact List.pairwise_cons.2 ⟨fun x hx=>h1 x hx,h2⟩
    · rename_i hc hc2
      have h3:cmpP m.2.1 y.2.1<0:=cmpP_swap.1 (by omega)
      exact List.pairwise_cons.2 ⟨fun x hx=>by
       rcases List.mem_cons.1 hx with rfl|hx
       · exact h3
       · exact cmpP_trans h3 (h1 x hx),h⟩
theorem insP_co {l:List Mo} {m:Mo} (h:∀ x∈l,coM x) (hm:coM m):∀ x∈insP l m,coM x:=fun x hx=>by
 rcases insP_mem hx with hx|rfl|⟨y,hy,rfl⟩
 · exact h x hx
 · exact hm
 · have:=h y hy
   unfold coM at *
   dsimp only
   omega
theorem insP_len:∀ {l:List Mo} {m:Mo},(insP l m).length≤l.length+1
 |[],m=>by simp [insP]
 |y::l,m=>by
  unfold insP
  split
  · have:=insP_len (l:=l) (m:=m);simp only [List.length_cons];omega
  · split<;>simp only [List.length_cons]<;>omega
def addL (l q:List Mo):List Mo:=q.foldl insP l
def sumOK (l:List Mo):Prop:=srtM l∧∀ x∈l,coM x
theorem addL_ok:∀ {q l:List Mo},sumOK l→(∀ x∈q,coM x)→sumOK (addL l q)∧(addL l q).length≤l.length+q.length
 |[],l,h,_=>⟨h,by simp [addL]⟩
 |m::q,l,h,hq=>by
  have h1:sumOK (insP l m):=⟨insP_srt h.1,insP_co h.2 (hq m List.mem_cons_self)⟩
  have h2:=addL_ok h1 (fun x hx=>hq x (List.mem_cons_of_mem _ hx))
  have h3:=insP_len (l:=l) (m:=m)
  exact ⟨h2.1,by have:=h2.2;simp only [addL,List.foldl_cons,List.length_cons] at this ⊢;omega⟩
theorem addL_step {l q:List Mo} {k:Nat} (h:k<q.length):addL l (q.take (k+1))=insP (addL l (q.take k)) (q.getD k ((0,[],()):Mo)):=by
 unfold addL
 rw [List.take_succ_eq_append_getElem h,List.foldl_append,getD_ok _ h];rfl
theorem pair_adj {α:Type} {R:α→α→Prop} (ht:∀ {a b c:α},R a b→R b c→R a c) {l:List α} (h:∀ i (hi:i+1<l.length),R (l[i]'(by omega)) l[i+1]):l.Pairwise R:=by
 rw [List.pairwise_iff_getElem]
 intro i j hi hj hij
 obtain ⟨d,rfl⟩:∃ d,j=i+1+d:=⟨j - i - 1,by omega⟩
 clear hij
 induction d with
 |zero=>exact h i hj
 |succ d ih=>exact ht (ih (by omega)) (h (i+1+d) hj)
theorem valid_sum {p:List Mo} (h:ValidP p):sumOK p:=by
 refine ⟨pair_adj (R:=fun (x y:Mo)=>cmpP x.2.1 y.2.1<0) (fun {a b c} h1 h2=>cmpP_trans (b:=b.2.1) h1 h2) (fun i hi=>?_),fun x hx=>?_⟩
 · have:=(h.2 (i+1) hi).2.2.1 (by omega)
   rw [show i+1 - 1=i by omega,getD_ok _ (by omega),getD_ok _ hi] at this
   exact this
 · obtain ⟨i,hi,rfl⟩:=List.getElem_of_mem hx
   have:=h.2 i hi
   unfold okM at this
   rw [getD_ok _ hi] at this
   unfold coM
   omega
theorem valid_sm {p:List Mo} (h:ValidP p) {x:Mo} (hx:x∈p):smP x.2.1:=by
 have:=(valid_mem h hx).2.2
 have h1:=okP_len this
 refine ⟨by omega,fun y hy=>?_⟩
 have:=okP_mem this hy
 unfold okX at this
 omega
noncomputable def sumV (p q l:List Mo):List Mo:=if boolOf (ValidP p∧ValidP q)=true then doneV l else []
noncomputable def sumE (p q l:List Mo):Int:=if boolOf (ValidP p∧ValidP q)=true then doneE l else 1
theorem sumV_no {p q l:List Mo} (h:¬ (ValidP p∧ValidP q)):sumV p q l=[]∧sumE p q l=1:=by unfold sumV sumE;rw [boolOf_false.2 h];exact ⟨rfl,rfl⟩
theorem sumV_yes {p q l:List Mo} (h:ValidP p∧ValidP q):sumV p q l=doneV l∧sumE p q l=doneE l:=by unfold sumV sumE;rw [boolOf_true.2 h];exact ⟨rfl,rfl⟩
@[reducible] noncomputable def S_z85:Spec:={ ins:=(.cons (.d tPoly) (.cons (.d tPoly) .nil)),pre:=fun _=>True,alts:=[{ outs:=(.cons (.d tPoly) (.cons (.d tInt) .nil)),res:=(fun x=>(fun p q=>(sumV p q (addL p q),sumE p q (addL p q),())) x.1 x.2.1)}]}
noncomputable def c_z85:Cf:={ cf_z85 (Fl [(fi_z90,S_z90),(fi_z93,S_z93),(fi_z92,S_z92)]) with E:={ (cf_z85 (Fl [(fi_z90,S_z90),(fi_z93,S_z93),(fi_z92,S_z92)])).E with rows:=[16]}}
theorem g_z85:∀ x,S_z85.pre x→shOK S_z85.ins x→fnGoal c_z85 fn_z85 S_z85 x:=by
 rintro ⟨p,q,⟨⟩⟩ hpre hok
 clear hpre
 have hln:=shLn_of _ hok;replace hok:=Hd.mk hok;try simp only [shLn,datLn,inRng,lo,hi,maxLen,true_and,and_true] at hln
 first|refine fn_goal (w_head ?_)
 intro Kz kz;(conv=>whnf);(try dsimp+instances only);refine kz _ ?_;clear kz Kz;(conv=>(arg 2;whnf))
 repeat' (first|refine an ?_ ?_|((try refine gm ?_);first|((with_reducible show Kz _);(try dsimp+instances only);(with_reducible refine kz _ ?_);clear kz Kz)|refine st ?_|(refine sr ?_;intro Kz kz;conv=>whnf)|(refine cd ?_;(conv=>arg 2;whnf);refine st ?_)|refine blockK_y (by rfl) ?_|(refine sw ?_;conv=>whnf))|(refine gm ?_;conv=>whnf)|(intro hc;(try dsimp+instances only[Dat,SDat,dflt,Ty.size,keepS,bkUpd,Gv.bk,backS,wayA,maxI,minI,negI]at hc);try simp only[LS]at hc))
 all_goals (try ((fail_if_success refine nl ?_);(try dsimp only[Dat,SDat,dflt,Ty.size,keepS,bkUpd,Gv.bk,backS,wayA,maxI,minI,negI]);(try simp only[LS]);first|done|exact dsc|((try simp only[allP,lo,hi,room,true_and,and_true,implies_true]);(repeat' (first|refine an ?_ ?_|((with_reducible refine preA_t ?_ ?_);rotate_left;exact sameP_t)|intro hv))<;>(try omega))))
 · exact (sumV_no (fun h=>hc.elim (fun a=>a h.1) (fun a=>a h.2))).1.symm
 · exact (sumV_no (fun h=>hc.elim (fun a=>a h.1) (fun a=>a h.2))).2.symm
 · have:=(not_or.1 hc).1
   have:=(Classical.not_not.1 this).1
   omega
 have hva:ValidP p∧ValidP q:=⟨Classical.not_not.1 (not_or.1 hc).1,Classical.not_not.1 (not_or.1 hc).2⟩
 have hsp:=valid_sum hva.1
 have hpl:=hva.1.1
 have hql:=hva.2.1
 have hcq:∀ k,∀ x∈q.take k,coM x:=fun k x hx=>(valid_sum hva.2).2 x (List.mem_of_mem_take hx)
 refine w_loop [(6, .row tMo),(7, .d tInt)] [] (fun y=>∃ k:Nat,y.1.2.1=(k:Int)∧k≤q.length∧y.1.1=addL p (q.take k)) (fun y=>q.length - y.1.2.1.toNat) ?_
 conv=>whnf
 refine And.intro ?_ ?_
 · exact ⟨0,rfl,by omega,by simp [addL]⟩
 rintro ⟨⟨ou,_,⟨⟩⟩,⟨⟩⟩ ⟨k,rfl,hk,hou⟩
 have hou:ou=addL p (q.take k):=hou
 subst hou
 have hok1:=addL_ok hsp (hcq k)
 have hol:=hok1.2
 rw [List.length_take] at hol
 repeat' (first|refine an ?_ ?_|((try refine gm ?_);first|((with_reducible show Kz _);(try dsimp+instances only);(with_reducible refine kz _ ?_);clear kz Kz)|refine st ?_|(refine sr ?_;intro Kz kz;conv=>whnf)|(refine cd ?_;(conv=>arg 2;whnf);refine st ?_)|refine blockK_y (by rfl) ?_|(refine sw ?_;conv=>whnf))|(refine gm ?_;conv=>whnf)|(intro hc;(try dsimp+instances only[Dat,SDat,dflt,Ty.size,keepS,bkUpd,Gv.bk,backS,wayA,maxI,minI,negI]at hc);try simp only[LS]at hc))
 all_goals (try ((fail_if_success refine nl ?_);(try dsimp only[Dat,SDat,dflt,Ty.size,keepS,bkUpd,Gv.bk,backS,wayA,maxI,minI,negI]);(try simp only[LS]);first|done|exact dsc|((try simp only[allP,lo,hi,room,true_and,and_true,implies_true]);(repeat' (first|refine an ?_ ?_|((with_reducible refine preA_t ?_ ?_);rotate_left;exact sameP_t)|intro hv))<;>(try omega))))
 all_goals (first
  |omega
  |exact hok1.1.1
  |exact hok1.1.2 _ (by assumption)
  |exact (valid_sum hva.2).2 _ (getD_mem (by omega))
  |(refine ⟨k+1,rfl,by omega,?_⟩;rw [addL_step (by omega)])
  |(rw [List.take_of_length_le (by omega)];first|exact (sumV_yes hva).1.symm|exact (sumV_yes hva).2.symm)
  |skip)
theorem ok_z85:SpecOK SP glob fi_z85 S_z85:=mk_ok (c:=c_z85) (tab_ok _) mix_ok wf_z85 (by decide) (.cons ok_z90 (.cons ok_z93 (.cons ok_z92 .nil))) (fun x hx=>Nat.zero_lt_one) g_z85
def mulM (m n:Mo):Mo:=(min (m.1 * n.1) 1000000001,mulP m.2.1 n.2.1,())
def prods (p q:List Mo):List Mo:=p.flatMap fun m=>q.map (mulM m)
theorem mulM_co {m n:Mo} (h1:1≤m.1) (h2:1≤n.1):coM (mulM m n):=by
 unfold coM mulM
 have:0≤m.1 * n.1:=Int.mul_nonneg (by omega) (by omega)
 dsimp only
 omega
theorem mul_bound {a b:Int} (h0:1≤a) (h1:a≤1000000000) (h2:1≤b) (h3:b≤1000000000):0≤a * b∧a * b≤1000000000000000000:=
 ⟨Int.mul_nonneg (by omega) (by omega),Int.le_trans (Int.mul_le_mul h1 h3 (by omega) (by omega)) (by decide)⟩
theorem prods_step {p q:List Mo} {i:Nat} (h:i<p.length):prods (p.take (i+1)) q=prods (p.take i) q++q.map (mulM (p.getD i ((0,[],()):Mo))):=by
 unfold prods
 rw [List.take_succ_eq_append_getElem h,List.flatMap_append,getD_ok _ h];simp
theorem map_take_step {q:List Mo} {f:Mo→Mo} {k:Nat} (h:k<q.length):(q.take (k+1)).map f=(q.take k).map f++[f (q.getD k ((0,[],()):Mo))]:=by
 rw [List.take_succ_eq_append_getElem h,List.map_append,getD_ok _ h];rfl
theorem addL_app {l a b:List Mo}:addL l (a++b)=addL (addL l a) b:=by unfold addL;rw [List.foldl_append]
theorem prods_len {p q:List Mo} {i:Nat} (h:i≤p.length):(prods (p.take i) q).length=i * q.length:=by
 unfold prods
 rw [List.length_flatMap,show (fun (m:Mo)=>(q.map (mulM m)).length)=fun _=>q.length from by funext m;rw [List.length_map],List.map_const',List.sum_replicate_nat,List.length_take,Nat.min_eq_left h]
theorem sumOK_nil:sumOK []:=⟨List.Pairwise.nil,by simp⟩
theorem prods_co {p q:List Mo} (hp:ValidP p) (hq:ValidP q):∀ x∈prods p q,coM x:=fun x hx=>by
 unfold prods at hx
 obtain ⟨m,hm,hx⟩:=List.mem_flatMap.1 hx
 obtain ⟨n,hn,rfl⟩:=List.mem_map.1 hx
 exact mulM_co (valid_mem hp hm).1 (valid_mem hq hn).1
@[reducible] noncomputable def S_z87:Spec:={ ins:=(.cons (.d tPoly) (.cons (.d tPoly) .nil)),pre:=fun _=>True,alts:=[{ outs:=(.cons (.d tPoly) (.cons (.d tInt) .nil)),res:=(fun x=>(fun p q=>(sumV p q (addL [] (prods p q)),sumE p q (addL [] (prods p q)),())) x.1 x.2.1)}]}
noncomputable def c_z87:Cf:=(cf_z87 (Fl [(fi_z90,S_z90),(fi_z93,S_z93),(fi_z92,S_z92),(fi_z94,S_z94)]))
theorem g_z87:∀ x,S_z87.pre x→shOK S_z87.ins x→fnGoal c_z87 fn_z87 S_z87 x:=by
 rintro ⟨p,q,⟨⟩⟩ hpre hok
 clear hpre
 have hln:=shLn_of _ hok;replace hok:=Hd.mk hok;try simp only [shLn,datLn,inRng,lo,hi,maxLen,true_and,and_true] at hln
 first|refine fn_goal (w_head ?_)
 intro Kz kz;(conv=>whnf);(try dsimp+instances only);refine kz _ ?_;clear kz Kz;(conv=>(arg 2;whnf))
 repeat' (first|refine an ?_ ?_|((try refine gm ?_);first|((with_reducible show Kz _);(try dsimp+instances only);(with_reducible refine kz _ ?_);clear kz Kz)|refine st ?_|(refine sr ?_;intro Kz kz;conv=>whnf)|(refine cd ?_;(conv=>arg 2;whnf);refine st ?_)|refine blockK_y (by rfl) ?_|(refine sw ?_;conv=>whnf))|(refine gm ?_;conv=>whnf)|(intro hc;(try dsimp+instances only[Dat,SDat,dflt,Ty.size,keepS,bkUpd,Gv.bk,backS,wayA,maxI,minI,negI]at hc);try simp only[LS]at hc))
 all_goals (try ((fail_if_success refine nl ?_);(try dsimp only[Dat,SDat,dflt,Ty.size,keepS,bkUpd,Gv.bk,backS,wayA,maxI,minI,negI]);(try simp only[LS]);first|done|exact dsc|((try simp only[allP,lo,hi,room,true_and,and_true,implies_true]);(repeat' (first|refine an ?_ ?_|((with_reducible refine preA_t ?_ ?_);rotate_left;exact sameP_t)|intro hv))<;>(try omega))))
 · exact (sumV_no (fun h=>hc.elim (fun a=>a h.1) (fun a=>a h.2))).1.symm
 · exact (sumV_no (fun h=>hc.elim (fun a=>a h.1) (fun a=>a h.2))).2.symm
 have hva:ValidP p∧ValidP q:=⟨Classical.not_not.1 (not_or.1 hc).1,Classical.not_not.1 (not_or.1 hc).2⟩
 have hpl:=hva.1.1
 have hql:=hva.2.1
 have hcp:∀ i,∀ x∈prods (p.take i) q,coM x:=fun i x hx=>by
  refine prods_co hva.1 hva.2 x ?_
  unfold prods at hx ⊢
  obtain ⟨m,hm,hx⟩:=List.mem_flatMap.1 hx
  exact List.mem_flatMap.2 ⟨m,List.mem_of_mem_take hm,hx⟩
 refine w_loop [(6, .row tMo),(7, .d tInt)] [] (fun y=>∃ i:Nat,y.1.2.1=(i:Int)∧i≤p.length∧y.1.1=addL [] (prods (p.take i) q)) (fun y=>p.length - y.1.2.1.toNat) ?_
 conv=>whnf
 refine And.intro ?_ ?_
 · exact ⟨0,rfl,by omega,by simp [addL,prods]⟩
 rintro ⟨⟨ou,_,⟨⟩⟩,⟨⟩⟩ ⟨i,rfl,hi,hou⟩
 have hou:ou=addL [] (prods (p.take i) q):=hou
 subst hou
 have hok1:=addL_ok sumOK_nil (hcp i)
 have hol:=hok1.2
 rw [prods_len hi] at hol
 have hmul:i * q.length≤400 * 400:=Nat.mul_le_mul (by omega) hql
 repeat' (first|refine an ?_ ?_|((try refine gm ?_);first|((with_reducible show Kz _);(try dsimp+instances only);(with_reducible refine kz _ ?_);clear kz Kz)|refine st ?_|(refine sr ?_;intro Kz kz;conv=>whnf)|(refine cd ?_;(conv=>arg 2;whnf);refine st ?_)|refine blockK_y (by rfl) ?_|(refine sw ?_;conv=>whnf))|(refine gm ?_;conv=>whnf)|(intro hc;(try dsimp+instances only[Dat,SDat,dflt,Ty.size,keepS,bkUpd,Gv.bk,backS,wayA,maxI,minI,negI]at hc);try simp only[LS]at hc))
 all_goals (try ((fail_if_success refine nl ?_);(try dsimp only[Dat,SDat,dflt,Ty.size,keepS,bkUpd,Gv.bk,backS,wayA,maxI,minI,negI]);(try simp only[LS]);first|done|exact dsc|((try simp only[allP,lo,hi,room,true_and,and_true,implies_true]);(repeat' (first|refine an ?_ ?_|((with_reducible refine preA_t ?_ ?_);rotate_left;exact sameP_t)|intro hv))<;>(try omega))))
 · have hmi:=valid_mem hva.1 (getD_mem (l:=p) (d:=((0,[],()):Mo)) (k:=i) (by omega))
   have hsi:=valid_sm hva.1 (getD_mem (l:=p) (d:=((0,[],()):Mo)) (k:=i) (by omega))
   have hcm:∀ k,∀ x∈(q.take k).map (mulM (List.getD p i ((0,[],()):Mo))),coM x:=fun k x hx=>by
    obtain ⟨n,hn,rfl⟩:=List.mem_map.1 hx
    exact mulM_co hmi.1 (valid_mem hva.2 (List.mem_of_mem_take hn)).1
   refine w_loop [(6, .row tMo),(8, .d tInt)] [] (fun y=>∃ k:Nat,y.1.2.1=(k:Int)∧k≤q.length∧y.1.1=addL (addL [] (prods (p.take i) q)) ((q.take k).map (mulM (List.getD p i ((0,[],()):Mo))))) (fun y=>q.length - y.1.2.1.toNat) ?_
   conv=>whnf
   refine And.intro ?_ ?_
   · exact ⟨0,rfl,by omega,by simp [addL]⟩
   rintro ⟨⟨ou,_,⟨⟩⟩,⟨⟩⟩ ⟨k,rfl,hk,hou⟩
   have hou:ou=addL (addL [] (prods (p.take i) q)) ((q.take k).map (mulM (List.getD p i ((0,[],()):Mo)))):=hou
   subst hou
   have hok2:=addL_ok hok1.1 (hcm k)
   have hol2:=hok2.2
   rw [List.length_map,List.length_take] at hol2
   have hmk:k<q.length→_:=fun h=>valid_mem hva.2 (getD_mem (l:=q) (d:=((0,[],()):Mo)) (k:=k) h)
   have hsk:k<q.length→_:=fun h=>valid_sm hva.2 (getD_mem (l:=q) (d:=((0,[],()):Mo)) (k:=k) h)
   have hbd:k<q.length→_:=fun h=>mul_bound hmi.1 hmi.2.1 (hmk h).1 (hmk h).2.1
   repeat' (first|refine an ?_ ?_|((try refine gm ?_);first|((with_reducible show Kz _);(try dsimp+instances only);(with_reducible refine kz _ ?_);clear kz Kz)|refine st ?_|(refine sr ?_;intro Kz kz;conv=>whnf)|(refine cd ?_;(conv=>arg 2;whnf);refine st ?_)|refine blockK_y (by rfl) ?_|(refine sw ?_;conv=>whnf))|(refine gm ?_;conv=>whnf)|(intro hc;(try dsimp+instances only[Dat,SDat,dflt,Ty.size,keepS,bkUpd,Gv.bk,backS,wayA,maxI,minI,negI]at hc);try simp only[LS]at hc))
   all_goals (try ((fail_if_success refine nl ?_);(try dsimp only[Dat,SDat,dflt,Ty.size,keepS,bkUpd,Gv.bk,backS,wayA,maxI,minI,negI]);(try simp only[LS]);first|done|exact dsc|((try simp only[allP,lo,hi,room,true_and,and_true,implies_true]);(repeat' (first|refine an ?_ ?_|((with_reducible refine preA_t ?_ ?_);rotate_left;exact sameP_t)|intro hv))<;>(try omega))))
   all_goals (first
    |omega
    |(simp only [Gv.hi];omega)
    |exact ⟨by have:=hbd (by omega);simp only [Gv.lo];omega,by have:=hbd (by omega);simp only [Gv.hi];omega⟩
    |(have:=hbd (by omega);simp only [Gv.lo,Gv.hi];omega)
    |exact hsi
    |exact hsk (by omega)
    |exact hok2.1.1
    |exact hok2.1.2 _ (by assumption)
    |exact mulM_co hmi.1 (hmk (by omega)).1
    |(simp only [List.length_nil] at hol;omega)
    |(refine ⟨k+1,rfl,by omega,?_⟩;rw [map_take_step (by omega),addL_app];rfl)
    |(have hT:q.take k=q:=List.take_of_length_le (by omega)
      refine ⟨i+1,rfl,by omega,?_⟩;rw [prods_step (by omega),addL_app,hT])
    |skip)
 all_goals (first
  |omega
  |(rw [List.take_of_length_le (by omega)];first|exact (sumV_yes hva).1.symm|exact (sumV_yes hva).2.symm)
  |skip)
theorem ok_z87:SpecOK SP glob fi_z87 S_z87:=mk_ok (c:=c_z87) (tab_ok _) mix_ok wf_z87 (by decide) (.cons ok_z90 (.cons ok_z93 (.cons ok_z92 (.cons ok_z94 .nil)))) (fun x hx=>Nat.zero_lt_one) g_z87
end Go.Gv
