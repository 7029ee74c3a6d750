/- Chapter 17: the program: what is needed. -/
import Derived.Test.YtoangeemlcbjlaaGreatDoorC17e
set_option linter.all false
namespace Go.Gv
open Go Go.Proofs Go.Proofs.YtoangeemlcbjlaaGreatDoor
set_option maxRecDepth 100000
set_option maxHeartbeats 4000000
@[reducible] noncomputable def S_z41:Spec:={ ins:= .cons (.ob (.fm tInt .bool)) .nil,pre:=fun _=>True,alts:=[{ outs:= .cons (.clos fi_z42 (.cons (.ob (.kb tInt .bool)) .nil)) .nil,res:=fun x=>((x.1,()),())}]}
theorem ok_z41:SpecOK SP glob fi_z41 S_z41:=keys_ok laysSlLaysZI_42 (fn_hf16 wf_z41)
@[reducible] noncomputable def S_sorted_keys:Spec:={ ins:= .cons (.clos fi_z42 (.cons (.ob (.kb tInt .bool)) .nil)) .nil,pre:=fun x=>List.length (α:=Int × Bool) x.1.1≤1000000∧(List.map (α:=Int × Bool) Prod.fst x.1.1).Nodup,alts:=[{ outs:= .cons (.d (.sl tInt)) .nil,res:=fun x=>((List.map (α:=Int × Bool) Prod.fst x.1.1).mergeSort (fun a b=>decide (a≤b)),())}],noisy:=true}
theorem ok_sorted_keys:SpecOK SP glob fi_z100 S_sorted_keys:=sortedKeys_ok (σ:=laysSlLaysZI_42_ren) laysSlLaysZI_41 { laysSlLaysZI_42 with} (fn_hf16 wf_z100) (enters_ok (fn_hf16 wf_z99)) (enters_ok (fn_hf16 wf_z42)) (fun blk off cap xs w h1 h2 h3=>Any.slices_Sort_int lays189 blk off cap xs w h1 h2 h3) (fun p cap w=>sortI_none lays189 p cap w)
def keyI (m:List (Int × Bool)):Is:=m.map Prod.fst
theorem putI_mem (m:List (Int × Bool)) (k z:Int):z∈keyI (@mput Int Bool (instDecidableEqDat tInt) m k true)↔z=k∨z∈keyI m:=by
 induction m with
 |nil=>simp [keyI,mput]
 |cons e m ih=>
  unfold mput
  split
  · rename_i h;subst h;simp [keyI]
  · simp only [keyI,List.map_cons,List.mem_cons] at ih ⊢
    rw [ih]
    constructor
    · rintro (h|h|h)
      · exact .inr (.inl h)
      · exact .inl h
      · exact .inr (.inr h)
    · rintro (h|h|h)
      · exact .inr (.inl h)
      · exact .inl h
      · exact .inr (.inr h)
theorem putI_dup (m:List (Int × Bool)) (k:Int) (hn:(keyI m).Nodup):(keyI (@mput Int Bool (instDecidableEqDat tInt) m k true)).Nodup:=by
 induction m with
 |nil=>simp [keyI,mput]
 |cons e m ih=>
  obtain ⟨h1,h2⟩:=List.nodup_cons.1 hn
  unfold mput
  split
  · exact hn
  · rename_i h
    refine List.nodup_cons.2 ⟨fun hm=>?_,ih h2⟩
    rcases (putI_mem m k _).1 hm with e1|e1
    · exact h e1
    · exact h1 e1
theorem putI_len (m:List (Int × Bool)) (k:Int):(@mput Int Bool (instDecidableEqDat tInt) m k true).length≤m.length+1:=by
 induction m with
 |nil=>simp [mput]
 |cons e m ih=>
  unfold mput
  split
  · simp
  · simp only [List.length_cons];omega
structure VarK (gs:List Gate) (k:Nat) (m:List (Int × Bool)):Prop where
 nd:(keyI m).Nodup
 mem:∀ v,v∈keyI m↔InV (gs.take k) [] v
 len:m.length≤k
theorem InV.snoc {gs:List Gate} {k:Nat} {v:Int} (hk:k<gs.length):InV (gs.take (k+1)) [] v↔InV (gs.take k) [] v∨(((List.getD gs k ((0,0,[],()):Gate))).1=2∧((List.getD gs k ((0,0,[],()):Gate))).2.1=v):=by
 unfold InV
 rw [List.take_succ_eq_append_getElem hk,← getD_ok ((0,0,[],()):Gate) hk]
 constructor
 · rintro ⟨g,hg,h1,h2,_⟩
   rcases List.mem_append.1 hg with hg|hg
   · exact .inl ⟨g,hg,h1,h2,by simp⟩
   · rw [List.mem_singleton.1 hg] at h1 h2;exact .inr ⟨h1,h2⟩
 · rintro (⟨g,hg,h⟩|h)
   · exact ⟨g,List.mem_append_left _ hg,h⟩
   · exact ⟨_,List.mem_append_right _ (List.mem_singleton.2 rfl),h.1,h.2,by simp⟩
theorem VarK.nil (gs:List Gate):VarK gs 0 []:=⟨.nil,fun v=>⟨fun h=>(by cases h),fun ⟨g,hg,_⟩=>(by rw [List.take_zero] at hg;cases hg)⟩,Nat.le_refl _⟩
theorem VarK.put {gs:List Gate} {k:Nat} {m:List (Int × Bool)} (h:VarK gs k m) (hk:k<gs.length) (h2:((List.getD gs k ((0,0,[],()):Gate))).1=2):VarK gs (k+1) (@mput Int Bool (instDecidableEqDat tInt) m ((List.getD gs k ((0,0,[],()):Gate))).2.1 true):=
 ⟨putI_dup m _ h.nd,fun v=>by rw [putI_mem,h.mem,InV.snoc hk];constructor
                              · rintro (e|e)
                                · exact .inr ⟨h2,e.symm⟩
                                · exact .inl e
                              · rintro (e|e)
                                · exact .inr e
                                · exact .inl e.2.symm,Nat.le_trans (putI_len m _) (by have:=h.len;omega)⟩
theorem VarK.no {gs:List Gate} {k:Nat} {m:List (Int × Bool)} (h:VarK gs k m) (hk:k<gs.length) (h2:¬ ((List.getD gs k ((0,0,[],()):Gate))).1=2):VarK gs (k+1) m:=
 ⟨h.nd,fun v=>by rw [h.mem,InV.snoc hk];exact ⟨fun e=> .inl e,fun e=>e.resolve_right fun a=>h2 a.1⟩,Nat.le_trans h.len (Nat.le_succ k)⟩
noncomputable def varsI (gs:List Gate):Is:=((List.range 4000).filter fun v:Nat=>boolOf (InV gs [] (v:Int))).map fun v:Nat=>(v:Int)
theorem varsI_inc (gs:List Gate):Inc (varsI gs):=by
 unfold varsI Inc
 refine List.pairwise_map.2 (((List.pairwise_lt_range).filter _).imp fun h=>by omega)
theorem inv_rng {gs:List Gate} (hV:ValidC gs) {rem:Is} {v:Int} (h:InV gs rem v):0≤v∧v<4000:=by
 obtain ⟨g,hg,h1,h2,_⟩:=h
 obtain ⟨k,hk,e⟩:=List.getElem_of_mem hg
 have e':(List.getD gs k ((0,0,[],()):Gate))=g:=by rw [getD_ok ((0,0,[],()):Gate) hk,e]
 rcases leaf_kind hV hk (by rw [e',h1];unfold inner;omega) with q|q|q
 · rw [e',h1] at q;cases q
 · rw [e',h1] at q;cases q
 · rw [e',h2] at q;exact q.2
theorem varsI_mem {gs:List Gate} (hV:ValidC gs) {v:Int}:v∈varsI gs↔InV gs [] v:=by
 unfold varsI
 rw [List.mem_map]
 constructor
 · rintro ⟨n,hn,rfl⟩
   exact boolOf_true.1 (List.mem_filter.1 hn).2
 · intro h
   have hr:=inv_rng hV h
   refine ⟨v.toNat,List.mem_filter.2 ⟨List.mem_range.2 (by omega),boolOf_true.2 ?_⟩,by omega⟩
   rw [Int.toNat_of_nonneg hr.1];exact h
theorem varsI_len (gs:List Gate):(varsI gs).length≤4000:=by
 unfold varsI
 rw [List.length_map]
 exact Nat.le_trans (List.length_filter_le _ _) (by rw [List.length_range];exact Nat.le_refl _)
theorem VarK.sorted {gs:List Gate} (hV:ValidC gs) {m:List (Int × Bool)} (h:VarK gs gs.length m):(List.map (α:=Int × Bool) Prod.fst m).mergeSort (fun a b=>decide (a≤b))=varsI gs:=by
 have hs:=List.pairwise_mergeSort (le:=fun a b:Int=>decide (a≤b)) (fun a b c h1 h2=>by simp only [decide_eq_true_eq] at *;omega) (fun a b=>by simp only [Bool.or_eq_true,decide_eq_true_eq];omega) (keyI m)
 have hp:=List.mergeSort_perm (keyI m) (fun a b:Int=>decide (a≤b))
 have hn:=hp.nodup_iff.2 h.nd
 refine inc_ext ((List.Pairwise.and hs hn).imp fun {a b} q=>?_) (varsI_inc gs) fun v=>?_
 · have q1:=of_decide_eq_true q.1
   have q2:=q.2
   omega
 · rw [varsI_mem hV]
   refine hp.mem_iff.trans ((h.mem v).trans ?_)
   rw [List.take_length]
noncomputable def needL (gs:List Gate) (i:Int) (l:Is):Is:=l.filter fun v=>!holdsV gs i (varsV gs [v])
noncomputable def needV (gs:List Gate) (i:Int):Is:=if boolOf (ValidC gs∧holdsV gs i (varsV gs [])=true)=true then needL gs i (varsI gs) else []
theorem needL_snoc {gs:List Gate} {i:Int} {l:Is} {k:Nat} (hk:k<l.length):needL gs i (l.take (k+1))=needL gs i (l.take k)++if holdsV gs i (varsV gs [l.getD k 0])=true then [] else [l.getD k 0]:=by
 unfold needL
 rw [List.take_succ_eq_append_getElem hk,List.filter_append,← getD_ok 0 hk]
 congr 1
 by_cases q:holdsV gs i (varsV gs [l.getD k 0])=true
 · rw [if_pos q,List.filter_cons_of_neg (by rw [q];simp)];rfl
 · rw [if_neg q,List.filter_cons_of_pos (by rw [Bool.eq_false_iff.2 q];rfl)];rfl
@[reducible] noncomputable def S_z50:Spec:={ ins:=(.cons (.d tCirc) (.cons (.d tInt) .nil)),pre:=(fun x=>(fun c i=>SmallG c.1) x.1 x.2.1),alts:=[{ outs:=(.cons (.d (.sl tInt)) .nil),res:=(fun x=>(fun c i=>(needV c.1 i,())) x.1 x.2.1)}],noisy:=true}
noncomputable def c_z50:Cf:={ cf_z50 (Fl [(fi_z5,S_z5),(fi_z0,S_z0),(fi_z59,S_z59),(fi_z41,S_z41),(fi_z100,S_sorted_keys)]) with spl:=[12],nz:=true}
theorem g_z50:∀ x,S_z50.pre x→shOK S_z50.ins x→fnGoal c_z50 fn_z50 S_z50 x:=by
 rintro ⟨⟨gs,⟨⟩⟩,(i:Int),⟨⟩⟩ hpre hok
 try dsimp only [Dat,SDat,dflt,Ty.size,keepS,bkUpd,Gv.bk,backS,wayA,maxI,minI,negI] at hpre
 have hln:=shLn_of _ hok;replace hok:=Hd.mk hok;try simp only [shLn,datLn,inRng,lo,hi,maxLen,true_and,and_true] at hln
 have hsm:SmallG gs:=hpre
 clear hpre
 first|refine fn_goal (w_head ?_)
 intro Kz kz;(conv=>whnf);(try dsimp+instances only);refine kz _ ?_;clear kz Kz;(conv=>(arg 2;whnf))
 repeat' (first|refine an ?_ ?_|((try refine gm ?_);first|((with_reducible show Kz _);(try dsimp+instances only);(with_reducible refine kz _ ?_);clear kz Kz)|refine st ?_|(refine sr ?_;intro Kz kz;conv=>whnf)|(refine cd ?_;(conv=>arg 2;whnf);refine st ?_)|refine blockK_y (by rfl) ?_|(refine sw ?_;conv=>whnf))|(refine gm ?_;conv=>whnf)|(intro hc;(try dsimp+instances only[Dat,SDat,dflt,Ty.size,keepS,bkUpd,Gv.bk,backS,wayA,maxI,minI,negI]at hc);try simp only[LS]at hc))
 all_goals (try ((fail_if_success refine nl ?_);(try dsimp only[Dat,SDat,dflt,Ty.size,keepS,bkUpd,Gv.bk,backS,wayA,maxI,minI,negI]);(try simp only[LS]);first|done|exact dsc|((try simp only[allP,lo,hi,room,true_and,and_true,implies_true]);(repeat' (first|refine an ?_ ?_|((with_reducible refine preA_t ?_ ?_);rotate_left;exact sameP_t)|intro hv))<;>(try omega))))
 all_goals (try ((fail_if_success refine nl ?_);exact hsm _ (by assumption)))
 all_goals (try (unfold needV;rw [if_neg (fun h=>by have:=boolOf_true.1 h;grind)];done))
 refine w_loop [(26, .d tInt),(5, .map tInt .bool)] [] (fun y=>∃ k:Nat,y.1.1=(k:Int)∧k≤gs.length∧VarK gs k y.1.2.1) (fun y=>gs.length - y.1.1.toNat) ?_
 conv=>whnf
 refine And.intro ?_ ?_
 · exact ⟨0,rfl,Nat.zero_le _,VarK.nil gs⟩
 rintro ⟨⟨_,(m:List (Int × Bool)),⟨⟩⟩,⟨⟩⟩ ⟨k,rfl,hk,hK⟩
 have hK:VarK gs k m:=hK
 have hV9:ValidC gs:=by assumption
 have hput:=fun (h:k<gs.length) (h2:((List.getD gs k ((0,0,[],()):Gate))).1=2)=>hK.put h h2
 have hno:=fun (h:k<gs.length) (h2:¬ ((List.getD gs k ((0,0,[],()):Gate))).1=2)=>hK.no h h2
 repeat' (first|refine an ?_ ?_|((try refine gm ?_);first|((with_reducible show Kz _);(try dsimp+instances only);(with_reducible refine kz _ ?_);clear kz Kz)|refine st ?_|(refine sr ?_;intro Kz kz;conv=>whnf)|(refine cd ?_;(conv=>arg 2;whnf);refine st ?_)|refine blockK_y (by rfl) ?_|(refine sw ?_;conv=>whnf))|(refine gm ?_;conv=>whnf)|(intro hc;(try dsimp+instances only[Dat,SDat,dflt,Ty.size,keepS,bkUpd,Gv.bk,backS,wayA,maxI,minI,negI]at hc);try simp only[LS]at hc))
 all_goals (try ((fail_if_success refine nl ?_);(try dsimp only[Dat,SDat,dflt,Ty.size,keepS,bkUpd,Gv.bk,backS,wayA,maxI,minI,negI]);(try simp only[LS]);first|done|exact dsc|((try simp only[allP,lo,hi,room,true_and,and_true,implies_true]);(repeat' (first|refine an ?_ ?_|((with_reducible refine preA_t ?_ ?_);rotate_left;exact sameP_t)|intro hv))<;>(try omega))))
 all_goals (try (first
  |exact ⟨k+1,rfl,by omega,hput (by omega) (by assumption)⟩
  |exact ⟨k+1,rfl,by omega,hno (by omega) (by assumption)⟩
  |exact Nat.le_trans hK.len (Nat.le_trans hk (Nat.le_trans hV9.1 (by decide)))
  |exact hK.nd))
 have hks:(List.map (α:=Int × Bool) Prod.fst m).mergeSort (fun a b=>decide (a≤b))=varsI gs:=by
  have e:k=gs.length:=by omega
  subst e
  exact hK.sorted hV9
 rw [hks] at *
 refine w_loop [(41, .d tInt),(8, .row tInt)] [] (fun y=>∃ j:Nat,y.1.1=(j:Int)∧j≤(varsI gs).length∧y.1.2.1=needL gs i ((varsI gs).take j)) (fun y=>(varsI gs).length - y.1.1.toNat) ?_
 conv=>whnf
 refine And.intro ?_ ?_
 · exact ⟨0,rfl,Nat.zero_le _,rfl⟩
 rintro ⟨⟨_,(ou:List Int),⟨⟩⟩,⟨⟩⟩ ⟨j,rfl,hj,hou⟩
 have hou:ou=needL gs i ((varsI gs).take j):=hou
 have hol:List.length ou≤4000:=by
  rw [hou]
  refine Nat.le_trans (List.length_filter_le _ _) ?_
  rw [List.length_take]
  have:=varsI_len gs
  omega
 have hvl:=varsI_len gs
 have e1:=fun (h:j<(varsI gs).length) (q:holdsV gs i (varsV gs [(varsI gs).getD j 0])=false)=>show ou++[(varsI gs).getD j 0]=needL gs i ((varsI gs).take (j+1)) from by rw [needL_snoc h,if_neg (by rw [q];simp),hou]
 have e0:=fun (h:j<(varsI gs).length) (q:¬ holdsV gs i (varsV gs [(varsI gs).getD j 0])=false)=>show ou=needL gs i ((varsI gs).take (j+1)) from by rw [needL_snoc h,if_pos (by rw [Bool.not_eq_false] at q;exact q),hou,List.append_nil]
 repeat' (first|refine an ?_ ?_|((try refine gm ?_);first|((with_reducible show Kz _);(try dsimp+instances only);(with_reducible refine kz _ ?_);clear kz Kz)|refine st ?_|(refine sr ?_;intro Kz kz;conv=>whnf)|(refine cd ?_;(conv=>arg 2;whnf);refine st ?_)|refine blockK_y (by rfl) ?_|(refine sw ?_;conv=>whnf))|(refine gm ?_;conv=>whnf)|(intro hc;(try dsimp+instances only[Dat,SDat,dflt,Ty.size,keepS,bkUpd,Gv.bk,backS,wayA,maxI,minI,negI]at hc);try simp only[LS]at hc))
 all_goals (try ((fail_if_success refine nl ?_);(try dsimp only[Dat,SDat,dflt,Ty.size,keepS,bkUpd,Gv.bk,backS,wayA,maxI,minI,negI]);(try simp only[LS]);first|done|exact dsc|((try simp only[allP,lo,hi,room,true_and,and_true,implies_true]);(repeat' (first|refine an ?_ ?_|((with_reducible refine preA_t ?_ ?_);rotate_left;exact sameP_t)|intro hv))<;>(try omega))))
 all_goals (try ((fail_if_success refine nl ?_);exact hsm _ (by assumption)))
 all_goals (first
  |exact ⟨j+1,rfl,by omega,e1 (by omega) (by assumption)⟩
  |exact ⟨j+1,rfl,by omega,e0 (by omega) (by assumption)⟩
  |(rw [List.take_of_length_le (by omega)] at hou
    unfold needV
    rw [if_pos (boolOf_true.2 ⟨hV9,by rename ¬ holdsV gs i (varsV gs [])=false=>hq;rw [Bool.not_eq_false] at hq;exact hq⟩)]
    exact hou))
theorem ok_z50:SpecOK SP glob fi_z50 S_z50:=mk_ok (c:=c_z50) (tab_ok _) mix_ok wf_z50 (by decide) (.cons ok_z5 (.cons ok_z0 (.cons ok_z59 (.cons ok_z41 (.cons ok_sorted_keys .nil))))) (fun x hx=>Nat.zero_lt_one) g_z50
end Go.Gv
