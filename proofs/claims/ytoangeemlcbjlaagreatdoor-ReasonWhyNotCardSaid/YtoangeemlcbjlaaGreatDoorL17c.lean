/- The statements of chapter 17: all reasons. -/
import Derived.Test.YtoangeemlcbjlaaGreatDoorL17
set_option linter.all false
namespace Go.Gv
open Go Go.Proofs Go.Proofs.YtoangeemlcbjlaaGreatDoor
set_option maxRecDepth 100000
set_option maxHeartbeats 4000000
theorem ownL_snoc {h:List Bool} {v:Nat} (hv:v<h.length):ownL (h.take (v+1))=ownL (h.take v)++if h.getD v false=true then [(v:Int)] else []:=by
 unfold ownL
 rw [List.length_take,List.length_take,Nat.min_eq_left (by omega),Nat.min_eq_left (by omega),List.range_succ,List.filter_append,List.map_append]
 have e:∀ j,j≤v→(h.take (v+1)).getD j false=h.getD j false:=fun j hj=>by
  rw [getD_ok false (by rw [List.length_take];omega),getD_ok false (by omega),List.getElem_take]
 have e1:∀ j,j<v→(h.take v).getD j false=h.getD j false:=fun j hj=>by
  rw [getD_ok false (by rw [List.length_take];omega),getD_ok false (by omega),List.getElem_take]
 congr 1
 · congr 1
   refine List.filter_congr fun j hj=>?_
   have:=List.mem_range.1 hj
   rw [e j (by omega),e1 j this]
 · by_cases q:h.getD v false=true
   · rw [if_pos q,List.filter_cons_of_pos (by rw [e v (Nat.le_refl _)];exact q)];rfl
   · rw [if_neg q,List.filter_cons_of_neg (by rw [e v (Nat.le_refl _)];exact q)];rfl
theorem ownL_len (h:List Bool):(ownL h).length≤h.length:=by
 unfold ownL
 rw [List.length_map]
 exact Nat.le_trans (List.length_filter_le _ _) (by rw [List.length_range];exact Nat.le_refl _)
@[reducible] noncomputable def S_z29:Spec:={ ins:=(.cons (.d tCirc) (.cons (.d (.int .u8)) (.cons (.d (.sl .bool)) .nil))),pre:=fun _=>True,alts:=[{ outs:=(.cons (.d .bool) .nil),res:=(fun x=>(fun c raw h=>(true,())) x.1 x.2.1 x.2.2.1)}],noisy:=true}
noncomputable def c_z29:Cf:={ cf_z29 (Fl [(fi_z38,S_z38),(fi_z37,S_z37),(fi_z51,S_z51),(fi_z0,S_z0),(fi_z79,S_z79)]) with spl:=[66],nz:=true}
theorem g_z29:∀ x,S_z29.pre x→shOK S_z29.ins x→fnGoal c_z29 fn_z29 S_z29 x:=by
 rintro ⟨⟨gs,⟨⟩⟩,(r:Int),(h:List Bool),⟨⟩⟩ hpre hok
 clear hpre
 have hln:=shLn_of _ hok;replace hok:=Hd.mk hok;try simp only [shLn,datLn,inRng,lo,hi,maxLen,true_and,and_true] at hln
 have hr0:0≤r:=hln.2.1.1
 have hlw:=fun q=>lawI3 (gs:=gs) (n:=(h.length:Int)) hr0 q
 first|refine fn_goal (w_head ?_)
 intro Kz kz;(conv=>whnf);(try dsimp+instances only);refine kz _ ?_;clear kz Kz;(conv=>(arg 2;whnf))
 repeat' (first|refine an ?_ ?_|((try refine gm ?_);first|((with_reducible show Kz _);(try dsimp+instances only);(with_reducible refine kz _ ?_);clear kz Kz)|refine st ?_|(refine sr ?_;intro Kz kz;conv=>whnf)|(refine cd ?_;(conv=>arg 2;whnf);refine st ?_)|refine blockK_y (by rfl) ?_|(refine sw ?_;conv=>whnf))|(refine gm ?_;conv=>whnf)|(intro hc;(try dsimp+instances only[Dat,SDat,dflt,Ty.size,keepS,bkUpd,Gv.bk,backS,wayA,maxI,minI,negI]at hc);try simp only[LS]at hc))
 all_goals (try ((fail_if_success refine nl ?_);(try dsimp only[Dat,SDat,dflt,Ty.size,keepS,bkUpd,Gv.bk,backS,wayA,maxI,minI,negI]);(try simp only[LS]);first|done|exact dsc|((try simp only[allP,lo,hi,room,true_and,and_true,implies_true]);(repeat' (first|refine an ?_ ?_|((with_reducible refine preA_t ?_ ?_);rotate_left;exact sameP_t)|intro hv))<;>(try omega))))
 all_goals (try (first
  |exact (hlw (by assumption)).f
  |exact (hlw (by assumption)).rng.1
  |exact (hlw (by assumption)).rng.2
  |exact (hlw (by assumption)).f.small _ (by assumption)))
 have hq:¬ ((¬ ((gs.length:Int)≤16∧∀ g∈gs,g.2.2.1.length≤20)∨(gs.length:Int)=0)∨50<(h.length:Int)):=by assumption
 have hh50:h.length≤50:=by omega
 have hw:=hlw hq
 have he:(whyR [] gs (Int.tmod r (List.length gs:Int))).2=0:=by assumption
 rw [hw.val he]
 have hg:=hw.good he
 have hsm:=hw.f.small
 clear he hlw
 obtain ⟨i,hi⟩:∃ i,Int.tmod r (List.length gs:Int)=i:=⟨_,rfl⟩
 rw [hi] at hg ⊢
 obtain ⟨V,hV⟩:∃ V,valR [] gs i.toNat=V:=⟨_,rfl⟩
 have hC:Can V:=by rw [← hV];exact can_is hg
 have h1:holdsV gs i h=true↔∃ s∈V,sub s (ownL h):=by rw [← hV];exact (up_is hg (agr_own h)).symm
 have h3:V.length≤400:=by rw [← hV];exact few_reasons hg.v hw.f.1 hg.nat
 rw [hV]
 clear hV
 refine w_loop [(11, .spare tInt),(12, .d tInt)] [] (fun y=>∃ v:Nat,y.1.2.1=(v:Int)∧v≤h.length∧y.1.1=ownL (h.take v)) (fun y=>h.length - y.1.2.1.toNat) ?_
 conv=>whnf
 refine And.intro ?_ ?_
 · exact ⟨0,rfl,Nat.zero_le _,rfl⟩
 rintro ⟨⟨(se:List Int),_,⟨⟩⟩,⟨⟩⟩ ⟨v,rfl,hv,hst⟩
 have hst:se=ownL (h.take v):=hst
 have hsl:List.length se≤50:=by
  rw [hst]
  refine Nat.le_trans (ownL_len _) ?_
  rw [List.length_take];omega
 have e1:=fun (q:v<h.length) (c:h.getD v false=true)=>show se++[(v:Int)]=ownL (h.take (v+1)) from by rw [ownL_snoc q,if_pos c,hst]
 have e0:=fun (q:v<h.length) (c:¬ h.getD v false=true)=>show se=ownL (h.take (v+1)) from by rw [ownL_snoc q,if_neg c,hst,List.append_nil]
 have hfin:=fun (q:¬ v<h.length)=>show se=ownL h from by rw [hst,List.take_of_length_le (by omega)]
 clear hst
 have hv8:=fun (q:v<h.length)=>show (v:Int)+1≤Gv.hi IntKind.i64 from Int.le_trans (show (v:Int)+1≤51 by omega) (by decide)
 repeat' (first|refine an ?_ ?_|((try refine gm ?_);first|((with_reducible show Kz _);(try dsimp+instances only);(with_reducible refine kz _ ?_);clear kz Kz)|refine st ?_|(refine sr ?_;intro Kz kz;conv=>whnf)|(refine cd ?_;(conv=>arg 2;whnf);refine st ?_)|refine blockK_y (by rfl) ?_|(refine sw ?_;conv=>whnf))|(refine gm ?_;conv=>whnf)|(intro hc;(try dsimp+instances only[Dat,SDat,dflt,Ty.size,keepS,bkUpd,Gv.bk,backS,wayA,maxI,minI,negI]at hc);try simp only[LS]at hc))
 all_goals (try ((fail_if_success refine nl ?_);(try dsimp only[Dat,SDat,dflt,Ty.size,keepS,bkUpd,Gv.bk,backS,wayA,maxI,minI,negI]);(try simp only[LS]);first|done|exact dsc|((try simp only[allP,lo,hi,room,true_and,and_true,implies_true]);(repeat' (first|refine an ?_ ?_|((with_reducible refine preA_t ?_ ?_);rotate_left;exact sameP_t)|intro hv))<;>(try omega))))
 all_goals (try (first
  |with_reducible exact hv8 (by omega)
  |exact ⟨v+1,rfl,by omega,e1 (by omega) (by assumption)⟩
  |exact ⟨v+1,rfl,by omega,e0 (by omega) (by rw [hc];decide)⟩))
 have hfin:=hfin (by omega)
 subst hfin
 clear e1 e0 hv8
 refine w_loop [(13, .d .bool),(14, .d tInt)] [] (fun y=>∃ k:Nat,y.1.2.1=(k:Int)∧k≤V.length∧(y.1.1=true↔∃ s∈V.take k,sub s (ownL h))) (fun y=>V.length - y.1.2.1.toNat) ?_
 conv=>whnf
 refine And.intro ?_ ?_
 · exact ⟨0,rfl,Nat.zero_le _,by simp⟩
 rintro ⟨⟨(fo:Bool),_,⟨⟩⟩,⟨⟩⟩ ⟨k,rfl,hk,hfo⟩
 have hfo:fo=true↔∃ s∈V.take k,sub s (ownL h):=hfo
 have hk8:=fun (q:k<V.length)=>show (k:Int)+1≤Gv.hi IntKind.i64 from Int.le_trans (show (k:Int)+1≤401 by omega) (by decide)
 have hin:=fun (q:k<V.length)=>hC.inc _ (getD_mem (d:=([]:Is)) q)
 have hoi:=ownL_inc h
 have hnx:=fun (q:k<V.length)=>show (∃ s∈V.take (k+1),sub s (ownL h))↔fo=true∨sub (V.getD k []) (ownL h) from by
  rw [List.take_succ_eq_append_getElem q,hfo,getD_ok [] q]
  constructor
  · rintro ⟨s,hs,h1⟩
    rcases List.mem_append.1 hs with hs|hs
    · exact .inl ⟨s,hs,h1⟩
    · rw [List.mem_singleton.1 hs] at h1;exact .inr h1
  · rintro (⟨s,hs,h1⟩|h1)
    · exact ⟨s,List.mem_append_left _ hs,h1⟩
    · exact ⟨_,List.mem_append_right _ (List.mem_singleton.2 rfl),h1⟩
 have hall:=fun (q:¬ k<V.length)=>show holdsV gs i h=true↔fo=true from by
  rw [h1,hfo,List.take_of_length_le (by omega)]
 repeat' (first|refine an ?_ ?_|((try refine gm ?_);first|((with_reducible show Kz _);(try dsimp+instances only);(with_reducible refine kz _ ?_);clear kz Kz)|refine st ?_|(refine sr ?_;intro Kz kz;conv=>whnf)|(refine cd ?_;(conv=>arg 2;whnf);refine st ?_)|refine blockK_y (by rfl) ?_|(refine sw ?_;conv=>whnf))|(refine gm ?_;conv=>whnf)|(intro hc;(try dsimp+instances only[Dat,SDat,dflt,Ty.size,keepS,bkUpd,Gv.bk,backS,wayA,maxI,minI,negI]at hc);try simp only[LS]at hc))
 all_goals (try ((fail_if_success refine nl ?_);(try dsimp only[Dat,SDat,dflt,Ty.size,keepS,bkUpd,Gv.bk,backS,wayA,maxI,minI,negI]);(try simp only[LS]);first|done|exact dsc|((try simp only[allP,lo,hi,room,true_and,and_true,implies_true]);(repeat' (first|refine an ?_ ?_|((with_reducible refine preA_t ?_ ?_);rotate_left;exact sameP_t)|intro hv))<;>(try omega))))
 all_goals (first
  |exact hsm _ (by assumption)
  |exact hin (by omega)
  |exact hall (by omega)
  |exact ⟨k+1,rfl,by omega,by rw [hnx (by omega),hc];simp⟩)
theorem ok_z29:SpecOK SP glob fi_z29 S_z29:=mk_ok (c:=c_z29) (tab_ok _) mix_ok wf_z29 (by decide) (.cons ok_z38 (.cons ok_z37 (.cons ok_z51 (.cons ok_z0 (.cons ok_z79 .nil))))) (fun x hx=>Nat.zero_lt_one) g_z29
end Go.Gv
