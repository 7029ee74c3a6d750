/- The statements of chapter 17: what a removal changes. -/
import Derived.Test.YtoangeemlcbjlaaGreatDoorL17
import Derived.Test.YtoangeemlcbjlaaGreatDoorL17d
set_option linter.all false
namespace Go.Gv
open Go Go.Proofs Go.Proofs.YtoangeemlcbjlaaGreatDoor
set_option maxRecDepth 100000
set_option maxHeartbeats 4000000
theorem effV_bad {gs:List Gate} {l rem:List Int} (q:¬ RootsIn gs l):effV gs l rem=[]:=if_neg fun z=>q (boolOf_true.1 z).2
theorem effV_good {gs:List Gate} {l rem:List Int} (hV:ValidC gs) (q:RootsIn gs l):effV gs l rem=effL gs rem l:=if_pos (boolOf_true.2 ⟨hV,q⟩)
theorem effV_in {gs:List Gate} {l rem:List Int} (hV:ValidC gs) (q:RootsIn gs l) {k:Nat} (hk:k<l.length):(k:Int)∈effV gs l rem↔valR [] gs (l.getD k 0).toNat≠[]∧∀ s∈valR [] gs (l.getD k 0).toNat,∃ v∈s,v∈rem:=by
 have hr:=q _ (getD_mem (d:=(0:Int)) hk)
 rw [effV_good hV q,effL_mem,← effB_iff (show GoodI gs (l.getD k 0) from ⟨hr.1,hr.2,hV⟩)]
 exact ⟨fun ⟨n,e,h1,h2⟩=>by have:k=n:=by omega
                            rw [this];exact h2,fun h=>⟨k,rfl,hk,h⟩⟩
theorem effV_more {gs:List Gate} {l one two:List Int}:sub (effV gs l one) (effV gs l (List.replicate 0 0++one++two)):=fun x hx=>by
 by_cases q:ValidC gs∧RootsIn gs l
 · rw [effV_good q.1 q.2,effL_mem] at hx ⊢
   obtain ⟨n,e,h1,h2⟩:=hx
   have hr:=q.2 _ (getD_mem (d:=(0:Int)) h1)
   have hg:GoodI gs (l.getD n 0):=⟨hr.1,hr.2,q.1⟩
   refine ⟨n,e,h1,?_⟩
   rw [effB_iff hg] at h2 ⊢
   refine ⟨h2.1,fun s hs=>?_⟩
   obtain ⟨v,h3,h4⟩:=h2.2 s hs
   exact ⟨v,h3,List.mem_append_left _ (List.mem_append_right _ h4)⟩
 · unfold effV at hx
   rw [if_neg (fun z=>q (boolOf_true.1 z))] at hx
   cases hx
@[reducible] noncomputable def S_z30:Spec:={ ins:=(.cons (.d tCirc) (.cons (.d (.sl tInt)) (.cons (.d (.sl tInt)) (.cons (.d (.sl tInt)) .nil)))),pre:=fun _=>True,alts:=[{ outs:=(.cons (.d .bool) .nil),res:=(fun x=>(fun c roots one two=>(true,())) x.1 x.2.1 x.2.2.1 x.2.2.2.1)}],noisy:=true}
noncomputable def c_z30:Cf:={ cf_z30 (Fl [(fi_z38,S_z38),(fi_z37,S_z37),(fi_z5,S_z5),(fi_z49,S_z49),(fi_z51,S_z51),(fi_z79,S_z79)]) with spl:=[122],nz:=true}
theorem g_z30:∀ x,S_z30.pre x→shOK S_z30.ins x→fnGoal c_z30 fn_z30 S_z30 x:=by
 rintro ⟨⟨gs,⟨⟩⟩,(l:List Int),(one:List Int),(two:List Int),⟨⟩⟩ hpre hok
 clear hpre
 have hln:=shLn_of _ hok;replace hok:=Hd.mk hok;try simp only [shLn,datLn,inRng,lo,hi,maxLen,true_and,and_true] at hln
 have hok:¬ ((((¬ ((gs.length:Int)≤16∧∀ g∈gs,g.2.2.1.length≤20)∨(30:Int)<(l.length:Int))∨(30:Int)<(one.length:Int))∨(30:Int)<(two.length:Int))∨¬ ValidC gs)→FewR gs∧ValidC gs∧l.length≤30∧one.length≤30∧two.length≤30:=fun q=>⟨FewN.r (Classical.byContradiction fun z=>q (.inl (.inl (.inl (.inl z))))),Classical.byContradiction fun z=>q (.inr z),by omega,by omega,by omega⟩
 have hok4:¬ (((¬ ((gs.length:Int)≤16∧∀ g∈gs,g.2.2.1.length≤20)∨(30:Int)<(l.length:Int))∨(30:Int)<(one.length:Int))∨(30:Int)<(two.length:Int))→FewR gs:=fun q=>FewN.r (Classical.byContradiction fun z=>q (.inl (.inl (.inl z))))
 first|refine fn_goal (w_head ?_)
 intro Kz kz;(conv=>whnf);(try dsimp+instances only);refine kz _ ?_;clear kz Kz;(conv=>(arg 2;whnf))
 repeat' (first|refine an ?_ ?_|((try refine gm ?_);first|((with_reducible show Kz _);(try dsimp+instances only);(with_reducible refine kz _ ?_);clear kz Kz)|refine st ?_|(refine sr ?_;intro Kz kz;conv=>whnf)|(refine cd ?_;(conv=>arg 2;whnf);refine st ?_)|refine blockK_y (by rfl) ?_|(refine sw ?_;conv=>whnf))|(refine gm ?_;conv=>whnf)|(intro hc;(try dsimp+instances only[Dat,SDat,dflt,Ty.size,keepS,bkUpd,Gv.bk,backS,wayA,maxI,minI,negI]at hc);try simp only[LS]at hc))
 all_goals (try ((fail_if_success refine nl ?_);(try dsimp only[Dat,SDat,dflt,Ty.size,keepS,bkUpd,Gv.bk,backS,wayA,maxI,minI,negI]);(try simp only[LS]);first|done|exact dsc|((try simp only[allP,lo,hi,room,true_and,and_true,implies_true]);(repeat' (first|refine an ?_ ?_|((with_reducible refine preA_t ?_ ?_);rotate_left;exact sameP_t)|intro hv))<;>(try omega))))
 all_goals (try (first
  |exact (hok (by with_reducible assumption)).1.small _ (by assumption)
  |exact (hok4 (by with_reducible assumption)).small _ (by assumption)))
 obtain ⟨hF,hV,hl30,ho30,ht30⟩:=hok (by with_reducible assumption)
 clear hok hok4
 have hsm:=hF.small
 have hA:=effV_in (l:=l) (rem:=one) hV
 have hi1:=effV_inc gs l one
 have hi2:=effV_inc gs l (List.replicate 0 0++one++two)
 have hsub:=effV_more (gs:=gs) (l:=l) (one:=one) (two:=two)
 have hbad1:=fun (q:¬ RootsIn gs l)=>effV_bad (rem:=one) q
 have hbad2:=fun (q:¬ RootsIn gs l)=>effV_bad (rem:=List.replicate 0 0++one++two) q
 refine w_loop [(12, .d tInt)] [] (fun y=>∃ k:Nat,y.1.1=(k:Int)∧k≤l.length∧RootsIn gs (l.take k)) (fun y=>l.length - y.1.1.toNat) ?_
 conv=>whnf
 refine And.intro ?_ ?_
 · exact ⟨0,rfl,Nat.zero_le _,(fun x hx=>by cases hx)⟩
 rintro ⟨⟨_,⟨⟩⟩,⟨⟩⟩ ⟨k,rfl,hk,hR⟩
 have hR:RootsIn gs (l.take k):=hR
 have hx:=fun (h:k<l.length) (q:¬ (l.getD k 0<0∨(gs.length:Int)≤l.getD k 0))=>all_step (p:=fun x:Int=>0≤x∧x<(gs.length:Int)) (d:=(0:Int)) hR h (by omega)
 have hno:=fun (h:k<l.length) (q:l.getD k 0<0∨(gs.length:Int)≤l.getD k 0)=>show ¬ RootsIn gs l from fun z=>by have:=z _ (getD_mem (d:=(0:Int)) h);omega
 have hfin:=fun (h:¬ k<l.length)=>show RootsIn gs l from by rw [List.take_of_length_le (by omega)] at hR;exact hR
 repeat' (first|refine an ?_ ?_|((try refine gm ?_);first|((with_reducible show Kz _);(try dsimp+instances only);(with_reducible refine kz _ ?_);clear kz Kz)|refine st ?_|(refine sr ?_;intro Kz kz;conv=>whnf)|(refine cd ?_;(conv=>arg 2;whnf);refine st ?_)|refine blockK_y (by rfl) ?_|(refine sw ?_;conv=>whnf))|(refine gm ?_;conv=>whnf)|(intro hc;(try dsimp+instances only[Dat,SDat,dflt,Ty.size,keepS,bkUpd,Gv.bk,backS,wayA,maxI,minI,negI]at hc);try simp only[LS]at hc))
 all_goals (try ((fail_if_success refine nl ?_);(try dsimp only[Dat,SDat,dflt,Ty.size,keepS,bkUpd,Gv.bk,backS,wayA,maxI,minI,negI]);(try simp only[LS]);first|done|exact dsc|((try simp only[allP,lo,hi,room,true_and,and_true,implies_true]);(repeat' (first|refine an ?_ ?_|((with_reducible refine preA_t ?_ ?_);rotate_left;exact sameP_t)|intro hv))<;>(try omega))))
 all_goals (try (first
  |(rw [hbad1 (hno (by omega) hc)];rfl)
  |(rw [hbad2 (hno (by omega) hc)];rfl)
  |exact ⟨k+1,rfl,by omega,hx (by omega) hc⟩))
 have hRL:=hfin (by omega)
 clear hbad1 hbad2 hno hx hfin hR
 refine w_loop [(13, .d tInt)] [] (fun y=>∃ m:Nat,y.1.1=(m:Int)∧m≤l.length) (fun y=>l.length - y.1.1.toNat) ?_
 conv=>whnf
 refine And.intro ?_ ?_
 · exact ⟨0,rfl,Nat.zero_le _⟩
 rintro ⟨⟨_,⟨⟩⟩,⟨⟩⟩ ⟨m,rfl,hm⟩
 have hg:=fun (h:m<l.length)=>show GoodI gs (l.getD m 0) from ⟨(hRL _ (getD_mem (d:=(0:Int)) h)).1,(hRL _ (getD_mem (d:=(0:Int)) h)).2,hV⟩
 have hm8:=fun (h:m<l.length)=>show (m:Int)+1≤Gv.hi IntKind.i64 from Int.le_trans (show (m:Int)+1≤31 by omega) (by decide)
 have hA:=fun (h:m<l.length)=>hA hRL h
 repeat' (first|refine an ?_ ?_|((try refine gm ?_);first|((with_reducible show Kz _);(try dsimp+instances only);(with_reducible refine kz _ ?_);clear kz Kz)|refine st ?_|(refine sr ?_;intro Kz kz;conv=>whnf)|(refine cd ?_;(conv=>arg 2;whnf);refine st ?_)|refine blockK_y (by rfl) ?_|(refine sw ?_;conv=>whnf))|(refine gm ?_;conv=>whnf)|(intro hc;(try dsimp+instances only[Dat,SDat,dflt,Ty.size,keepS,bkUpd,Gv.bk,backS,wayA,maxI,minI,negI]at hc);try simp only[LS]at hc))
 all_goals (try ((fail_if_success refine nl ?_);(try dsimp only[Dat,SDat,dflt,Ty.size,keepS,bkUpd,Gv.bk,backS,wayA,maxI,minI,negI]);(try simp only[LS]);first|done|exact dsc|((try simp only[allP,lo,hi,room,true_and,and_true,implies_true]);(repeat' (first|refine an ?_ ?_|((with_reducible refine preA_t ?_ ?_);rotate_left;exact sameP_t)|intro hv))<;>(try omega))))
 all_goals (try (first|exact hF|exact hsub))
 · have hml:m<l.length:=by omega
   have hg:=hg hml
   have hA:=hA hml
   have hm8:=hm8 hml
   obtain ⟨V,hVe⟩:∃ V,valR [] gs (l.getD m 0).toNat=V:=⟨_,rfl⟩
   have hC:Can V:=by rw [← hVe];exact can_is hg
   have h3:V.length≤400:=by rw [← hVe];exact few_reasons hV hF.1 hg.nat
   have e:whyR [] gs (List.getD l (Int.toNat (m:Int)) (dflt tInt))=(V,0):=by rw [← hVe];exact whyR_few hg hF.1
   rw [e]
   rw [hVe] at hA
   refine w_loop [(16, .d .bool),(17, .d tInt)] [] (fun y=>∃ k:Nat,y.1.2.1=(k:Int)∧k≤V.length∧(y.1.1=true↔V≠[]∧∀ s∈V.take k,∃ v∈s,v∈one)) (fun y=>V.length - y.1.2.1.toNat) ?_
   conv=>whnf
   refine And.intro ?_ ?_
   · refine ⟨0,rfl,Nat.zero_le _,?_⟩
     show boolOf ((0:Int)<(V.length:Int))=true↔_
     rw [boolOf_true]
     constructor
     · exact fun h=>⟨fun e=>by rw [e] at h;exact absurd h (by decide),fun s hs=>by cases hs⟩
     · intro h
       have:=List.length_pos_iff.2 h.1
       omega
   rintro ⟨⟨(ht:Bool),_,⟨⟩⟩,⟨⟩⟩ ⟨k,rfl,hk,hhi⟩
   have hhi:ht=true↔V≠[]∧∀ s∈V.take k,∃ v∈s,v∈one:=hhi
   have hk8:=fun (h:k<V.length)=>show (k:Int)+1≤Gv.hi IntKind.i64 from Int.le_trans (show (k:Int)+1≤401 by omega) (by decide)
   have hin:=fun (h:k<V.length)=>hC.inc _ (getD_mem (d:=([]:Is)) h)
   have h1i:=inc_one (m:Int)
   have hend:=fun (h:¬ k<V.length)=>show sub [(m:Int)] (effV gs l one)↔ht=true from by
    rw [sub_one,hA,hhi,List.take_of_length_le (by omega)]
   repeat' (first|refine an ?_ ?_|((try refine gm ?_);first|((with_reducible show Kz _);(try dsimp+instances only);(with_reducible refine kz _ ?_);clear kz Kz)|refine st ?_|(refine sr ?_;intro Kz kz;conv=>whnf)|(refine cd ?_;(conv=>arg 2;whnf);refine st ?_)|refine blockK_y (by rfl) ?_|(refine sw ?_;conv=>whnf))|(refine gm ?_;conv=>whnf)|(intro hc;(try dsimp+instances only[Dat,SDat,dflt,Ty.size,keepS,bkUpd,Gv.bk,backS,wayA,maxI,minI,negI]at hc);try simp only[LS]at hc))
   all_goals (try ((fail_if_success refine nl ?_);(try dsimp only[Dat,SDat,dflt,Ty.size,keepS,bkUpd,Gv.bk,backS,wayA,maxI,minI,negI]);(try simp only[LS]);first|done|exact dsc|((try simp only[allP,lo,hi,room,true_and,and_true,implies_true]);(repeat' (first|refine an ?_ ?_|((with_reducible refine preA_t ?_ ?_);rotate_left;exact sameP_t)|intro hv))<;>(try omega))))
   all_goals (try (first
    |exact h1i
    |exact hi1
    |exact (hc (hend (by omega))).elim
    |exact ⟨m+1,rfl,by omega⟩))
   have hkV:k<V.length:=by omega
   have hin:=hin hkV
   obtain ⟨s,hs⟩:∃ s,V.getD k []=s:=⟨_,rfl⟩
   rw [hs] at hin
   have hnx:∀ tc:Bool,(tc=true↔∃ v∈s,v∈one)→(boolOf (ht=true∧tc=true)=true↔V≠[]∧∀ s∈V.take (k+1),∃ v∈s,v∈one):=fun tc htc=>by
    rw [boolOf_true,hhi,htc,List.take_succ_eq_append_getElem hkV,← getD_ok [] hkV,hs,and_assoc]
    refine and_congr_right fun _=>⟨fun z x hx=>?_,fun z=>⟨fun x hx=>z x (List.mem_append_left _ hx),z s (List.mem_append_right _ (List.mem_singleton.2 rfl))⟩⟩
    rcases List.mem_append.1 hx with hx|hx
    · exact z.1 x hx
    · rw [List.mem_singleton.1 hx];exact z.2
   clear hend
   refine w_loop [(18, .d .bool),(19, .d tInt)] [] (fun y=>∃ n:Nat,y.1.2.1=(n:Int)∧n≤one.length∧(y.1.1=true↔∃ v∈one.take n,v∈s)) (fun y=>one.length - y.1.2.1.toNat) ?_
   conv=>whnf
   refine And.intro ?_ ?_
   · exact ⟨0,rfl,Nat.zero_le _,by simp⟩
   rintro ⟨⟨(tc:Bool),_,⟨⟩⟩,⟨⟩⟩ ⟨n,rfl,hn,htc⟩
   have htc:tc=true↔∃ v∈one.take n,v∈s:=htc
   have hn8:=fun (h:n<one.length)=>show (n:Int)+1≤Gv.hi IntKind.i64 from Int.le_trans (show (n:Int)+1≤31 by omega) (by decide)
   have hk8:=hk8 hkV
   have hon:=inc_one (one.getD n 0)
   have htn:=fun (h:n<one.length)=>show (∃ v∈one.take (n+1),v∈s)↔tc=true∨sub [one.getD n 0] s from by
    rw [htc,sub_one,List.take_succ_eq_append_getElem h,← getD_ok 0 h]
    constructor
    · rintro ⟨v,hv,h2⟩
      rcases List.mem_append.1 hv with hv|hv
      · exact .inl ⟨v,hv,h2⟩
      · rw [List.mem_singleton.1 hv] at h2;exact .inr h2
    · rintro (⟨v,hv,h2⟩|h2)
      · exact ⟨v,List.mem_append_left _ hv,h2⟩
      · exact ⟨_,List.mem_append_right _ (List.mem_singleton.2 rfl),h2⟩
   have hfn:=fun (h:¬ n<one.length)=>hnx tc (by
    rw [htc,List.take_of_length_le (by omega)]
    exact ⟨fun ⟨v,h1,h2⟩=>⟨v,h2,h1⟩,fun ⟨v,h1,h2⟩=>⟨v,h2,h1⟩⟩)
   clear hnx
   repeat' (first|refine an ?_ ?_|((try refine gm ?_);first|((with_reducible show Kz _);(try dsimp+instances only);(with_reducible refine kz _ ?_);clear kz Kz)|refine st ?_|(refine sr ?_;intro Kz kz;conv=>whnf)|(refine cd ?_;(conv=>arg 2;whnf);refine st ?_)|refine blockK_y (by rfl) ?_|(refine sw ?_;conv=>whnf))|(refine gm ?_;conv=>whnf)|(intro hc;(try dsimp+instances only[Dat,SDat,dflt,Ty.size,keepS,bkUpd,Gv.bk,backS,wayA,maxI,minI,negI]at hc);try simp only[LS]at hc))
   all_goals (try ((fail_if_success refine nl ?_);(try dsimp only[Dat,SDat,dflt,Ty.size,keepS,bkUpd,Gv.bk,backS,wayA,maxI,minI,negI]);(try simp only[LS]);first|done|exact dsc|((try simp only[allP,lo,hi,room,true_and,and_true,implies_true]);(repeat' (first|refine an ?_ ?_|((with_reducible refine preA_t ?_ ?_);rotate_left;exact sameP_t)|intro hv))<;>(try omega))))
   all_goals (try ((fail_if_success refine nl ?_);(try simp only [hs])))
   all_goals (try simp only [hs])
   all_goals (try simp only [hs] at hc)
   all_goals (first
    |exact hin
    |exact ⟨n+1,rfl,by omega,⟨fun _=>(htn (by omega)).2 (.inl hc),fun _=>trivial⟩⟩
    |exact ⟨n+1,rfl,by omega,by rw [htn (by omega),hc];simp⟩
    |exact ⟨k+1,rfl,by omega,by have:=hfn (by omega);rw [boolOf_true] at this;exact this⟩
    |exact ⟨k+1,rfl,by omega,hfn (by omega)⟩)
theorem ok_z30:SpecOK SP glob fi_z30 S_z30:=mk_ok (c:=c_z30) (tab_ok _) mix_ok wf_z30 (by decide) (.cons ok_z38 (.cons ok_z37 (.cons ok_z5 (.cons ok_z49 (.cons ok_z51 (.cons ok_z79 .nil)))))) (fun x hx=>Nat.zero_lt_one) g_z30
end Go.Gv
