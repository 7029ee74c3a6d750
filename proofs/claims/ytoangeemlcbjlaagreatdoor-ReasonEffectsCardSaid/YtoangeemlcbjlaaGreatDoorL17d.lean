/- The statements of chapter 17: what is needed. -/
import Derived.Test.YtoangeemlcbjlaaGreatDoorL17
set_option linter.all false
namespace Go.Gv
open Go Go.Proofs Go.Proofs.YtoangeemlcbjlaaGreatDoor
set_option maxRecDepth 100000
set_option maxHeartbeats 4000000
theorem sub_one {x:Int} {s:Is}:sub [x] s↔x∈s:=⟨fun h=>h x (List.mem_singleton.2 rfl),fun h y hy=>by rw [List.mem_singleton.1 hy];exact h⟩
theorem need0 {gs:List Gate} {i:Int} (hw:LawI gs i) (h:¬ (whyR [] gs i).2=0∨((whyR [] gs i).1.length:Int)=0):(List.length (needV gs i):Int)=0:=by
 by_cases e:(whyR [] gs i).2=0
 · have h:=h.resolve_left fun z=>z e
   rw [hw.val e] at h
   have hg:=hw.good e
   have:needV gs i=[]:=List.eq_nil_iff_forall_not_mem.2 fun v hv=>((needV_mem hg).1 hv).1 (List.eq_nil_of_length_eq_zero (by omega))
   rw [this];rfl
 · rw [needV_bad fun g=>(hw.bad e).1 g.v];rfl
@[reducible] noncomputable def S_z33:Spec:={ ins:=(.cons (.d tCirc) (.cons (.d (.int .u8)) .nil)),pre:=fun _=>True,alts:=[{ outs:=(.cons (.d .bool) .nil),res:=(fun x=>(fun c raw=>(true,())) x.1 x.2.1)}],noisy:=true}
noncomputable def c_z33:Cf:={ cf_z33 (Fl [(fi_z38,S_z38),(fi_z37,S_z37),(fi_z51,S_z51),(fi_z50,S_z50),(fi_z79,S_z79)]) with spl:=[80],nz:=true}
theorem g_z33:∀ x,S_z33.pre x→shOK S_z33.ins x→fnGoal c_z33 fn_z33 S_z33 x:=by
 rintro ⟨⟨gs,⟨⟩⟩,(r:Int),⟨⟩⟩ hpre hok
 clear hpre
 have hln:=shLn_of _ hok;replace hok:=Hd.mk hok;try simp only [shLn,datLn,inRng,lo,hi,maxLen,true_and,and_true] at hln
 have hr0:0≤r:=hln.2.1
 have hlw:=fun q=>lawI (gs:=gs) hr0 q
 first|refine fn_goal (w_head ?_)
 intro Kz kz;(conv=>whnf);(try dsimp+instances only);refine kz _ ?_;clear kz Kz;(conv=>(arg 2;whnf))
 repeat' (first|refine an ?_ ?_|((try refine gm ?_);first|((with_reducible show Kz _);(try dsimp+instances only);(with_reducible refine kz _ ?_);clear kz Kz)|refine st ?_|(refine sr ?_;intro Kz kz;conv=>whnf)|(refine cd ?_;(conv=>arg 2;whnf);refine st ?_)|refine blockK_y (by rfl) ?_|(refine sw ?_;conv=>whnf))|(refine gm ?_;conv=>whnf)|(intro hc;(try dsimp+instances only[Dat,SDat,dflt,Ty.size,keepS,bkUpd,Gv.bk,backS,wayA,maxI,minI,negI]at hc);try simp only[LS]at hc))
 all_goals (try ((fail_if_success refine nl ?_);(try dsimp only[Dat,SDat,dflt,Ty.size,keepS,bkUpd,Gv.bk,backS,wayA,maxI,minI,negI]);(try simp only[LS]);first|done|exact dsc|((try simp only[allP,lo,hi,room,true_and,and_true,implies_true]);(repeat' (first|refine an ?_ ?_|((with_reducible refine preA_t ?_ ?_);rotate_left;exact sameP_t)|intro hv))<;>(try omega))))
 all_goals (try (first
  |exact (hlw (by assumption)).f
  |exact (hlw (by assumption)).rng.1
  |exact (hlw (by assumption)).rng.2
  |exact (hlw (by assumption)).f.small _ (by assumption)))
 all_goals (try ((fail_if_success refine nl ?_);exact need0 (hlw (by assumption)) hc))
 have hw:=hlw (by assumption)
 have hq:¬ (¬ (whyR [] gs (Int.tmod r (List.length gs:Int))).2=0∨((whyR [] gs (Int.tmod r (List.length gs:Int))).1.length:Int)=0):=by assumption
 have he:(whyR [] gs (Int.tmod r (List.length gs:Int))).2=0:=Classical.byContradiction fun z=>hq (.inl z)
 have h0:¬ ((whyR [] gs (Int.tmod r (List.length gs:Int))).1.length:Int)=0:=fun z=>hq (.inr z)
 rw [hw.val he] at h0 ⊢
 have hg:=hw.good he
 have hsm:=hw.f.small
 clear he hlw hq
 obtain ⟨i,hi⟩:∃ i,Int.tmod r (List.length gs:Int)=i:=⟨_,rfl⟩
 rw [hi] at hg h0 ⊢
 obtain ⟨V,hV⟩:∃ V,valR [] gs i.toNat=V:=⟨_,rfl⟩
 have hC:Can V:=by rw [← hV];exact can_is hg
 have h3:V.length≤400:=by rw [← hV];exact few_reasons hg.v hw.f.1 hg.nat
 obtain ⟨N,hN⟩:∃ N,needV gs i=N:=⟨_,rfl⟩
 have hNi:Inc N:=by rw [← hN];exact needV_inc gs i
 rw [hV] at h0
 have hV0:V≠[]:=fun e=>h0 (by rw [e];rfl)
 have hNm:∀ v,v∈N↔∀ s∈V,v∈s:=fun v=>by
  rw [← hN,needV_mem hg,hV]
  exact ⟨fun z=>z.2,fun z=>⟨hV0,z⟩⟩
 have h4:∀ s∈V,s.length≤16:=fun s hs=>by
  have hb:=whyR_bs (gs:=gs) (i:=i) (h:=[]) hw.f.1
  rw [whyR_few hg hw.f.1] at hb
  have hb:BE gs (valR [] gs i.toNat):=hb.1
  rw [hV] at hb
  exact Nat.le_trans (hb s hs).len hw.f.1
 rw [hV,hN]
 clear hV hN
 refine w_loop [(10, .d tInt)] [] (fun y=>∃ k:Nat,y.1.1=(k:Int)∧k≤V.length) (fun y=>V.length - y.1.1.toNat) ?_
 conv=>whnf
 refine And.intro ?_ ?_
 · exact ⟨0,rfl,Nat.zero_le _⟩
 rintro ⟨⟨_,⟨⟩⟩,⟨⟩⟩ ⟨k,rfl,hk⟩
 have hin:=fun (q:k<V.length)=>hC.inc _ (getD_mem (d:=([]:Is)) q)
 have hk8:=fun (q:k<V.length)=>show (k:Int)+1≤Gv.hi IntKind.i64 from Int.le_trans (show (k:Int)+1≤401 by omega) (by decide)
 have hsb:=fun (q:k<V.length)=>show sub N (V.getD k []) from fun v hv=>(hNm v).1 hv _ (getD_mem (d:=([]:Is)) q)
 repeat' (first|refine an ?_ ?_|((try refine gm ?_);first|((with_reducible show Kz _);(try dsimp+instances only);(with_reducible refine kz _ ?_);clear kz Kz)|refine st ?_|(refine sr ?_;intro Kz kz;conv=>whnf)|(refine cd ?_;(conv=>arg 2;whnf);refine st ?_)|refine blockK_y (by rfl) ?_|(refine sw ?_;conv=>whnf))|(refine gm ?_;conv=>whnf)|(intro hc;(try dsimp+instances only[Dat,SDat,dflt,Ty.size,keepS,bkUpd,Gv.bk,backS,wayA,maxI,minI,negI]at hc);try simp only[LS]at hc))
 all_goals (try ((fail_if_success refine nl ?_);(try dsimp only[Dat,SDat,dflt,Ty.size,keepS,bkUpd,Gv.bk,backS,wayA,maxI,minI,negI]);(try simp only[LS]);first|done|exact dsc|((try simp only[allP,lo,hi,room,true_and,and_true,implies_true]);(repeat' (first|refine an ?_ ?_|((with_reducible refine preA_t ?_ ?_);rotate_left;exact sameP_t)|intro hv))<;>(try omega))))
 all_goals (try (first
  |exact hin (by omega)
  |exact absurd (hsb (by omega)) hc
  |exact ⟨k+1,rfl,by omega⟩))
 have hV1:0<V.length:=by omega
 have hm0:=getD_mem (d:=([]:Is)) hV1
 obtain ⟨s,hs⟩:∃ s,V.getD 0 []=s:=⟨_,rfl⟩
 rw [hs] at hm0
 have hsi:=hC.inc s hm0
 have hsl:=h4 s hm0
 refine w_loop [(11, .d tInt)] [] (fun y=>∃ n:Nat,y.1.1=(n:Int)∧n≤s.length) (fun y=>s.length - y.1.1.toNat) ?_
 conv=>whnf
 refine And.intro ?_ ?_
 · exact ⟨0,rfl,Nat.zero_le _⟩
 rintro ⟨⟨_,⟨⟩⟩,⟨⟩⟩ ⟨n,rfl,hn⟩
 repeat' (first|refine an ?_ ?_|((try refine gm ?_);first|((with_reducible show Kz _);(try dsimp+instances only);(with_reducible refine kz _ ?_);clear kz Kz)|refine st ?_|(refine sr ?_;intro Kz kz;conv=>whnf)|(refine cd ?_;(conv=>arg 2;whnf);refine st ?_)|refine blockK_y (by rfl) ?_|(refine sw ?_;conv=>whnf))|(refine gm ?_;conv=>whnf)|(intro hc;(try dsimp+instances only[Dat,SDat,dflt,Ty.size,keepS,bkUpd,Gv.bk,backS,wayA,maxI,minI,negI]at hc);try simp only[LS]at hc))
 all_goals (try ((fail_if_success refine nl ?_);(try dsimp only[Dat,SDat,dflt,Ty.size,keepS,bkUpd,Gv.bk,backS,wayA,maxI,minI,negI]);(try simp only[LS]);first|done|exact dsc|((try simp only[allP,lo,hi,room,true_and,and_true,implies_true]);(repeat' (first|refine an ?_ ?_|((with_reducible refine preA_t ?_ ?_);rotate_left;exact sameP_t)|intro hv))<;>(try omega))))
 all_goals (try ((fail_if_success refine nl ?_);(try simp only [hs])))
 all_goals (try simp only [hs] at hc)
 · have hnS:n<s.length:=by omega
   refine w_loop [(12, .d .bool),(13, .d tInt)] [] (fun y=>∃ k:Nat,y.1.2.1=(k:Int)∧k≤V.length∧(y.1.1=true↔∀ x∈V.take k,s.getD n 0∈x)) (fun y=>V.length - y.1.2.1.toNat) ?_
   conv=>whnf
   refine And.intro ?_ ?_
   · exact ⟨0,rfl,Nat.zero_le _,by simp⟩
   rintro ⟨⟨(al:Bool),_,⟨⟩⟩,⟨⟩⟩ ⟨k,rfl,hk,hal⟩
   have hal:al=true↔∀ x∈V.take k,s.getD n 0∈x:=hal
   have hin:=fun (q:k<V.length)=>hC.inc _ (getD_mem (d:=([]:Is)) q)
   have hk8:=fun (q:k<V.length)=>show (k:Int)+1≤Gv.hi IntKind.i64 from Int.le_trans (show (k:Int)+1≤401 by omega) (by decide)
   have hn8:(n:Int)+1≤Gv.hi IntKind.i64:=Int.le_trans (show (n:Int)+1≤17 by omega) (by decide)
   have h1i:=inc_one (s.getD n 0)
   have hnx:=fun (q:k<V.length)=>show (∀ x∈V.take (k+1),s.getD n 0∈x)↔al=true∧sub [s.getD n 0] (V.getD k []) from by
    rw [List.take_succ_eq_append_getElem q,hal,getD_ok [] q,sub_one]
    constructor
    · exact fun h=>⟨fun x hx=>h x (List.mem_append_left _ hx),h _ (List.mem_append_right _ (List.mem_singleton.2 rfl))⟩
    · rintro ⟨h1,h2⟩ x hx
      rcases List.mem_append.1 hx with hx|hx
      · exact h1 x hx
      · rw [List.mem_singleton.1 hx];exact h2
   have hall:=fun (q:¬ k<V.length)=>show al=true↔sub [s.getD n 0] N from by
    rw [sub_one,hNm,hal,List.take_of_length_le (by omega)]
   repeat' (first|refine an ?_ ?_|((try refine gm ?_);first|((with_reducible show Kz _);(try dsimp+instances only);(with_reducible refine kz _ ?_);clear kz Kz)|refine st ?_|(refine sr ?_;intro Kz kz;conv=>whnf)|(refine cd ?_;(conv=>arg 2;whnf);refine st ?_)|refine blockK_y (by rfl) ?_|(refine sw ?_;conv=>whnf))|(refine gm ?_;conv=>whnf)|(intro hc;(try dsimp+instances only[Dat,SDat,dflt,Ty.size,keepS,bkUpd,Gv.bk,backS,wayA,maxI,minI,negI]at hc);try simp only[LS]at hc))
   all_goals (try ((fail_if_success refine nl ?_);(try dsimp only[Dat,SDat,dflt,Ty.size,keepS,bkUpd,Gv.bk,backS,wayA,maxI,minI,negI]);(try simp only[LS]);first|done|exact dsc|((try simp only[allP,lo,hi,room,true_and,and_true,implies_true]);(repeat' (first|refine an ?_ ?_|((with_reducible refine preA_t ?_ ?_);rotate_left;exact sameP_t)|intro hv))<;>(try omega))))
   all_goals (try ((fail_if_success refine nl ?_);(try simp only [hs])))
   all_goals (try simp only [hs] at hc)
   all_goals (first
    |exact h1i
    |exact hin (by omega)
    |exact ⟨k+1,rfl,by omega,by rw [hnx (by omega),hc];simp⟩
    |(exfalso;exact hc (hall (by omega)))
    |exact ⟨n+1,rfl,by omega⟩
    |omega)
theorem ok_z33:SpecOK SP glob fi_z33 S_z33:=mk_ok (c:=c_z33) (tab_ok _) mix_ok wf_z33 (by decide) (.cons ok_z38 (.cons ok_z37 (.cons ok_z51 (.cons ok_z50 (.cons ok_z79 .nil))))) (fun x hx=>Nat.zero_lt_one) g_z33
end Go.Gv
