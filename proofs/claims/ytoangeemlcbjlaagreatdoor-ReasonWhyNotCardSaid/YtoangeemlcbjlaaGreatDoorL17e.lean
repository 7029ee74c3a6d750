/- The statements of chapter 17: the reasons beside what is had. -/
import Derived.Test.YtoangeemlcbjlaaGreatDoorL17
import Derived.Test.YtoangeemlcbjlaaGreatDoorL17c
set_option linter.all false
namespace Go.Gv
open Go Go.Proofs Go.Proofs.YtoangeemlcbjlaaGreatDoor
set_option maxRecDepth 100000
set_option maxHeartbeats 4000000
theorem whynot_err {gs:List Gate} {i:Int} {h:List Bool} (hw:LawI gs i):(whyR h gs i).2=(whyR [] gs i).2∧(whyR [] gs i).2=(whyR (List.replicate h.length false) gs i).2:=by
 rw [whyR_err hw.f.1,whyR_err hw.f.1,whyR_err hw.f.1];exact ⟨rfl,rfl⟩
theorem whynot_no {gs:List Gate} {i:Int} {h:List Bool} (hw:LawI gs i) (q:¬ ((¬ (whyR h gs i).2=0∨¬ (whyR [] gs i).2=0)∨¬ (whyR (List.replicate h.length false) gs i).2=0)) (z:¬ (whyR [] gs i).1=(whyR (List.replicate h.length false) gs i).1∨¬ (holdsV gs i h=true↔((whyR h gs i).1.length:Int)=1∧(((whyR h gs i).1.getD 0 []).length:Int)=0)):False:=by
 have e1:(whyR h gs i).2=0:=Classical.byContradiction fun a=>q (.inl (.inl a))
 have e2:(whyR [] gs i).2=0:=Classical.byContradiction fun a=>q (.inl (.inr a))
 have e3:(whyR (List.replicate h.length false) gs i).2=0:=Classical.byContradiction fun a=>q (.inr a)
 have hg:=hw.good e1
 rw [hw.val e1,hw.val e2,hw.val e3] at z
 rcases z with z|z
 · exact z (valR_had hg fun v=>⟨fun a=>absurd a hadB_nil,fun a=>absurd a hadB_none⟩)
 · refine z ((holds_empty hg).trans ⟨fun a=>by rw [a];decide,fun a=>?_⟩)
   obtain ⟨a1,a2⟩:=a
   obtain ⟨s,hs⟩:=List.length_eq_one_iff.1 (show (valR h gs i.toNat).length=1 by omega)
   rw [hs] at a2 ⊢
   have a2:(s.length:Int)=0:=a2
   rw [List.eq_nil_of_length_eq_zero (show s.length=0 by omega)]
@[reducible] noncomputable def S_z35:Spec:={ ins:=(.cons (.d tCirc) (.cons (.d (.int .u8)) (.cons (.d (.sl .bool)) .nil))),pre:=fun _=>True,alts:=[{ outs:=(.cons (.d .bool) .nil),res:=(fun x=>(fun c raw h=>(true,())) x.1 x.2.1 x.2.2.1)}],noisy:=true}
noncomputable def c_z35:Cf:={ cf_z35 (Fl [(fi_z38,S_z38),(fi_z37,S_z37),(fi_z51,S_z51),(fi_z52,S_z52),(fi_z75,S_z75),(fi_z0,S_z0),(fi_z40,S_z40),(fi_z74,S_z74)]) with E:={ (cf_z35 (Fl [(fi_z38,S_z38),(fi_z37,S_z37),(fi_z51,S_z51),(fi_z52,S_z52),(fi_z75,S_z75),(fi_z0,S_z0),(fi_z40,S_z40),(fi_z74,S_z74)])).E with rows:=[181]},nz:=true}
theorem g_z35:∀ x,S_z35.pre x→shOK S_z35.ins x→fnGoal c_z35 fn_z35 S_z35 x:=by
 rintro ⟨⟨gs,⟨⟩⟩,(r:Int),(h:List Bool),⟨⟩⟩ hpre hok
 clear hpre
 have hln:=shLn_of _ hok;replace hok:=Hd.mk hok;try simp only [shLn,datLn,inRng,lo,hi,maxLen,true_and,and_true] at hln
 have hr0:0≤r:=hln.2.1.1
 have hlw:=fun q=>lawI3 (gs:=gs) (n:=(h.length:Int)) hr0 q
 have hwn:=fun q=>@whynot_err gs (Int.tmod r (List.length gs:Int)) h (hlw q)
 have hcn:=fun q (H:List Bool)=>(whyR_can (gs:=gs) (h:=H) (i:=Int.tmod r (List.length gs:Int)) (hlw q).f.1).inc
 first|refine fn_goal (w_head ?_)
 intro Kz kz;(conv=>whnf);(try dsimp+instances only);refine kz _ ?_;clear kz Kz;(conv=>(arg 2;whnf))
 repeat' (first|refine an ?_ ?_|((try refine gm ?_);first|((with_reducible show Kz _);(try dsimp+instances only);(with_reducible refine kz _ ?_);clear kz Kz)|refine st ?_|(refine sr ?_;intro Kz kz;conv=>whnf)|(refine cd ?_;(conv=>arg 2;whnf);refine st ?_)|refine blockK_y (by rfl) ?_|(refine sw ?_;conv=>whnf))|(refine gm ?_;conv=>whnf)|(intro hc;(try dsimp+instances only[Dat,SDat,dflt,Ty.size,keepS,bkUpd,Gv.bk,backS,wayA,maxI,minI,negI]at hc);try simp only[LS]at hc))
 all_goals (try ((fail_if_success refine nl ?_);(try dsimp only[Dat,SDat,dflt,Ty.size,keepS,bkUpd,Gv.bk,backS,wayA,maxI,minI,negI]);(try simp only[LS]);first|done|exact dsc|((try simp only[allP,lo,hi,room,true_and,and_true,implies_true]);(repeat' (first|refine an ?_ ?_|((with_reducible refine preA_t ?_ ?_);rotate_left;exact sameP_t)|intro hv))<;>(try omega))))
 all_goals (try (first
  |exact (hlw (by assumption)).f
  |exact (hlw (by assumption)).rng.1
  |exact (hlw (by assumption)).rng.2
  |exact (hlw (by assumption)).f.small _ (by assumption)))
 all_goals (try (first
  |with_reducible exact (hwn (by assumption)).1
  |with_reducible exact (hwn (by assumption)).2
  |with_reducible exact hcn (by assumption) _ _ (by assumption)
  |exact (whynot_no (hlw (by assumption)) (by assumption) hc).elim))
 have hq:¬ ((¬ ((gs.length:Int)≤16∧∀ g∈gs,g.2.2.1.length≤20)∨(gs.length:Int)=0)∨50<(h.length:Int)):=by assumption
 have hh50:h.length≤50:=by omega
 have hw:=hlw hq
 have he:(whyR h gs (Int.tmod r (List.length gs:Int))).2=0:=by
  rename ¬ ((_∨_)∨¬ (whyR (List.replicate h.length false) _ _).2=0)=>q9
  exact Classical.byContradiction fun a=>q9 (.inl (.inl a))
 have he0:=(hwn hq).1.symm.trans he
 have hg:=hw.good he
 rw [hw.val he,hw.val he0]
 have hsm:=hw.f.small
 clear he he0 hlw hwn hcn
 obtain ⟨i,hi⟩:∃ i,Int.tmod r (List.length gs:Int)=i:=⟨_,rfl⟩
 rw [hi] at hg ⊢
 obtain ⟨V,hV⟩:∃ V,valR [] gs i.toNat=V:=⟨_,rfl⟩
 obtain ⟨W,hW⟩:∃ W,valR h gs i.toNat=W:=⟨_,rfl⟩
 have hC:Can V:=by rw [← hV];exact can_is hg
 have hD:Can W:=by rw [← hW];exact can_is hg
 have h1:∀ s∈W,holdsV gs i (withL (ownL h++s))=true:=fun s hs=>holds_with hg (by rw [hW];exact hs)
 have h2:∀ s∈W,∀ v∈s,0≤v∧v<4000∧¬ hadB h v=true:=fun s hs v hv=>by
  have hs:s∈valR h gs i.toNat:=by rw [hW];exact hs
  have:=reason_rng hg hs hv
  exact ⟨this.1,this.2,reason_free hg hs hv⟩
 have h5:W=mins (V.map (restH h)):=by rw [← hW,← hV];exact rests_is hg
 have h3:V.length≤400:=by rw [← hV];exact few_reasons hg.v hw.f.1 hg.nat
 have h3w:W.length≤400:=by rw [← hW];exact few_reasons hg.v hw.f.1 hg.nat
 have h4:∀ s∈V,s.length≤16:=fun s hs=>by
  have hb:=whyR_bs (gs:=gs) (i:=i) (h:=[]) hw.f.1
  rw [whyR_few hg hw.f.1] at hb
  have hb:BE gs (valR [] gs i.toNat):=hb.1
  rw [hV] at hb
  exact Nat.le_trans (hb s hs).len hw.f.1
 have h4w:∀ s∈W,s.length≤16:=fun s hs=>by
  have hb:=whyR_bs (gs:=gs) (i:=i) (h:=h) hw.f.1
  rw [whyR_few hg hw.f.1] at hb
  have hb:BE gs (valR h gs i.toNat):=hb.1
  rw [hW] at hb
  exact Nat.le_trans (hb s hs).len hw.f.1
 rw [hV,hW]
 clear hV hW
 refine w_loop [(15, .spare tInt),(16, .d tInt)] [] (fun y=>∃ v:Nat,y.1.2.1=(v:Int)∧v≤h.length∧y.1.1=ownL (h.take v)) (fun y=>h.length - y.1.2.1.toNat) ?_
 conv=>whnf
 refine And.intro ?_ ?_
 · exact ⟨0,rfl,Nat.zero_le _,rfl⟩
 rintro ⟨⟨(se:List Int),_,⟨⟩⟩,⟨⟩⟩ ⟨v,rfl,hv,hse⟩
 have hse:se=ownL (h.take v):=hse
 have hsl:List.length se≤50:=by
  rw [hse]
  refine Nat.le_trans (ownL_len _) ?_
  rw [List.length_take];omega
 have e1:=fun (q:v<h.length) (c:h.getD v false=true)=>show se++[(v:Int)]=ownL (h.take (v+1)) from by rw [ownL_snoc q,if_pos c,hse]
 have e0:=fun (q:v<h.length) (c:¬ h.getD v false=true)=>show se=ownL (h.take (v+1)) from by rw [ownL_snoc q,if_neg c,hse,List.append_nil]
 have hfin:=fun (q:¬ v<h.length)=>show se=ownL h from by rw [hse,List.take_of_length_le (by omega)]
 clear hse
 have hv8:=fun (q:v<h.length)=>show (v:Int)+1≤Gv.hi IntKind.i64 from Int.le_trans (show (v:Int)+1≤51 by omega) (by decide)
 repeat' (first|refine an ?_ ?_|((try refine gm ?_);first|((with_reducible show Kz _);(try dsimp+instances only);(with_reducible refine kz _ ?_);clear kz Kz)|refine st ?_|(refine sr ?_;intro Kz kz;conv=>whnf)|(refine cd ?_;(conv=>arg 2;whnf);refine st ?_)|refine blockK_y (by rfl) ?_|(refine sw ?_;conv=>whnf))|(refine gm ?_;conv=>whnf)|(intro hc;(try dsimp+instances only[Dat,SDat,dflt,Ty.size,keepS,bkUpd,Gv.bk,backS,wayA,maxI,minI,negI]at hc);try simp only[LS]at hc))
 all_goals (try ((fail_if_success refine nl ?_);(try dsimp only[Dat,SDat,dflt,Ty.size,keepS,bkUpd,Gv.bk,backS,wayA,maxI,minI,negI]);(try simp only[LS]);first|done|exact dsc|((try simp only[allP,lo,hi,room,true_and,and_true,implies_true]);(repeat' (first|refine an ?_ ?_|((with_reducible refine preA_t ?_ ?_);rotate_left;exact sameP_t)|intro hv))<;>(try omega))))
 all_goals (try (first
  |with_reducible exact hv8 (by omega)
  |exact ⟨v+1,rfl,by omega,e1 (by omega) (by assumption)⟩
  |exact ⟨v+1,rfl,by omega,e0 (by omega) (by rw [hc];decide)⟩))
 have hfin:=hfin (by omega)
 subst hfin
 clear e1 e0 hv8
 refine w_loop [(17, .d tInt)] [] (fun y=>∃ k:Nat,y.1.1=(k:Int)∧k≤W.length) (fun y=>W.length - y.1.1.toNat) ?_
 conv=>whnf
 refine And.intro ?_ ?_
 · exact ⟨0,rfl,Nat.zero_le _⟩
 rintro ⟨⟨_,⟨⟩⟩,⟨⟩⟩ ⟨k,rfl,hk⟩
 have hmw:=fun (q:k<W.length)=>getD_mem (d:=([]:Is)) q
 have hlo:=fun (q:k<W.length)=>h4w _ (hmw q)
 have hm1:=fun (q:k<W.length)=>Int.le_trans (Int.mul_le_mul_of_nonneg_right (Int.ofNat_le.2 (Nat.add_le_add hsl (hlo q))) (show (0:Int)≤((1 * 64:Nat):Int) by decide)) (show ((50+16:Nat):Int) * ((1 * 64:Nat):Int)≤140737488355328 by decide)
 have hbad:=fun (q:k<W.length) (z:holdsV gs i (withL (List.replicate 0 0++ownL h++W.getD k []))=false)=>show False from by
  have:=h1 _ (hmw q)
  rw [show List.replicate 0 (0:Int)++ownL h=ownL h from rfl,this] at z
  cases z
 repeat' (first|refine an ?_ ?_|((try refine gm ?_);first|((with_reducible show Kz _);(try dsimp+instances only);(with_reducible refine kz _ ?_);clear kz Kz)|refine st ?_|(refine sr ?_;intro Kz kz;conv=>whnf)|(refine cd ?_;(conv=>arg 2;whnf);refine st ?_)|refine blockK_y (by rfl) ?_|(refine sw ?_;conv=>whnf))|(refine gm ?_;conv=>whnf)|(intro hc;(try dsimp+instances only[Dat,SDat,dflt,Ty.size,keepS,bkUpd,Gv.bk,backS,wayA,maxI,minI,negI]at hc);try simp only[LS]at hc))
 all_goals (try ((fail_if_success refine nl ?_);(try dsimp only[Dat,SDat,dflt,Ty.size,keepS,bkUpd,Gv.bk,backS,wayA,maxI,minI,negI]);(try simp only[LS]);first|done|exact dsc|((try simp only[allP,lo,hi,room,true_and,and_true,implies_true]);(repeat' (first|refine an ?_ ?_|((with_reducible refine preA_t ?_ ?_);rotate_left;exact sameP_t)|intro hv))<;>(try omega))))
 all_goals (try (first
  |with_reducible exact hm1 (by omega)
  |exact hsm _ (by assumption)
  |exact (hbad (by omega) hc).elim))
 · have hkW:k<W.length:=by omega
   have hsW:=hmw hkW
   have hk8:(k:Int)+1≤Gv.hi IntKind.i64:=Int.le_trans (show (k:Int)+1≤401 by omega) (by decide)
   obtain ⟨s,hs⟩:∃ s,W.getD k []=s:=⟨_,rfl⟩
   rw [hs] at hsW
   have hs2:=h2 s hsW
   have hs4:=h4w s hsW
   clear hm1 hbad hlo
   refine w_loop [(18, .d tInt)] [] (fun y=>∃ n:Nat,y.1.1=(n:Int)∧n≤s.length) (fun y=>s.length - y.1.1.toNat) ?_
   conv=>whnf
   refine And.intro ?_ ?_
   · exact ⟨0,rfl,Nat.zero_le _⟩
   rintro ⟨⟨_,⟨⟩⟩,⟨⟩⟩ ⟨n,rfl,hn⟩
   have hx:=fun (q:n<s.length)=>hs2 _ (getD_mem (d:=(0:Int)) q)
   have hno:=fun (q:n<s.length) (z:s.getD n 0<(h.length:Int)) (z2:h.getD (s.getD n 0).toNat false=true)=>(hx q).2.2 (hadB_iff.2 ⟨(hx q).1,z,z2⟩)
   have hn8:=fun (q:n<s.length)=>show (n:Int)+1≤Gv.hi IntKind.i64 from Int.le_trans (show (n:Int)+1≤17 by omega) (by decide)
   repeat' (first|refine an ?_ ?_|((try refine gm ?_);first|((with_reducible show Kz _);(try dsimp+instances only);(with_reducible refine kz _ ?_);clear kz Kz)|refine st ?_|(refine sr ?_;intro Kz kz;conv=>whnf)|(refine cd ?_;(conv=>arg 2;whnf);refine st ?_)|refine blockK_y (by rfl) ?_|(refine sw ?_;conv=>whnf))|(refine gm ?_;conv=>whnf)|(intro hc;(try dsimp+instances only[Dat,SDat,dflt,Ty.size,keepS,bkUpd,Gv.bk,backS,wayA,maxI,minI,negI]at hc);try simp only[LS]at hc))
   all_goals (try ((fail_if_success refine nl ?_);(try dsimp only[Dat,SDat,dflt,Ty.size,keepS,bkUpd,Gv.bk,backS,wayA,maxI,minI,negI]);(try simp only[LS]);first|done|exact dsc|((try simp only[allP,lo,hi,room,true_and,and_true,implies_true]);(repeat' (first|refine an ?_ ?_|((with_reducible refine preA_t ?_ ?_);rotate_left;exact sameP_t)|intro hv))<;>(try omega))))
   all_goals (try ((fail_if_success refine nl ?_);(try simp only [hs])))
   all_goals (try simp only [hs] at *)
   all_goals (first
    |(have h8:=hn8 (by omega);with_reducible exact h8)
    |with_reducible exact hk8
    |exact ⟨n+1,rfl,by omega⟩
    |exact ⟨k+1,rfl,by omega⟩
    |(exfalso
      have hnS:n<s.length:=by omega
      have hx0:=(hx hnS).1
      have hmx:max (List.getD s n 0) 0=List.getD s n 0:=by omega
      rw [hmx] at hc
      exact hno hnS hc.1 hc.2)
    |(have hx0:=(hx (by omega)).1
      have hx1:=(by with_reducible assumption:List.getD s n 0<(List.length h:Int))
      exact (show max (List.getD s n 0) 0<(List.length h:Int) by omega))
    |omega)
 refine w_loop [(19, .d (.sl tIs)),(20, .d tInt)] [] (fun y=>∃ k:Nat,y.1.2.1=(k:Int)∧k≤V.length∧y.1.1=mins ((V.take k).map (restH h))) (fun y=>V.length - y.1.2.1.toNat) ?_
 conv=>whnf
 refine And.intro ?_ ?_
 · exact ⟨0,rfl,Nat.zero_le _,mins_nil.symm⟩
 rintro ⟨⟨(ou:List Is),_,⟨⟩⟩,⟨⟩⟩ ⟨u,rfl,hu,hou⟩
 have hou:ou=mins ((V.take u).map (restH h)):=hou
 have hri:∀ s∈(V.take u).map (restH h),Inc s:=fun s hs=>by
  obtain ⟨x,hx,rfl⟩:=List.mem_map.1 hs
  exact restH_inc (hC.inc x (List.mem_of_mem_take hx))
 have hoc:Can ou:=by rw [hou];exact mins_can hri
 have hol:List.length ou≤1000000:=by
  rw [hou]
  refine Nat.le_trans mins_len ?_
  rw [List.length_map,List.length_take];omega
 have hmv:=fun (q:u<V.length)=>getD_mem (d:=([]:Is)) q
 have hput:=fun (q:u<V.length)=>show putV ou (restH h (V.getD u []))=mins ((V.take (u+1)).map (restH h)) from by
  rw [hou,putV_mins hri (restH_inc (hC.inc _ (hmv q))),List.take_succ_eq_append_getElem q,List.map_append,getD_ok [] q];rfl
 have hend:=fun (q:¬ u<V.length)=>show W=ou from by rw [hou,List.take_of_length_le (by omega),h5]
 have hdi:=hD.inc
 have hci:=hoc.inc
 clear hou
 repeat' (first|refine an ?_ ?_|((try refine gm ?_);first|((with_reducible show Kz _);(try dsimp+instances only);(with_reducible refine kz _ ?_);clear kz Kz)|refine st ?_|(refine sr ?_;intro Kz kz;conv=>whnf)|(refine cd ?_;(conv=>arg 2;whnf);refine st ?_)|refine blockK_y (by rfl) ?_|(refine sw ?_;conv=>whnf))|(refine gm ?_;conv=>whnf)|(intro hc;(try dsimp+instances only[Dat,SDat,dflt,Ty.size,keepS,bkUpd,Gv.bk,backS,wayA,maxI,minI,negI]at hc);try simp only[LS]at hc))
 all_goals (try ((fail_if_success refine nl ?_);(try dsimp only[Dat,SDat,dflt,Ty.size,keepS,bkUpd,Gv.bk,backS,wayA,maxI,minI,negI]);(try simp only[LS]);first|done|exact dsc|((try simp only[allP,lo,hi,room,true_and,and_true,implies_true]);(repeat' (first|refine an ?_ ?_|((with_reducible refine preA_t ?_ ?_);rotate_left;exact sameP_t)|intro hv))<;>(try omega))))
 all_goals (try (first
  |exact hdi _ (by assumption)
  |exact hci _ (by assumption)
  |exact hend (by omega)))
 have huV:u<V.length:=by omega
 have hsV:=hmv huV
 have hput:=hput huV
 have hu8:(u:Int)+1≤Gv.hi IntKind.i64:=Int.le_trans (show (u:Int)+1≤401 by omega) (by decide)
 obtain ⟨s,hs⟩:∃ s,V.getD u []=s:=⟨_,rfl⟩
 rw [hs] at hsV hput
 have hsi:=hC.inc s hsV
 have hs4:=h4 s hsV
 clear hend hmv
 refine w_loop [(21, .row tInt),(22, .d tInt)] [] (fun y=>∃ n:Nat,y.1.2.1=(n:Int)∧n≤s.length∧y.1.1=restH h (s.take n)) (fun y=>s.length - y.1.2.1.toNat) ?_
 conv=>whnf
 refine And.intro ?_ ?_
 · exact ⟨0,rfl,Nat.zero_le _,rfl⟩
 rintro ⟨⟨(re:List Int),_,⟨⟩⟩,⟨⟩⟩ ⟨n,rfl,hn,hre⟩
 have hre:re=restH h (s.take n):=hre
 have hrl:List.length re≤16:=by
  rw [hre]
  unfold restH
  refine Nat.le_trans (List.length_filter_le _ _) ?_
  rw [List.length_take];omega
 have hsn:=fun (q:n<s.length)=>show restH h (s.take (n+1))=restH h (s.take n)++(if hadB h (s.getD n 0)=true then [] else [s.getD n 0]) from by
  unfold restH
  rw [List.take_succ_eq_append_getElem q,List.filter_append,← getD_ok 0 q]
  congr 1
  by_cases c:hadB h (s.getD n 0)=true
  · rw [if_pos c,List.filter_cons_of_neg (by rw [c];simp)];rfl
  · rw [if_neg c,List.filter_cons_of_pos (by simpa using c)];rfl
 have e1:=fun (q:n<s.length) (c:((List.length h:Int)≤s.getD n 0∨s.getD n 0<0)∨h.getD (s.getD n 0).toNat false=false)=>show re++[s.getD n 0]=restH h (s.take (n+1)) from by
  rw [hsn q,if_neg (fun z=>by
   have z:=hadB_iff.1 z
   rcases c with (c|c)|c
   · have:=z.2.1;omega
   · have:=z.1;omega
   · rw [z.2.2] at c;cases c),hre]
 have e0:=fun (q:n<s.length) (c:¬ (((List.length h:Int)≤s.getD n 0∨s.getD n 0<0)∨h.getD (s.getD n 0).toNat false=false))=>show re=restH h (s.take (n+1)) from by
  rw [hsn q,if_pos (hadB_iff.2 ⟨by omega,by omega,Bool.not_eq_false _|>.mp fun z=>c (.inr z)⟩),hre,List.append_nil]
 have hful:=fun (q:¬ n<s.length)=>show re=restH h s from by rw [hre,List.take_of_length_le (by omega)]
 have hn8:=fun (q:n<s.length)=>show (n:Int)+1≤Gv.hi IntKind.i64 from Int.le_trans (show (n:Int)+1≤17 by omega) (by decide)
 have hrn:=fun (q:¬ n<s.length)=>show putV ou re=mins ((V.take (u+1)).map (restH h)) from by rw [hful q];exact hput
 have hri9:=fun (q:¬ n<s.length)=>show Inc re from by rw [hful q];exact restH_inc hsi
 clear hre hri hput
 repeat' (first|refine an ?_ ?_|((try refine gm ?_);first|((with_reducible show Kz _);(try dsimp+instances only);(with_reducible refine kz _ ?_);clear kz Kz)|refine st ?_|(refine sr ?_;intro Kz kz;conv=>whnf)|(refine cd ?_;(conv=>arg 2;whnf);refine st ?_)|refine blockK_y (by rfl) ?_|(refine sw ?_;conv=>whnf))|(refine gm ?_;conv=>whnf)|(intro hc;(try dsimp+instances only[Dat,SDat,dflt,Ty.size,keepS,bkUpd,Gv.bk,backS,wayA,maxI,minI,negI]at hc);try simp only[LS]at hc))
 all_goals (try ((fail_if_success refine nl ?_);(try dsimp only[Dat,SDat,dflt,Ty.size,keepS,bkUpd,Gv.bk,backS,wayA,maxI,minI,negI]);(try simp only[LS]);first|done|exact dsc|((try simp only[allP,lo,hi,room,true_and,and_true,implies_true]);(repeat' (first|refine an ?_ ?_|((with_reducible refine preA_t ?_ ?_);rotate_left;exact sameP_t)|intro hv))<;>(try omega))))
 all_goals (try ((fail_if_success refine nl ?_);(try simp only [hs])))
 all_goals (try simp only [hs] at *)
 all_goals (first
  |(have h8:=hn8 (by omega);with_reducible exact h8)
  |exact ⟨n+1,rfl,by omega,e1 (by omega) hc⟩
  |exact ⟨n+1,rfl,by omega,e0 (by omega) hc⟩
  |exact ⟨u+1,rfl,by omega,hrn (by omega)⟩
  |exact hri9 (by omega)
  |omega)
theorem ok_z35:SpecOK SP glob fi_z35 S_z35:=mk_ok (c:=c_z35) (tab_ok _) mix_ok wf_z35 (by decide) (.cons ok_z38 (.cons ok_z37 (.cons ok_z51 (.cons ok_z52 (.cons ok_z75 (.cons ok_z0 (.cons ok_z40 (.cons ok_z74 .nil)))))))) (fun x hx=>Nat.zero_lt_one) g_z35
end Go.Gv
