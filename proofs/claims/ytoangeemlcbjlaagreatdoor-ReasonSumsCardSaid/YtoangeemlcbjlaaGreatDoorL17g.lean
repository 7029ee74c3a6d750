/- The statements of chapter 17: sums and products. -/
import Derived.Test.YtoangeemlcbjlaaGreatDoorL17
set_option linter.all false
namespace Go.Gv
open Go Go.Proofs Go.Proofs.YtoangeemlcbjlaaGreatDoor
set_option maxRecDepth 100000
set_option maxHeartbeats 4000000
theorem keptK_len (gs:List Gate) (g:Gate):(keptK gs g).length≤g.2.2.1.length:=by
 unfold keptK
 exact Nat.le_trans (List.length_filter_le _ _) (Nat.le_of_eq (sortI_len _))
theorem nrmG_len (gs:List Gate) (g:Gate):(nrmG gs g).2.2.1.length≤g.2.2.1.length:=by
 unfold nrmG
 split
 · split
   · exact Nat.zero_le _
   · split
     · exact Nat.zero_le _
     · exact keptK_len gs g
 · exact Nat.le_refl _
theorem PutR.few {gs ds:List Gate} {g:Gate} {i:Int} (h:PutR gs g ds i) (hl:gs.length≤14) (hs:FewR gs) (hg:g.2.2.1.length≤20):FewR ds:=by
 refine ⟨?_,fun x hx=>?_⟩
 · rcases h.ext with e|e
   · rw [e];omega
   · rw [e,List.length_append];simp;omega
 · rcases h.ext with e|e
   · rw [e] at hx;exact hs.2 x hx
   · rw [e] at hx
     rcases List.mem_append.1 hx with hx|hx
     · exact hs.2 x hx
     · rw [List.mem_singleton.1 hx];exact Nat.le_trans (nrmG_len gs g) hg
theorem law14 {gs:List Gate} {r q:Int} (h0:0≤r) (h1:0≤q) (z:¬ (¬ ((gs.length:Int)≤14∧∀ g∈gs,g.2.2.1.length≤20)∨(gs.length:Int)=0)):gs.length≤14∧LawI gs (Int.tmod r gs.length)∧LawI gs (Int.tmod q gs.length):=by
 have z1:(gs.length:Int)≤14∧∀ g∈gs,g.2.2.1.length≤20:=Classical.byContradiction fun a=>z (.inl a)
 have z2:¬ (¬ ((gs.length:Int)≤16∧∀ g∈gs,g.2.2.1.length≤20)∨(gs.length:Int)=0):=fun a=>a.elim (fun b=>b ⟨by omega,z1.2⟩) fun b=>z (.inr b)
 exact ⟨by omega,lawI h0 z2,lawI h1 z2⟩
@[reducible] noncomputable def S_z34:Spec:={ ins:=(.cons (.d tCirc) (.cons (.d (.int .u8)) (.cons (.d (.int .u8)) .nil))),pre:=fun _=>True,alts:=[{ outs:=(.cons (.d .bool) .nil),res:=(fun x=>(fun c one two=>(true,())) x.1 x.2.1 x.2.2.1)}],noisy:=true}
noncomputable def c_z34:Cf:={ cf_z34 (Fl [(fi_z38,S_z38),(fi_z63,S_z63),(fi_z51,S_z51),(fi_z4,S_z4),(fi_z74,S_z74),(fi_z76,S_z76),(fi_z75,S_z75)]) with nz:=true}
theorem g_z34:∀ x,S_z34.pre x→shOK S_z34.ins x→fnGoal c_z34 fn_z34 S_z34 x:=by
 rintro ⟨⟨gs,⟨⟩⟩,(r:Int),(q:Int),⟨⟩⟩ hpre hok
 clear hpre
 have hln:=shLn_of _ hok;replace hok:=Hd.mk hok;try simp only [shLn,datLn,inRng,lo,hi,maxLen,true_and,and_true] at hln
 have hr0:0≤r:=hln.2.1.1
 have hq0:0≤q:=hln.2.2.1
 have hlw:=fun z=>law14 (gs:=gs) hr0 hq0 z
 have hall:¬ (((¬ (whyR [] gs (Int.tmod r (List.length gs:Int))).2=0∨¬ (whyR [] gs (Int.tmod q (List.length gs:Int))).2=0)∨¬ (putC gs (3,0,[Int.tmod r (List.length gs:Int),Int.tmod q (List.length gs:Int)],())).2.2=0)∨¬ (putC gs (4,0,[Int.tmod q (List.length gs:Int),Int.tmod r (List.length gs:Int)],())).2.2=0)→((whyR [] gs (Int.tmod r (List.length gs:Int))).2=0∧(whyR [] gs (Int.tmod q (List.length gs:Int))).2=0)∧PutR gs (3,0,[(Int.tmod r (List.length gs:Int)),(Int.tmod q (List.length gs:Int))],()) (putC gs (3,0,[Int.tmod r (List.length gs:Int),Int.tmod q (List.length gs:Int)],())).1 (putC gs (3,0,[Int.tmod r (List.length gs:Int),Int.tmod q (List.length gs:Int)],())).2.1∧PutR gs (4,0,[(Int.tmod q (List.length gs:Int)),(Int.tmod r (List.length gs:Int))],()) (putC gs (4,0,[Int.tmod q (List.length gs:Int),Int.tmod r (List.length gs:Int)],())).1 (putC gs (4,0,[Int.tmod q (List.length gs:Int),Int.tmod r (List.length gs:Int)],())).2.1:=fun z=>by
  have z1:(putC gs (3,0,[Int.tmod r (List.length gs:Int),Int.tmod q (List.length gs:Int)],())).2.2=0:=Classical.byContradiction fun a=>z (.inl (.inr a))
  have z2:(putC gs (4,0,[Int.tmod q (List.length gs:Int),Int.tmod r (List.length gs:Int)],())).2.2=0:=Classical.byContradiction fun a=>z (.inr a)
  exact ⟨⟨Classical.byContradiction fun a=>z (.inl (.inl (.inl a))),Classical.byContradiction fun a=>z (.inl (.inl (.inr a)))⟩,put_r z1,put_r z2⟩
 have hF3:=fun z c=>(hall c).2.1.few (hlw z).1 (hlw z).2.1.f (show 2≤20 by decide)
 have hF4:=fun z c=>(hall c).2.2.few (hlw z).1 (hlw z).2.1.f (show 2≤20 by decide)
 first|refine fn_goal (w_head ?_)
 intro Kz kz;(conv=>whnf);(try dsimp+instances only);refine kz _ ?_;clear kz Kz;(conv=>(arg 2;whnf))
 repeat' (first|refine an ?_ ?_|((try refine gm ?_);first|((with_reducible show Kz _);(try dsimp+instances only);(with_reducible refine kz _ ?_);clear kz Kz)|refine st ?_|(refine sr ?_;intro Kz kz;conv=>whnf)|(refine cd ?_;(conv=>arg 2;whnf);refine st ?_)|refine blockK_y (by rfl) ?_|(refine sw ?_;conv=>whnf))|(refine gm ?_;conv=>whnf)|(intro hc;(try dsimp+instances only[Dat,SDat,dflt,Ty.size,keepS,bkUpd,Gv.bk,backS,wayA,maxI,minI,negI]at hc);try simp only[LS]at hc))
 all_goals (try ((fail_if_success refine nl ?_);(try dsimp only[Dat,SDat,dflt,Ty.size,keepS,bkUpd,Gv.bk,backS,wayA,maxI,minI,negI]);(try simp only[LS]);first|done|exact dsc|((try simp only[allP,lo,hi,room,true_and,and_true,implies_true]);(repeat' (first|refine an ?_ ?_|((with_reducible refine preA_t ?_ ?_);rotate_left;exact sameP_t)|intro hv))<;>(try omega))))
 all_goals (try (first
  |exact (hlw (by with_reducible assumption)).2.1.rng.1
  |exact (hlw (by with_reducible assumption)).2.1.rng.2
  |exact (hlw (by with_reducible assumption)).2.2.rng.1
  |exact (hlw (by with_reducible assumption)).2.2.rng.2
  |exact (hlw (by with_reducible assumption)).2.1.f
  |exact (hlw (by with_reducible assumption)).2.1.f.small _ (by assumption)
  |exact hF3 (by with_reducible assumption) (by with_reducible assumption)
  |exact hF4 (by with_reducible assumption) (by with_reducible assumption)))
 have hzq:¬ (¬ ((gs.length:Int)≤14∧∀ g∈gs,g.2.2.1.length≤20)∨(gs.length:Int)=0):=by with_reducible assumption
 have hca:¬ (((¬ (whyR [] gs (Int.tmod r (List.length gs:Int))).2=0∨¬ (whyR [] gs (Int.tmod q (List.length gs:Int))).2=0)∨¬ (putC gs (3,0,[Int.tmod r (List.length gs:Int),Int.tmod q (List.length gs:Int)],())).2.2=0)∨¬ (putC gs (4,0,[Int.tmod q (List.length gs:Int),Int.tmod r (List.length gs:Int)],())).2.2=0):=by with_reducible assumption
 have hF:=(hlw hzq).2.1.f
 have hsm:=hF.small
 obtain ⟨⟨eA,eB⟩,hP3,hP4⟩:=hall hca
 have gA:=(hlw hzq).2.1.good eA
 have gB:=(hlw hzq).2.2.good eB
 have s3:=whyR_few (h:=[]) hP3.good (hF3 hzq hca).1
 have s4:=whyR_few (h:=[]) hP4.good (hF4 hzq hca).1
 rw [sum_is hP3] at s3
 rw [product_is hP4] at s4
 have vA:=whyR_few (h:=[]) gA hF.1
 have vB:=whyR_few (h:=[]) gB hF.1
 have bA:=whyR_bs (gs:=gs) (i:=(Int.tmod r (List.length gs:Int))) (h:=[]) hF.1
 have bB:=whyR_bs (gs:=gs) (i:=(Int.tmod q (List.length gs:Int))) (h:=[]) hF.1
 rw [vA] at bA
 rw [vB] at bB
 have s3:whyR [] (putC gs (3,0,((List.replicate 2 (dflt (Ty.int IntKind.i64))).set 0 (Int.tmod r (List.length gs:Int))).set 1 (Int.tmod q (List.length gs:Int)),())).1 (putC gs (3,0,((List.replicate 2 (dflt (Ty.int IntKind.i64))).set 0 (Int.tmod r (List.length gs:Int))).set 1 (Int.tmod q (List.length gs:Int)),())).2.1=(mins (valR [] gs ((Int.tmod r (List.length gs:Int))).toNat++valR [] gs ((Int.tmod q (List.length gs:Int))).toNat),0):=s3
 have s4:whyR [] (putC gs (4,0,((List.replicate 2 (dflt (Ty.int IntKind.i64))).set 0 (Int.tmod q (List.length gs:Int))).set 1 (Int.tmod r (List.length gs:Int)),())).1 (putC gs (4,0,((List.replicate 2 (dflt (Ty.int IntKind.i64))).set 0 (Int.tmod q (List.length gs:Int))).set 1 (Int.tmod r (List.length gs:Int)),())).2.1=(mins (pairsU (valR [] gs ((Int.tmod r (List.length gs:Int))).toNat) (valR [] gs ((Int.tmod q (List.length gs:Int))).toNat)),0):=s4
 rw [s3,s4,vA,vB]
 obtain ⟨A,hA⟩:∃ A,valR [] gs ((Int.tmod r (List.length gs:Int))).toNat=A:=⟨_,rfl⟩
 obtain ⟨B,hB⟩:∃ B,valR [] gs ((Int.tmod q (List.length gs:Int))).toNat=B:=⟨_,rfl⟩
 rw [hA] at bA ⊢
 rw [hB] at bB ⊢
 have bA:BS gs A:=bA
 have bB:BS gs B:=bB
 clear hA hB s3 s4 vA vB gA gB eA eB hP3 hP4 hall hF3 hF4 hca hlw
 refine w_loop [(24, .d (.sl tIs)),(25, .d (.sl tIs)),(26, .d tInt)] [] (fun y=>∃ u:Nat,y.1.2.2.1=(u:Int)∧u≤A.length∧y.1.1=mins (A.take u)∧y.1.2.1=mins (pairK A B u 0)) (fun y=>A.length - y.1.2.2.1.toNat) ?_
 conv=>whnf
 refine And.intro ?_ ?_
 · exact ⟨0,rfl,Nat.zero_le _,by rw [List.take_zero];exact mins_nil.symm,by rw [pairK_zero];exact mins_nil.symm⟩
 rintro ⟨⟨_,_,_,⟨⟩⟩,⟨⟩⟩ ⟨u,rfl,hu,hs,htt⟩
 have hs:_=mins (A.take u):=hs
 have htt:_=mins (pairK A B u 0):=htt
 subst hs
 subst htt
 have hbt:=bA.1.take u
 have hcs:=mins_canE hbt
 have hls:(mins (A.take u)).length≤1000000:=Nat.le_trans (hbt.mins hF.1).2 (by decide)
 have hAl:=bA.2
 have hBl:=bB.2
 have hat:=fun (h:u<A.length)=>bA.1.at h
 have hput:=fun (h:u<A.length)=>show putV (mins (A.take u)) (A.getD u [])=mins (A.take (u+1)) from by rw [putV_flat hbt (hat h),List.take_succ_eq_append_getElem h,getD_ok [] h]
 have hu8:=fun (h:u<A.length)=>show (u:Int)+1≤Gv.hi IntKind.i64 from Int.le_trans (show (u:Int)+1≤65537 by omega) (by decide)
 repeat' (first|refine an ?_ ?_|((try refine gm ?_);first|((with_reducible show Kz _);(try dsimp+instances only);(with_reducible refine kz _ ?_);clear kz Kz)|refine st ?_|(refine sr ?_;intro Kz kz;conv=>whnf)|(refine cd ?_;(conv=>arg 2;whnf);refine st ?_)|refine blockK_y (by rfl) ?_|(refine sw ?_;conv=>whnf))|(refine gm ?_;conv=>whnf)|(intro hc;(try dsimp+instances only[Dat,SDat,dflt,Ty.size,keepS,bkUpd,Gv.bk,backS,wayA,maxI,minI,negI]at hc);try simp only[LS]at hc))
 all_goals (try ((fail_if_success refine nl ?_);(try dsimp only[Dat,SDat,dflt,Ty.size,keepS,bkUpd,Gv.bk,backS,wayA,maxI,minI,negI]);(try simp only[LS]);first|done|exact dsc|((try simp only[allP,lo,hi,room,true_and,and_true,implies_true]);(repeat' (first|refine an ?_ ?_|((with_reducible refine preA_t ?_ ?_);rotate_left;exact sameP_t)|intro hv))<;>(try omega))))
 all_goals (try ((fail_if_success refine nl ?_);exact (hat (by omega)).1))
 · have huA:u<A.length:=by omega
   have ha9:=hat huA
   have hput:=hput huA
   have hu8:=hu8 huA
   clear hat
   refine w_loop [(25, .d (.sl tIs)),(27, .d tInt)] [] (fun y=>∃ v:Nat,y.1.2.1=(v:Int)∧v≤B.length∧y.1.1=mins (pairK A B u v)) (fun y=>B.length - y.1.2.1.toNat) ?_
   conv=>whnf
   refine And.intro ?_ ?_
   · exact ⟨0,rfl,Nat.zero_le _,rfl⟩
   rintro ⟨⟨_,_,⟨⟩⟩,⟨⟩⟩ ⟨v,rfl,hv,htt⟩
   have htt:_=mins (pairK A B u v):=htt
   subst htt
   have hpe:=pairK_be bA.1 bB.1 (k:=u) (n:=v) (.inl huA)
   have hct:=mins_canE hpe
   have hlt:(mins (pairK A B u v)).length≤1000000:=Nat.le_trans (hpe.mins hF.1).2 (by decide)
   have hbt9:=fun (h:v<B.length)=>bB.1.at h
   have hv8:=fun (h:v<B.length)=>show (v:Int)+1≤Gv.hi IntKind.i64 from Int.le_trans (show (v:Int)+1≤65537 by omega) (by decide)
   have hpt:=fun (h:v<B.length)=>show putV (mins (pairK A B u v)) (unionL (A.getD u []) (B.getD v []))=mins (pairK A B u (v+1)) from by
    rw [putV_flat hpe (SetOK.union ha9 (hbt9 h)),pairK_snoc h]
   have hen:=fun (h:¬ v<B.length)=>show mins (pairK A B u v)=mins (pairK A B (u+1) 0) from by rw [pairK_next huA (by omega)]
   repeat' (first|refine an ?_ ?_|((try refine gm ?_);first|((with_reducible show Kz _);(try dsimp+instances only);(with_reducible refine kz _ ?_);clear kz Kz)|refine st ?_|(refine sr ?_;intro Kz kz;conv=>whnf)|(refine cd ?_;(conv=>arg 2;whnf);refine st ?_)|refine blockK_y (by rfl) ?_|(refine sw ?_;conv=>whnf))|(refine gm ?_;conv=>whnf)|(intro hc;(try dsimp+instances only[Dat,SDat,dflt,Ty.size,keepS,bkUpd,Gv.bk,backS,wayA,maxI,minI,negI]at hc);try simp only[LS]at hc))
   all_goals (try ((fail_if_success refine nl ?_);(try dsimp only[Dat,SDat,dflt,Ty.size,keepS,bkUpd,Gv.bk,backS,wayA,maxI,minI,negI]);(try simp only[LS]);first|done|exact dsc|((try simp only[allP,lo,hi,room,true_and,and_true,implies_true]);(repeat' (first|refine an ?_ ?_|((with_reducible refine preA_t ?_ ?_);rotate_left;exact sameP_t)|intro hv))<;>(try omega))))
   all_goals (first
    |exact ha9.1
    |exact (hbt9 (by omega)).1
    |exact unionL_inc _ _
    |exact hct
    |exact hlt
    |exact ha9.big hF.1
    |exact (hbt9 (by omega)).big hF.1
    |(have h8:=hv8 (by omega);with_reducible exact h8)
    |with_reducible exact hu8
    |exact ⟨v+1,rfl,by omega,hpt (by omega)⟩
    |exact ⟨u+1,rfl,by omega,hput,hen (by omega)⟩
    |omega)
 have hfu:A.take u=A:=List.take_of_length_le (by omega)
 have hfp:pairK A B u 0=pairsU A B:=pairK_full (by omega)
 rw [hfu,hfp]
 clear hput hat hls hcs hbt hfu hfp
 refine w_loop [(24, .d (.sl tIs)),(28, .d tInt)] [] (fun y=>∃ v:Nat,y.1.2.1=(v:Int)∧v≤B.length∧y.1.1=mins (A++B.take v)) (fun y=>B.length - y.1.2.1.toNat) ?_
 conv=>whnf
 refine And.intro ?_ ?_
 · exact ⟨0,rfl,Nat.zero_le _,by rw [List.take_zero,List.append_nil]⟩
 rintro ⟨⟨_,_,⟨⟩⟩,⟨⟩⟩ ⟨v,rfl,hv,hs⟩
 have hs:_=mins (A++B.take v):=hs
 subst hs
 have hbe:BE gs (A++B.take v):=BE.append bA.1 (bB.1.take v)
 have hcs:=mins_canE hbe
 have hls:(mins (A++B.take v)).length≤1000000:=Nat.le_trans (hbe.mins hF.1).2 (by decide)
 have hbt9:=fun (h:v<B.length)=>bB.1.at h
 have hv8:=fun (h:v<B.length)=>show (v:Int)+1≤Gv.hi IntKind.i64 from Int.le_trans (show (v:Int)+1≤65537 by omega) (by decide)
 have hpt:=fun (h:v<B.length)=>show putV (mins (A++B.take v)) (B.getD v [])=mins (A++B.take (v+1)) from by
  rw [putV_flat hbe (hbt9 h),List.append_assoc,List.take_succ_eq_append_getElem h,getD_ok [] h]
 have hen:=fun (h:¬ v<B.length)=>show A++B.take v=A++B from by rw [List.take_of_length_le (by omega)]
 have c1:=(mins_canE (BE.append bA.1 bB.1)).inc
 have c2:=(mins_canE (BE.pairs bA.1 bB.1)).inc
 repeat' (first|refine an ?_ ?_|((try refine gm ?_);first|((with_reducible show Kz _);(try dsimp+instances only);(with_reducible refine kz _ ?_);clear kz Kz)|refine st ?_|(refine sr ?_;intro Kz kz;conv=>whnf)|(refine cd ?_;(conv=>arg 2;whnf);refine st ?_)|refine blockK_y (by rfl) ?_|(refine sw ?_;conv=>whnf))|(refine gm ?_;conv=>whnf)|(intro hc;(try dsimp+instances only[Dat,SDat,dflt,Ty.size,keepS,bkUpd,Gv.bk,backS,wayA,maxI,minI,negI]at hc);try simp only[LS]at hc))
 all_goals (try ((fail_if_success refine nl ?_);(try dsimp only[Dat,SDat,dflt,Ty.size,keepS,bkUpd,Gv.bk,backS,wayA,maxI,minI,negI]);(try simp only[LS]);first|done|exact dsc|((try simp only[allP,lo,hi,room,true_and,and_true,implies_true]);(repeat' (first|refine an ?_ ?_|((with_reducible refine preA_t ?_ ?_);rotate_left;exact sameP_t)|intro hv))<;>(try omega))))
 all_goals (first
  |exact (hbt9 (by omega)).1
  |(have h8:=hv8 (by omega);with_reducible exact h8)
  |exact ⟨v+1,rfl,by omega,hpt (by omega)⟩
  |with_reducible exact c1 _ (by assumption)
  |with_reducible exact c2 _ (by assumption)
  |(have h8:=hen (by omega);rw [h8] at hc;exact hc rfl)
  |(have h8:=hen (by omega);with_reducible exact c1 _ (by rw [← h8];assumption))
  |omega)
theorem ok_z34:SpecOK SP glob fi_z34 S_z34:=mk_ok (c:=c_z34) (tab_ok _) mix_ok wf_z34 (by decide) (.cons ok_z38 (.cons ok_z63 (.cons ok_z51 (.cons ok_z4 (.cons ok_z74 (.cons ok_z76 (.cons ok_z75 .nil))))))) (fun x hx=>Nat.zero_lt_one) g_z34
end Go.Gv
