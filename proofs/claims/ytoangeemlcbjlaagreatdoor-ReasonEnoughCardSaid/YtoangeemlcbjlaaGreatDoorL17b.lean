/- The statements of chapter 17: reasons are enough, and all. -/
import Derived.Test.YtoangeemlcbjlaaGreatDoorL17
set_option linter.all false
namespace Go.Gv
open Go Go.Proofs Go.Proofs.YtoangeemlcbjlaaGreatDoor
set_option maxRecDepth 100000
set_option maxHeartbeats 4000000
theorem less_sub {s:Is} {n:Nat}:sub (List.replicate 0 0++List.drop 0 (List.take n s)++List.drop ((n:Int)+1).toNat (List.take (List.length s) s)) s:=fun x hx=>by
 simp only [List.replicate_zero,List.nil_append,List.drop_zero,List.take_length,List.mem_append] at hx
 rcases hx with hx|hx
 · exact List.mem_of_mem_take hx
 · exact List.mem_of_mem_drop hx
theorem less_not {s:Is} {n:Nat} (hi:Inc s) (h:n<s.length):s.getD n 0 ∉ (List.replicate 0 0++List.drop 0 (List.take n s)++List.drop ((n:Int)+1).toNat (List.take (List.length s) s)):=fun hx=>by
 simp only [List.replicate_zero,List.nil_append,List.drop_zero,List.take_length,List.mem_append,getD_ok 0 h] at hx
 rcases hx with hx|hx
 · obtain ⟨j,hj,e⟩:=List.getElem_of_mem hx
   rw [List.length_take] at hj
   rw [List.getElem_take] at e
   have:=List.pairwise_iff_getElem.1 hi j n (by omega) h (by omega)
   omega
 · obtain ⟨j,hj,e⟩:=List.getElem_of_mem hx
   rw [List.length_drop] at hj
   rw [List.getElem_drop] at e
   have:=List.pairwise_iff_getElem.1 hi n (((n:Int)+1).toNat+j) h (by omega) (by omega)
   omega
theorem less_len {s:Is} {n:Nat} (h:s.length≤16):(List.drop 0 (List.take n s)).length≤16∧(List.drop 0 (List.take n s)).length+(List.drop ((n:Int)+1).toNat (List.take (List.length s) s)).length≤32:=by
 simp only [List.length_drop,List.length_take]
 omega
@[reducible] noncomputable def S_z31:Spec:={ ins:=(.cons (.d tCirc) (.cons (.d (.int .u8)) .nil)),pre:=fun _=>True,alts:=[{ outs:=(.cons (.d .bool) .nil),res:=(fun x=>(fun c raw=>(true,())) x.1 x.2.1)}],noisy:=true}
noncomputable def c_z31:Cf:={ cf_z31 (Fl [(fi_z38,S_z38),(fi_z37,S_z37),(fi_z51,S_z51),(fi_z5,S_z5),(fi_z0,S_z0),(fi_z40,S_z40),(fi_z71,S_z71)]) with nz:=true}
theorem g_z31:∀ x,S_z31.pre x→shOK S_z31.ins x→fnGoal c_z31 fn_z31 S_z31 x:=by
 rintro ⟨⟨gs,⟨⟩⟩,(r:Int),⟨⟩⟩ hpre hok
 clear hpre
 have hln:=shLn_of _ hok;replace hok:=Hd.mk hok;try simp only [shLn,datLn,inRng,lo,hi,maxLen,true_and,and_true] at hln
 have hr0:0≤r:=hln.2.1
 have hlw:=fun q=>lawI (gs:=gs) hr0 q
 first|refine fn_goal (w_head ?_)
 intro Kz kz;(conv=>whnf);(try dsimp+instances only);refine kz _ ?_;clear kz Kz;(conv=>(arg 2;whnf))
 repeat' (first|refine an ?_ ?_|((try refine gm ?_);first|((with_reducible show Kz _);(try dsimp+instances only);(with_reducible refine kz _ ?_);clear kz Kz)|refine st ?_|(refine sr ?_;intro Kz kz;conv=>whnf)|(refine cd ?_;(conv=>arg 2;whnf);refine st ?_)|refine blockK_y (by rfl) ?_|(refine sw ?_;conv=>whnf))|(refine gm ?_;conv=>whnf)|(intro hc;(try dsimp+instances only[Dat,SDat,dflt,Ty.size,keepS,bkUpd,Gv.bk,backS,wayA,maxI,minI,negI]at hc);try simp only[LS]at hc))
 all_goals (try ((fail_if_success refine nl ?_);(try dsimp only[Dat,SDat,dflt,Ty.size,keepS,bkUpd,Gv.bk,backS,wayA,maxI,minI,negI]);(try simp only[LS]);first|done|exact dsc|((try simp only[allP,lo,hi,room,true_and,and_true,implies_true]);(repeat' (first|refine an ?_ ?_|((with_reducible refine preA_t ?_ ?_);rotate_left;exact sameP_t)|intro hv))<;>(try omega))))
 all_goals (try (first
  |exact (hlw (by assumption)).f
  |exact (hlw (by assumption)).rng.1
  |exact (hlw (by assumption)).rng.2
  |exact (hlw (by assumption)).f.small _ (by assumption)
  |(rw [((hlw (by assumption)).bad hc).2];rfl)
  |exact ((hlw (by assumption)).bad (by assumption)).1 (by assumption)))
 have hw:=hlw (by assumption)
 have he:(whyR [] gs (Int.tmod r (List.length gs:Int))).2=0:=by assumption
 rw [hw.val he]
 have hg:=hw.good he
 have hsm:=hw.f.small
 clear he hlw
 obtain ⟨i,hi⟩:∃ i,Int.tmod r (List.length gs:Int)=i:=⟨_,rfl⟩
 rw [hi] at hg ⊢
 obtain ⟨V,hV⟩:∃ V,valR [] gs i.toNat=V:=⟨_,rfl⟩
 have hC:Can V:=by rw [← hV];exact can_is hg
 have h1:∀ s∈V,holdsV gs i (withL s)=true:=fun s hs=>(up_is hg (agr_with fun v=>hadB_nil)).1 (by rw [hV];exact ⟨s,hs,sub_refl s⟩)
 have h2:∀ s∈V,∀ s',sub s' s→∀ x∈s,x ∉ s'→¬ holdsV gs i (withL s')=true:=fun s hs s' h x hx hn=>holds_less hg (by rw [hV];exact hs) h hx hn
 have h3:V.length≤400:=by rw [← hV];exact few_reasons hg.v hw.f.1 hg.nat
 have h4:∀ s∈V,s.length≤16:=fun s hs=>by
  have hb:=whyR_bs (gs:=gs) (i:=i) (h:=[]) hw.f.1
  rw [whyR_few hg hw.f.1] at hb
  have hb:BE gs (valR [] gs i.toNat):=hb.1
  rw [hV] at hb
  exact Nat.le_trans (hb s hs).len hw.f.1
 rw [hV]
 clear hV
 refine w_loop [(9, .d tInt)] [] (fun y=>∃ k:Nat,y.1.1=(k:Int)∧k≤V.length) (fun y=>V.length - y.1.1.toNat) ?_
 conv=>whnf
 refine And.intro ?_ ?_
 · exact ⟨0,rfl,Nat.zero_le _⟩
 rintro ⟨⟨_,⟨⟩⟩,⟨⟩⟩ ⟨k,rfl,hk⟩
 have hm:=fun (h:k<V.length)=>getD_mem (d:=([]:Is)) h
 have hb9:=fun (h:k<V.length) (h0:0<k)=>show bef (V.getD ((k:Int) - 1).toNat []) (V.getD k []) from by
  rw [getD_ok [] h,getD_ok [] (show ((k:Int) - 1).toNat<V.length by omega)]
  exact List.pairwise_iff_getElem.1 hC.ord _ _ (by omega) h (by omega)
 have hk7:(k:Int) - 1≤Gv.hi IntKind.i64:=Int.le_trans (show (k:Int) - 1≤400 by omega) (by decide)
 repeat' (first|refine an ?_ ?_|((try refine gm ?_);first|((with_reducible show Kz _);(try dsimp+instances only);(with_reducible refine kz _ ?_);clear kz Kz)|refine st ?_|(refine sr ?_;intro Kz kz;conv=>whnf)|(refine cd ?_;(conv=>arg 2;whnf);refine st ?_)|refine blockK_y (by rfl) ?_|(refine sw ?_;conv=>whnf))|(refine gm ?_;conv=>whnf)|(intro hc;(try dsimp+instances only[Dat,SDat,dflt,Ty.size,keepS,bkUpd,Gv.bk,backS,wayA,maxI,minI,negI]at hc);try simp only[LS]at hc))
 all_goals (try ((fail_if_success refine nl ?_);(try dsimp only[Dat,SDat,dflt,Ty.size,keepS,bkUpd,Gv.bk,backS,wayA,maxI,minI,negI]);(try simp only[LS]);first|done|exact dsc|((try simp only[allP,lo,hi,room,true_and,and_true,implies_true]);(repeat' (first|refine an ?_ ?_|((with_reducible refine preA_t ?_ ?_);rotate_left;exact sameP_t)|intro hv))<;>(try omega))))
 all_goals (try (first
  |exact hsm _ (by assumption)
  |with_reducible exact hk7
  |(exfalso
    rcases hc with hc|hc
    · rw [h1 _ (hm (by omega))] at hc;cases hc
    · exact hc.2 (hb9 (by omega) (by omega)))))
 have hkV:k<V.length:=by omega
 have hml:=h4 _ (hm hkV)
 have hmi:=hC.inc _ (hm hkV)
 obtain ⟨s,hs⟩:∃ s,V.getD k []=s:=⟨_,rfl⟩
 rw [hs] at hml hmi
 have hsV:s∈V:=by rw [← hs];exact hm hkV
 refine w_loop [(10, .d tInt)] [] (fun y=>∃ n:Nat,y.1.1=(n:Int)∧n≤s.length) (fun y=>s.length - y.1.1.toNat) ?_
 conv=>whnf
 refine And.intro ?_ ?_
 · exact ⟨0,rfl,Nat.zero_le _⟩
 rintro ⟨⟨_,⟨⟩⟩,⟨⟩⟩ ⟨n,rfl,hn⟩
 have hi9:=fun (h:n<s.length) (h0:0<n)=>show s.getD ((n:Int) - 1).toNat 0<s.getD n 0 from by
  rw [getD_ok 0 h,getD_ok 0 (show ((n:Int) - 1).toNat<s.length by omega)]
  exact List.pairwise_iff_getElem.1 hmi _ _ (by omega) h (by omega)
 have hl9:=less_len (n:=n) hml
 have hn7:=fun (h:n<s.length)=>show (n:Int) - 1≤Gv.hi IntKind.i64 from Int.le_trans (show (n:Int) - 1≤16 by omega) (by decide)
 have hn8:=fun (h:n<s.length)=>show (n:Int)+1≤Gv.hi IntKind.i64 from Int.le_trans (show (n:Int)+1≤17 by omega) (by decide)
 have hk8:(k:Int)+1≤Gv.hi IntKind.i64:=Int.le_trans (show (k:Int)+1≤401 by omega) (by decide)
 have hno:=fun (h:n<s.length)=>h2 s hsV (List.replicate 0 0++List.drop 0 (List.take n s)++List.drop ((n:Int)+1).toNat (List.take (List.length s) s)) less_sub _ (getD_mem (d:=(0:Int)) h) (less_not hmi h)
 have hm1:=Int.le_trans (Int.mul_le_mul_of_nonneg_right (Int.ofNat_le.2 hl9.1) (show (0:Int)≤((1 * 64:Nat):Int) by decide)) (show ((16:Nat):Int) * ((1 * 64:Nat):Int)≤140737488355328 by decide)
 have hm2:=Int.le_trans (Int.mul_le_mul_of_nonneg_right (Int.ofNat_le.2 hl9.2) (show (0:Int)≤((1 * 64:Nat):Int) by decide)) (show ((32:Nat):Int) * ((1 * 64:Nat):Int)≤140737488355328 by decide)
 repeat' (first|refine an ?_ ?_|((try refine gm ?_);first|((with_reducible show Kz _);(try dsimp+instances only);(with_reducible refine kz _ ?_);clear kz Kz)|refine st ?_|(refine sr ?_;intro Kz kz;conv=>whnf)|(refine cd ?_;(conv=>arg 2;whnf);refine st ?_)|refine blockK_y (by rfl) ?_|(refine sw ?_;conv=>whnf))|(refine gm ?_;conv=>whnf)|(intro hc;(try dsimp+instances only[Dat,SDat,dflt,Ty.size,keepS,bkUpd,Gv.bk,backS,wayA,maxI,minI,negI]at hc);try simp only[LS]at hc))
 all_goals (try ((fail_if_success refine nl ?_);(try dsimp only[Dat,SDat,dflt,Ty.size,keepS,bkUpd,Gv.bk,backS,wayA,maxI,minI,negI]);(try simp only[LS]);first|done|exact dsc|((try simp only[allP,lo,hi,room,true_and,and_true,implies_true]);(repeat' (first|refine an ?_ ?_|((with_reducible refine preA_t ?_ ?_);rotate_left;exact sameP_t)|intro hv))<;>(try omega))))
 all_goals (try ((fail_if_success refine nl ?_);(try simp only [hs])))
 all_goals (try simp only [hs] at *)
 all_goals (first
  |exact hsm _ (by assumption)
  |with_reducible exact hm1
  |with_reducible exact hm2
  |with_reducible exact hn7 (by omega)
  |with_reducible exact hn8 (by omega)
  |with_reducible exact hk8
  |exact ⟨n+1,rfl,by omega⟩
  |exact ⟨k+1,rfl,by omega⟩
  |(exfalso;exact hno (by omega) hc)
  |(exfalso;have:=hi9 (by omega) (by omega);omega)
  |omega)
theorem ok_z31:SpecOK SP glob fi_z31 S_z31:=mk_ok (c:=c_z31) (tab_ok _) mix_ok wf_z31 (by decide) (.cons ok_z38 (.cons ok_z37 (.cons ok_z51 (.cons ok_z5 (.cons ok_z0 (.cons ok_z40 (.cons ok_z71 .nil))))))) (fun x hx=>Nat.zero_lt_one) g_z31
end Go.Gv
