/- Chapter 17: the reference: sets. -/
import Derived.Test.YtoangeemlcbjlaaGreatDoorC17b
import Derived.Test.YtoangeemlcbjlaaGreatDoorR17a
set_option linter.all false
namespace Go.Gv
open Go Go.Proofs Go.Proofs.YtoangeemlcbjlaaGreatDoor
set_option maxRecDepth 100000
set_option maxHeartbeats 4000000
structure Wth (a b:Is) (i k:Nat):Prop where
 il:i≤a.length
 kl:k≤b.length
 ok:∀ x∈a.take i,x∈b
 lt:∀ j m,j<k→i≤m→m<a.length→b.getD j 0<a.getD m 0
theorem Wth.start (a b:Is):Wth a b 0 0:=⟨Nat.zero_le _,Nat.zero_le _,(fun x h=>by cases h),fun j m h=>by omega⟩
theorem Wth.up {a b:Is} {i k:Nat} (ha:Inc a) (h:Wth a b i k) (hi:i<a.length) (hk:k<b.length) (q:b.getD k 0<a.getD i 0):Wth a b i (k+1):=
 ⟨h.il,hk,h.ok,fun j m hj hm hl=>by
  rcases Nat.lt_or_ge j k with e|e
  · exact h.lt j m e hm hl
  · have:j=k:=by omega
    subst this
    exact Int.lt_of_lt_of_le q (inc_at ha hm hl)⟩
theorem Wth.next {a b:Is} {i k:Nat} (h:Wth a b i k) (hi:i<a.length) (hk:k<b.length) (q:b.getD k 0=a.getD i 0):Wth a b (i+1) k:=
 ⟨hi,h.kl,all_step (p:=fun x=>x∈b) (d:=(0:Int)) h.ok hi (by rw [← q];exact getD_mem hk),fun j m hj hm hl=>h.lt j m hj (by omega) hl⟩
theorem Wth.no {a b:Is} {i k:Nat} (hb:Inc b) (h:Wth a b i k) (hi:i<a.length) (q:¬ (k<b.length∧b.getD k 0<a.getD i 0)) (p:b.length≤k∨¬ b.getD k 0=a.getD i 0):¬ sub a b:=fun hs=>by
 obtain ⟨j,hj,e⟩:=List.getElem_of_mem (hs _ (getD_mem (d:=(0:Int)) hi))
 have e:b.getD j 0=a.getD i 0:=by rw [getD_ok 0 hj,e]
 rcases Nat.lt_or_ge j k with x|x
 · have:=h.lt j i x (Nat.le_refl _) hi
   omega
 · have h1:=inc_at hb x hj
   have h2:k<b.length:=by omega
   rcases p with p|p
   · omega
   · have:¬ b.getD k 0<a.getD i 0:=fun y=>q ⟨h2,y⟩
     omega
theorem Wth.full {a b:Is} {i k:Nat} (h:Wth a b i k) (hi:a.length≤i):sub a b:=all_end h.ok hi
@[reducible] noncomputable def S_z79:Spec:={ ins:=(.cons (.d (.sl tInt)) (.cons (.d (.sl tInt)) .nil)),pre:=(fun x=>(fun a b=>Inc a∧Inc b) x.1 x.2.1),alts:=[{ outs:=(.cons (.d .bool) .nil),res:=(fun x=>(fun a b=>(boolOf (sub a b),())) x.1 x.2.1)}],noisy:=true}
noncomputable def c_z79:Cf:={ cf_z79 (Fl []) with nz:=true}
theorem g_z79:∀ x,S_z79.pre x→shOK S_z79.ins x→fnGoal c_z79 fn_z79 S_z79 x:=by
 rintro ⟨(a:Is),(b:Is),⟨⟩⟩ hpre hok
 try dsimp only [Dat,SDat,dflt,Ty.size,keepS,bkUpd,Gv.bk,backS,wayA,maxI,minI,negI] at hpre
 have hln:=shLn_of _ hok;replace hok:=Hd.mk hok;try simp only [shLn,datLn,inRng,lo,hi,maxLen,true_and,and_true] at hln
 obtain ⟨ha,hb⟩:=hpre
 have ha:Inc a:=ha
 have hb:Inc b:=hb
 have hal:List.length a≤2 ^ 63 - 1:=hln.1
 have hbl:List.length b≤2 ^ 63 - 1:=hln.2
 first|refine fn_goal (w_head ?_)
 intro Kz kz;(conv=>whnf);(try dsimp+instances only);refine kz _ ?_;clear kz Kz;(conv=>(arg 2;whnf))
 repeat' (first|refine an ?_ ?_|((try refine gm ?_);first|((with_reducible show Kz _);(try dsimp+instances only);(with_reducible refine kz _ ?_);clear kz Kz)|refine st ?_|(refine sr ?_;intro Kz kz;conv=>whnf)|(refine cd ?_;(conv=>arg 2;whnf);refine st ?_)|refine blockK_y (by rfl) ?_|(refine sw ?_;conv=>whnf))|(refine gm ?_;conv=>whnf)|(intro hc;(try dsimp+instances only[Dat,SDat,dflt,Ty.size,keepS,bkUpd,Gv.bk,backS,wayA,maxI,minI,negI]at hc);try simp only[LS]at hc))
 all_goals (try ((fail_if_success refine nl ?_);(try dsimp only[Dat,SDat,dflt,Ty.size,keepS,bkUpd,Gv.bk,backS,wayA,maxI,minI,negI]);(try simp only[LS]);first|done|exact dsc|((try simp only[allP,lo,hi,room,true_and,and_true,implies_true]);(repeat' (first|refine an ?_ ?_|((with_reducible refine preA_t ?_ ?_);rotate_left;exact sameP_t)|intro hv))<;>(try omega))))
 refine w_loop [(5, .d tInt),(6, .d tInt)] [] (fun y=>∃ i k:Nat,y.1.1=(k:Int)∧y.1.2.1=(i:Int)∧Wth a b i k) (fun y=>a.length - y.1.2.1.toNat) ?_
 conv=>whnf
 refine And.intro ?_ ?_
 · exact ⟨0,0,rfl,rfl,Wth.start a b⟩
 rintro ⟨⟨_,_,⟨⟩⟩,⟨⟩⟩ ⟨i,k,rfl,rfl,hW⟩
 have hil:=hW.il
 have hkl:=hW.kl
 repeat' (first|refine an ?_ ?_|((try refine gm ?_);first|((with_reducible show Kz _);(try dsimp+instances only);(with_reducible refine kz _ ?_);clear kz Kz)|refine st ?_|(refine sr ?_;intro Kz kz;conv=>whnf)|(refine cd ?_;(conv=>arg 2;whnf);refine st ?_)|refine blockK_y (by rfl) ?_|(refine sw ?_;conv=>whnf))|(refine gm ?_;conv=>whnf)|(intro hc;(try dsimp+instances only[Dat,SDat,dflt,Ty.size,keepS,bkUpd,Gv.bk,backS,wayA,maxI,minI,negI]at hc);try simp only[LS]at hc))
 all_goals (try ((fail_if_success refine nl ?_);(try dsimp only[Dat,SDat,dflt,Ty.size,keepS,bkUpd,Gv.bk,backS,wayA,maxI,minI,negI]);(try simp only[LS]);first|done|exact dsc|((try simp only[allP,lo,hi,room,true_and,and_true,implies_true]);(repeat' (first|refine an ?_ ?_|((with_reducible refine preA_t ?_ ?_);rotate_left;exact sameP_t)|intro hv))<;>(try omega))))
 · refine w_loop [(5, .d tInt)] [] (fun y=>∃ k:Nat,y.1.1=(k:Int)∧Wth a b i k) (fun y=>b.length - y.1.1.toNat) ?_
   conv=>whnf
   refine And.intro ?_ ?_
   · exact ⟨k,rfl,hW⟩
   rintro ⟨⟨_,⟨⟩⟩,⟨⟩⟩ ⟨k1,rfl,hV⟩
   have hkl1:=hV.kl
   have hno:=fun (h:i<a.length) (q:¬ ((k1:Int)<(a.length:Int)∧False)→¬ ((k1:Int)<(b.length:Int)∧b.getD k1 0<a.getD i 0)) (p:(b.length:Int)≤(k1:Int)∨¬ b.getD k1 0=a.getD i 0)=>show ¬ sub a b from hV.no hb h (fun z=>q (fun y=>y.2) ⟨by omega,z.2⟩) (p.imp (fun z=>by omega) id)
   have hnx:=fun (h:i<a.length) (p:¬ ((b.length:Int)≤(k1:Int)∨¬ b.getD k1 0=a.getD i 0))=>show Wth a b (i+1) k1 from hV.next h (by omega) (Classical.byContradiction fun z=>p (.inr z))
   repeat' (first|refine an ?_ ?_|((try refine gm ?_);first|((with_reducible show Kz _);(try dsimp+instances only);(with_reducible refine kz _ ?_);clear kz Kz)|refine st ?_|(refine sr ?_;intro Kz kz;conv=>whnf)|(refine cd ?_;(conv=>arg 2;whnf);refine st ?_)|refine blockK_y (by rfl) ?_|(refine sw ?_;conv=>whnf))|(refine gm ?_;conv=>whnf)|(intro hc;(try dsimp+instances only[Dat,SDat,dflt,Ty.size,keepS,bkUpd,Gv.bk,backS,wayA,maxI,minI,negI]at hc);try simp only[LS]at hc))
   all_goals (try ((fail_if_success refine nl ?_);(try dsimp only[Dat,SDat,dflt,Ty.size,keepS,bkUpd,Gv.bk,backS,wayA,maxI,minI,negI]);(try simp only[LS]);first|done|exact dsc|((try simp only[allP,lo,hi,room,true_and,and_true,implies_true]);(repeat' (first|refine an ?_ ?_|((with_reducible refine preA_t ?_ ?_);rotate_left;exact sameP_t)|intro hv))<;>(try omega))))
   all_goals (first
    |exact ⟨k1+1,rfl,hV.up ha (by omega) (by omega) hc.2⟩
    |exact bF (hno (by omega) (fun _=>by assumption) (by assumption))
    |exact ⟨i+1,k1,rfl,rfl,hnx (by omega) (by assumption)⟩)
 · exact bT (hW.full (by omega))
theorem ok_z79:SpecOK SP glob fi_z79 S_z79:=mk_ok (c:=c_z79) (tab_ok _) mix_ok wf_z79 (by decide) .nil (fun x hx=>Nat.zero_lt_one) g_z79
theorem cons_of {l:Is} (h:0<l.length):l=l.getD 0 0::l.drop 1:=by
 cases l with
 |nil=>cases h
 |cons x l=>rfl
theorem union_comm (a b:Is):unionL a b=unionL b a:=unionL_uniq (unionL_inc a b) fun x=>by rw [unionL_mem];exact Or.comm
theorem union_a {a b:Is} (ha:Inc a) (hb:Inc b) (h0:0<a.length) (hc:∀ y∈b,a.getD 0 0<y):unionL a b=a.getD 0 0::unionL (a.drop 1) b:=by
 have e:=cons_of h0
 have hi:Inc (a.getD 0 0::a.drop 1):=by rw [← e];exact ha
 have hi:=List.pairwise_cons.1 hi
 refine (unionL_uniq (List.pairwise_cons.2 ⟨fun y hy=>?_,unionL_inc _ _⟩) fun x=>?_).symm
 · rcases unionL_mem.1 hy with q|q
   · exact hi.1 y q
   · exact hc y q
 · rw [List.mem_cons,unionL_mem,← or_assoc,← List.mem_cons,← e]
theorem union_b {a b:Is} (ha:Inc a) (hb:Inc b) (h0:0<b.length) (hc:∀ y∈a,b.getD 0 0<y):unionL a b=b.getD 0 0::unionL a (b.drop 1):=by
 rw [union_comm a b,union_a hb ha h0 hc,union_comm]
theorem union_e {a b:Is} (ha:Inc a) (hb:Inc b) (h0:0<a.length) (h1:0<b.length) (hc:a.getD 0 0=b.getD 0 0):unionL a b=a.getD 0 0::unionL (a.drop 1) (b.drop 1):=by
 have e:=cons_of h0
 have e1:=cons_of h1
 have hi:Inc (a.getD 0 0::a.drop 1):=by rw [← e];exact ha
 have hi:=List.pairwise_cons.1 hi
 have hj:Inc (b.getD 0 0::b.drop 1):=by rw [← e1];exact hb
 have hj:=List.pairwise_cons.1 hj
 refine (unionL_uniq (List.pairwise_cons.2 ⟨fun y hy=>?_,unionL_inc _ _⟩) fun x=>?_).symm
 · rcases unionL_mem.1 hy with q|q
   · exact hi.1 y q
   · rw [hc];exact hj.1 y q
 · rw [List.mem_cons,unionL_mem]
   have m1:x∈a↔x=a.getD 0 0∨x∈a.drop 1:=(show x∈a↔x∈a.getD 0 0::a.drop 1 by rw [← e]).trans List.mem_cons
   have m2:x∈b↔x=b.getD 0 0∨x∈b.drop 1:=(show x∈b↔x∈b.getD 0 0::b.drop 1 by rw [← e1]).trans List.mem_cons
   rw [m1,m2,← hc]
   grind
structure UniI (a b out x y:Is):Prop where
 ix:Inc x
 iy:Inc y
 eq:unionL a b=out++unionL x y
 ln:out.length+x.length+y.length≤a.length+b.length
theorem inc_drop {l:Is} (h:Inc l) (n:Nat):Inc (l.drop n):=h.sublist (List.drop_sublist n l)
theorem inc_gt {l:Is} (h:Inc l) {z:Int} (hz:l.length=0∨z<l.getD 0 0):∀ y∈l,z<y:=fun y hy=>by
 obtain ⟨j,hj,e⟩:=List.getElem_of_mem hy
 have:=inc_at h (Nat.zero_le j) hj
 rw [getD_ok 0 hj,e] at this
 omega
theorem UniI.a {a b out x y:Is} (h:UniI a b out x y) (h0:0<x.length) (hc:y.length=0∨x.getD 0 0<y.getD 0 0):UniI a b (out++[x.getD 0 0]) (x.drop 1) y:=
 ⟨inc_drop h.ix 1,h.iy,by rw [h.eq,union_a h.ix h.iy h0 (inc_gt h.iy hc),List.append_assoc];rfl,by have:=h.ln;rw [List.length_append,List.length_drop];simp only [List.length_singleton];omega⟩
theorem UniI.b {a b out x y:Is} (h:UniI a b out x y) (h0:0<y.length) (hc:x.length=0∨y.getD 0 0<x.getD 0 0):UniI a b (out++[y.getD 0 0]) x (y.drop 1):=
 ⟨h.ix,inc_drop h.iy 1,by rw [h.eq,union_b h.ix h.iy h0 (inc_gt h.ix hc),List.append_assoc];rfl,by have:=h.ln;rw [List.length_append,List.length_drop];simp only [List.length_singleton];omega⟩
theorem UniI.e {a b out x y:Is} (h:UniI a b out x y) (h0:0<x.length) (h1:0<y.length) (hc:x.getD 0 0=y.getD 0 0):UniI a b (out++[x.getD 0 0]) (x.drop 1) (y.drop 1):=
 ⟨inc_drop h.ix 1,inc_drop h.iy 1,by rw [h.eq,union_e h.ix h.iy h0 h1 hc,List.append_assoc];rfl,by have:=h.ln;rw [List.length_append,List.length_drop,List.length_drop];simp only [List.length_singleton];omega⟩
theorem UniI.full {a b out x y:Is} (h:UniI a b out x y) (h0:x.length=0) (h1:y.length=0):out=unionL a b:=by
 have e0:=List.eq_nil_of_length_eq_zero h0
 have e1:=List.eq_nil_of_length_eq_zero h1
 have:=h.eq
 rw [e0,e1,← unionL_uniq (a:=[]) (b:=[]) inc_nil (fun x=>by simp),List.append_nil] at this
 exact this.symm
@[reducible] noncomputable def S_z76:Spec:={ ins:=(.cons (.d (.sl tInt)) (.cons (.d (.sl tInt)) .nil)),pre:=(fun x=>(fun a b=>Inc a∧Inc b∧List.length a≤1000000∧List.length b≤1000000) x.1 x.2.1),alts:=[{ outs:=(.cons (.row tInt) .nil),res:=(fun x=>(fun a b=>(unionL a b,())) x.1 x.2.1)}],noisy:=true}
noncomputable def c_z76:Cf:={ cf_z76 (Fl []) with E:={ (cf_z76 (Fl [])).E with rows:=[6]},nz:=true}
theorem g_z76:∀ x,S_z76.pre x→shOK S_z76.ins x→fnGoal c_z76 fn_z76 S_z76 x:=by
 rintro ⟨(a:Is),(b:Is),⟨⟩⟩ hpre hok
 try dsimp only [Dat,SDat,dflt,Ty.size,keepS,bkUpd,Gv.bk,backS,wayA,maxI,minI,negI] at hpre
 have hln:=shLn_of _ hok;replace hok:=Hd.mk hok;try simp only [shLn,datLn,inRng,lo,hi,maxLen,true_and,and_true] at hln
 obtain ⟨ha,hb,hal,hbl⟩:=hpre
 have ha:Inc a:=ha
 have hb:Inc b:=hb
 first|refine fn_goal (w_head ?_)
 intro Kz kz;(conv=>whnf);(try dsimp+instances only);refine kz _ ?_;clear kz Kz;(conv=>(arg 2;whnf))
 repeat' (first|refine an ?_ ?_|((try refine gm ?_);first|((with_reducible show Kz _);(try dsimp+instances only);(with_reducible refine kz _ ?_);clear kz Kz)|refine st ?_|(refine sr ?_;intro Kz kz;conv=>whnf)|(refine cd ?_;(conv=>arg 2;whnf);refine st ?_)|refine blockK_y (by rfl) ?_|(refine sw ?_;conv=>whnf))|(refine gm ?_;conv=>whnf)|(intro hc;(try dsimp+instances only[Dat,SDat,dflt,Ty.size,keepS,bkUpd,Gv.bk,backS,wayA,maxI,minI,negI]at hc);try simp only[LS]at hc))
 all_goals (try ((fail_if_success refine nl ?_);(try dsimp only[Dat,SDat,dflt,Ty.size,keepS,bkUpd,Gv.bk,backS,wayA,maxI,minI,negI]);(try simp only[LS]);first|done|exact dsc|((try simp only[allP,lo,hi,room,true_and,and_true,implies_true]);(repeat' (first|refine an ?_ ?_|((with_reducible refine preA_t ?_ ?_);rotate_left;exact sameP_t)|intro hv))<;>(try omega))))
 refine w_loop [(0, .d (.sl tInt)),(1, .d (.sl tInt)),(5, .row tInt)] [] (fun y=>UniI a b y.1.2.2.1 y.1.1 y.1.2.1) (fun y=>List.length y.1.1+List.length y.1.2.1) ?_
 conv=>whnf
 refine And.intro ?_ ?_
 · exact ⟨ha,hb,rfl,by simp⟩
 rintro ⟨⟨(x:Is),(y:Is),(ou:Is),⟨⟩⟩,⟨⟩⟩ hU
 have hU:UniI a b ou x y:=hU
 have hul:=hU.ln
 repeat' (first|refine an ?_ ?_|((try refine gm ?_);first|((with_reducible show Kz _);(try dsimp+instances only);(with_reducible refine kz _ ?_);clear kz Kz)|refine st ?_|(refine sr ?_;intro Kz kz;conv=>whnf)|(refine cd ?_;(conv=>arg 2;whnf);refine st ?_)|refine blockK_y (by rfl) ?_|(refine sw ?_;conv=>whnf))|(refine gm ?_;conv=>whnf)|(intro hc;(try dsimp+instances only[Dat,SDat,dflt,Ty.size,keepS,bkUpd,Gv.bk,backS,wayA,maxI,minI,negI]at hc);try simp only[LS]at hc))
 all_goals (try ((fail_if_success refine nl ?_);(try dsimp only[Dat,SDat,dflt,Ty.size,keepS,bkUpd,Gv.bk,backS,wayA,maxI,minI,negI]);(try simp only[LS]);first|done|exact dsc|((try simp only[allP,lo,hi,room,true_and,and_true,implies_true]);(repeat' (first|refine an ?_ ?_|((with_reducible refine preA_t ?_ ?_);rotate_left;exact sameP_t)|intro hv))<;>(try omega))))
 all_goals (try ((fail_if_success refine nl ?_);simp only [List.take_length]))
 all_goals (first
  |exact hU.full (by omega) (by omega)
  |exact hU.e (by omega) (by omega) hc.2
  |exact hU.a (by omega) (by omega)
  |exact hU.b (by omega) (by omega)
  |(simp only [List.length_drop];omega))
theorem ok_z76:SpecOK SP glob fi_z76 S_z76:=mk_ok (c:=c_z76) (tab_ok _) mix_ok wf_z76 (by decide) .nil (fun x hx=>Nat.zero_lt_one) g_z76
theorem bef_len_ne {a b:Is} (h:¬ (a.length:Int)=b.length):bef a b↔(a.length:Int)<b.length:=by
 unfold bef ordL
 rw [if_neg (fun q=>h (cmpI_z.1 q)),cmpI_lt]
theorem bef_len_eq {a b:Is} (h:(a.length:Int)=b.length):bef a b↔cmpL a b<0:=by
 unfold bef ordL
 rw [if_pos (cmpI_z.2 h)]
@[reducible] noncomputable def S_z71:Spec:={ ins:=(.cons (.d (.sl tInt)) (.cons (.d (.sl tInt)) .nil)),pre:=fun _=>True,alts:=[{ outs:=(.cons (.d .bool) .nil),res:=(fun x=>(fun a b=>(boolOf (bef a b),())) x.1 x.2.1)}],noisy:=true}
noncomputable def c_z71:Cf:={ cf_z71 (Fl []) with nz:=true}
theorem g_z71:∀ x,S_z71.pre x→shOK S_z71.ins x→fnGoal c_z71 fn_z71 S_z71 x:=by
 rintro ⟨(a:Is),(b:Is),⟨⟩⟩ hpre hok
 clear hpre
 have hln:=shLn_of _ hok;replace hok:=Hd.mk hok;try simp only [shLn,datLn,inRng,lo,hi,maxLen,true_and,and_true] at hln
 first|refine fn_goal (w_head ?_)
 intro Kz kz;(conv=>whnf);(try dsimp+instances only);refine kz _ ?_;clear kz Kz;(conv=>(arg 2;whnf))
 repeat' (first|refine an ?_ ?_|((try refine gm ?_);first|((with_reducible show Kz _);(try dsimp+instances only);(with_reducible refine kz _ ?_);clear kz Kz)|refine st ?_|(refine sr ?_;intro Kz kz;conv=>whnf)|(refine cd ?_;(conv=>arg 2;whnf);refine st ?_)|refine blockK_y (by rfl) ?_|(refine sw ?_;conv=>whnf))|(refine gm ?_;conv=>whnf)|(intro hc;(try dsimp+instances only[Dat,SDat,dflt,Ty.size,keepS,bkUpd,Gv.bk,backS,wayA,maxI,minI,negI]at hc);try simp only[LS]at hc))
 all_goals (try ((fail_if_success refine nl ?_);(try dsimp only[Dat,SDat,dflt,Ty.size,keepS,bkUpd,Gv.bk,backS,wayA,maxI,minI,negI]);(try simp only[LS]);first|done|exact dsc|((try simp only[allP,lo,hi,room,true_and,and_true,implies_true]);(repeat' (first|refine an ?_ ?_|((with_reducible refine preA_t ?_ ?_);rotate_left;exact sameP_t)|intro hv))<;>(try omega))))
 · rename ¬ (_:Int)=_=>hq
   exact bC (bef_len_ne hq).symm
 have hq:(List.length a:Int)=List.length b:=by assumption
 refine w_loop [(5, .d tInt)] [] (fun y=>∃ k:Nat,y.1.1=(k:Int)∧k≤a.length∧cmpL a b=cmpL (a.drop k) (b.drop k)) (fun y=>a.length - y.1.1.toNat) ?_
 conv=>whnf
 refine And.intro ?_ ?_
 · exact ⟨0,rfl,Nat.zero_le _,rfl⟩
 rintro ⟨⟨_,⟨⟩⟩,⟨⟩⟩ ⟨k,rfl,hk,hj⟩
 have h2:=fun (h:(k:Int)<(a.length:Int))=>show cmpL a b=if cmpI (List.getD a k 0) (List.getD b k 0)=0 then cmpL (a.drop (k+1)) (b.drop (k+1)) else cmpI (List.getD a k 0) (List.getD b k 0) from by
  rw [hj,List.drop_eq_getElem_cons (show k<a.length by omega),List.drop_eq_getElem_cons (show k<b.length by omega),getD_ok 0 (show k<a.length by omega),getD_ok 0 (show k<b.length by omega)];rfl
 have h3:=fun (h:¬ (k:Int)<(a.length:Int))=>show ¬ bef a b from by
  rw [bef_len_eq hq,hj,List.drop_eq_nil_of_le (show a.length≤k by omega),List.drop_eq_nil_of_le (show b.length≤k by omega)]
  exact Int.lt_irrefl 0
 have h4:=fun (h:(k:Int)<(a.length:Int)) (q:¬ List.getD a k 0=List.getD b k 0)=>show List.getD a k 0<List.getD b k 0↔bef a b from by
  rw [bef_len_eq hq,h2 h,if_neg (fun z=>q (cmpI_z.1 z)),cmpI_lt]
 repeat' (first|refine an ?_ ?_|((try refine gm ?_);first|((with_reducible show Kz _);(try dsimp+instances only);(with_reducible refine kz _ ?_);clear kz Kz)|refine st ?_|(refine sr ?_;intro Kz kz;conv=>whnf)|(refine cd ?_;(conv=>arg 2;whnf);refine st ?_)|refine blockK_y (by rfl) ?_|(refine sw ?_;conv=>whnf))|(refine gm ?_;conv=>whnf)|(intro hc;(try dsimp+instances only[Dat,SDat,dflt,Ty.size,keepS,bkUpd,Gv.bk,backS,wayA,maxI,minI,negI]at hc);try simp only[LS]at hc))
 all_goals (try ((fail_if_success refine nl ?_);(try dsimp only[Dat,SDat,dflt,Ty.size,keepS,bkUpd,Gv.bk,backS,wayA,maxI,minI,negI]);(try simp only[LS]);first|done|exact dsc|((try simp only[allP,lo,hi,room,true_and,and_true,implies_true]);(repeat' (first|refine an ?_ ?_|((with_reducible refine preA_t ?_ ?_);rotate_left;exact sameP_t)|intro hv))<;>(try omega))))
 all_goals (first
  |exact bF (h3 (by omega))
  |exact bC (h4 (by omega) (by assumption))
  |exact ⟨k+1,rfl,by omega,by rw [h2 (by omega),if_pos (cmpI_z.2 (Classical.not_not.1 (by assumption)))]⟩
  |exact ⟨k+1,rfl,by omega,by rw [h2 (by omega),if_pos (cmpI_z.2 (by assumption))]⟩)
theorem ok_z71:SpecOK SP glob fi_z71 S_z71:=mk_ok (c:=c_z71) (tab_ok _) mix_ok wf_z71 (by decide) .nil (fun x hx=>Nat.zero_lt_one) g_z71
@[reducible] noncomputable def S_z74:Spec:={ ins:=(.cons (.d (.sl tIs)) (.cons (.d tIs) .nil)),pre:=(fun x=>(fun l s=>Can l∧Inc s∧List.length l≤1000000) x.1 x.2.1),alts:=[{ outs:=(.cons (.d (.sl tIs)) .nil),res:=(fun x=>(fun l s=>(putV l s,())) x.1 x.2.1)}],noisy:=true}
noncomputable def c_z74:Cf:={ cf_z74 (Fl [(fi_z79,S_z79),(fi_z71,S_z71)]) with nz:=true}
theorem g_z74:∀ x,S_z74.pre x→shOK S_z74.ins x→fnGoal c_z74 fn_z74 S_z74 x:=by
 rintro ⟨(l:List Is),(s:Is),⟨⟩⟩ hpre hok
 try dsimp only [Dat,SDat,dflt,Ty.size,keepS,bkUpd,Gv.bk,backS,wayA,maxI,minI,negI] at hpre
 have hln:=shLn_of _ hok;replace hok:=Hd.mk hok;try simp only [shLn,datLn,inRng,lo,hi,maxLen,true_and,and_true] at hln
 obtain ⟨hC,hs,hl⟩:=hpre
 have hC:Can l:=hC
 have hs:Inc s:=hs
 have hl:List.length l≤1000000:=hl
 have hin:=fun (k:Nat) (h:k<l.length)=>hC.inc _ (getD_mem (d:=([]:Is)) h)
 first|refine fn_goal (w_head ?_)
 intro Kz kz;(conv=>whnf);(try dsimp+instances only);refine kz _ ?_;clear kz Kz;(conv=>(arg 2;whnf))
 repeat' (first|refine an ?_ ?_|((try refine gm ?_);first|((with_reducible show Kz _);(try dsimp+instances only);(with_reducible refine kz _ ?_);clear kz Kz)|refine st ?_|(refine sr ?_;intro Kz kz;conv=>whnf)|(refine cd ?_;(conv=>arg 2;whnf);refine st ?_)|refine blockK_y (by rfl) ?_|(refine sw ?_;conv=>whnf))|(refine gm ?_;conv=>whnf)|(intro hc;(try dsimp+instances only[Dat,SDat,dflt,Ty.size,keepS,bkUpd,Gv.bk,backS,wayA,maxI,minI,negI]at hc);try simp only[LS]at hc))
 all_goals (try ((fail_if_success refine nl ?_);(try dsimp only[Dat,SDat,dflt,Ty.size,keepS,bkUpd,Gv.bk,backS,wayA,maxI,minI,negI]);(try simp only[LS]);first|done|exact dsc|((try simp only[allP,lo,hi,room,true_and,and_true,implies_true]);(repeat' (first|refine an ?_ ?_|((with_reducible refine preA_t ?_ ?_);rotate_left;exact sameP_t)|intro hv))<;>(try omega))))
 refine w_loop [(5, .row tIs),(6, .d .bool),(7, .d tInt)] [] (fun y=>∃ k:Nat,y.1.2.2.1=(k:Int)∧k≤l.length∧(∀ t∈l.take k,¬ sub t s)∧(y.1.1:List Is)++putL s (l.drop k) y.1.2.1=putL s l false∧List.length y.1.1≤2 * k) (fun y=>l.length - y.1.2.2.1.toNat) ?_
 conv=>whnf
 refine And.intro ?_ ?_
 · exact ⟨0,rfl,Nat.zero_le _,(by simp),rfl,Nat.le_refl _⟩
 rintro ⟨⟨(ou:List Is),(dn:Bool),_,⟨⟩⟩,⟨⟩⟩ ⟨k,rfl,hk,hno,hou,hol⟩
 have hou:ou++putL s (l.drop k) dn=putL s l false:=hou
 have hol:ou.length≤2 * k:=hol
 have hdr:=fun (h:k<l.length)=>show l.drop k=l.getD k []::l.drop (k+1) from by rw [List.drop_eq_getElem_cons h,getD_ok [] h]
 have hnx:=fun (h:k<l.length) (q:¬ sub (l.getD k []) s)=>all_step (p:=fun t=>¬ sub t s) (d:=([]:Is)) hno h q
 have hyes:=fun (h:k<l.length) (q:sub (l.getD k []) s)=>(putV_in hC hs (getD_mem (d:=([]:Is)) h) q)
 have hend:=fun (h:¬ k<l.length)=>show putV l s=ou++(if dn=true then [] else [s]) from by
  rw [putV_new hC hs (all_end hno (by omega)),← hou,List.drop_eq_nil_of_le (by omega)];rfl
 have e1:=fun (h:k<l.length) (q:sub s (l.getD k []))=>show ou++putL s (l.drop (k+1)) dn=putL s l false from by
  rw [← hou,hdr h];conv=>rhs;unfold putL
  rw [if_pos q]
 have e2:=fun (h:k<l.length) (q:¬ sub s (l.getD k [])) (p:dn=false∧bef s (l.getD k []))=>show ou++[s]++[l.getD k []]++putL s (l.drop (k+1)) true=putL s l false from by
  rw [← hou,hdr h];conv=>rhs;unfold putL
  rw [if_neg q,if_pos p];simp
 have e3:=fun (h:k<l.length) (q:¬ sub s (l.getD k [])) (p:¬ (dn=false∧bef s (l.getD k [])))=>show ou++[l.getD k []]++putL s (l.drop (k+1)) dn=putL s l false from by
  rw [← hou,hdr h];conv=>rhs;unfold putL
  rw [if_neg q,if_neg p];simp
 clear hou
 repeat' (first|refine an ?_ ?_|((try refine gm ?_);first|((with_reducible show Kz _);(try dsimp+instances only);(with_reducible refine kz _ ?_);clear kz Kz)|refine st ?_|(refine sr ?_;intro Kz kz;conv=>whnf)|(refine cd ?_;(conv=>arg 2;whnf);refine st ?_)|refine blockK_y (by rfl) ?_|(refine sw ?_;conv=>whnf))|(refine gm ?_;conv=>whnf)|(intro hc;(try dsimp+instances only[Dat,SDat,dflt,Ty.size,keepS,bkUpd,Gv.bk,backS,wayA,maxI,minI,negI]at hc);try simp only[LS]at hc))
 all_goals (try ((fail_if_success refine nl ?_);(try dsimp only[Dat,SDat,dflt,Ty.size,keepS,bkUpd,Gv.bk,backS,wayA,maxI,minI,negI]);(try simp only[LS]);first|done|exact dsc|((try simp only[allP,lo,hi,room,true_and,and_true,implies_true]);(repeat' (first|refine an ?_ ?_|((with_reducible refine preA_t ?_ ?_);rotate_left;exact sameP_t)|intro hv))<;>(try omega))))
 all_goals (first
  |exact hin k (by omega)
  |exact (hyes (by omega) (by assumption)).symm
  |exact ⟨k+1,rfl,by omega,hnx (by omega) (by assumption),e1 (by omega) (by assumption),by omega⟩
  |exact ⟨k+1,rfl,by omega,hnx (by omega) (by assumption),e2 (by omega) (by assumption) (by assumption),by omega⟩
  |exact ⟨k+1,rfl,by omega,hnx (by omega) (by assumption),e3 (by omega) (by assumption) (by assumption),by omega⟩
  |(rw [hend (by omega),if_neg (by rw [hc];simp)];done)
  |(rw [hend (by omega),if_pos (by simpa using hc),List.append_nil];done))
theorem ok_z74:SpecOK SP glob fi_z74 S_z74:=mk_ok (c:=c_z74) (tab_ok _) mix_ok wf_z74 (by decide) (.cons ok_z79 (.cons ok_z71 .nil)) (fun x hx=>Nat.zero_lt_one) g_z74
@[reducible] noncomputable def S_z81:Spec:={ ins:=(.cons (.d (.sl .bool)) (.cons (.d tInt) .nil)),pre:=fun _=>True,alts:=[{ outs:=(.cons (.d .bool) .nil),res:=(fun x=>(fun h v=>(hadB h v,())) x.1 x.2.1)}]}
noncomputable def c_z81:Cf:=(cf_z81 (Fl []))
theorem g_z81:∀ x,S_z81.pre x→shOK S_z81.ins x→fnGoal c_z81 fn_z81 S_z81 x:=by
 rintro ⟨(h:List Bool),(v:Int),⟨⟩⟩ hpre hok
 clear hpre
 have hln:=shLn_of _ hok;replace hok:=Hd.mk hok;try simp only [shLn,datLn,inRng,lo,hi,maxLen,true_and,and_true] at hln
 first|refine fn_goal (w_head ?_)
 intro Kz kz;(conv=>whnf);(try dsimp+instances only);refine kz _ ?_;clear kz Kz;(conv=>(arg 2;whnf))
 repeat' (first|refine an ?_ ?_|((try refine gm ?_);first|((with_reducible show Kz _);(try dsimp+instances only);(with_reducible refine kz _ ?_);clear kz Kz)|refine st ?_|(refine sr ?_;intro Kz kz;conv=>whnf)|(refine cd ?_;(conv=>arg 2;whnf);refine st ?_)|refine blockK_y (by rfl) ?_|(refine sw ?_;conv=>whnf))|(refine gm ?_;conv=>whnf)|(intro hc;(try dsimp+instances only[Dat,SDat,dflt,Ty.size,keepS,bkUpd,Gv.bk,backS,wayA,maxI,minI,negI]at hc);try simp only[LS]at hc))
 all_goals (try ((fail_if_success refine nl ?_);(try dsimp only[Dat,SDat,dflt,Ty.size,keepS,bkUpd,Gv.bk,backS,wayA,maxI,minI,negI]);(try simp only[LS]);first|done|exact dsc|((try simp only[allP,lo,hi,room,true_and,and_true,implies_true]);(repeat' (first|refine an ?_ ?_|((with_reducible refine preA_t ?_ ?_);rotate_left;exact sameP_t)|intro hv))<;>(try omega))))
 unfold hadB
 rw [boolOf_eq]
 exact decide_eq_decide.2 and_assoc
theorem ok_z81:SpecOK SP glob fi_z81 S_z81:=mk_ok (c:=c_z81) (tab_ok _) mix_ok wf_z81 (by decide) .nil (fun x hx=>Nat.zero_lt_one) g_z81
@[reducible] noncomputable def S_z75:Spec:={ ins:=(.cons (.d (.sl tIs)) (.cons (.d (.sl tIs)) .nil)),pre:=(fun x=>(fun a b=>(∀ s∈a,Inc s)∧∀ s∈b,Inc s) x.1 x.2.1),alts:=[{ outs:=(.cons (.d .bool) .nil),res:=(fun x=>(fun a b=>(decide (a=b),())) x.1 x.2.1)}],noisy:=true}
noncomputable def c_z75:Cf:={ cf_z75 (Fl [(fi_z79,S_z79)]) with nz:=true}
theorem g_z75:∀ x,S_z75.pre x→shOK S_z75.ins x→fnGoal c_z75 fn_z75 S_z75 x:=by
 rintro ⟨(a:List Is),(b:List Is),⟨⟩⟩ hpre hok
 try dsimp only [Dat,SDat,dflt,Ty.size,keepS,bkUpd,Gv.bk,backS,wayA,maxI,minI,negI] at hpre
 have hln:=shLn_of _ hok;replace hok:=Hd.mk hok;try simp only [shLn,datLn,inRng,lo,hi,maxLen,true_and,and_true] at hln
 have ha:∀ s∈a,Inc s:=hpre.1
 have hb:∀ s∈b,Inc s:=hpre.2
 first|refine fn_goal (w_head ?_)
 intro Kz kz;(conv=>whnf);(try dsimp+instances only);refine kz _ ?_;clear kz Kz;(conv=>(arg 2;whnf))
 repeat' (first|refine an ?_ ?_|((try refine gm ?_);first|((with_reducible show Kz _);(try dsimp+instances only);(with_reducible refine kz _ ?_);clear kz Kz)|refine st ?_|(refine sr ?_;intro Kz kz;conv=>whnf)|(refine cd ?_;(conv=>arg 2;whnf);refine st ?_)|refine blockK_y (by rfl) ?_|(refine sw ?_;conv=>whnf))|(refine gm ?_;conv=>whnf)|(intro hc;(try dsimp+instances only[Dat,SDat,dflt,Ty.size,keepS,bkUpd,Gv.bk,backS,wayA,maxI,minI,negI]at hc);try simp only[LS]at hc))
 all_goals (try ((fail_if_success refine nl ?_);(try dsimp only[Dat,SDat,dflt,Ty.size,keepS,bkUpd,Gv.bk,backS,wayA,maxI,minI,negI]);(try simp only[LS]);first|done|exact dsc|((try simp only[allP,lo,hi,room,true_and,and_true,implies_true]);(repeat' (first|refine an ?_ ?_|((with_reducible refine preA_t ?_ ?_);rotate_left;exact sameP_t)|intro hv))<;>(try omega))))
 · have:a≠b:=by rintro rfl;simp_all
   simp [this]
 have hq:(List.length a:Int)=List.length b:=by assumption
 refine w_loop [(5, .d tInt)] [] (fun y=>∃ k:Nat,y.1.1=(k:Int)∧k≤a.length∧a.take k=b.take k) (fun y=>a.length - y.1.1.toNat) ?_
 conv=>whnf
 refine And.intro ?_ ?_
 · exact ⟨0,by simp⟩
 rintro ⟨⟨_,⟨⟩⟩,⟨⟩⟩ ⟨k,rfl,hk,hj⟩
 have hia:=fun (h:k<a.length)=>ha _ (getD_mem (d:=([]:Is)) h)
 have hib:=fun (h:k<a.length)=>hb _ (getD_mem (d:=([]:Is)) (show k<b.length by omega))
 have hne:=fun (h:k<a.length) (q:¬ List.getD a k []=List.getD b k [])=>show false=decide (a=b) from by
  have:a≠b:=by rintro rfl;exact q rfl
  simp [this]
 have hy:=fun (h:k<a.length) (q1:(List.length (List.getD a k []):Int)=List.length (List.getD b k [])) (q2:sub (List.getD a k []) (List.getD b k []))=>show List.getD a k []=List.getD b k [] from sub_eq_len (hia h) (hib h) q2 (by omega)
 have hn:=fun (h:k<a.length) (q:¬ (List.length (List.getD a k []):Int)=List.length (List.getD b k [])∨¬ sub (List.getD a k []) (List.getD b k []))=>show false=decide (a=b) from hne h fun e=>by
  rw [e] at q
  rcases q with q|q
  · exact q rfl
  · exact q (sub_refl _)
 have hend:=fun (h:¬ k<a.length)=>show true=decide (a=b) from by
  have:a=b:=take_eq_end hj (by omega) (by omega)
  simp [this]
 repeat' (first|refine an ?_ ?_|((try refine gm ?_);first|((with_reducible show Kz _);(try dsimp+instances only);(with_reducible refine kz _ ?_);clear kz Kz)|refine st ?_|(refine sr ?_;intro Kz kz;conv=>whnf)|(refine cd ?_;(conv=>arg 2;whnf);refine st ?_)|refine blockK_y (by rfl) ?_|(refine sw ?_;conv=>whnf))|(refine gm ?_;conv=>whnf)|(intro hc;(try dsimp+instances only[Dat,SDat,dflt,Ty.size,keepS,bkUpd,Gv.bk,backS,wayA,maxI,minI,negI]at hc);try simp only[LS]at hc))
 all_goals (try ((fail_if_success refine nl ?_);(try dsimp only[Dat,SDat,dflt,Ty.size,keepS,bkUpd,Gv.bk,backS,wayA,maxI,minI,negI]);(try simp only[LS]);first|done|exact dsc|((try simp only[allP,lo,hi,room,true_and,and_true,implies_true]);(repeat' (first|refine an ?_ ?_|((with_reducible refine preA_t ?_ ?_);rotate_left;exact sameP_t)|intro hv))<;>(try omega))))
 all_goals (first
  |exact hia (by omega)
  |exact hib (by omega)
  |exact hn (by omega) (by assumption)
  |exact hend (by omega)
  |exact ⟨k+1,rfl,by omega,take_eq_step hj (by omega) (by omega) (hy (by omega) (Classical.byContradiction fun q=>hc (.inl q)) (Classical.byContradiction fun q=>hc (.inr q)))⟩)
theorem ok_z75:SpecOK SP glob fi_z75 S_z75:=mk_ok (c:=c_z75) (tab_ok _) mix_ok wf_z75 (by decide) (.cons ok_z79 .nil) (fun x hx=>Nat.zero_lt_one) g_z75
@[reducible] noncomputable def S_z61:Spec:={ ins:=(.cons (.d (.sl tInt)) (.cons (.d (.sl tInt)) .nil)),pre:=fun _=>True,alts:=[{ outs:=(.cons (.d .bool) .nil),res:=(fun x=>(fun a b=>(decide (a=b),())) x.1 x.2.1)}],noisy:=true}
noncomputable def c_z61:Cf:={ cf_z61 (Fl []) with nz:=true}
theorem g_z61:∀ x,S_z61.pre x→shOK S_z61.ins x→fnGoal c_z61 fn_z61 S_z61 x:=by
 rintro ⟨a,b,⟨⟩⟩ hpre hok
 clear hpre
 have hln:=shLn_of _ hok;replace hok:=Hd.mk hok;try simp only [shLn,datLn,inRng,lo,hi,maxLen,true_and,and_true] at hln
 first|refine fn_goal (w_head ?_)
 intro Kz kz;(conv=>whnf);(try dsimp+instances only);refine kz _ ?_;clear kz Kz;(conv=>(arg 2;whnf))
 repeat' (first|refine an ?_ ?_|((try refine gm ?_);first|((with_reducible show Kz _);(try dsimp+instances only);(with_reducible refine kz _ ?_);clear kz Kz)|refine st ?_|(refine sr ?_;intro Kz kz;conv=>whnf)|(refine cd ?_;(conv=>arg 2;whnf);refine st ?_)|refine blockK_y (by rfl) ?_|(refine sw ?_;conv=>whnf))|(refine gm ?_;conv=>whnf)|(intro hc;(try dsimp+instances only[Dat,SDat,dflt,Ty.size,keepS,bkUpd,Gv.bk,backS,wayA,maxI,minI,negI]at hc);try simp only[LS]at hc))
 all_goals (try ((fail_if_success refine nl ?_);(try dsimp only[Dat,SDat,dflt,Ty.size,keepS,bkUpd,Gv.bk,backS,wayA,maxI,minI,negI]);(try simp only[LS]);first|done|exact dsc|((try simp only[allP,lo,hi,room,true_and,and_true,implies_true]);(repeat' (first|refine an ?_ ?_|((with_reducible refine preA_t ?_ ?_);rotate_left;exact sameP_t)|intro hv))<;>(try omega))))
 rotate_left
 refine w_loop [(5, .d tInt)] [] (fun y=>∃ k:Nat,y.1.1=(k:Int)∧k≤a.length∧a.take k=b.take k) (fun y=>a.length - y.1.1.toNat) ?_
 conv=>whnf
 refine And.intro ?_ ?_
 · exact ⟨0,by simp⟩
 rintro ⟨⟨_,⟨⟩⟩,⟨⟩⟩ ⟨k,rfl,hk,hj⟩
 repeat' (first|refine an ?_ ?_|((try refine gm ?_);first|((with_reducible show Kz _);(try dsimp+instances only);(with_reducible refine kz _ ?_);clear kz Kz)|refine st ?_|(refine sr ?_;intro Kz kz;conv=>whnf)|(refine cd ?_;(conv=>arg 2;whnf);refine st ?_)|refine blockK_y (by rfl) ?_|(refine sw ?_;conv=>whnf))|(refine gm ?_;conv=>whnf)|(intro hc;(try dsimp+instances only[Dat,SDat,dflt,Ty.size,keepS,bkUpd,Gv.bk,backS,wayA,maxI,minI,negI]at hc);try simp only[LS]at hc))
 all_goals (try ((fail_if_success refine nl ?_);(try dsimp only[Dat,SDat,dflt,Ty.size,keepS,bkUpd,Gv.bk,backS,wayA,maxI,minI,negI]);(try simp only[LS]);first|done|exact dsc|((try simp only[allP,lo,hi,room,true_and,and_true,implies_true]);(repeat' (first|refine an ?_ ?_|((with_reducible refine preA_t ?_ ?_);rotate_left;exact sameP_t)|intro hv))<;>(try omega))))
 · have:a≠b:=by rintro rfl;simp_all
   simp [this]
 · exact ⟨k+1,by omega,by omega,take_eq_step hj (by omega) (by omega) (by assumption)⟩
 · have:a=b:=take_eq_end hj (by omega) (by omega)
   simp [this]
 · have:a≠b:=by rintro rfl;simp_all
   simp [this]
theorem ok_z61:SpecOK SP glob fi_z61 S_z61:=mk_ok (c:=c_z61) (tab_ok _) mix_ok wf_z61 (by decide) .nil (fun x hx=>Nat.zero_lt_one) g_z61
end Go.Gv
