/- Chapter 17: the program: sets. -/
import Derived.Test.YtoangeemlcbjlaaGreatDoorGh
import Derived.Test.YtoangeemlcbjlaaGreatDoorC17a
import Derived.Test.YtoangeemlcbjlaaGreatDoorQ17g
set_option linter.all false
namespace Go.Gv
open Go Go.Proofs Go.Proofs.YtoangeemlcbjlaaGreatDoor
set_option maxRecDepth 100000
set_option maxHeartbeats 4000000
@[reducible] def tIs:Ty:= .sl tInt
@[reducible] noncomputable def S_z111:Spec:={ ins:=(.cons (.d tInt) .nil),pre:=fun _=>True,alts:=[{ outs:=(.cons (.d .bool) .nil),res:=(fun x=>(fun x=>(false,())) x.1)}]}
noncomputable def c_z111:Cf:=(cf_z111 (Fl []))
theorem g_z111:∀ x,S_z111.pre x→shOK S_z111.ins x→fnGoal c_z111 fn_z111 S_z111 x:=by
 rintro ⟨x,⟨⟩⟩ hpre hok
 clear hpre
 have hln:=shLn_of _ hok;replace hok:=Hd.mk hok;try simp only [shLn,datLn,inRng,lo,hi,maxLen,true_and,and_true] at hln
 first|refine fn_goal (w_head ?_)
 intro Kz kz;(conv=>whnf);(try dsimp+instances only);refine kz _ ?_;clear kz Kz;(conv=>(arg 2;whnf))
 repeat' (first|refine an ?_ ?_|((try refine gm ?_);first|((with_reducible show Kz _);(try dsimp+instances only);(with_reducible refine kz _ ?_);clear kz Kz)|refine st ?_|(refine sr ?_;intro Kz kz;conv=>whnf)|(refine cd ?_;(conv=>arg 2;whnf);refine st ?_)|refine blockK_y (by rfl) ?_|(refine sw ?_;conv=>whnf))|(refine gm ?_;conv=>whnf)|(intro hc;(try dsimp+instances only[Dat,SDat,dflt,Ty.size,keepS,bkUpd,Gv.bk,backS,wayA,maxI,minI,negI]at hc);try simp only[LS]at hc))
 all_goals (try ((fail_if_success refine nl ?_);(try dsimp only[Dat,SDat,dflt,Ty.size,keepS,bkUpd,Gv.bk,backS,wayA,maxI,minI,negI]);(try simp only[LS]);first|done|exact dsc|((try simp only[allP,lo,hi,room,true_and,and_true,implies_true]);(repeat' (first|refine an ?_ ?_|((with_reducible refine preA_t ?_ ?_);rotate_left;exact sameP_t)|intro hv))<;>(try omega))))
theorem ok_z111:SpecOK SP glob fi_z111 S_z111:=mk_ok (c:=c_z111) (tab_ok _) mix_ok wf_z111 (by decide) .nil (fun x hx=>Nat.zero_lt_one) g_z111
def posI (l:List Int) (t:Int):Int:=((l.filter fun x=>decide (x<t)).length:Int)
structure SeaI (l:List Int) (t:Int) (i j:Nat):Prop where
 ij:i≤j
 jl:j≤l.length
 lo:∀ m,m<i→l.getD m 0<t
 hi:∀ m,j≤m→m<l.length→t≤l.getD m 0
theorem inc_at {l:List Int} (h:Inc l) {a b:Nat} (hab:a≤b) (hb:b<l.length):l.getD a 0≤l.getD b 0:=by
 rcases Nat.lt_or_ge a b with q|q
 · have:=List.pairwise_iff_getElem.1 h a b (by omega) hb q
   rw [getD_ok 0 (by omega),getD_ok 0 hb];omega
 · have:a=b:=by omega
   rw [this];omega
theorem SeaI.start (l:List Int) (t:Int):SeaI l t 0 l.length:=⟨Nat.zero_le _,Nat.le_refl _,fun m h=>by omega,fun m h1 h2=>by omega⟩
theorem SeaI.up {l:List Int} {t:Int} {i j m:Nat} (h:SeaI l t i j) (hl:Inc l) (hm:i≤m) (hj:m<j) (q:l.getD m 0<t):SeaI l t (m+1) j:=
 ⟨hj,h.jl,fun a ha=>by have:=inc_at hl (show a≤m by omega) (by have:=h.jl;omega);omega,h.hi⟩
theorem SeaI.down {l:List Int} {t:Int} {i j m:Nat} (h:SeaI l t i j) (hl:Inc l) (hm:i≤m) (hj:m<j) (q:¬ l.getD m 0<t):SeaI l t i m:=
 ⟨hm,by have:=h.jl;omega,h.lo,fun a ha hal=>by have:=inc_at hl ha hal;omega⟩
theorem SeaI.fin {l:List Int} {t:Int} {i j:Nat} (h:SeaI l t i j) (hI:Inc l) (hij:¬ i<j):(i:Int)=posI l t∧(t∈l↔i<l.length∧l.getD i 0=t):=by
 have e:i=j:=by have:=h.ij;omega
 subst e
 have hsplit:l=l.take i++l.drop i:=(List.take_append_drop i l).symm
 have h1:∀ x∈l.take i,x<t:=fun x hx=>by
  obtain ⟨m,hm,rfl⟩:=List.getElem_of_mem hx
  have hm':m<i:=by simp at hm;omega
  have:=h.lo m hm'
  rw [getD_ok 0 (by have:=h.jl;omega)] at this
  rw [List.getElem_take];exact this
 have h2:∀ x∈l.drop i,t≤x:=fun x hx=>by
  obtain ⟨m,hm,rfl⟩:=List.getElem_of_mem hx
  have hm':i+m<l.length:=by simp at hm;omega
  have:=h.hi (i+m) (by omega) hm'
  rw [getD_ok 0 hm'] at this
  rw [List.getElem_drop];exact this
 constructor
 · unfold posI
   conv=>rhs;rw [hsplit,List.filter_append]
   rw [List.filter_eq_self.2 (fun x hx=>decide_eq_true (h1 x hx)),List.filter_eq_nil_iff.2 (fun x hx=>by have:=h2 x hx;simp;omega)]
   have:=h.jl
   simp;omega
 · constructor
   · intro hm
     obtain ⟨m,hm,e⟩:=List.getElem_of_mem hm
     have hge:i≤m:=by
      rcases Nat.lt_or_ge m i with q|q
      · have:=h.lo m q;rw [getD_ok 0 hm] at this;omega
      · exact q
     have hl:i<l.length:=by omega
     have:=h.hi i (Nat.le_refl _) hl
     refine ⟨hl,?_⟩
     have h3:=inc_at hI hge hm
     rw [getD_ok 0 hm,e] at h3
     omega
   · rintro ⟨hl,e⟩
     rw [← e];exact getD_mem hl
@[reducible] noncomputable def S_z83:Spec:={ ins:=(.cons (.d (.sl tInt)) (.cons (.d tInt) .nil)),pre:=(fun x=>(fun l t=>Inc l∧l.length≤1000000) x.1 x.2.1),alts:=[{ outs:=(.cons (.d tInt) (.cons (.d .bool) .nil)),res:=(fun x=>(fun l t=>(posI l t,decide (t∈l),())) x.1 x.2.1)}]}
noncomputable def c_z83:Cf:=(cf_z83 (Fl [(fi_z17,S_z17),(fi_z111,S_z111)]))
theorem g_z83:∀ x,S_z83.pre x→shOK S_z83.ins x→fnGoal c_z83 fn_z83 S_z83 x:=by
 rintro ⟨l,t,⟨⟩⟩ hpre hok
 try dsimp only [Dat,SDat,dflt,Ty.size,keepS,bkUpd,Gv.bk,backS,wayA,maxI,minI,negI] at hpre
 have hln:=shLn_of _ hok;replace hok:=Hd.mk hok;try simp only [shLn,datLn,inRng,lo,hi,maxLen,true_and,and_true] at hln
 have hI:Inc l:=hpre.1
 have hl9:l.length≤1000000:=hpre.2
 first|refine fn_goal (w_head ?_)
 intro Kz kz;(conv=>whnf);(try dsimp+instances only);refine kz _ ?_;clear kz Kz;(conv=>(arg 2;whnf))
 repeat' (first|refine an ?_ ?_|((try refine gm ?_);first|((with_reducible show Kz _);(try dsimp+instances only);(with_reducible refine kz _ ?_);clear kz Kz)|refine st ?_|(refine sr ?_;intro Kz kz;conv=>whnf)|(refine cd ?_;(conv=>arg 2;whnf);refine st ?_)|refine blockK_y (by rfl) ?_|(refine sw ?_;conv=>whnf))|(refine gm ?_;conv=>whnf)|(intro hc;(try dsimp+instances only[Dat,SDat,dflt,Ty.size,keepS,bkUpd,Gv.bk,backS,wayA,maxI,minI,negI]at hc);try simp only[LS]at hc))
 all_goals (try ((fail_if_success refine nl ?_);(try dsimp only[Dat,SDat,dflt,Ty.size,keepS,bkUpd,Gv.bk,backS,wayA,maxI,minI,negI]);(try simp only[LS]);first|done|exact dsc|((try simp only[allP,lo,hi,room,true_and,and_true,implies_true]);(repeat' (first|refine an ?_ ?_|((with_reducible refine preA_t ?_ ?_);rotate_left;exact sameP_t)|intro hv))<;>(try omega))))
 refine w_loop [(7, .d tInt),(8, .d tInt)] [] (fun y=>∃ i j:Nat,y.1.1=(i:Int)∧y.1.2.1=(j:Int)∧SeaI l t i j) (fun y=>(y.1.2.1 - y.1.1).toNat) ?_
 conv=>whnf
 refine And.intro ?_ ?_
 · exact ⟨0,l.length,rfl,rfl,SeaI.start l t⟩
 rintro ⟨⟨_,_,⟨⟩⟩,⟨⟩⟩ ⟨i,j,rfl,rfl,hS⟩
 have hij:=hS.ij
 have hjl:=hS.jl
 have hsh:shrV .u64 ((i:Int)+(j:Int)) 1=(((i+j) / 2:Nat):Int):=by rw [shr1];omega
 have hup:=fun (h:(i:Int)<(j:Int)) (q:List.getD l ((i+j) / 2) 0<t)=>show ∃ i_1 j_1:Nat,(((i+j) / 2:Nat):Int)+1=(i_1:Int)∧(j:Int)=(j_1:Int)∧SeaI l t i_1 j_1 from ⟨(i+j) / 2+1,j,rfl,rfl,hS.up hI (by omega) (by omega) q⟩
 have hdn:=fun (h:(i:Int)<(j:Int)) (q:¬ List.getD l ((i+j) / 2) 0<t)=>show ∃ i_1 j_1:Nat,(i:Int)=(i_1:Int)∧(((i+j) / 2:Nat):Int)=(j_1:Int)∧SeaI l t i_1 j_1 from ⟨i,(i+j) / 2,rfl,rfl,hS.down hI (by omega) (by omega) q⟩
 have hfin:=fun (h:¬ (i:Int)<(j:Int))=>hS.fin hI (by omega)
 have htn:(shrV .u64 ((i:Int)+(j:Int)) 1).toNat=(i+j) / 2:=by rw [hsh];exact Int.toNat_natCast _
 repeat' (first|refine an ?_ ?_|((try refine gm ?_);first|((with_reducible show Kz _);(try dsimp+instances only);(with_reducible refine kz _ ?_);clear kz Kz)|refine st ?_|(refine sr ?_;intro Kz kz;conv=>whnf)|(refine cd ?_;(conv=>arg 2;whnf);refine st ?_)|refine blockK_y (by rfl) ?_|(refine sw ?_;conv=>whnf))|(refine gm ?_;conv=>whnf)|(intro hc;(try dsimp+instances only[Dat,SDat,dflt,Ty.size,keepS,bkUpd,Gv.bk,backS,wayA,maxI,minI,negI]at hc);try simp only[LS]at hc))
 all_goals (try ((fail_if_success refine nl ?_);(try dsimp only[Dat,SDat,dflt,Ty.size,keepS,bkUpd,Gv.bk,backS,wayA,maxI,minI,negI]);(try simp only[LS]);first|done|exact dsc|((try simp only[allP,lo,hi,room,true_and,and_true,implies_true]);(repeat' (first|refine an ?_ ?_|((with_reducible refine preA_t ?_ ?_);rotate_left;exact sameP_t)|intro hv))<;>(try omega))))
 · rename_i h9;rw [htn] at hc;rw [hsh];exact hup h9 hc
 · rename_i h9;rw [htn] at hc;rw [hsh];exact hdn h9 hc
 · refine (boolOf_eq _).trans (decide_eq_decide.2 ?_)
   rw [(hfin hc).2]
   exact ⟨fun h=>⟨by omega,h.2.resolve_right (fun q=>by cases q.1)⟩,fun h=>⟨by omega, .inl h.2⟩⟩
theorem ok_z83:SpecOK SP glob fi_z83 S_z83:=mk_ok (c:=c_z83) (tab_ok _) mix_ok wf_z83 (by decide) (.cons ok_z17 (.cons ok_z111 .nil)) (fun x hx=>Nat.zero_lt_one) g_z83
@[reducible] noncomputable def S_z88:Spec:={ ins:=(.cons (.d (.sl tInt)) (.cons (.d (.sl tInt)) .nil)),pre:=fun _=>True,alts:=[{ outs:=(.cons (.d tInt) .nil),res:=(fun x=>(fun a b=>(cmpL a b,())) x.1 x.2.1)}]}
noncomputable def c_z88:Cf:=(cf_z88 (Fl [(fi_z16,S_z16)]))
theorem g_z88:∀ x,S_z88.pre x→shOK S_z88.ins x→fnGoal c_z88 fn_z88 S_z88 x:=by
 rintro ⟨a,b,⟨⟩⟩ hpre hok
 clear hpre
 have hln:=shLn_of _ hok;replace hok:=Hd.mk hok;try simp only [shLn,datLn,inRng,lo,hi,maxLen,true_and,and_true] at hln
 first|refine fn_goal (w_head ?_)
 intro Kz kz;(conv=>whnf);(try dsimp+instances only);refine kz _ ?_;clear kz Kz;(conv=>(arg 2;whnf))
 repeat' (first|refine an ?_ ?_|((try refine gm ?_);first|((with_reducible show Kz _);(try dsimp+instances only);(with_reducible refine kz _ ?_);clear kz Kz)|refine st ?_|(refine sr ?_;intro Kz kz;conv=>whnf)|(refine cd ?_;(conv=>arg 2;whnf);refine st ?_)|refine blockK_y (by rfl) ?_|(refine sw ?_;conv=>whnf))|(refine gm ?_;conv=>whnf)|(intro hc;(try dsimp+instances only[Dat,SDat,dflt,Ty.size,keepS,bkUpd,Gv.bk,backS,wayA,maxI,minI,negI]at hc);try simp only[LS]at hc))
 all_goals (try ((fail_if_success refine nl ?_);(try dsimp only[Dat,SDat,dflt,Ty.size,keepS,bkUpd,Gv.bk,backS,wayA,maxI,minI,negI]);(try simp only[LS]);first|done|exact dsc|((try simp only[allP,lo,hi,room,true_and,and_true,implies_true]);(repeat' (first|refine an ?_ ?_|((with_reducible refine preA_t ?_ ?_);rotate_left;exact sameP_t)|intro hv))<;>(try omega))))
 refine w_loop [(11, .d tInt)] [] (fun y=>∃ k:Nat,y.1.1=(k:Int)∧k≤a.length∧cmpL a b=cmpL (a.drop k) (b.drop k)) (fun y=>a.length - y.1.1.toNat) ?_
 conv=>whnf
 refine And.intro ?_ ?_
 · exact ⟨0,rfl,Nat.zero_le _,rfl⟩
 rintro ⟨⟨_,⟨⟩⟩,⟨⟩⟩ ⟨k,rfl,hk,hj⟩
 have h1:=fun (h:(k:Int)<(a.length:Int)) (q:(b.length:Int)≤(k:Int))=>show (1:Int)=cmpL a b from by
  rw [hj,List.drop_eq_nil_of_le (show b.length≤k by omega),List.drop_eq_getElem_cons (show k<a.length by omega)];rfl
 have h2:=fun (h:(k:Int)<(a.length:Int)) (q:¬ (b.length:Int)≤(k:Int))=>show cmpL a b=if cmpI (List.getD a k 0) (List.getD b k 0)=0 then cmpL (a.drop (k+1)) (b.drop (k+1)) else cmpI (List.getD a k 0) (List.getD b k 0) from by
  rw [hj,List.drop_eq_getElem_cons (show k<a.length by omega),List.drop_eq_getElem_cons (show k<b.length by omega),getD_ok 0 (show k<a.length by omega),getD_ok 0 (show k<b.length by omega)];rfl
 have h3:=fun (h:¬ (k:Int)<(a.length:Int))=>show cmpL a b=if (b.length:Int)≤(k:Int) then 0 else -1 from by
  rw [hj,List.drop_eq_nil_of_le (show a.length≤k by omega)]
  by_cases q:(b.length:Int)≤(k:Int)
  · rw [if_pos q,List.drop_eq_nil_of_le (show b.length≤k by omega)];rfl
  · rw [if_neg q,List.drop_eq_getElem_cons (show k<b.length by omega)];rfl
 repeat' (first|refine an ?_ ?_|((try refine gm ?_);first|((with_reducible show Kz _);(try dsimp+instances only);(with_reducible refine kz _ ?_);clear kz Kz)|refine st ?_|(refine sr ?_;intro Kz kz;conv=>whnf)|(refine cd ?_;(conv=>arg 2;whnf);refine st ?_)|refine blockK_y (by rfl) ?_|(refine sw ?_;conv=>whnf))|(refine gm ?_;conv=>whnf)|(intro hc;(try dsimp+instances only[Dat,SDat,dflt,Ty.size,keepS,bkUpd,Gv.bk,backS,wayA,maxI,minI,negI]at hc);try simp only[LS]at hc))
 all_goals (try ((fail_if_success refine nl ?_);(try dsimp only[Dat,SDat,dflt,Ty.size,keepS,bkUpd,Gv.bk,backS,wayA,maxI,minI,negI]);(try simp only[LS]);first|done|exact dsc|((try simp only[allP,lo,hi,room,true_and,and_true,implies_true]);(repeat' (first|refine an ?_ ?_|((with_reducible refine preA_t ?_ ?_);rotate_left;exact sameP_t)|intro hv))<;>(try omega))))
 rename_i q1 q2
 exact ⟨k+1,rfl,by omega,by rw [h2 q1 q2,if_pos hc]⟩
theorem ok_z88:SpecOK SP glob fi_z88 S_z88:=mk_ok (c:=c_z88) (tab_ok _) mix_ok wf_z88 (by decide) (.cons ok_z16 .nil) (fun x hx=>Nat.zero_lt_one) g_z88
@[reducible] noncomputable def S_z60:Spec:={ ins:=(.cons (.d (.sl tInt)) (.cons (.d (.sl tInt)) .nil)),pre:=(fun x=>(fun a b=>Inc b∧b.length≤1000000) x.1 x.2.1),alts:=[{ outs:=(.cons (.d .bool) .nil),res:=(fun x=>(fun a b=>(decide (sub a b),())) x.1 x.2.1)}]}
noncomputable def c_z60:Cf:=(cf_z60 (Fl [(fi_z83,S_z83)]))
theorem g_z60:∀ x,S_z60.pre x→shOK S_z60.ins x→fnGoal c_z60 fn_z60 S_z60 x:=by
 rintro ⟨a,b,⟨⟩⟩ hpre hok
 try dsimp only [Dat,SDat,dflt,Ty.size,keepS,bkUpd,Gv.bk,backS,wayA,maxI,minI,negI] at hpre
 have hln:=shLn_of _ hok;replace hok:=Hd.mk hok;try simp only [shLn,datLn,inRng,lo,hi,maxLen,true_and,and_true] at hln
 have hI:Inc b:=hpre.1
 have hb9:b.length≤1000000:=hpre.2
 first|refine fn_goal (w_head ?_)
 intro Kz kz;(conv=>whnf);(try dsimp+instances only);refine kz _ ?_;clear kz Kz;(conv=>(arg 2;whnf))
 repeat' (first|refine an ?_ ?_|((try refine gm ?_);first|((with_reducible show Kz _);(try dsimp+instances only);(with_reducible refine kz _ ?_);clear kz Kz)|refine st ?_|(refine sr ?_;intro Kz kz;conv=>whnf)|(refine cd ?_;(conv=>arg 2;whnf);refine st ?_)|refine blockK_y (by rfl) ?_|(refine sw ?_;conv=>whnf))|(refine gm ?_;conv=>whnf)|(intro hc;(try dsimp+instances only[Dat,SDat,dflt,Ty.size,keepS,bkUpd,Gv.bk,backS,wayA,maxI,minI,negI]at hc);try simp only[LS]at hc))
 all_goals (try ((fail_if_success refine nl ?_);(try dsimp only[Dat,SDat,dflt,Ty.size,keepS,bkUpd,Gv.bk,backS,wayA,maxI,minI,negI]);(try simp only[LS]);first|done|exact dsc|((try simp only[allP,lo,hi,room,true_and,and_true,implies_true]);(repeat' (first|refine an ?_ ?_|((with_reducible refine preA_t ?_ ?_);rotate_left;exact sameP_t)|intro hv))<;>(try omega))))
 refine w_loop [(11, .d tInt)] [] (fun y=>∃ k:Nat,y.1.1=(k:Int)∧k≤a.length∧∀ x∈a.take k,x∈b) (fun y=>a.length - y.1.1.toNat) ?_
 conv=>whnf
 refine And.intro ?_ ?_
 · exact ⟨0,by simp⟩
 rintro ⟨⟨_,⟨⟩⟩,⟨⟩⟩ ⟨k,rfl,hk,hj⟩
 repeat' (first|refine an ?_ ?_|((try refine gm ?_);first|((with_reducible show Kz _);(try dsimp+instances only);(with_reducible refine kz _ ?_);clear kz Kz)|refine st ?_|(refine sr ?_;intro Kz kz;conv=>whnf)|(refine cd ?_;(conv=>arg 2;whnf);refine st ?_)|refine blockK_y (by rfl) ?_|(refine sw ?_;conv=>whnf))|(refine gm ?_;conv=>whnf)|(intro hc;(try dsimp+instances only[Dat,SDat,dflt,Ty.size,keepS,bkUpd,Gv.bk,backS,wayA,maxI,minI,negI]at hc);try simp only[LS]at hc))
 all_goals (try ((fail_if_success refine nl ?_);(try dsimp only[Dat,SDat,dflt,Ty.size,keepS,bkUpd,Gv.bk,backS,wayA,maxI,minI,negI]);(try simp only[LS]);first|done|exact dsc|((try simp only[allP,lo,hi,room,true_and,and_true,implies_true]);(repeat' (first|refine an ?_ ?_|((with_reducible refine preA_t ?_ ?_);rotate_left;exact sameP_t)|intro hv))<;>(try omega))))
 · rename_i q1
   exact (decide_eq_false fun h=>hc (h _ (getD_mem (d:=(0:Int)) (by omega)))).symm
 · rename_i q1
   exact ⟨k+1,rfl,by omega,all_step (d:=(0:Int)) hj (by omega) hc⟩
 · exact (decide_eq_true (all_end hj (by omega))).symm
theorem ok_z60:SpecOK SP glob fi_z60 S_z60:=mk_ok (c:=c_z60) (tab_ok _) mix_ok wf_z60 (by decide) (.cons ok_z83 .nil) (fun x hx=>Nat.zero_lt_one) g_z60
@[reducible] noncomputable def S_z56:Spec:={ ins:=(.cons (.d (.sl tInt)) (.cons (.d (.sl tInt)) .nil)),pre:=fun _=>True,alts:=[{ outs:=(.cons (.d tInt) .nil),res:=(fun x=>(fun a b=>(ordL a b,())) x.1 x.2.1)}]}
noncomputable def c_z56:Cf:=(cf_z56 (Fl [(fi_z16,S_z16),(fi_z88,S_z88),(fi_z18,S_z18)]))
theorem g_z56:∀ x,S_z56.pre x→shOK S_z56.ins x→fnGoal c_z56 fn_z56 S_z56 x:=by
 rintro ⟨a,b,⟨⟩⟩ hpre hok
 clear hpre
 have hln:=shLn_of _ hok;replace hok:=Hd.mk hok;try simp only [shLn,datLn,inRng,lo,hi,maxLen,true_and,and_true] at hln
 have ho:orL [cmpI (a.length:Int) (b.length:Int),cmpL a b]=ordL a b:=by
  unfold ordL
  by_cases h:cmpI (a.length:Int) (b.length:Int)=0
  · rw [if_pos h];unfold orL;rw [if_pos h];unfold orL
    split
    · rename_i e;rw [e];rfl
    · rfl
  · rw [if_neg h];unfold orL;rw [if_neg h]
 first|refine fn_goal (w_head ?_)
 intro Kz kz;(conv=>whnf);(try dsimp+instances only);refine kz _ ?_;clear kz Kz;(conv=>(arg 2;whnf))
 repeat' (first|refine an ?_ ?_|((try refine gm ?_);first|((with_reducible show Kz _);(try dsimp+instances only);(with_reducible refine kz _ ?_);clear kz Kz)|refine st ?_|(refine sr ?_;intro Kz kz;conv=>whnf)|(refine cd ?_;(conv=>arg 2;whnf);refine st ?_)|refine blockK_y (by rfl) ?_|(refine sw ?_;conv=>whnf))|(refine gm ?_;conv=>whnf)|(intro hc;(try dsimp+instances only[Dat,SDat,dflt,Ty.size,keepS,bkUpd,Gv.bk,backS,wayA,maxI,minI,negI]at hc);try simp only[LS]at hc))
 all_goals (try ((fail_if_success refine nl ?_);(try dsimp only[Dat,SDat,dflt,Ty.size,keepS,bkUpd,Gv.bk,backS,wayA,maxI,minI,negI]);(try simp only[LS]);first|done|exact dsc|((try simp only[allP,lo,hi,room,true_and,and_true,implies_true]);(repeat' (first|refine an ?_ ?_|((with_reducible refine preA_t ?_ ?_);rotate_left;exact sameP_t)|intro hv))<;>(try omega))))
 all_goals (first|exact ho|exact ho.symm|skip)
theorem ok_z56:SpecOK SP glob fi_z56 S_z56:=mk_ok (c:=c_z56) (tab_ok _) mix_ok wf_z56 (by decide) (.cons ok_z16 (.cons ok_z88 (.cons ok_z18 .nil))) (fun x hx=>Nat.zero_lt_one) g_z56
def sortPreL (xs:List Is):Prop:=List.length xs≤1000000000000
@[reducible] noncomputable def S_z43:Spec:={ ins:= .cons (.d (.int .u64)) .nil,pre:=fun _=>True,alts:=[{ outs:= .cons (.d (.int .i64)) .nil,res:=fun x=>((Lib.bitLen (Int.toNat x.1):Int),())}]}
set_option maxRecDepth 100000 in
theorem ok_z43:SpecOK SP glob fi_z43 S_z43:=bitsLen_ok lays125 wf_z43
@[reducible] noncomputable def S_pdqL:Spec:={ ins:= .cons (.row tIs) (.cons (.d (.int .i64)) (.cons (.d (.int .i64)) (.cons (.d (.int .i64)) (.cons (.clos fi_z56 .nil) .nil)))),pre:=fun x=>sortPreL x.1∧x.2.1=0∧x.2.2.1=(List.length x.1:Int)∧0≤x.2.2.2.1∧x.2.2.2.1≤1000000,alts:=[{ outs:= .nil,res:=fun _=>(),upd:=fun x=>(sortL x.1,x.2.1,x.2.2.1,x.2.2.2.1,(),())}]}
set_option maxRecDepth 100000 in
theorem ok_pdqL:SpecOK SP glob fi_z125 S_pdqL:=
 pdq1_ok (t:=tIs) (cf:=fun a b=>ordL a b) (res:=sortL) (pre:=sortPreL) laysSlLaysF_80 rfl rfl (fn_hf16 wf_z125) ok_z56 (fun _=>True) (fun _ _ _ _=>trivial)
  (fun x _=>by show ¬ ordL x x<0;rw [ordL_self];omega) (fun x y z _ _ _ h1 h2=>bef_trans h1 h2) (fun x y z _ _ _ h1 h2=>ordL_ntrans h2 h1) (fun _ _ _ _=>trivial) (fun xs h=>by have:List.length xs≤1000000000000:=h;omega) (fun xs ys h hp hs=>sortL_uniq hp hs)
theorem bitLen_l {n:Int} (h0:0≤n) (h1:n≤1000000000000):(0:Int)≤(Lib.bitLen (Int.toNat n):Int)∧(Lib.bitLen (Int.toNat n):Int)≤1000000:=by
 have:=Lib.bitLen_le (Int.toNat n) 40 (by decide) (by omega)
 omega
@[reducible] noncomputable def S_z98:Spec:={ ins:=(.cons (.row tIs) (.cons (.clos fi_z56 .nil) .nil)),pre:=(fun x=>(fun l c=>sortPreL l) x.1 x.2.1),alts:=[{ outs:= .nil,res:=(fun x=>(fun l c=>(())) x.1 x.2.1),upd:=(fun x=>(fun l c=>(sortL l,(),())) x.1 x.2.1)}]}
noncomputable def c_z98:Cf:=(cf_z98 (Fl [(fi_z43,S_z43),(fi_z125,S_pdqL)]))
theorem g_z98:∀ x,S_z98.pre x→shOK S_z98.ins x→fnGoal c_z98 fn_z98 S_z98 x:=by
 rintro ⟨l,⟨⟩,⟨⟩⟩ hpre hok
 try dsimp only [Dat,SDat,dflt,Ty.size,keepS,bkUpd,Gv.bk,backS,wayA,maxI,minI,negI] at hpre
 have hln:=shLn_of _ hok;replace hok:=Hd.mk hok;try simp only [shLn,datLn,inRng,lo,hi,maxLen,true_and,and_true] at hln
 have hl:List.length l≤1000000000000:=hpre
 have hb:=bitLen_l (n:=(List.length l:Int)) (by omega) (by omega)
 rw [Int.toNat_natCast] at hb
 have hb2:=hb.2
 first|refine fn_goal (w_head ?_)
 intro Kz kz;(conv=>whnf);(try dsimp+instances only);refine kz _ ?_;clear kz Kz;(conv=>(arg 2;whnf))
 repeat' (first|refine an ?_ ?_|((try refine gm ?_);first|((with_reducible show Kz _);(try dsimp+instances only);(with_reducible refine kz _ ?_);clear kz Kz)|refine st ?_|(refine sr ?_;intro Kz kz;conv=>whnf)|(refine cd ?_;(conv=>arg 2;whnf);refine st ?_)|refine blockK_y (by rfl) ?_|(refine sw ?_;conv=>whnf))|(refine gm ?_;conv=>whnf)|(intro hc;(try dsimp+instances only[Dat,SDat,dflt,Ty.size,keepS,bkUpd,Gv.bk,backS,wayA,maxI,minI,negI]at hc);try simp only[LS]at hc))
 all_goals (try ((fail_if_success refine nl ?_);(try dsimp only[Dat,SDat,dflt,Ty.size,keepS,bkUpd,Gv.bk,backS,wayA,maxI,minI,negI]);(try simp only[LS]);first|done|exact dsc|((try simp only[allP,lo,hi,room,true_and,and_true,implies_true]);(repeat' (first|refine an ?_ ?_|((with_reducible refine preA_t ?_ ?_);rotate_left;exact sameP_t)|intro hv))<;>(try omega))))
theorem ok_z98:SpecOK SP glob fi_z98 S_z98:=mk_ok (c:=c_z98) (tab_ok _) mix_ok wf_z98 (by decide) (.cons ok_z43 (.cons ok_pdqL .nil)) (fun x hx=>Nat.zero_lt_one) g_z98
def okS (n:Is):Prop:=Inc n∧n.length≤1000000
@[reducible] noncomputable def S_z55:Spec:={ ins:=(.cons (.d (.sl tInt)) (.cons (.box (.cons (.d (.sl tInt)) .nil)) .nil)),pre:=(fun x=>(fun t s=>okS s.1) x.1 x.2.1),alts:=[{ outs:=(.cons (.d .bool) .nil),res:=(fun x=>(fun t s=>(decide (sub t s.1),())) x.1 x.2.1)}],ro:=true}
noncomputable def c_z55:Cf:=(cf_z55 (Fl [(fi_z60,S_z60)]))
theorem g_z55:∀ x,S_z55.pre x→shOK S_z55.ins x→fnGoal c_z55 fn_z55 S_z55 x:=by
 rintro ⟨t,⟨s,⟨⟩⟩,⟨⟩⟩ hpre hok
 try dsimp only [Dat,SDat,dflt,Ty.size,keepS,bkUpd,Gv.bk,backS,wayA,maxI,minI,negI] at hpre
 have hln:=shLn_of _ hok;replace hok:=Hd.mk hok;try simp only [shLn,datLn,inRng,lo,hi,maxLen,true_and,and_true] at hln
 have hn:okS s:=hpre
 have hI:=hn.1
 have hl:=hn.2
 first|refine fn_goal (w_head ?_)
 intro Kz kz;(conv=>whnf);(try dsimp+instances only);refine kz _ ?_;clear kz Kz;(conv=>(arg 2;whnf))
 repeat' (first|refine an ?_ ?_|((try refine gm ?_);first|((with_reducible show Kz _);(try dsimp+instances only);(with_reducible refine kz _ ?_);clear kz Kz)|refine st ?_|(refine sr ?_;intro Kz kz;conv=>whnf)|(refine cd ?_;(conv=>arg 2;whnf);refine st ?_)|refine blockK_y (by rfl) ?_|(refine sw ?_;conv=>whnf))|(refine gm ?_;conv=>whnf)|(intro hc;(try dsimp+instances only[Dat,SDat,dflt,Ty.size,keepS,bkUpd,Gv.bk,backS,wayA,maxI,minI,negI]at hc);try simp only[LS]at hc))
 all_goals (try ((fail_if_success refine nl ?_);(try dsimp only[Dat,SDat,dflt,Ty.size,keepS,bkUpd,Gv.bk,backS,wayA,maxI,minI,negI]);(try simp only[LS]);first|done|exact dsc|((try simp only[allP,lo,hi,room,true_and,and_true,implies_true]);(repeat' (first|refine an ?_ ?_|((with_reducible refine preA_t ?_ ?_);rotate_left;exact sameP_t)|intro hv))<;>(try omega))))
 all_goals (first|exact hI|exact hl|skip)
theorem ok_z55:SpecOK SP glob fi_z55 S_z55:=mk_ok (c:=c_z55) (tab_ok _) mix_ok wf_z55 (by decide) (.cons ok_z60 .nil) (fun x hx=>Nat.zero_lt_one) g_z55
@[reducible] noncomputable def S_z95:Spec:={ ins:=(.cons (.d (.sl tIs)) (.cons (.clos fi_z55 (.cons (.box (.cons (.d (.sl tInt)) .nil)) .nil)) .nil)),pre:=(fun x=>(fun s n=>okS n.1.1) x.1 x.2.1),alts:=[{ outs:=(.cons (.d tInt) .nil),res:=(fun x=>(fun s n=>(findI (fun k=>decide (sub k n.1.1)) s,())) x.1 x.2.1)}],ro:=true}
noncomputable def c_z95:Cf:=(cf_z95 (Fl [(fi_z55,S_z55)]))
theorem g_z95:∀ x,S_z95.pre x→shOK S_z95.ins x→fnGoal c_z95 fn_z95 S_z95 x:=by
 rintro ⟨s,⟨⟨n,⟨⟩⟩,⟨⟩⟩,⟨⟩⟩ hpre hok
 try dsimp only [Dat,SDat,dflt,Ty.size,keepS,bkUpd,Gv.bk,backS,wayA,maxI,minI,negI] at hpre
 have hln:=shLn_of _ hok;replace hok:=Hd.mk hok;try simp only [shLn,datLn,inRng,lo,hi,maxLen,true_and,and_true] at hln
 have hn:okS n:=hpre
 first|refine fn_goal (w_head ?_)
 intro Kz kz;(conv=>whnf);(try dsimp+instances only);refine kz _ ?_;clear kz Kz;(conv=>(arg 2;whnf))
 repeat' (first|refine an ?_ ?_|((try refine gm ?_);first|((with_reducible show Kz _);(try dsimp+instances only);(with_reducible refine kz _ ?_);clear kz Kz)|refine st ?_|(refine sr ?_;intro Kz kz;conv=>whnf)|(refine cd ?_;(conv=>arg 2;whnf);refine st ?_)|refine blockK_y (by rfl) ?_|(refine sw ?_;conv=>whnf))|(refine gm ?_;conv=>whnf)|(intro hc;(try dsimp+instances only[Dat,SDat,dflt,Ty.size,keepS,bkUpd,Gv.bk,backS,wayA,maxI,minI,negI]at hc);try simp only[LS]at hc))
 all_goals (try ((fail_if_success refine nl ?_);(try dsimp only[Dat,SDat,dflt,Ty.size,keepS,bkUpd,Gv.bk,backS,wayA,maxI,minI,negI]);(try simp only[LS]);first|done|exact dsc|((try simp only[allP,lo,hi,room,true_and,and_true,implies_true]);(repeat' (first|refine an ?_ ?_|((with_reducible refine preA_t ?_ ?_);rotate_left;exact sameP_t)|intro hv))<;>(try omega))))
 refine w_loop [(8, .d tInt)] [] (fun y=>∃ k:Nat,y.1.1=(k:Int)∧k≤s.length∧∀ x∈s.take k,decide (sub x n)=false) (fun y=>s.length - y.1.1.toNat) ?_
 conv=>whnf
 refine And.intro ?_ ?_
 · exact ⟨0,by simp⟩
 rintro ⟨⟨_,⟨⟩⟩,⟨⟩⟩ ⟨k,rfl,hk,hj⟩
 repeat' (first|refine an ?_ ?_|((try refine gm ?_);first|((with_reducible show Kz _);(try dsimp+instances only);(with_reducible refine kz _ ?_);clear kz Kz)|refine st ?_|(refine sr ?_;intro Kz kz;conv=>whnf)|(refine cd ?_;(conv=>arg 2;whnf);refine st ?_)|refine blockK_y (by rfl) ?_|(refine sw ?_;conv=>whnf))|(refine gm ?_;conv=>whnf)|(intro hc;(try dsimp+instances only[Dat,SDat,dflt,Ty.size,keepS,bkUpd,Gv.bk,backS,wayA,maxI,minI,negI]at hc);try simp only[LS]at hc))
 all_goals (try ((fail_if_success refine nl ?_);(try dsimp only[Dat,SDat,dflt,Ty.size,keepS,bkUpd,Gv.bk,backS,wayA,maxI,minI,negI]);(try simp only[LS]);first|done|exact dsc|((try simp only[allP,lo,hi,room,true_and,and_true,implies_true]);(repeat' (first|refine an ?_ ?_|((with_reducible refine preA_t ?_ ?_);rotate_left;exact sameP_t)|intro hv))<;>(try omega))))
 · exact (findI_hit (d:=([]:Is)) hj (by omega) (decide_eq_true hc)).symm
 · rename_i h1
   exact ⟨k+1,rfl,by omega,fun x hx=>by
    have:=all_step (p:=fun x=>decide (sub x n)=false) (d:=([]:Is)) hj (by omega) (decide_eq_false hc) x hx
    exact of_decide_eq_false this⟩
 · exact (findI_miss hj (by omega)).symm
theorem ok_z95:SpecOK SP glob fi_z95 S_z95:=mk_ok (c:=c_z95) (tab_ok _) mix_ok wf_z95 (by decide) (.cons ok_z55 .nil) (fun x hx=>Nat.zero_lt_one) g_z95
@[reducible] noncomputable def S_z91:Spec:={ ins:=(.cons (.d (.sl tIs)) (.cons (.clos fi_z55 (.cons (.box (.cons (.d (.sl tInt)) .nil)) .nil)) .nil)),pre:=(fun x=>(fun s n=>okS n.1.1) x.1 x.2.1),alts:=[{ outs:=(.cons (.d .bool) .nil),res:=(fun x=>(fun s n=>(s.any (fun k=>decide (sub k n.1.1)),())) x.1 x.2.1)}],ro:=true}
noncomputable def c_z91:Cf:=(cf_z91 (Fl [(fi_z95,S_z95)]))
theorem g_z91:∀ x,S_z91.pre x→shOK S_z91.ins x→fnGoal c_z91 fn_z91 S_z91 x:=by
 rintro ⟨s,⟨⟨n,⟨⟩⟩,⟨⟩⟩,⟨⟩⟩ hpre hok
 try dsimp only [Dat,SDat,dflt,Ty.size,keepS,bkUpd,Gv.bk,backS,wayA,maxI,minI,negI] at hpre
 have hln:=shLn_of _ hok;replace hok:=Hd.mk hok;try simp only [shLn,datLn,inRng,lo,hi,maxLen,true_and,and_true] at hln
 have hn:okS n:=hpre
 first|refine fn_goal (w_head ?_)
 intro Kz kz;(conv=>whnf);(try dsimp+instances only);refine kz _ ?_;clear kz Kz;(conv=>(arg 2;whnf))
 repeat' (first|refine an ?_ ?_|((try refine gm ?_);first|((with_reducible show Kz _);(try dsimp+instances only);(with_reducible refine kz _ ?_);clear kz Kz)|refine st ?_|(refine sr ?_;intro Kz kz;conv=>whnf)|(refine cd ?_;(conv=>arg 2;whnf);refine st ?_)|refine blockK_y (by rfl) ?_|(refine sw ?_;conv=>whnf))|(refine gm ?_;conv=>whnf)|(intro hc;(try dsimp+instances only[Dat,SDat,dflt,Ty.size,keepS,bkUpd,Gv.bk,backS,wayA,maxI,minI,negI]at hc);try simp only[LS]at hc))
 all_goals (try ((fail_if_success refine nl ?_);(try dsimp only[Dat,SDat,dflt,Ty.size,keepS,bkUpd,Gv.bk,backS,wayA,maxI,minI,negI]);(try simp only[LS]);first|done|exact dsc|((try simp only[allP,lo,hi,room,true_and,and_true,implies_true]);(repeat' (first|refine an ?_ ?_|((with_reducible refine preA_t ?_ ?_);rotate_left;exact sameP_t)|intro hv))<;>(try omega))))
 rw [boolOf_eq,Bool.eq_iff_iff,decide_eq_true_eq];exact findI_ge
theorem ok_z91:SpecOK SP glob fi_z91 S_z91:=mk_ok (c:=c_z91) (tab_ok _) mix_ok wf_z91 (by decide) (.cons ok_z95 .nil) (fun x hx=>Nat.zero_lt_one) g_z91
theorem minG_snoc {l:List Is} {k:Nat} (h:k<l.length):minG [] (l.take (k+1))=keepM (minG [] (l.take k)) (l.getD k []):=by
 unfold minG
 rw [List.take_succ_eq_append_getElem h,List.foldl_append,← getD_ok [] h];rfl
theorem keepM_any (out:List Is) (s:Is):keepM out s=if (out.any fun t=>decide (sub t s))=true then out else out++[s]:=by
 unfold keepM
 by_cases h:∃ t∈out,sub t s
 · rw [if_pos h,if_pos (List.any_eq_true.2 (let ⟨t,ht,q⟩:=h;⟨t,ht,decide_eq_true q⟩))]
 · rw [if_neg h,if_neg (fun q=>h (by obtain ⟨t,ht,q⟩:=List.any_eq_true.1 q;exact ⟨t,ht,of_decide_eq_true q⟩))]
theorem minG_len (L:List Is):(minG [] L).length≤L.length:=by
 have:∀ (L out:List Is),(minG out L).length≤out.length+L.length:=fun L=>by
  induction L with
  |nil=>intro out;simp [minG]
  |cons s L ih=>
   intro out
   have:=ih (keepM out s)
   have h2:(keepM out s).length≤out.length+1:=by unfold keepM;split<;>simp
   show (minG (keepM out s) L).length≤_
   simp only [List.length_cons];omega
 simpa using this L []
def incS (l:List Is):Prop:=∀ s∈l,Inc s∧List.length s≤1000000
@[reducible] noncomputable def S_z54:Spec:={ ins:=(.cons (.take tIs) .nil),pre:=(fun x=>(fun l=>sortPreL l∧incS l) x.1),alts:=[{ outs:=(.cons (.d (.sl tIs)) .nil),res:=(fun x=>(fun l=>(mins l,())) x.1)}]}
noncomputable def c_z54:Cf:=(cf_z54 (Fl [(fi_z98,S_z98),(fi_z91,S_z91)]))
theorem g_z54:∀ x,S_z54.pre x→shOK S_z54.ins x→fnGoal c_z54 fn_z54 S_z54 x:=by
 rintro ⟨l,⟨⟩⟩ hpre hok
 try dsimp only [Dat,SDat,dflt,Ty.size,keepS,bkUpd,Gv.bk,backS,wayA,maxI,minI,negI] at hpre
 have hln:=shLn_of _ hok;replace hok:=Hd.mk hok;try simp only [shLn,datLn,inRng,lo,hi,maxLen,true_and,and_true] at hln
 obtain ⟨hsp,hin⟩:=hpre
 have hsp:sortPreL l:=hsp
 have hin:incS l:=hin
 have hs9:List.length l≤1000000000000:=hsp
 have hsl:=sortL_len l
 first|refine fn_goal (w_head ?_)
 intro Kz kz;(conv=>whnf);(try dsimp+instances only);refine kz _ ?_;clear kz Kz;(conv=>(arg 2;whnf))
 repeat' (first|refine an ?_ ?_|((try refine gm ?_);first|((with_reducible show Kz _);(try dsimp+instances only);(with_reducible refine kz _ ?_);clear kz Kz)|refine st ?_|(refine sr ?_;intro Kz kz;conv=>whnf)|(refine cd ?_;(conv=>arg 2;whnf);refine st ?_)|refine blockK_y (by rfl) ?_|(refine sw ?_;conv=>whnf))|(refine gm ?_;conv=>whnf)|(intro hc;(try dsimp+instances only[Dat,SDat,dflt,Ty.size,keepS,bkUpd,Gv.bk,backS,wayA,maxI,minI,negI]at hc);try simp only[LS]at hc))
 all_goals (try ((fail_if_success refine nl ?_);(try dsimp only[Dat,SDat,dflt,Ty.size,keepS,bkUpd,Gv.bk,backS,wayA,maxI,minI,negI]);(try simp only[LS]);first|done|exact dsc|((try simp only[allP,lo,hi,room,true_and,and_true,implies_true]);(repeat' (first|refine an ?_ ?_|((with_reducible refine preA_t ?_ ?_);rotate_left;exact sameP_t)|intro hv))<;>(try omega))))
 refine w_loop [(10, .d tInt),(3, .spare tIs)] [] (fun y=>∃ k:Nat,y.1.1=(k:Int)∧k≤(sortL l).length∧y.1.2.1=minG [] ((sortL l).take k)) (fun y=>(sortL l).length - y.1.1.toNat) ?_
 conv=>whnf
 refine And.intro ?_ ?_
 · exact ⟨0,rfl,Nat.zero_le _,rfl⟩
 rintro ⟨⟨_,ou,⟨⟩⟩,⟨⟩⟩ ⟨k,rfl,hk,hou⟩
 have hou:ou=minG [] ((sortL l).take k):=hou
 have hol:List.length ou≤k:=by rw [hou];have:=minG_len ((sortL l).take k);rw [List.length_take] at this;omega
 have hsI:=fun (h:k<(sortL l).length)=>show okS ((sortL l).getD k []) from hin _ (sortL_mem.1 (getD_mem (d:=([]:Is)) h))
 have hyes:=fun (h:k<(sortL l).length) (q:(ou.any fun t=>decide (sub t ((sortL l).getD k [])))=true)=>show ou=minG [] ((sortL l).take (k+1)) from by rw [minG_snoc h,keepM_any,← hou,if_pos q]
 have hno:=fun (h:k<(sortL l).length) (q:¬ (ou.any fun t=>decide (sub t ((sortL l).getD k [])))=true)=>show ou++[(sortL l).getD k []]=minG [] ((sortL l).take (k+1)) from by rw [minG_snoc h,keepM_any,← hou,if_neg q]
 have hend:=fun (h:¬ k<(sortL l).length)=>show ou=mins l from by rw [hou,List.take_of_length_le (by omega)];rfl
 repeat' (first|refine an ?_ ?_|((try refine gm ?_);first|((with_reducible show Kz _);(try dsimp+instances only);(with_reducible refine kz _ ?_);clear kz Kz)|refine st ?_|(refine sr ?_;intro Kz kz;conv=>whnf)|(refine cd ?_;(conv=>arg 2;whnf);refine st ?_)|refine blockK_y (by rfl) ?_|(refine sw ?_;conv=>whnf))|(refine gm ?_;conv=>whnf)|(intro hc;(try dsimp+instances only[Dat,SDat,dflt,Ty.size,keepS,bkUpd,Gv.bk,backS,wayA,maxI,minI,negI]at hc);try simp only[LS]at hc))
 all_goals (try ((fail_if_success refine nl ?_);(try dsimp only[Dat,SDat,dflt,Ty.size,keepS,bkUpd,Gv.bk,backS,wayA,maxI,minI,negI]);(try simp only[LS]);first|done|exact dsc|((try simp only[allP,lo,hi,room,true_and,and_true,implies_true]);(repeat' (first|refine an ?_ ?_|((with_reducible refine preA_t ?_ ?_);rotate_left;exact sameP_t)|intro hv))<;>(try omega))))
 · exact hsI (by omega)
 · rename_i h1;exact ⟨k+1,rfl,by omega,hno (by omega) (by rw [hc];decide)⟩
 · rename_i h1;exact ⟨k+1,rfl,by omega,hyes (by omega) (by revert hc;cases (ou.any fun t=>decide (sub t ((sortL l).getD k [])))<;>simp)⟩
 · exact hend (by omega)
theorem ok_z54:SpecOK SP glob fi_z54 S_z54:=mk_ok (c:=c_z54) (tab_ok _) mix_ok wf_z54 (by decide) (.cons ok_z98 (.cons ok_z91 .nil)) (fun x hx=>Nat.zero_lt_one) g_z54
theorem lib_compact:∀ (l:Is),Lib.compact l=compI l:=by
 have key:∀ (xs:List Int),compI xs=Lib.compactUpTo xs.toArray xs.length:=fun xs=>by
  have step:∀ (ys:List Int) (x:Int),compI (ys++[x])=if ys.getLast?=some x then compI ys else compI ys++[x]:=fun ys=>by
   induction ys with
   |nil=>intro x;simp [compI]
   |cons y ys ih=>
    intro x
    cases ys with
    |nil=>
     by_cases h:y=x
     · subst h;simp [compI]
     · simp [compI,h]
    |cons z ys=>
     have ih:=ih x
     have e:compI (y::z::ys++[x])=if y=z then compI (z::ys++[x]) else y::compI (z::ys++[x]):=rfl
     have e2:compI (y::z::ys)=if y=z then compI (z::ys) else y::compI (z::ys):=rfl
     have e3:(y::z::ys).getLast?=(z::ys).getLast?:=by simp [List.getLast?_cons]
     rw [e,e2,e3,ih]
     by_cases h:y=z
     · rw [if_pos h,if_pos h]
     · rw [if_neg h,if_neg h]
       split<;>rfl
  have main:∀ m,m≤xs.length→compI (xs.take m)=Lib.compactUpTo xs.toArray m:=fun m=>by
   induction m with
   |zero=>intro _;rfl
   |succ m ih=>
    intro hm
    rw [Lib.compactUpTo_succ,← ih (by omega),List.take_succ_eq_append_getElem (by omega),step]
    have hx:xs.toArray[m]! =xs[m]:=by rw [getElem!_pos _ m (by simp;omega)];simp
    by_cases h0:m=0
    · subst h0
      rw [List.take_zero,Lib.keeps_lt_one _ 0 (by omega),hx];rfl
    · have hl:(xs.take m).getLast?=some xs[m - 1]:=by
       rw [List.getLast?_take,if_neg h0,List.getElem?_eq_getElem (by omega)];rfl
      have hx1:xs.toArray[m - 1]! =xs[m - 1]:=by rw [getElem!_pos _ (m - 1) (by simp;omega)];simp
      rw [hl]
      by_cases h:xs[m - 1]=xs[m]
      · rw [if_pos (by rw [h]),Lib.keeps_neg (by omega) (by rw [hx,hx1,h])];simp
      · rw [if_neg (fun e=>h (Option.some.inj e)),Lib.keeps_pos (by rw [hx,hx1];exact fun e=>h e.symm),hx];rfl
  have:=main xs.length (Nat.le_refl _)
  rwa [List.take_length] at this
 intro l
 exact (key l).symm
@[reducible] noncomputable def S_z87:Spec:={ ins:= .cons (.take tInt) .nil,pre:=fun x=>List.length x.1<4611686018427387904,alts:=[{ outs:= .cons (.row tInt) .nil,res:=fun x=>(Lib.compact (α:=Int) x.1,())}]}
set_option maxRecDepth 100000 in
theorem ok_z87:SpecOK SP glob fi_z87 S_z87:=compactI_ok laysT20 (fn_hf16 wf_z87) (fun xs=>by rw [lib_compact];exact compI_len xs) (fun xs x hx=>by rw [lib_compact] at hx;exact compI_mem.1 hx)
end Go.Gv
