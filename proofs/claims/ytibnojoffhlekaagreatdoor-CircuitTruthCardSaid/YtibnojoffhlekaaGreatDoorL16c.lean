/- The statements of chapter 16: gates that hold. -/
import Derived.Test.YtibnojoffhlekaaGreatDoorL16
import Derived.Test.YtibnojoffhlekaaGreatDoorP16n
set_option linter.all false
namespace Go.Gv
open Go Go.Proofs Go.Proofs.YtibnojoffhlekaaGreatDoor
set_option maxRecDepth 100000
set_option maxHeartbeats 4000000
theorem tru_step {hv:List Bool} {l:List Pw} {b:Nat} (h:(b:Int)<(l.length:Int)):(boolOf (AllT (tru hv) (l.take b))=true∧0≤(List.getD l b ((0,0,()):Pw)).1)∧(List.getD l b ((0,0,()):Pw)).1<(hv.length:Int)∧hv.getD (List.getD l b ((0,0,()):Pw)).1.toNat false=true↔AllT (tru hv) (l.take (b+1)):=by
 have hb:b<l.length:=Int.ofNat_lt.1 h
 rw [boolOf_true]
 unfold AllT
 rw [List.take_succ_eq_append_getElem hb,getD_ok ((0,0,()):Pw) hb]
 constructor
 · rintro ⟨⟨h1,h2⟩,h3,h4⟩ x hx
   rcases List.mem_append.1 hx with hx|hx
   · exact h1 x hx
   · rw [List.mem_singleton.1 hx];exact ⟨⟨h2,h3⟩,h4⟩
 · intro k
   have h9:=k _ (List.mem_append_right _ (List.mem_singleton.2 rfl))
   exact ⟨⟨fun x hx=>k x (List.mem_append_left _ hx),h9.1.1⟩,h9.1.2,h9.2⟩
structure HasJ (hv:List Bool) (p:List Mo) (a:Nat):Prop where
 le:a≤p.length
 no:∀ m∈p.take a,¬ AllT (tru hv) m.2.1
theorem HasJ.hit {hv:List Bool} {p:List Mo} {a:Nat} (hl:(a:Int)<(p.length:Int)) (h:AllT (tru hv) ((List.getD p a ((0,[],()):Mo)).2.1)):hasP hv p:=⟨_,getD_mem (Int.ofNat_lt.1 hl),h⟩
theorem HasJ.step {hv:List Bool} {p:List Mo} {a:Nat} (h:HasJ hv p a) (hl:(a:Int)<(p.length:Int)) (q:¬ AllT (tru hv) ((List.getD p a ((0,[],()):Mo)).2.1)):HasJ hv p (a+1):=⟨Int.ofNat_lt.1 hl,fun m hm=>by
 rw [List.take_succ_eq_append_getElem (Int.ofNat_lt.1 hl),← getD_ok ((0,[],()):Mo) (Int.ofNat_lt.1 hl)] at hm
 rcases List.mem_append.1 hm with hm|hm
 · exact h.no m hm
 · rw [List.mem_singleton.1 hm];exact q⟩
theorem HasJ.fin {hv:List Bool} {p:List Mo} {a:Nat} (h:HasJ hv p a) (hl:¬ (a:Int)<(p.length:Int)):¬ hasP hv p:=fun ⟨m,hm,q⟩=>h.no m (by rw [List.take_of_length_le (by omega)];exact hm) q
@[reducible] noncomputable def S_z49:Spec:={ ins:=(.cons (.d tPoly) (.cons (.d (.sl .bool)) .nil)),pre:=fun _=>True,alts:=[{ outs:=(.cons (.d .bool) .nil),res:=(fun x=>(fun p h=>(boolOf (hasP h p),())) x.1 x.2.1)}]}
noncomputable def c_z49:Cf:=(cf_z49 (Fl []))
theorem g_z49:∀ x,S_z49.pre x→shOK S_z49.ins x→fnGoal c_z49 fn_z49 S_z49 x:=by
 rintro ⟨p,h,⟨⟩⟩ hpre hok
 clear hpre
 have hln:=shLn_of _ hok;replace hok:=Hd.mk hok;try simp only [shLn,datLn,inRng,lo,hi,maxLen,true_and,and_true] at hln
 first|refine fn_goal (w_head ?_)
 intro Kz kz;(conv=>whnf);(try dsimp+instances only);refine kz _ ?_;clear kz Kz;(conv=>(arg 2;whnf))
 repeat' (first|refine an ?_ ?_|((try refine gm ?_);first|((with_reducible show Kz _);(try dsimp+instances only);(with_reducible refine kz _ ?_);clear kz Kz)|refine st ?_|(refine sr ?_;intro Kz kz;conv=>whnf)|(refine cd ?_;(conv=>arg 2;whnf);refine st ?_)|refine blockK_y (by rfl) ?_|(refine sw ?_;conv=>whnf))|(refine gm ?_;conv=>whnf)|(intro hc;(try dsimp+instances only[Dat,SDat,dflt,Ty.size,keepS,bkUpd,Gv.bk,backS,wayA,maxI,minI,negI]at hc);try simp only[LS]at hc))
 all_goals (try ((fail_if_success refine nl ?_);(try dsimp only[Dat,SDat,dflt,Ty.size,keepS,bkUpd,Gv.bk,backS,wayA,maxI,minI,negI]);(try simp only[LS]);first|done|exact dsc|((try simp only[allP,lo,hi,room,true_and,and_true,implies_true]);(repeat' (first|refine an ?_ ?_|((with_reducible refine preA_t ?_ ?_);rotate_left;exact sameP_t)|intro hv))<;>(try omega))))
 refine w_loop [(5, .d tInt)] [] (fun y=>∃ a:Nat,y.1.1=(a:Int)∧HasJ h p a) (fun y=>List.length p - y.1.1.toNat) ?_
 conv=>whnf
 refine And.intro ?_ ?_
 · exact ⟨0,rfl,Nat.zero_le _,fun m hm=>by cases hm⟩
 rintro ⟨⟨_,⟨⟩⟩,⟨⟩⟩ ⟨a,rfl,hA⟩
 have hA:HasJ h p a:=hA
 have hle:=hA.le
 repeat' (first|refine an ?_ ?_|((try refine gm ?_);first|((with_reducible show Kz _);(try dsimp+instances only);(with_reducible refine kz _ ?_);clear kz Kz)|refine st ?_|(refine sr ?_;intro Kz kz;conv=>whnf)|(refine cd ?_;(conv=>arg 2;whnf);refine st ?_)|refine blockK_y (by rfl) ?_|(refine sw ?_;conv=>whnf))|(refine gm ?_;conv=>whnf)|(intro hc;(try dsimp+instances only[Dat,SDat,dflt,Ty.size,keepS,bkUpd,Gv.bk,backS,wayA,maxI,minI,negI]at hc);try simp only[LS]at hc))
 all_goals (try ((fail_if_success refine nl ?_);(try dsimp only[Dat,SDat,dflt,Ty.size,keepS,bkUpd,Gv.bk,backS,wayA,maxI,minI,negI]);(try simp only[LS]);first|done|exact dsc|((try simp only[allP,lo,hi,room,true_and,and_true,implies_true]);(repeat' (first|refine an ?_ ?_|((with_reducible refine preA_t ?_ ?_);rotate_left;exact sameP_t)|intro hv))<;>(try omega))))
 · have hc1:(a:Int)<(List.length p:Int):=by assumption
   have hgl:List.length ((List.getD p a ((0,[],()):Mo)).2.1)≤2 ^ 63 - 1:=(hok.out.1.2 _ (getD_mem (l:=p) (d:=((0,[],()):Mo)) (Int.ofNat_lt.1 hc1))).2.1.1
   refine w_loop [(6, .d .bool),(7, .d tInt)] [] (fun y=>∃ b:Nat,y.1.2.1=(b:Int)∧b≤List.length ((List.getD p a ((0,[],()):Mo)).2.1)∧y.1.1=boolOf (AllT (tru h) (List.take b ((List.getD p a ((0,[],()):Mo)).2.1)))) (fun y=>List.length ((List.getD p a ((0,[],()):Mo)).2.1) - y.1.2.1.toNat) ?_
   conv=>whnf
   refine And.intro ?_ ?_
   · exact ⟨0,rfl,Nat.zero_le _,(boolOf_true.2 fun x hx=>by simp at hx).symm⟩
   rintro ⟨⟨(al:Bool),_,⟨⟩⟩,⟨⟩⟩ ⟨b,rfl,hb,hal⟩
   have hal:al=boolOf (AllT (tru h) (List.take b ((List.getD p a ((0,[],()):Mo)).2.1))):=hal
   have hst:=fun (q:(b:Int)<(List.length ((List.getD p a ((0,[],()):Mo)).2.1):Int))=>show ∃ b':Nat,(b:Int)+1=(b':Int)∧b'≤List.length ((List.getD p a ((0,[],()):Mo)).2.1)∧boolOf (((al=true∧0≤(List.getD ((List.getD p a ((0,[],()):Mo)).2.1) b ((0,0,()):Pw)).1)∧(List.getD ((List.getD p a ((0,[],()):Mo)).2.1) b ((0,0,()):Pw)).1<(List.length h:Int))∧List.getD h (List.getD ((List.getD p a ((0,[],()):Mo)).2.1) b ((0,0,()):Pw)).1.toNat false=true)=boolOf (AllT (tru h) (List.take b' ((List.getD p a ((0,[],()):Mo)).2.1))) from ⟨b+1,rfl,Int.ofNat_lt.1 q,congrArg boolOf (propext (by rw [hal,and_assoc];exact tru_step (hv:=h) q))⟩
   have hfin:=fun (q:¬ (b:Int)<(List.length ((List.getD p a ((0,[],()):Mo)).2.1):Int))=>show al=boolOf (AllT (tru h) ((List.getD p a ((0,[],()):Mo)).2.1)) by rw [hal,List.take_of_length_le (by omega)]
   repeat' (first|refine an ?_ ?_|((try refine gm ?_);first|((with_reducible show Kz _);(try dsimp+instances only);(with_reducible refine kz _ ?_);clear kz Kz)|refine st ?_|(refine sr ?_;intro Kz kz;conv=>whnf)|(refine cd ?_;(conv=>arg 2;whnf);refine st ?_)|refine blockK_y (by rfl) ?_|(refine sw ?_;conv=>whnf))|(refine gm ?_;conv=>whnf)|(intro hc;(try dsimp+instances only[Dat,SDat,dflt,Ty.size,keepS,bkUpd,Gv.bk,backS,wayA,maxI,minI,negI]at hc);try simp only[LS]at hc))
   all_goals (try ((fail_if_success refine nl ?_);(try dsimp only[Dat,SDat,dflt,Ty.size,keepS,bkUpd,Gv.bk,backS,wayA,maxI,minI,negI]);(try simp only[LS]);first|done|exact dsc|((try simp only[allP,lo,hi,room,true_and,and_true,implies_true]);(repeat' (first|refine an ?_ ?_|((with_reducible refine preA_t ?_ ?_);rotate_left;exact sameP_t)|intro hv))<;>(try omega))))
   all_goals (try ((fail_if_success refine nl ?_);(first|exact hst (by assumption)|exact (boolOf_true.2 (HasJ.hit hc1 (boolOf_true.1 ((hfin (by assumption)).symm.trans hc)))).symm|exact ⟨a+1,rfl,hA.step hc1 (boolOf_false.1 ((hfin (by assumption)).symm.trans hc))⟩)))
 · exact (boolOf_false.2 (hA.fin hc)).symm
theorem ok_z49:SpecOK SP glob fi_z49 S_z49:=mk_ok (c:=c_z49) (tab_ok _) mix_ok wf_z49 (by decide) .nil (fun x hx=>Nat.zero_lt_one) g_z49
theorem holdsV_is {gs:List Gate} {i:Int} {h:List Bool}:holdsV gs i h=(evC (srB h).ge gs i).1:=by
 by_cases g:GoodI gs i
 · rw [holdsV_good g,show evC (srB h).ge gs i=_ from evC_tot g];rfl
 · rw [holdsV_bad g,evC_bad g];rfl
structure BothJ (h mo bo:List Bool) (a:Nat):Prop where
 le:a≤bo.length
 ln:h.length≤bo.length∧mo.length≤bo.length∧bo.length≤100
 at':∀ m,m<a→bo.getD m false=boolOf (((m:Int)<(h.length:Int)∧h.getD m false=true)∨(m:Int)<(mo.length:Int)∧mo.getD m false=true)
theorem BothJ.step {h mo bo:List Bool} {a:Nat} (hB:BothJ h mo bo a) (ha:(a:Int)<(bo.length:Int)):BothJ h mo (bo.set a (boolOf (((a:Int)<(h.length:Int)∧h.getD a false=true)∨(a:Int)<(mo.length:Int)∧mo.getD a false=true))) (a+1):=by
 have ha':a<bo.length:=Int.ofNat_lt.1 ha
 refine ⟨by rw [List.length_set];exact ha',by rw [List.length_set];exact hB.ln,fun m hm=>?_⟩
 rw [getD_set ha']
 by_cases e:a=m
 · rw [if_pos e];subst e;rfl
 · rw [if_neg e];exact hB.at' m (by omega)
theorem BothJ.fin {h mo bo:List Bool} {a:Nat} (hB:BothJ h mo bo a) (ha:¬ (a:Int)<(bo.length:Int)) (v:Int) (k:v<(h.length:Int)∧h.getD v.toNat false=true):v<(bo.length:Int)∧bo.getD v.toNat false=true:=by
 have hl:v.toNat<h.length:=Nat.lt_of_not_le fun q=>by
  have:=k.2
  rw [List.getD_eq_getElem?_getD,List.getElem?_eq_none q] at this
  cases this
 have:=hB.ln.1
 refine ⟨by omega,?_⟩
 rw [hB.at' v.toNat (by omega),boolOf_true]
 exact .inl ⟨by omega,k.2⟩
@[reducible] noncomputable def S_z46:Spec:={ ins:=(.cons (.d tCirc) (.cons (.d tInt) (.cons (.d (.sl .bool)) (.cons (.d (.sl .bool)) .nil)))),pre:=fun _=>True,alts:=[{ outs:=(.cons (.d .bool) .nil),res:=(fun x=>(fun c i h m=>(true,())) x.1 x.2.1 x.2.2.1 x.2.2.2.1)}],noisy:=true}
noncomputable def c_z46:Cf:={ cf_z46 (Fl [(fi_z50,S_z50),(fi_z98,S_z98),(fi_z6,S_z6),(fi_z10,S_z10),(fi_z49,S_z49)]) with spl:=[72],nz:=true}
theorem g_z46:∀ x,S_z46.pre x→shOK S_z46.ins x→fnGoal c_z46 fn_z46 S_z46 x:=by
 rintro ⟨⟨gs,⟨⟩⟩,(i:Int),(h:List Bool),(mo:List Bool),⟨⟩⟩ hpre hok
 clear hpre
 have hln:=shLn_of _ hok;replace hok:=Hd.mk hok;try simp only [shLn,datLn,inRng,lo,hi,maxLen,true_and,and_true] at hln
 first|refine fn_goal (w_head ?_)
 intro Kz kz;(conv=>whnf);(try dsimp+instances only);refine kz _ ?_;clear kz Kz;(conv=>(arg 2;whnf))
 repeat' (first|refine an ?_ ?_|((try refine gm ?_);first|((with_reducible show Kz _);(try dsimp+instances only);(with_reducible refine kz _ ?_);clear kz Kz)|refine st ?_|(refine sr ?_;intro Kz kz;conv=>whnf)|(refine cd ?_;(conv=>arg 2;whnf);refine st ?_)|refine blockK_y (by rfl) ?_|(refine sw ?_;conv=>whnf))|(refine gm ?_;conv=>whnf)|(intro hc;(try dsimp+instances only[Dat,SDat,dflt,Ty.size,keepS,bkUpd,Gv.bk,backS,wayA,maxI,minI,negI]at hc);try simp only[LS]at hc))
 all_goals (try ((fail_if_success refine nl ?_);(try dsimp only[Dat,SDat,dflt,Ty.size,keepS,bkUpd,Gv.bk,backS,wayA,maxI,minI,negI]);(try simp only[LS]);first|done|exact dsc|((try simp only[allP,lo,hi,room,true_and,and_true,implies_true]);(repeat' (first|refine an ?_ ?_|((with_reducible refine preA_t ?_ ?_);rotate_left;exact sameP_t)|intro hv))<;>(try omega))))
 all_goals (try ((fail_if_success refine nl ?_);(exact few_small (few_of3 (by assumption:¬ ((¬ ((List.length gs:Int)≤20∧∀ g∈gs,g.2.2.1.length≤20)∨100<(List.length h:Int))∨100<(List.length mo:Int)))).2 _ (by assumption))))
 have hc9:=(by assumption:¬ ((¬ ((List.length gs:Int)≤20∧∀ g∈gs,g.2.2.1.length≤20)∨100<(List.length h:Int))∨100<(List.length mo:Int)))
 have hfew:=few_of3 hc9
 refine w_loop [(11, .row .bool),(12, .d tInt)] [] (fun y=>∃ a:Nat,y.1.2.1=(a:Int)∧BothJ h mo y.1.1 a) (fun y=>List.length y.1.1 - y.1.2.1.toNat) ?_
 conv=>whnf
 refine And.intro ?_ ?_
 · refine ⟨0,rfl,Nat.zero_le _,?_,fun m hm=>absurd hm (Nat.not_lt_zero m)⟩
   have h1:¬ 100<(List.length h:Int):=fun q=>hc9 (.inl (.inr q))
   have h2:¬ 100<(List.length mo:Int):=fun q=>hc9 (.inr q)
   rw [show List.length _=(maxI (List.length h:Int) (List.length mo:Int)).toNat from List.length_replicate]
   unfold maxI
   omega
 rintro ⟨⟨(bo:List Bool),_,⟨⟩⟩,⟨⟩⟩ ⟨a,rfl,hB⟩
 have hB:BothJ h mo bo a:=hB
 have hle:=hB.le
 have hbl:=hB.ln.2.2
 have hst:=fun (q:(a:Int)<(List.length bo:Int))=>show ∃ a':Nat,(a:Int)+1=(a':Int)∧BothJ h mo (List.set bo a (boolOf (((a:Int)<(List.length h:Int)∧List.getD h a false=true)∨(a:Int)<(List.length mo:Int)∧List.getD mo a false=true))) a' from ⟨a+1,rfl,hB.step q⟩
 have hmore:=fun (q:¬ (a:Int)<(List.length bo:Int)) (k:holdsV gs i h=true)=>show holdsV gs i bo=true by
  rw [holdsV_is] at k ⊢
  exact ev_more (hB.fin q) k
 have hbad:=fun (k:(evC srP.ge gs i).2=1)=>holdsV_bad (h:=h) (ev_bad1 k)
 have hyes:=fun (k:(evC srP.ge gs i).2=0)=>show holdsV gs i h=true↔hasP h (evC srP.ge gs i).1 by
  rw [holdsV_is]
  exact (ev_hold h k).2
 repeat' (first|refine an ?_ ?_|((try refine gm ?_);first|((with_reducible show Kz _);(try dsimp+instances only);(with_reducible refine kz _ ?_);clear kz Kz)|refine st ?_|(refine sr ?_;intro Kz kz;conv=>whnf)|(refine cd ?_;(conv=>arg 2;whnf);refine st ?_)|refine blockK_y (by rfl) ?_|(refine sw ?_;conv=>whnf))|(refine gm ?_;conv=>whnf)|(intro hc;(try dsimp+instances only[Dat,SDat,dflt,Ty.size,keepS,bkUpd,Gv.bk,backS,wayA,maxI,minI,negI]at hc);try simp only[LS]at hc))
 all_goals (try ((fail_if_success refine nl ?_);(try dsimp only[Dat,SDat,dflt,Ty.size,keepS,bkUpd,Gv.bk,backS,wayA,maxI,minI,negI]);(try simp only[LS]);first|done|exact dsc|((try simp only[allP,lo,hi,room,true_and,and_true,implies_true]);(repeat' (first|refine an ?_ ?_|((with_reducible refine preA_t ?_ ?_);rotate_left;exact sameP_t)|intro hv))<;>(try omega))))
 all_goals (try ((fail_if_success refine nl ?_);(first|exact hst (by assumption)|exact few_small hfew.2 _ (by assumption)|exact hbad hc|exact Classical.or_iff_not_imp_left.2 (fun k=>hyes (Classical.not_not.1 k))|exact absurd ((hmore (by assumption) (by assumption)).symm.trans hc) (by decide))))
theorem ok_z46:SpecOK SP glob fi_z46 S_z46:=mk_ok (c:=c_z46) (tab_ok _) mix_ok wf_z46 (by decide) (.cons ok_z50 (.cons ok_z98 (.cons ok_z6 (.cons ok_z10 (.cons ok_z49 .nil))))) (fun x hx=>Nat.zero_lt_one) g_z46
end Go.Gv
