/- The statements of chapter 16: gates that hold. -/
import Derived.Test.YtibnojoffhlekaaGreatDoorL16
import Derived.Test.YtibnojoffhlekaaGreatDoorP16n
set_option linter.all false
namespace Go.Gv
open Go Go.Proofs Go.Proofs.YtibnojoffhlekaaGreatDoor
open List (getD)
set_option maxRecDepth 100000
set_option maxHeartbeats 4000000
theorem tru_step {hv:List Bool} {l:List Pw} {b:Nat} (h:(b:Int)<(l.length:Int)):(boolOf (AllT (tru hv) (l.take b))=true∧0≤(getD l b ((0,0,()):Pw)).1)∧(getD l b ((0,0,()):Pw)).1<(hv.length:Int)∧hv.getD (getD l b ((0,0,()):Pw)).1.toNat false=true↔AllT (tru hv) (l.take (b+1)):=by
 have hb:b<l.length:=Int.ofNat_lt.1 h
 rw [boolOf_true]
 unfold AllT
 rw [List.take_succ_eq_append_getElem hb,getD_ok ((0,0,()):Pw) hb]
 constructor
 · rintro ⟨⟨h1,h2⟩,h3,h4⟩ x hx
   rcases List.mem_append.1 hx with hx|hx
   · exact h1 x hx
   · rw [List.mem_singleton.1 hx];exact ⟨⟨h2,h3⟩,h4⟩
 · intro k
   have h9:=k _ (List.mem_append_right _ (List.mem_singleton.2 rfl))
   exact ⟨⟨fun x hx=>k x (List.mem_append_left _ hx),h9.1.1⟩,h9.1.2,h9.2⟩
structure HasJ (hv:List Bool) (p:List Mo) (a:Nat):Prop where
 le:a≤p.length
 no:∀ m∈p.take a,¬ AllT (tru hv) m.2.1
theorem HasJ.hit {hv:List Bool} {p:List Mo} {a:Nat} (hl:(a:Int)<(p.length:Int)) (h:AllT (tru hv) ((getD p a ((0,[],()):Mo)).2.1)):hasP hv p:=⟨_,getD_mem (Int.ofNat_lt.1 hl),h⟩
theorem HasJ.step {hv:List Bool} {p:List Mo} {a:Nat} (h:HasJ hv p a) (hl:(a:Int)<(p.length:Int)) (q:¬ AllT (tru hv) ((getD p a ((0,[],()):Mo)).2.1)):HasJ hv p (a+1):=⟨Int.ofNat_lt.1 hl,fun m hm=>by
 rw [List.take_succ_eq_append_getElem (Int.ofNat_lt.1 hl),← getD_ok ((0,[],()):Mo) (Int.ofNat_lt.1 hl)] at hm
 rcases List.mem_append.1 hm with hm|hm
 · exact h.no m hm
 · rw [List.mem_singleton.1 hm];exact q⟩
theorem HasJ.fin {hv:List Bool} {p:List Mo} {a:Nat} (h:HasJ hv p a) (hl:¬ (a:Int)<(p.length:Int)):¬ hasP hv p:=fun ⟨m,hm,q⟩=>h.no m (by rw [List.take_of_length_le (by omega)];exact hm) q
@[reducible] noncomputable def S_z49:Spec:={ ins:=(.cons (.d tPoly) (.cons (.d (.sl .bool)) .nil)),pre:=fun _=>True,alts:=[{ outs:=(.cons (.d .bool) .nil),res:=(fun x=>(fun p h=>(boolOf (hasP h p),())) x.1 x.2.1)}]}
noncomputable def c_z49:Cf:=(cf_z49 (Fl []))
theorem g_z49:∀ x,S_z49.pre x→shOK S_z49.ins x→fnGoal c_z49 fn_z49 S_z49 x:=by
 rintro ⟨p,h,⟨⟩⟩ hpre hok
 clear hpre
 have hln:=shLn_of _ hok;replace hok:=Hd.mk hok;try simp only [shLn,datLn,inRng,lo,hi,maxLen,true_and,and_true] at hln
 first|refine fn_goal (w_head ?_)
 intro Kz kz;(conv=>whnf);(try dsimp+instances only);refine kz _ ?_;clear kz Kz;(conv=>(arg 2;whnf))
 repeat' (first|refine an ?_ ?_|((try refine gm ?_);first|((with_reducible show Kz _);(try dsimp+instances only);(with_reducible refine kz _ ?_);clear kz Kz)|refine st ?_|(refine sr ?_;intro Kz kz;conv=>whnf)|(refine cd ?_;(conv=>arg 2;whnf);refine st ?_)|refine blockK_y (by rfl) ?_|(refine sw ?_;conv=>whnf))|(refine gm ?_;conv=>whnf)|(intro hc;(try dsimp+instances only[Dat,SDat,dflt,Ty.size,keepS,bkUpd,Gv.bk,backS,wayA,maxI,minI,negI]at hc);try simp only[LS]at hc))
 all_goals (try ((fail_if_success refine nl ?_);(try dsimp only[Dat,SDat,dflt,Ty.size,keepS,bkUpd,Gv.bk,backS,wayA,maxI,minI,negI]);(try simp only[LS]);first|done|exact dsc|((try simp only[allP,lo,hi,room,true_and,and_true,implies_true]);(repeat' (first|refine an ?_ ?_|((with_reducible refine preA_t ?_ ?_);rotate_left;exact sameP_t)|intro hv))<;>(try omega))))
 refine w_loop [(5, .d tInt)] [] (fun y=>∃ a:Nat,y.1.1=(a:Int)∧HasJ h p a) (fun y=>List.length p - y.1.1.toNat) ?_
 conv=>whnf
 refine And.intro ?_ ?_
 · exact ⟨0,rfl,Nat.zero_le _,fun m hm=>by cases hm⟩
 rintro ⟨⟨_,⟨⟩⟩,⟨⟩⟩ ⟨a,rfl,hA⟩
 have hA:HasJ h p a:=hA
 have hle:=hA.le
 repeat' (first|refine an ?_ ?_|((try refine gm ?_);first|((with_reducible show Kz _);(try dsimp+instances only);(with_reducible refine kz _ ?_);clear kz Kz)|refine st ?_|(refine sr ?_;intro Kz kz;conv=>whnf)|(refine cd ?_;(conv=>arg 2;whnf);refine st ?_)|refine blockK_y (by rfl) ?_|(refine sw ?_;conv=>whnf))|(refine gm ?_;conv=>whnf)|(intro hc;(try dsimp+instances only[Dat,SDat,dflt,Ty.size,keepS,bkUpd,Gv.bk,backS,wayA,maxI,minI,negI]at hc);try simp only[LS]at hc))
 all_goals (try ((fail_if_success refine nl ?_);(try dsimp only[Dat,SDat,dflt,Ty.size,keepS,bkUpd,Gv.bk,backS,wayA,maxI,minI,negI]);(try simp only[LS]);first|done|exact dsc|((try simp only[allP,lo,hi,room,true_and,and_true,implies_true]);(repeat' (first|refine an ?_ ?_|((with_reducible refine preA_t ?_ ?_);rotate_left;exact sameP_t)|intro hv))<;>(try omega))))
 · have hc1:(a:Int)<(List.length p:Int):=by assumption
   have hgl:List.length ((getD p a ((0,[],()):Mo)).2.1)≤2 ^ 63 - 1:=(hok.out.1.2 _ (getD_mem (l:=p) (d:=((0,[],()):Mo)) (Int.ofNat_lt.1 hc1))).2.1.1
   refine w_loop [(6, .d .bool),(7, .d tInt)] [] (fun y=>∃ b:Nat,y.1.2.1=(b:Int)∧b≤List.length ((getD p a ((0,[],()):Mo)).2.1)∧y.1.1=boolOf (AllT (tru h) (List.take b ((getD p a ((0,[],()):Mo)).2.1)))) (fun y=>List.length ((getD p a ((0,[],()):Mo)).2.1) - y.1.2.1.toNat) ?_
   conv=>whnf
   refine And.intro ?_ ?_
   · exact ⟨0,rfl,Nat.zero_le _,(boolOf_true.2 fun x hx=>by simp at hx).symm⟩
   rintro ⟨⟨(al:Bool),_,⟨⟩⟩,⟨⟩⟩ ⟨b,rfl,hb,hal⟩
   have hal:al=boolOf (AllT (tru h) (List.take b ((getD p a ((0,[],()):Mo)).2.1))):=hal
   have hst:=fun (q:(b:Int)<(List.length ((getD p a ((0,[],()):Mo)).2.1):Int))=>show ∃ b':Nat,(b:Int)+1=(b':Int)∧b'≤List.length ((getD p a ((0,[],()):Mo)).2.1)∧boolOf (((al=true∧0≤(getD ((getD p a ((0,[],()):Mo)).2.1) b ((0,0,()):Pw)).1)∧(getD ((getD p a ((0,[],()):Mo)).2.1) b ((0,0,()):Pw)).1<(List.length h:Int))∧getD h (getD ((getD p a ((0,[],()):Mo)).2.1) b ((0,0,()):Pw)).1.toNat false=true)=boolOf (AllT (tru h) (List.take b' ((getD p a ((0,[],()):Mo)).2.1))) from ⟨b+1,rfl,Int.ofNat_lt.1 q,congrArg boolOf (propext (by rw [hal,and_assoc];exact tru_step (hv:=h) q))⟩
   have hfin:=fun (q:¬ (b:Int)<(List.length ((getD p a ((0,[],()):Mo)).2.1):Int))=>show al=boolOf (AllT (tru h) ((getD p a ((0,[],()):Mo)).2.1)) by rw [hal,List.take_of_length_le (by omega)]
   repeat' (first|refine an ?_ ?_|((try refine gm ?_);first|((with_reducible show Kz _);(try dsimp+instances only);(with_reducible refine kz _ ?_);clear kz Kz)|refine st ?_|(refine sr ?_;intro Kz kz;conv=>whnf)|(refine cd ?_;(conv=>arg 2;whnf);refine st ?_)|refine blockK_y (by rfl) ?_|(refine sw ?_;conv=>whnf))|(refine gm ?_;conv=>whnf)|(intro hc;(try dsimp+instances only[Dat,SDat,dflt,Ty.size,keepS,bkUpd,Gv.bk,backS,wayA,maxI,minI,negI]at hc);try simp only[LS]at hc))
   all_goals (try ((fail_if_success refine nl ?_);(try dsimp only[Dat,SDat,dflt,Ty.size,keepS,bkUpd,Gv.bk,backS,wayA,maxI,minI,negI]);(try simp only[LS]);first|done|exact dsc|((try simp only[allP,lo,hi,room,true_and,and_true,implies_true]);(repeat' (first|refine an ?_ ?_|((with_reducible refine preA_t ?_ ?_);rotate_left;exact sameP_t)|intro hv))<;>(try omega))))
   all_goals (try ((fail_if_success refine nl ?_);(first|exact hst (by assumption)|exact (boolOf_true.2 (HasJ.hit hc1 (boolOf_true.1 ((hfin (by assumption)).symm.trans hc)))).symm|exact ⟨a+1,rfl,hA.step hc1 (boolOf_false.1 ((hfin (by assumption)).symm.trans hc))⟩)))
 · exact (boolOf_false.2 (hA.fin hc)).symm
theorem ok_z49:SpecOK SP glob fi_z49 S_z49:=mk_ok (c:=c_z49) (tab_ok _) mix_ok wf_z49 (by decide) .nil (fun x hx=>Nat.zero_lt_one) g_z49
theorem holdsV_is {gs:List Gate} {i:Int} {h:List Bool}:holdsV gs i h=(evC (srB h).ge gs i).1:=by
 by_cases g:GoodI gs i
 · rw [holdsV_good g,show evC (srB h).ge gs i=_ from evC_tot g];rfl
 · rw [holdsV_bad g,evC_bad g];rfl
structure BothJ (h mo bo:List Bool) (a:Nat):Prop where
 le:a≤bo.length
 ln:h.length≤bo.length∧mo.length≤bo.length∧bo.length≤100
 at':∀ m,m<a→bo.getD m false=boolOf (((m:Int)<(h.length:Int)∧h.getD m false=true)∨(m:Int)<(mo.length:Int)∧mo.getD m false=true)
theorem BothJ.step {h mo bo:List Bool} {a:Nat} (hB:BothJ h mo bo a) (ha:(a:Int)<(bo.length:Int)):BothJ h mo (bo.set a (boolOf (((a:Int)<(h.length:Int)∧h.getD a false=true)∨(a:Int)<(mo.length:Int)∧mo.getD a false=true))) (a+1):=by
 have ha':a<bo.length:=Int.ofNat_lt.1 ha
 refine ⟨by rw [List.length_set];exact ha',by rw [List.length_set];exact hB.ln,fun m hm=>?_⟩
 rw [getD_set ha']
 by_cases e:a=m
 · rw [if_pos e];subst e;rfl
 · rw [if_neg e];exact hB.at' m (by omega)
theorem BothJ.fin {h mo bo:List Bool} {a:Nat} (hB:BothJ h mo bo a) (ha:¬ (a:Int)<(bo.length:Int)) (v:Int) (k:v<(h.length:Int)∧h.getD v.toNat false=true):v<(bo.length:Int)∧bo.getD v.toNat false=true:=by
 have hl:v.toNat<h.length:=Nat.lt_of_not_le fun q=>by
  have:=k.2
  rw [List.getD_eq_getElem?_getD,List.getElem?_eq_none q] at this
  cases this
 have:=hB.ln.1
 refine ⟨by omega,?_⟩
 rw [hB.at' v.toNat (by omega),boolOf_true]
 exact .inl ⟨by omega,k.2⟩
@[reducible] noncomputable def S_z46:Spec:={ ins:=(.cons (.d tCirc) (.cons (.d tInt) (.cons (.d (.sl .bool)) (.cons (.d (.sl .bool)) .nil)))),pre:=fun _=>True,alts:=[{ outs:=(.cons (.d .bool) .nil),res:=(fun x=>(fun c i h m=>(true,())) x.1 x.2.1 x.2.2.1 x.2.2.2.1)}],noisy:=true}
noncomputable def c_z46:Cf:={ cf_z46 (Fl [(fi_z50,S_z50),(fi_z98,S_z98),(fi_z6,S_z6),(fi_z10,S_z10),(fi_z49,S_z49)]) with spl:=[72],nz:=true}
theorem g_z46:∀ x,S_z46.pre x→shOK S_z46.ins x→fnGoal c_z46 fn_z46 S_z46 x:=by
 rintro ⟨⟨gs,⟨⟩⟩,(i:Int),(h:List Bool),(mo:List Bool),⟨⟩⟩ hpre hok
 clear hpre
 have hln:=shLn_of _ hok;replace hok:=Hd.mk hok;try simp only [shLn,datLn,inRng,lo,hi,maxLen,true_and,and_true] at hln
 first|refine fn_goal (w_head ?_)
 intro Kz kz;(conv=>whnf);(try dsimp+instances only);refine kz _ ?_;clear kz Kz;(conv=>(arg 2;whnf))
 repeat' (first|refine an ?_ ?_|((try refine gm ?_);first|((with_reducible show Kz _);(try dsimp+instances only);(with_reducible refine kz _ ?_);clear kz Kz)|refine st ?_|(refine sr ?_;intro Kz kz;conv=>whnf)|(refine cd ?_;(conv=>arg 2;whnf);refine st ?_)|refine blockK_y (by rfl) ?_|(refine sw ?_;conv=>whnf))|(refine gm ?_;conv=>whnf)|(intro hc;(try dsimp+instances only[Dat,SDat,dflt,Ty.size,keepS,bkUpd,Gv.bk,backS,wayA,maxI,minI,negI]at hc);try simp only[LS]at hc))
 all_goals (try ((fail_if_success refine nl ?_);(try dsimp only[Dat,SDat,dflt,Ty.size,keepS,bkUpd,Gv.bk,backS,wayA,maxI,minI,negI]);(try simp only[LS]);first|done|exact dsc|((try simp only[allP,lo,hi,room,true_and,and_true,implies_true]);(repeat' (first|refine an ?_ ?_|((with_reducible refine preA_t ?_ ?_);rotate_left;exact sameP_t)|intro hv))<;>(try omega))))
 all_goals (try ((fail_if_success refine nl ?_);(exact few_small (few_of3 (by assumption:¬ ((¬ ((List.length gs:Int)≤20∧∀ g∈gs,g.2.2.1.length≤20)∨100<(List.length h:Int))∨100<(List.length mo:Int)))).2 _ (by assumption))))
 have hc9:=(by assumption:¬ ((¬ ((List.length gs:Int)≤20∧∀ g∈gs,g.2.2.1.length≤20)∨100<(List.length h:Int))∨100<(List.length mo:Int)))
 have hfew:=few_of3 hc9
 refine w_loop [(11, .row .bool),(12, .d tInt)] [] (fun y=>∃ a:Nat,y.1.2.1=(a:Int)∧BothJ h mo y.1.1 a) (fun y=>List.length y.1.1 - y.1.2.1.toNat) ?_
 conv=>whnf
 refine And.intro ?_ ?_
 · refine ⟨0,rfl,Nat.zero_le _,?_,fun m hm=>absurd hm (Nat.not_lt_zero m)⟩
   have h1:¬ 100<(List.length h:Int):=fun q=>hc9 (.inl (.inr q))
   have h2:¬ 100<(List.length mo:Int):=fun q=>hc9 (.inr q)
   rw [show List.length _=(maxI (List.length h:Int) (List.length mo:Int)).toNat from List.length_replicate]
   unfold maxI
   omega
 rintro ⟨⟨(bo:List Bool),_,⟨⟩⟩,⟨⟩⟩ ⟨a,rfl,hB⟩
 have hB:BothJ h mo bo a:=hB
 have hle:=hB.le
 have hbl:=hB.ln.2.2
 have hst:=fun (q:(a:Int)<(List.length bo:Int))=>show ∃ a':Nat,(a:Int)+1=(a':Int)∧BothJ h mo (List.set bo a (boolOf (((a:Int)<(List.length h:Int)∧getD h a false=true)∨(a:Int)<(List.length mo:Int)∧getD mo a false=true))) a' from ⟨a+1,rfl,hB.step q⟩
 have hmore:=fun (q:¬ (a:Int)<(List.length bo:Int)) (k:holdsV gs i h=true)=>show holdsV gs i bo=true by
  rw [holdsV_is] at k ⊢
  exact ev_more (hB.fin q) k
 have hbad:=fun (k:(evC srP.ge gs i).2=1)=>holdsV_bad (h:=h) (ev_bad1 k)
 have hyes:=fun (k:(evC srP.ge gs i).2=0)=>show holdsV gs i h=true↔hasP h (evC srP.ge gs i).1 by
  rw [holdsV_is]
  exact (ev_hold h k).2
 repeat' (first|refine an ?_ ?_|((try refine gm ?_);first|((with_reducible show Kz _);(try dsimp+instances only);(with_reducible refine kz _ ?_);clear kz Kz)|refine st ?_|(refine sr ?_;intro Kz kz;conv=>whnf)|(refine cd ?_;(conv=>arg 2;whnf);refine st ?_)|refine blockK_y (by rfl) ?_|(refine sw ?_;conv=>whnf))|(refine gm ?_;conv=>whnf)|(intro hc;(try dsimp+instances only[Dat,SDat,dflt,Ty.size,keepS,bkUpd,Gv.bk,backS,wayA,maxI,minI,negI]at hc);try simp only[LS]at hc))
 all_goals (try ((fail_if_success refine nl ?_);(try dsimp only[Dat,SDat,dflt,Ty.size,keepS,bkUpd,Gv.bk,backS,wayA,maxI,minI,negI]);(try simp only[LS]);first|done|exact dsc|((try simp only[allP,lo,hi,room,true_and,and_true,implies_true]);(repeat' (first|refine an ?_ ?_|((with_reducible refine preA_t ?_ ?_);rotate_left;exact sameP_t)|intro hv))<;>(try omega))))
 all_goals (try ((fail_if_success refine nl ?_);(first|exact hst (by assumption)|exact few_small hfew.2 _ (by assumption)|exact hbad hc|exact Classical.or_iff_not_imp_left.2 (fun k=>hyes (Classical.not_not.1 k))|exact absurd ((hmore (by assumption) (by assumption)).symm.trans hc) (by decide))))
theorem ok_z46:SpecOK SP glob fi_z46 S_z46:=mk_ok (c:=c_z46) (tab_ok _) mix_ok wf_z46 (by decide) (.cons ok_z50 (.cons ok_z98 (.cons ok_z6 (.cons ok_z10 (.cons ok_z49 .nil))))) (fun x hx=>Nat.zero_lt_one) g_z46
structure HavJ (cs:List Int) (hv:List Bool) (v:Nat):Prop where
 le:v≤cs.length
 ln:hv.length=cs.length
 iff:∀ m,m<v→(hv.getD m false=true↔0≤cs.getD m 0)
 up:∀ m,m<v→cs.getD m 0≤1000000000
theorem HavJ.start {cs:List Int}:HavJ cs (List.replicate cs.length false) 0:=⟨Nat.zero_le _,List.length_replicate,fun m h=>absurd h (Nat.not_lt_zero m),fun m h=>absurd h (Nat.not_lt_zero m)⟩
theorem HavJ.step {cs:List Int} {hv:List Bool} {v:Nat} (h:HavJ cs hv v) (hl:(v:Int)<(cs.length:Int)) (q:¬ 1000000000<cs.getD v 0) {b:Bool} (hb:b=true↔0≤cs.getD v 0):HavJ cs (hv.set v b) (v+1):=by
 have hl':=Int.ofNat_lt.1 hl
 have h1:=h.ln
 refine ⟨hl',by rw [List.length_set];exact h1,fun m hm=>?_,fun m hm=>?_⟩
 · rw [getD_set (by omega)]
   by_cases e:v=m
   · rw [if_pos e];subst e;exact hb
   · rw [if_neg e];exact h.iff m (by omega)
 · by_cases e:v=m
   · subst e;omega
   · exact h.up m (by omega)
theorem costB_is {gs:List Gate} {i:Int} {cs:List Int} {hv:List Bool} (h:HavJ cs hv cs.length):(costV gs i cs).2=holdsV gs i hv:=by
 by_cases g:GoodI gs i
 · have h1:=ev_costB h.ln h.iff g
   have e:evC (srC cs).ge gs i=((vlE (srC cs).ge gs i.toNat).1,0):=evC_tot g
   rw [e] at h1
   rw [holdsV_is]
   by_cases c:(vlE (srC cs).ge gs i.toNat).1<0
   · rw [costV_neg g h1.1 c]
     cases q:(evC (srB hv).ge gs i).1
     · rfl
     · have:=h1.2.2 q;dsimp only at this;omega
   · rw [costV_pos g c]
     exact (h1.2.1 (Int.not_lt.1 c)).symm
 · rw [costV_bad g,holdsV_bad g]
theorem least_neg {gs:List Gate} {i:Int} {cs:List Int} {le:Int} (he:(evC srP.ge gs i).2=0) (h:leastC cs (evC srP.ge gs i).1 le) (hl:le<0):costV gs i cs=(0,false):=by
 obtain ⟨g,_,h2⟩:=ev_cost cs he
 have e:evC (srC cs).ge gs i=((vlE (srC cs).ge gs i.toNat).1,0):=evC_tot g
 rw [e] at h2
 have h3:=least_uniq h h2
 dsimp only at h3
 have hm:le= -1:=by
  rcases h with h|h
  · exact h.1
  · have:=h.1.1;omega
 exact costV_neg g (by rw [← h3,hm];unfold rgC;omega) (by rw [← h3];exact hl)
theorem least_pos {gs:List Gate} {i:Int} {cs:List Int} {le:Int} (he:(evC srP.ge gs i).2=0) (h:leastC cs (evC srP.ge gs i).1 le) (hl:¬ le<0):costV gs i cs=(le,true):=by
 obtain ⟨g,_,h2⟩:=ev_cost cs he
 have e:evC (srC cs).ge gs i=((vlE (srC cs).ge gs i.toNat).1,0):=evC_tot g
 rw [e] at h2
 have h3:=least_uniq h h2
 dsimp only at h3
 rw [costV_pos g (by rw [← h3];exact hl),h3]
structure SumC (cs:List Int) (l:List Pw) (idx s:Int) (m:Nat):Prop where
 ix:idx=(m:Int)
 le:m≤l.length
 eq:s=(l.take m).foldl (stCo cs) 0
 lo: -1≤s
 hi:s≤1000000000
theorem SumC.start {cs:List Int} {l:List Pw}:SumC cs l 0 0 0:=⟨rfl,Nat.zero_le _,rfl,by decide,by decide⟩
theorem costs_up {cs:List Int} {hv:List Bool} (h:HavJ cs hv cs.length) (n:Nat):cs.getD n 0≤1000000000:=by
 by_cases q:n<cs.length
 · exact h.up n q
 · rw [List.getD_eq_getElem?_getD,List.getElem?_eq_none (by omega)];decide
theorem SumC.step {cs:List Int} {l:List Pw} {s:Int} {m:Nat} (h:SumC cs l (m:Int) s m) (hm:(m:Int)<(l.length:Int)) (hx:0≤(getD l m ((0,0,()):Pw)).2.1) {s':Int} (e:s'=stCo cs s (getD l m ((0,0,()):Pw))):SumC cs l ((m:Int)+1) s' (m+1):=by
 have hm':=Int.ofNat_lt.1 hm
 have hr: -1≤s'∧s'≤1000000000:=by
  rw [e]
  unfold stCo
  split
  · decide
  · rename_i c
    have h1:0≤(getD l m ((0,0,()):Pw)).2.1 * cs.getD (getD l m ((0,0,()):Pw)).1.toNat 0:=Int.mul_nonneg hx (by omega)
    omega
 refine ⟨rfl,hm',?_,hr.1,hr.2⟩
 rw [List.take_succ_eq_append_getElem hm',List.foldl_append,← h.eq,e,getD_ok ((0,0,()):Pw) hm']
 rfl
theorem SumC.fin {cs:List Int} {l:List Pw} {s:Int} {m:Nat} (h:SumC cs l (m:Int) s m) (hm:¬ (m:Int)<(l.length:Int)):s=l.foldl (stCo cs) 0:=by
 have:=h.eq
 rw [List.take_of_length_le (by omega)] at this
 exact this
theorem least_step {cs:List Int} {p:List Mo} {k:Nat} {le s le':Int} (hp:ValidP p) (hk:(k:Int)<(p.length:Int)) (h:leastC cs (p.take k) le) (hs:s=(getD p k ((0,[],()):Mo)).2.1.foldl (stCo cs) 0) (e:le'=if 0≤s∧(le<0∨s<le) then s else le):leastC cs (p.take (k+1)) le':=by
 have hk':=Int.ofNat_lt.1 hk
 have hm:=(valid_mem hp (getD_mem (d:=((0,[],()):Mo)) hk')).2.2
 have h9:=least_snoc (m:=getD p k ((0,[],()):Mo)) (fun x hx=>by have:=okP_mem hm hx;omega) h
 rw [List.take_succ_eq_append_getElem hk',← getD_ok ((0,[],()):Mo) hk',e,hs]
 exact h9
theorem prodB {a b:Int} (h0:0≤a) (h1:a≤100) (h2:0≤b) (h3:b≤1000000000):0≤a * b∧a * b≤100000000000:=⟨Int.mul_nonneg h0 h2,Int.le_trans (Int.mul_le_mul h1 h3 h2 (by decide)) (by decide)⟩
@[reducible] noncomputable def S_z41:Spec:={ ins:=(.cons (.d tCirc) (.cons (.d tInt) (.cons (.d (.sl tInt)) .nil))),pre:=fun _=>True,alts:=[{ outs:=(.cons (.d .bool) .nil),res:=(fun x=>(fun c i cs=>(true,())) x.1 x.2.1 x.2.2.1)}],noisy:=true}
noncomputable def c_z41:Cf:={ cf_z41 (Fl [(fi_z50,S_z50),(fi_z98,S_z98),(fi_z0,S_z0),(fi_z6,S_z6),(fi_z10,S_z10)]) with E:={ (cf_z41 (Fl [(fi_z50,S_z50),(fi_z98,S_z98),(fi_z0,S_z0),(fi_z6,S_z6),(fi_z10,S_z10)])).E with rows:=[28]},nz:=true}
theorem g_z41:∀ x,S_z41.pre x→shOK S_z41.ins x→fnGoal c_z41 fn_z41 S_z41 x:=by
 rintro ⟨⟨gs,⟨⟩⟩,(i:Int),(cs:List Int),⟨⟩⟩ hpre hok
 clear hpre
 have hln:=shLn_of _ hok;replace hok:=Hd.mk hok;try simp only [shLn,datLn,inRng,lo,hi,maxLen,true_and,and_true] at hln
 first|refine fn_goal (w_head ?_)
 intro Kz kz;(conv=>whnf);(try dsimp+instances only);refine kz _ ?_;clear kz Kz;(conv=>(arg 2;whnf))
 repeat' (first|refine an ?_ ?_|((try refine gm ?_);first|((with_reducible show Kz _);(try dsimp+instances only);(with_reducible refine kz _ ?_);clear kz Kz)|refine st ?_|(refine sr ?_;intro Kz kz;conv=>whnf)|(refine cd ?_;(conv=>arg 2;whnf);refine st ?_)|refine blockK_y (by rfl) ?_|(refine sw ?_;conv=>whnf))|(refine gm ?_;conv=>whnf)|(intro hc;(try dsimp+instances only[Dat,SDat,dflt,Ty.size,keepS,bkUpd,Gv.bk,backS,wayA,maxI,minI,negI]at hc);try simp only[LS]at hc))
 all_goals (try ((fail_if_success refine nl ?_);(try dsimp only[Dat,SDat,dflt,Ty.size,keepS,bkUpd,Gv.bk,backS,wayA,maxI,minI,negI]);(try simp only[LS]);first|done|exact dsc|((try simp only[allP,lo,hi,room,true_and,and_true,implies_true]);(repeat' (first|refine an ?_ ?_|((with_reducible refine preA_t ?_ ?_);rotate_left;exact sameP_t)|intro hv))<;>(try omega))))
 have hc9:=(by assumption:¬ (¬ ((List.length gs:Int)≤20∧∀ g∈gs,g.2.2.1.length≤20)∨100<(List.length cs:Int)))
 have hfew:=few_of2 hc9
 have hc100:¬ 100<(List.length cs:Int):=fun q=>hc9 (.inr q)
 refine w_loop [(8, .row .bool),(9, .d tInt)] [] (fun y=>∃ v:Nat,y.1.2.1=(v:Int)∧HavJ cs y.1.1 v) (fun y=>List.length cs - y.1.2.1.toNat) ?_
 conv=>whnf
 refine And.intro ?_ ?_
 · exact ⟨0,rfl,HavJ.start⟩
 rintro ⟨⟨(hv:List Bool),_,⟨⟩⟩,⟨⟩⟩ ⟨v,rfl,hH⟩
 have hH:HavJ cs hv v:=hH
 have hle:=hH.le
 have hln:=hH.ln
 have hst:=fun (q:(v:Int)<(List.length cs:Int)) (q2:¬ 1000000000<getD cs v 0)=>show ∃ v':Nat,(v:Int)+1=(v':Int)∧HavJ cs (List.set hv v (boolOf (0≤getD cs v 0))) v' from ⟨v+1,rfl,hH.step q q2 boolOf_true⟩
 have hall:=fun (q:¬ (v:Int)<(List.length cs:Int))=>show HavJ cs hv cs.length from by
  have:v=cs.length:=by omega
  rw [← this];exact hH
 repeat' (first|refine an ?_ ?_|((try refine gm ?_);first|((with_reducible show Kz _);(try dsimp+instances only);(with_reducible refine kz _ ?_);clear kz Kz)|refine st ?_|(refine sr ?_;intro Kz kz;conv=>whnf)|(refine cd ?_;(conv=>arg 2;whnf);refine st ?_)|refine blockK_y (by rfl) ?_|(refine sw ?_;conv=>whnf))|(refine gm ?_;conv=>whnf)|(intro hc;(try dsimp+instances only[Dat,SDat,dflt,Ty.size,keepS,bkUpd,Gv.bk,backS,wayA,maxI,minI,negI]at hc);try simp only[LS]at hc))
 all_goals (try ((fail_if_success refine nl ?_);(try dsimp only[Dat,SDat,dflt,Ty.size,keepS,bkUpd,Gv.bk,backS,wayA,maxI,minI,negI]);(try simp only[LS]);first|done|exact dsc|((try simp only[allP,lo,hi,room,true_and,and_true,implies_true]);(repeat' (first|refine an ?_ ?_|((with_reducible refine preA_t ?_ ?_);rotate_left;exact sameP_t)|intro hv))<;>(try omega))))
 all_goals (try ((fail_if_success refine nl ?_);(first|exact hst (by assumption) hc|exact few_small hfew.2 _ (by assumption)|exact (hc (by rw [costB_is (hall (by assumption))])).elim)))
 have hH':=hall (by assumption)
 have hvp:=(ev_cost cs hc).2.1
 clear hst hall
 have hpl:=hvp.1
 refine w_loop [(14, .d tInt),(15, .d tInt)] [] (fun y=>∃ k:Nat,y.1.2.1=(k:Int)∧k≤List.length ((evC srP.ge gs i).1:List Mo)∧leastC cs (List.take k ((evC srP.ge gs i).1:List Mo)) y.1.1) (fun y=>List.length ((evC srP.ge gs i).1:List Mo) - y.1.2.1.toNat) ?_
 conv=>whnf
 refine And.intro ?_ ?_
 · exact ⟨0,rfl,Nat.zero_le _,least_nil cs⟩
 rintro ⟨⟨(le:Int),_,⟨⟩⟩,⟨⟩⟩ ⟨k,rfl,hk,hL⟩
 have hL:leastC cs (List.take k ((evC srP.ge gs i).1:List Mo)) le:=hL
 have hend:=fun (q:¬ (k:Int)<(List.length ((evC srP.ge gs i).1:List Mo):Int))=>show leastC cs ((evC srP.ge gs i).1:List Mo) le from by
  rw [List.take_of_length_le (by omega)] at hL
  exact hL
 have hneg:=fun (q:¬ (k:Int)<(List.length ((evC srP.ge gs i).1:List Mo):Int)) (l:le<0)=>least_neg hc (hend q) l
 have hpos:=fun (q:¬ (k:Int)<(List.length ((evC srP.ge gs i).1:List Mo):Int)) (l:¬ le<0)=>least_pos hc (hend q) l
 have hee:=hc
 clear hc
 repeat' (first|refine an ?_ ?_|((try refine gm ?_);first|((with_reducible show Kz _);(try dsimp+instances only);(with_reducible refine kz _ ?_);clear kz Kz)|refine st ?_|(refine sr ?_;intro Kz kz;conv=>whnf)|(refine cd ?_;(conv=>arg 2;whnf);refine st ?_)|refine blockK_y (by rfl) ?_|(refine sw ?_;conv=>whnf))|(refine gm ?_;conv=>whnf)|(intro hc;(try dsimp+instances only[Dat,SDat,dflt,Ty.size,keepS,bkUpd,Gv.bk,backS,wayA,maxI,minI,negI]at hc);try simp only[LS]at hc))
 all_goals (try ((fail_if_success refine nl ?_);(try dsimp only[Dat,SDat,dflt,Ty.size,keepS,bkUpd,Gv.bk,backS,wayA,maxI,minI,negI]);(try simp only[LS]);first|done|exact dsc|((try simp only[allP,lo,hi,room,true_and,and_true,implies_true]);(repeat' (first|refine an ?_ ?_|((with_reducible refine preA_t ?_ ?_);rotate_left;exact sameP_t)|intro hv))<;>(try omega))))
 · have hkp:(k:Int)<(List.length ((evC srP.ge gs i).1:List Mo):Int):=by assumption
   have hok9:=(valid_mem hvp (getD_mem (d:=((0,[],()):Mo)) (Int.ofNat_lt.1 hkp))).2.2
   have hol:=okP_len hok9
   refine w_loop [(16, .d tInt),(17, .d tInt)] [] (fun y=>∃ m:Nat,SumC cs ((getD ((evC srP.ge gs i).1:List Mo) k ((0,[],()):Mo)).2.1) y.1.2.1 y.1.1 m) (fun y=>List.length ((getD ((evC srP.ge gs i).1:List Mo) k ((0,[],()):Mo)).2.1) - y.1.2.1.toNat) ?_
   conv=>whnf
   refine And.intro ?_ ?_
   · exact ⟨0,SumC.start⟩
   rintro ⟨⟨(s:Int),(idx:Int),⟨⟩⟩,⟨⟩⟩ ⟨m,hS⟩
   have hS:SumC cs ((getD ((evC srP.ge gs i).1:List Mo) k ((0,[],()):Mo)).2.1) idx s m:=hS
   have hi9:=hS.ix
   subst hi9
   have hml:=hS.le
   have hs1:=hS.lo
   have hs2:=hS.hi
   have hx:=fun (q:(m:Int)<(List.length ((getD ((evC srP.ge gs i).1:List Mo) k ((0,[],()):Mo)).2.1):Int))=>okP_mem hok9 (getD_mem (l:=((getD ((evC srP.ge gs i).1:List Mo) k ((0,[],()):Mo)).2.1)) (d:=((0,0,()):Pw)) (Int.ofNat_lt.1 q))
   have hcu:=costs_up hH' ((getD ((getD ((evC srP.ge gs i).1:List Mo) k ((0,[],()):Mo)).2.1) m ((0,0,()):Pw))).1.toNat
   have hbc:=fun (q:(m:Int)<(List.length ((getD ((evC srP.ge gs i).1:List Mo) k ((0,[],()):Mo)).2.1):Int)) (c:¬ (((((getD ((getD ((evC srP.ge gs i).1:List Mo) k ((0,[],()):Mo)).2.1) m ((0,0,()):Pw))).1<0∨(List.length cs:Int)≤((getD ((getD ((evC srP.ge gs i).1:List Mo) k ((0,[],()):Mo)).2.1) m ((0,0,()):Pw))).1)∨getD cs ((getD ((getD ((evC srP.ge gs i).1:List Mo) k ((0,[],()):Mo)).2.1) m ((0,0,()):Pw))).1.toNat 0<0)∨s<0))=>show (0≤((getD ((getD ((evC srP.ge gs i).1:List Mo) k ((0,[],()):Mo)).2.1) m ((0,0,()):Pw))).2.1 * getD cs ((getD ((getD ((evC srP.ge gs i).1:List Mo) k ((0,[],()):Mo)).2.1) m ((0,0,()):Pw))).1.toNat 0∧((getD ((getD ((evC srP.ge gs i).1:List Mo) k ((0,[],()):Mo)).2.1) m ((0,0,()):Pw))).2.1 * getD cs ((getD ((getD ((evC srP.ge gs i).1:List Mo) k ((0,[],()):Mo)).2.1) m ((0,0,()):Pw))).1.toNat 0≤100000000000)∧0≤s from by
    have h1:=hx q
    exact ⟨prodB (by omega) (by omega) (by omega) hcu,by omega⟩
   have hb1:=fun (q:(m:Int)<(List.length ((getD ((evC srP.ge gs i).1:List Mo) k ((0,[],()):Mo)).2.1):Int)) (c:¬ (((((getD ((getD ((evC srP.ge gs i).1:List Mo) k ((0,[],()):Mo)).2.1) m ((0,0,()):Pw))).1<0∨(List.length cs:Int)≤((getD ((getD ((evC srP.ge gs i).1:List Mo) k ((0,[],()):Mo)).2.1) m ((0,0,()):Pw))).1)∨getD cs ((getD ((getD ((evC srP.ge gs i).1:List Mo) k ((0,[],()):Mo)).2.1) m ((0,0,()):Pw))).1.toNat 0<0)∨s<0))=>show -9223372036854775808≤((getD ((getD ((evC srP.ge gs i).1:List Mo) k ((0,[],()):Mo)).2.1) m ((0,0,()):Pw))).2.1 * getD cs ((getD ((getD ((evC srP.ge gs i).1:List Mo) k ((0,[],()):Mo)).2.1) m ((0,0,()):Pw))).1.toNat 0 from Int.le_trans (by decide) (hbc q c).1.1
   have hb2:=fun (q:(m:Int)<(List.length ((getD ((evC srP.ge gs i).1:List Mo) k ((0,[],()):Mo)).2.1):Int)) (c:¬ (((((getD ((getD ((evC srP.ge gs i).1:List Mo) k ((0,[],()):Mo)).2.1) m ((0,0,()):Pw))).1<0∨(List.length cs:Int)≤((getD ((getD ((evC srP.ge gs i).1:List Mo) k ((0,[],()):Mo)).2.1) m ((0,0,()):Pw))).1)∨getD cs ((getD ((getD ((evC srP.ge gs i).1:List Mo) k ((0,[],()):Mo)).2.1) m ((0,0,()):Pw))).1.toNat 0<0)∨s<0))=>show ((getD ((getD ((evC srP.ge gs i).1:List Mo) k ((0,[],()):Mo)).2.1) m ((0,0,()):Pw))).2.1 * getD cs ((getD ((getD ((evC srP.ge gs i).1:List Mo) k ((0,[],()):Mo)).2.1) m ((0,0,()):Pw))).1.toNat 0≤9223372036854775807 from Int.le_trans (hbc q c).1.2 (by decide)
   have hb3:=fun (q:(m:Int)<(List.length ((getD ((evC srP.ge gs i).1:List Mo) k ((0,[],()):Mo)).2.1):Int)) (c:¬ (((((getD ((getD ((evC srP.ge gs i).1:List Mo) k ((0,[],()):Mo)).2.1) m ((0,0,()):Pw))).1<0∨(List.length cs:Int)≤((getD ((getD ((evC srP.ge gs i).1:List Mo) k ((0,[],()):Mo)).2.1) m ((0,0,()):Pw))).1)∨getD cs ((getD ((getD ((evC srP.ge gs i).1:List Mo) k ((0,[],()):Mo)).2.1) m ((0,0,()):Pw))).1.toNat 0<0)∨s<0))=>show -9223372036854775808≤s+((getD ((getD ((evC srP.ge gs i).1:List Mo) k ((0,[],()):Mo)).2.1) m ((0,0,()):Pw))).2.1 * getD cs ((getD ((getD ((evC srP.ge gs i).1:List Mo) k ((0,[],()):Mo)).2.1) m ((0,0,()):Pw))).1.toNat 0 from Int.le_trans (by decide) (Int.add_nonneg (hbc q c).2 (hbc q c).1.1)
   have hb4:=fun (q:(m:Int)<(List.length ((getD ((evC srP.ge gs i).1:List Mo) k ((0,[],()):Mo)).2.1):Int)) (c:¬ (((((getD ((getD ((evC srP.ge gs i).1:List Mo) k ((0,[],()):Mo)).2.1) m ((0,0,()):Pw))).1<0∨(List.length cs:Int)≤((getD ((getD ((evC srP.ge gs i).1:List Mo) k ((0,[],()):Mo)).2.1) m ((0,0,()):Pw))).1)∨getD cs ((getD ((getD ((evC srP.ge gs i).1:List Mo) k ((0,[],()):Mo)).2.1) m ((0,0,()):Pw))).1.toNat 0<0)∨s<0))=>show s+((getD ((getD ((evC srP.ge gs i).1:List Mo) k ((0,[],()):Mo)).2.1) m ((0,0,()):Pw))).2.1 * getD cs ((getD ((getD ((evC srP.ge gs i).1:List Mo) k ((0,[],()):Mo)).2.1) m ((0,0,()):Pw))).1.toNat 0≤9223372036854775807 from Int.le_trans (Int.add_le_add hs2 (hbc q c).1.2) (by decide)
   have hon:=fun (s':Int) (q:(m:Int)<(List.length ((getD ((evC srP.ge gs i).1:List Mo) k ((0,[],()):Mo)).2.1):Int)) (e:s'=stCo cs s ((getD ((getD ((evC srP.ge gs i).1:List Mo) k ((0,[],()):Mo)).2.1) m ((0,0,()):Pw))))=>show ∃ m':Nat,SumC cs ((getD ((evC srP.ge gs i).1:List Mo) k ((0,[],()):Mo)).2.1) ((m:Int)+1) s' m' from ⟨m+1,hS.step q (by have:=hx q;omega) e⟩
   have hout:=fun (le':Int) (q:¬ (m:Int)<(List.length ((getD ((evC srP.ge gs i).1:List Mo) k ((0,[],()):Mo)).2.1):Int)) (e:le'=if 0≤s∧(le<0∨s<le) then s else le)=>show ∃ k':Nat,(k:Int)+1=(k':Int)∧k'≤List.length ((evC srP.ge gs i).1:List Mo)∧leastC cs (List.take k' ((evC srP.ge gs i).1:List Mo)) le' from ⟨k+1,rfl,Int.ofNat_lt.1 hkp,least_step hvp hkp hL (hS.fin q) e⟩
   repeat' (first|refine an ?_ ?_|((try refine gm ?_);first|((with_reducible show Kz _);(try dsimp+instances only);(with_reducible refine kz _ ?_);clear kz Kz)|refine st ?_|(refine sr ?_;intro Kz kz;conv=>whnf)|(refine cd ?_;(conv=>arg 2;whnf);refine st ?_)|refine blockK_y (by rfl) ?_|(refine sw ?_;conv=>whnf))|(refine gm ?_;conv=>whnf)|(intro hc;(try dsimp+instances only[Dat,SDat,dflt,Ty.size,keepS,bkUpd,Gv.bk,backS,wayA,maxI,minI,negI]at hc);try simp only[LS]at hc))
   all_goals (try ((fail_if_success refine nl ?_);(try dsimp only[Dat,SDat,dflt,Ty.size,keepS,bkUpd,Gv.bk,backS,wayA,maxI,minI,negI]);(try simp only[LS]);first|done|exact dsc|((try simp only[allP,lo,hi,room,true_and,and_true,implies_true]);(repeat' (first|refine an ?_ ?_|((with_reducible refine preA_t ?_ ?_);rotate_left;exact sameP_t)|intro hv))<;>(try omega))))
   all_goals (try ((fail_if_success refine nl ?_);(first|with_reducible exact hb1 (by assumption) hc|with_reducible exact hb2 (by assumption) hc|with_reducible exact hb3 (by assumption) hc|with_reducible exact hb4 (by assumption) hc|with_reducible exact hb1 (by assumption) (by assumption)|with_reducible exact hb2 (by assumption) (by assumption)|with_reducible exact hb3 (by assumption) (by assumption)|with_reducible exact hb4 (by assumption) (by assumption)|exact hon _ (by assumption) (if_pos hc).symm|exact hon _ (by assumption) (if_neg hc).symm|exact hout _ (by assumption) (if_pos hc).symm|exact hout _ (by assumption) (if_neg hc).symm)))
 all_goals (first
  |(rw [hneg (by assumption) hc];done)
  |(rw [hpos (by assumption) hc];done))
theorem ok_z41:SpecOK SP glob fi_z41 S_z41:=mk_ok (c:=c_z41) (tab_ok _) mix_ok wf_z41 (by decide) (.cons ok_z50 (.cons ok_z98 (.cons ok_z0 (.cons ok_z6 (.cons ok_z10 .nil))))) (fun x hx=>Nat.zero_lt_one) g_z41
end Go.Gv
