/- Chapter 16: the reference: sorted lists, gates put, what is reached. -/
import Derived.Test.YtibnojoffhlekaaGreatDoorP16j
set_option linter.all false
namespace Go.Gv
open Go Go.Proofs Go.Proofs.YtibnojoffhlekaaGreatDoor
set_option maxRecDepth 100000
set_option maxHeartbeats 4000000
structure SwO (l L:List Int) (i:Nat):Prop where
 p:L.Perm l
 a:∀ a b,a<b→b<i→L.getD a 0≤L.getD b 0
structure SwI (l L:List Int) (i k:Nat):Prop where
 p:L.Perm l
 a:∀ a b,a<b→b≤i→a≠k→b≠k→L.getD a 0≤L.getD b 0
 b:∀ b,k<b→b≤i→L.getD k 0<L.getD b 0
theorem SwO.start (l:List Int):SwO l l 1:=⟨List.Perm.refl _,fun a b h k=>by omega⟩
theorem SwO.open {l L:List Int} {i:Nat} (h:SwO l L i):SwI l L i i:=⟨h.p,fun a b h1 h2 _ h4=>h.a a b h1 (by omega),fun b h1 h2=>by omega⟩
theorem SwI.shut {l L:List Int} {i k:Nat} (h:SwI l L i k) (hk:k≤i) (hc:0<k→L.getD (k - 1) 0≤L.getD k 0):SwO l L (i+1):=⟨h.p,fun a b h1 h2=>by
 by_cases ea:a=k
 · subst ea;exact Int.le_of_lt (h.b b h1 (by omega))
 · by_cases eb:b=k
   · subst eb
     have h3:=hc (by omega)
     by_cases e:a=b - 1
     · subst e;exact h3
     · exact Int.le_trans (h.a a (b - 1) (by omega) (by omega) ea (by omega)) h3
   · exact h.a a b h1 (by omega) ea eb⟩
theorem swap_at {L:List Int} {k m:Nat} (h0:0<k) (hk:k<L.length):((L.set k (L.getD (k - 1) 0)).set (k - 1) (L.getD k 0)).getD m 0=if m=k - 1 then L.getD k 0 else if m=k then L.getD (k - 1) 0 else L.getD m 0:=by
 rw [getD_set (by rw [List.length_set];omega),getD_set hk]
 by_cases e1:k - 1=m
 · rw [if_pos e1,if_pos e1.symm]
 · rw [if_neg e1,if_neg (fun e:m=k - 1=>e1 e.symm)]
   by_cases e2:k=m
   · rw [if_pos e2,if_pos e2.symm]
   · rw [if_neg e2,if_neg (fun e:m=k=>e2 e.symm)]
theorem swap_perm {L:List Int} {k:Nat} (h0:0<k) (hk:k<L.length):((L.set k (L.getD (k - 1) 0)).set (k - 1) (L.getD k 0)).Perm L:=by
 rw [getD_ok 0 hk,getD_ok 0 (show k - 1<L.length by omega)]
 exact List.set_set_perm hk (by omega)
theorem SwI.swap {l L:List Int} {i k:Nat} (h:SwI l L i k) (h0:0<k) (hi:k≤i) (hl:i<L.length) (hc:L.getD k 0<L.getD (k - 1) 0):SwI l ((L.set k (L.getD (k - 1) 0)).set (k - 1) (L.getD k 0)) i (k - 1):=by
 have hs:=fun m=>swap_at (L:=L) (k:=k) (m:=m) h0 (by omega)
 refine ⟨(swap_perm h0 (by omega)).trans h.p,fun a b h1 h2 h3 h4=>?_,fun b h1 h2=>?_⟩
 · rw [hs a,hs b,if_neg h3,if_neg h4]
   by_cases ea:a=k
   · rw [if_pos ea,if_neg (by omega)]
     exact h.a (k - 1) b (by omega) h2 (by omega) (by omega)
   · rw [if_neg ea]
     by_cases eb:b=k
     · rw [if_pos eb]
       exact h.a a (k - 1) (by omega) (by omega) ea (by omega)
     · rw [if_neg eb]
       exact h.a a b h1 h2 ea eb
 · rw [hs (k - 1),hs b,if_pos rfl,if_neg (by omega)]
   by_cases eb:b=k
   · rw [if_pos eb];exact hc
   · rw [if_neg eb];exact h.b b (by omega) h2
theorem SwO.done {l L:List Int} {i:Nat} (h:SwO l L i) (hi:L.length≤i):L=sortI l:=sortI_uniq h.p (List.pairwise_iff_getElem.2 fun a b ha hb hab=>by
 have:=h.a a b hab (by omega)
 rwa [getD_ok 0 ha,getD_ok 0 hb] at this)
@[reducible] noncomputable def S_z108:Spec:={ ins:=(.cons (.d (.sl tInt)) .nil),pre:=(fun x=>(fun l=>l.length≤1000000) x.1),alts:=[{ outs:=(.cons (.d (.sl tInt)) .nil),res:=(fun x=>(fun l=>(sortI l,())) x.1)}]}
noncomputable def c_z108:Cf:={ cf_z108 (Fl []) with E:={ (cf_z108 (Fl [])).E with rows:=[7]}}
theorem g_z108:∀ x,S_z108.pre x→shOK S_z108.ins x→fnGoal c_z108 fn_z108 S_z108 x:=by
 rintro ⟨l,⟨⟩⟩ hpre hok
 try dsimp only [Dat,SDat,dflt,Ty.size,keepS,bkUpd,Gv.bk,backS,wayA,maxI,minI,negI] at hpre
 have hln:=shLn_of _ hok;replace hok:=Hd.mk hok;try simp only [shLn,datLn,inRng,lo,hi,maxLen,true_and,and_true] at hln
 first|refine fn_goal (w_head ?_)
 intro Kz kz;(conv=>whnf);(try dsimp+instances only);refine kz _ ?_;clear kz Kz;(conv=>(arg 2;whnf))
 repeat' (first|refine an ?_ ?_|((try refine gm ?_);first|((with_reducible show Kz _);(try dsimp+instances only);(with_reducible refine kz _ ?_);clear kz Kz)|refine st ?_|(refine sr ?_;intro Kz kz;conv=>whnf)|(refine cd ?_;(conv=>arg 2;whnf);refine st ?_)|refine blockK_y (by rfl) ?_|(refine sw ?_;conv=>whnf))|(refine gm ?_;conv=>whnf)|(intro hc;(try dsimp+instances only[Dat,SDat,dflt,Ty.size,keepS,bkUpd,Gv.bk,backS,wayA,maxI,minI,negI]at hc);try simp only[LS]at hc))
 all_goals (try ((fail_if_success refine nl ?_);(try dsimp only[Dat,SDat,dflt,Ty.size,keepS,bkUpd,Gv.bk,backS,wayA,maxI,minI,negI]);(try simp only[LS]);first|done|exact dsc|((try simp only[allP,lo,hi,room,true_and,and_true,implies_true]);(repeat' (first|refine an ?_ ?_|((with_reducible refine preA_t ?_ ?_);rotate_left;exact sameP_t)|intro hv))<;>(try omega))))
 refine w_loop [(3, .row tInt),(4, .d tInt)] [] (fun y=>∃ i:Nat,y.1.2.1=(i:Int)∧1≤i∧SwO l y.1.1 i) (fun y=>l.length - y.1.2.1.toNat) ?_
 conv=>whnf
 refine And.intro ?_ ?_
 · exact ⟨1,rfl,Nat.le_refl _,SwO.start l⟩
 rintro ⟨⟨L,_,⟨⟩⟩,⟨⟩⟩ ⟨i,rfl,hi,hS⟩
 have hS:SwO l (L:List Int) i:=hS
 have hll:List.length (L:List Int)=l.length:=hS.p.length_eq
 have hl6:l.length≤1000000:=hpre
 repeat' (first|refine an ?_ ?_|((try refine gm ?_);first|((with_reducible show Kz _);(try dsimp+instances only);(with_reducible refine kz _ ?_);clear kz Kz)|refine st ?_|(refine sr ?_;intro Kz kz;conv=>whnf)|(refine cd ?_;(conv=>arg 2;whnf);refine st ?_)|refine blockK_y (by rfl) ?_|(refine sw ?_;conv=>whnf))|(refine gm ?_;conv=>whnf)|(intro hc;(try dsimp+instances only[Dat,SDat,dflt,Ty.size,keepS,bkUpd,Gv.bk,backS,wayA,maxI,minI,negI]at hc);try simp only[LS]at hc))
 all_goals (try ((fail_if_success refine nl ?_);(try dsimp only[Dat,SDat,dflt,Ty.size,keepS,bkUpd,Gv.bk,backS,wayA,maxI,minI,negI]);(try simp only[LS]);first|done|exact dsc|((try simp only[allP,lo,hi,room,true_and,and_true,implies_true]);(repeat' (first|refine an ?_ ?_|((with_reducible refine preA_t ?_ ?_);rotate_left;exact sameP_t)|intro hv))<;>(try omega))))
 · have hc0:(i:Int)<(List.length (L:List Int):Int):=by assumption
   have hil:i<l.length:=by omega
   refine w_loop [(3, .row tInt),(5, .d tInt)] [] (fun y=>∃ k:Nat,y.1.2.1=(k:Int)∧k≤i∧SwI l y.1.1 i k) (fun y=>y.1.2.1.toNat) ?_
   conv=>whnf
   refine And.intro ?_ ?_
   · exact ⟨i,rfl,Nat.le_refl _,hS.open⟩
   rintro ⟨⟨L',_,⟨⟩⟩,⟨⟩⟩ ⟨k,rfl,hk,hI⟩
   have hI:SwI l (L':List Int) i k:=hI
   have hll2:List.length (L':List Int)=l.length:=hI.p.length_eq
   have e1:(0:Int)<(k:Int)→((k:Int) - 1).toNat=k - 1∧0<k∧(k:Int) - 1=((k - 1:Nat):Int)∧k - 1≤i:=fun h=>by omega
   have e2:(k:Int) - 1≤Gv.hi IntKind.i64:=Int.le_trans (by omega:(k:Int) - 1≤1000000) (by decide)
   have e3:(i:Int)+1≤Gv.hi IntKind.i64:=Int.le_trans (by omega:(i:Int)+1≤1000001) (by decide)
   repeat' (first|refine an ?_ ?_|((try refine gm ?_);first|((with_reducible show Kz _);(try dsimp+instances only);(with_reducible refine kz _ ?_);clear kz Kz)|refine st ?_|(refine sr ?_;intro Kz kz;conv=>whnf)|(refine cd ?_;(conv=>arg 2;whnf);refine st ?_)|refine blockK_y (by rfl) ?_|(refine sw ?_;conv=>whnf))|(refine gm ?_;conv=>whnf)|(intro hc;(try dsimp+instances only[Dat,SDat,dflt,Ty.size,keepS,bkUpd,Gv.bk,backS,wayA,maxI,minI,negI]at hc);try simp only[LS]at hc))
   all_goals (try ((fail_if_success refine nl ?_);(try dsimp only[Dat,SDat,dflt,Ty.size,keepS,bkUpd,Gv.bk,backS,wayA,maxI,minI,negI]);(try simp only[LS]);first|done|exact dsc|((try simp only[allP,lo,hi,room,true_and,and_true,implies_true]);(repeat' (first|refine an ?_ ?_|((with_reducible refine preA_t ?_ ?_);rotate_left;exact sameP_t)|intro hv))<;>(try omega))))
   all_goals (try ((fail_if_success refine nl ?_);(first|exact e2|exact e3)))
   · obtain ⟨h1,h2,h3,h4⟩:=e1 hc.1
     have hc2:=hc.2
     rw [h1] at hc2 ⊢
     exact ⟨k - 1,h3,h4,hI.swap h2 hk (by omega) hc2⟩
   · refine ⟨i+1,by omega,by omega,hI.shut hk fun h0=>Int.not_lt.1 fun h=>hc ⟨by omega,?_⟩⟩
     rw [(e1 (by omega)).1]
     exact h
 · exact hS.done (show List.length (L:List Int)≤i by omega)
theorem ok_z108:SpecOK SP glob fi_z108 S_z108:=mk_ok (c:=c_z108) (tab_ok _) mix_ok wf_z108 (by decide) .nil (fun x hx=>Nat.zero_lt_one) g_z108
end Go.Gv
