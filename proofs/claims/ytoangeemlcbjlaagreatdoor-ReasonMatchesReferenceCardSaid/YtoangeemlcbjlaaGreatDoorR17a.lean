/- Chapter 17: the reference's Holds; chapter 16: the reference: Holds and Cost. -/
import Derived.Test.YtoangeemlcbjlaaGreatDoorR16b
import Derived.Test.YtoangeemlcbjlaaGreatDoorC17a
set_option linter.all false
namespace Go.Gv
open Go Go.Proofs Go.Proofs.YtoangeemlcbjlaaGreatDoor
set_option maxRecDepth 100000
set_option maxHeartbeats 4000000
theorem kid_j {gs:List Gate} (hV:ValidC gs) {k n j:Nat} (hk:k<gs.length) (hn:k<n) (h:(j:Int)<(((List.getD gs k ((0,0,[],()):Gate))).2.2.1.length:Int)):0≤((List.getD gs k ((0,0,[],()):Gate))).2.2.1.getD j 0∧((List.getD gs k ((0,0,[],()):Gate))).2.2.1.getD j 0<(n:Int)∧(((List.getD gs k ((0,0,[],()):Gate))).2.2.1.getD j 0).toNat<n:=by
 have h2:=kid_in hV hk (getD_mem (d:=(0:Int)) (show j<((List.getD gs k ((0,0,[],()):Gate))).2.2.1.length by omega))
 omega
theorem take_all {l:List Int} {j:Nat} (h:¬ (j:Int)<(l.length:Int)):l.take j=l:=List.take_of_length_le (by omega)
section
variable {T:Type}
structure AllV (S:GE T) (Q:T→Prop) (gs:List Gate) (n k:Nat) (all:List T):Prop where
 le:k≤n+1
 ln:all.length=n+1
 vs:∀ m,m<k→all.getD m S.z=(vlE S gs m).1
 qs:∀ m,Q (all.getD m S.z)
theorem AllV.start {S:GE T} {Q:T→Prop} {gs:List Gate} {n:Nat} (hz:Q S.z):AllV S Q gs n 0 (List.replicate (n+1) S.z):=by
 refine ⟨Nat.zero_le _,List.length_replicate,fun m h=>absurd h (Nat.not_lt_zero m),fun m=>?_⟩
 rw [List.getD_eq_getElem?_getD,List.getElem?_replicate]
 split<;>exact hz
theorem AllV.step {S:GE T} {Q:T→Prop} {gs:List Gate} {n k:Nat} {all:List T} (h:AllV S Q gs n k all) (hk:k≤n) {v:T} (hv:v=(vlE S gs k).1) (q:Q v):AllV S Q gs n (k+1) (all.set k v):=by
 have hl:=h.ln
 refine ⟨by omega,by rw [List.length_set];exact hl,fun m hm=>?_,set_q (by omega) h.qs q⟩
 rw [getD_set (by omega)]
 by_cases e:k=m
 · rw [if_pos e,hv,e]
 · rw [if_neg e];exact h.vs m (by omega)
theorem AllV.kids {S:GE T} {Q:T→Prop} {gs:List Gate} {n k:Nat} {all:List T} (h:AllV S Q gs n k all) (hV:ValidC gs) (hk:k<gs.length):∀ j∈((List.getD gs k ((0,0,[],()):Gate))).2.2.1,all.getD j.toNat S.z=(vlE S gs j.toNat).1:=fun j hj=>by
 have:=kid_in hV hk hj
 exact h.vs _ (by omega)
end
def cntB (all:List Bool) (l:List Int):Int:=((l.filter fun c=>all.getD c.toNat false).length:Int)
theorem cntB_snoc {all:List Bool} {l:List Int} {j:Nat} (h:j<l.length):cntB all (l.take (j+1))=cntB all (l.take j)+if all.getD (l.getD j 0).toNat false=true then 1 else 0:=by
 unfold cntB
 rw [List.take_succ_eq_append_getElem h,List.filter_append,List.length_append,getD_ok 0 h]
 by_cases e:all.getD l[j].toNat false=true
 · rw [if_pos e,List.filter_cons_of_pos (p:=fun c:Int=>all.getD c.toNat false) e];simp
 · rw [if_neg e,List.filter_cons_of_neg (p:=fun c:Int=>all.getD c.toNat false) e];simp
theorem cntB_any {all:List Bool} {l:List Int}:0<cntB all l↔l.any (fun c=>all.getD c.toNat false)=true:=by
 unfold cntB
 rw [List.any_eq_true]
 constructor
 · intro h
   have h:0<(l.filter fun c=>all.getD c.toNat false).length:=by omega
   obtain ⟨c,hc⟩:=List.exists_mem_of_length_pos h
   exact ⟨c,(List.mem_filter.1 hc).1,(List.mem_filter.1 hc).2⟩
 · rintro ⟨c,h1,h2⟩
   have:=List.length_pos_of_mem (List.mem_filter.2 ⟨h1,h2⟩:c∈l.filter fun c=>all.getD c.toNat false)
   omega
theorem cntB_all {all:List Bool} {l:List Int}:cntB all l=(l.length:Int)↔l.all (fun c=>all.getD c.toNat false)=true:=by
 unfold cntB
 rw [Int.ofNat_inj,List.length_filter_eq_length_iff,List.all_eq_true]
theorem fold_or {f:Int→Bool}:∀ (l:List Int) (x:Bool),l.foldl (fun x c=>x||f c) x=(x||l.any f)
 |[],x=>by simp
 |a::l,x=>by rw [List.foldl_cons,fold_or l,List.any_cons,Bool.or_assoc]
theorem fold_and {f:Int→Bool}:∀ (l:List Int) (x:Bool),l.foldl (fun x c=>x && f c) x=(x && l.all f)
 |[],x=>by simp
 |a::l,x=>by rw [List.foldl_cons,fold_and l,List.all_cons,Bool.and_assoc]
theorem hold_val {gs:List Gate} {hv:List Bool} {all:List Bool} (hV:ValidC gs) {k:Nat} (hk:k<gs.length) (ha:∀ j∈((List.getD gs k ((0,0,[],()):Gate))).2.2.1,all.getD j.toNat false=(vlE (srB hv).ge gs j.toNat).1):(vlE (srB hv).ge gs k).1=true↔((((List.getD gs k ((0,0,[],()):Gate))).1=1∨(((List.getD gs k ((0,0,[],()):Gate))).1=2∧((List.getD gs k ((0,0,[],()):Gate))).2.1<(hv.length:Int))∧hv.getD ((List.getD gs k ((0,0,[],()):Gate))).2.1.toNat false=true)∨(((List.getD gs k ((0,0,[],()):Gate))).1=3∧0<cntB all ((List.getD gs k ((0,0,[],()):Gate))).2.2.1))∨((List.getD gs k ((0,0,[],()):Gate))).1=4∧cntB all ((List.getD gs k ((0,0,[],()):Gate))).2.2.1=(((List.getD gs k ((0,0,[],()):Gate))).2.2.1.length:Int):=by
 by_cases hi:inner ((List.getD gs k ((0,0,[],()):Gate))).1
 · have e1:=vl_tot (z:=false) (leaf:=leafB hv) (plus:=fun a b=>a||b) (times:=fun a b=>a && b) hV hk hi
   have e1:(vlE (srB hv).ge gs k).1=_:=e1
   have h2:2≤((List.getD gs k ((0,0,[],()):Gate))).2.2.1.length:=(hV.2 k hk).2.1 hi
   obtain ⟨a,r,ea⟩:∃ a r,((List.getD gs k ((0,0,[],()):Gate))).2.2.1=a::r:=by
    cases q:((List.getD gs k ((0,0,[],()):Gate))).2.2.1 with
    |nil=>rw [q] at h2;simp at h2
    |cons a r=>exact ⟨a,r,rfl⟩
   rw [cntB_any,cntB_all]
   have any_:((List.getD gs k ((0,0,[],()):Gate))).2.2.1.any (fun c=>all.getD c.toNat false)=((List.getD gs k ((0,0,[],()):Gate))).2.2.1.any fun c=>(vlE (srB hv).ge gs c.toNat).1:=by
    rw [Bool.eq_iff_iff,List.any_eq_true,List.any_eq_true]
    exact ⟨fun ⟨c,h1,h2⟩=>⟨c,h1,by rw [← ha c h1];exact h2⟩,fun ⟨c,h1,h2⟩=>⟨c,h1,by rw [ha c h1];exact h2⟩⟩
   have all_:((List.getD gs k ((0,0,[],()):Gate))).2.2.1.all (fun c=>all.getD c.toNat false)=((List.getD gs k ((0,0,[],()):Gate))).2.2.1.all fun c=>(vlE (srB hv).ge gs c.toNat).1:=by
    rw [Bool.eq_iff_iff,List.all_eq_true,List.all_eq_true]
    exact ⟨fun h c h1=>by rw [← ha c h1];exact h c h1,fun h c h1=>by rw [ha c h1];exact h c h1⟩
   rw [any_,all_]
   unfold inner at hi
   rcases hi with h3|h4
   · have e2:(vlE (srB hv).ge gs k).1=((List.getD gs k ((0,0,[],()):Gate))).2.2.1.any fun c=>(vlE (srB hv).ge gs c.toNat).1:=by
      rw [e1,ea,if_neg (show ¬ ((List.getD gs k ((0,0,[],()):Gate))).1=4 by omega)]
      show List.foldl (fun x c=>x||(vlE (srB hv).ge gs c.toNat).1) (vlE (srB hv).ge gs a.toNat).1 r=_
      rw [fold_or (f:=fun c=>(vlE (srB hv).ge gs c.toNat).1),List.any_cons]
     rw [e2]
     refine ⟨fun h=> .inl (.inr ⟨h3,h⟩),fun h=>?_⟩
     rcases h with ((h|h)|h)|h
     · omega
     · have:=h.1.1;omega
     · exact h.2
     · have:=h.1;omega
   · have e2:(vlE (srB hv).ge gs k).1=((List.getD gs k ((0,0,[],()):Gate))).2.2.1.all fun c=>(vlE (srB hv).ge gs c.toNat).1:=by
      rw [e1,ea,if_pos h4]
      show List.foldl (fun x c=>x && (vlE (srB hv).ge gs c.toNat).1) (vlE (srB hv).ge gs a.toNat).1 r=_
      rw [fold_and (f:=fun c=>(vlE (srB hv).ge gs c.toNat).1),List.all_cons]
     rw [e2]
     refine ⟨fun h=> .inr ⟨h4,h⟩,fun h=>?_⟩
     rcases h with ((h|h)|h)|h
     · omega
     · have:=h.1.1;omega
     · have:=h.1;omega
     · exact h.2
 · have e1:vlE (srB hv).ge gs k=(leafB hv ((List.getD gs k ((0,0,[],()):Gate))).1 ((List.getD gs k ((0,0,[],()):Gate))).2.1,0):=vl_leaf hi
   rw [e1]
   unfold inner at hi
   have:¬ ((List.getD gs k ((0,0,[],()):Gate))).1=3∧¬ ((List.getD gs k ((0,0,[],()):Gate))).1=4:=by omega
   simp only [leafB,this,false_and,or_false,decide_eq_true_eq]
theorem holdsV_bad {gs:List Gate} {i:Int} {h:List Bool} (hg:¬ GoodI gs i):holdsV gs i h=false:=by
 unfold holdsV
 rw [evC_bad hg]
 rfl
theorem holdsV_good {gs:List Gate} {i:Int} {h:List Bool} (hg:GoodI gs i):holdsV gs i h=(vlE (srB h).ge gs i.toNat).1:=by
 unfold holdsV
 rw [show evC (srB h).ge gs i=_ from evC_tot hg]
 rfl
@[reducible] noncomputable def S_z64:Spec:={ ins:=(.cons (.d tCirc) (.cons (.d tInt) (.cons (.d (.sl .bool)) .nil))),pre:=(fun x=>(fun c i h=>SmallG c.1) x.1 x.2.1 x.2.2.1),alts:=[{ outs:=(.cons (.d .bool) .nil),res:=(fun x=>(fun c i h=>(holdsV c.1 i h,())) x.1 x.2.1 x.2.2.1)}]}
noncomputable def c_z64:Cf:=(cf_z64 (Fl [(fi_z68,S_z68)]))
theorem g_z64:∀ x,S_z64.pre x→shOK S_z64.ins x→fnGoal c_z64 fn_z64 S_z64 x:=by
 rintro ⟨⟨gs,⟨⟩⟩,(i:Int),(hv:List Bool),⟨⟩⟩ hpre hok
 try dsimp only [Dat,SDat,dflt,Ty.size,keepS,bkUpd,Gv.bk,backS,wayA,maxI,minI,negI] at hpre
 have hln:=shLn_of _ hok;replace hok:=Hd.mk hok;try simp only [shLn,datLn,inRng,lo,hi,maxLen,true_and,and_true] at hln
 have hsm:SmallG gs:=hpre
 first|refine fn_goal (w_head ?_)
 intro Kz kz;(conv=>whnf);(try dsimp+instances only);refine kz _ ?_;clear kz Kz;(conv=>(arg 2;whnf))
 repeat' (first|refine an ?_ ?_|((try refine gm ?_);first|((with_reducible show Kz _);(try dsimp+instances only);(with_reducible refine kz _ ?_);clear kz Kz)|refine st ?_|(refine sr ?_;intro Kz kz;conv=>whnf)|(refine cd ?_;(conv=>arg 2;whnf);refine st ?_)|refine blockK_y (by rfl) ?_|(refine sw ?_;conv=>whnf))|(refine gm ?_;conv=>whnf)|(intro hc;(try dsimp+instances only[Dat,SDat,dflt,Ty.size,keepS,bkUpd,Gv.bk,backS,wayA,maxI,minI,negI]at hc);try simp only[LS]at hc))
 all_goals (try ((fail_if_success refine nl ?_);(try dsimp only[Dat,SDat,dflt,Ty.size,keepS,bkUpd,Gv.bk,backS,wayA,maxI,minI,negI]);(try simp only[LS]);first|done|exact dsc|((try simp only[allP,lo,hi,room,true_and,and_true,implies_true]);(repeat' (first|refine an ?_ ?_|((with_reducible refine preA_t ?_ ?_);rotate_left;exact sameP_t)|intro hv))<;>(try omega))))
 all_goals (try ((fail_if_success refine nl ?_);(exact (by assumption:SmallG gs))))
 all_goals (try ((fail_if_success refine nl ?_);(exact hsm _ (by assumption))))
 all_goals (try ((fail_if_success refine nl ?_);(exact (holdsV_bad hc).symm)))
 all_goals (try ((fail_if_success refine nl ?_);(have h1:=(by assumption:GoodI gs i).lo;have h2:=(by assumption:GoodI gs i).hi;have h3:=(by assumption:GoodI gs i).v.1;omega)))
 have hg:GoodI gs i:=by assumption
 obtain ⟨n,rfl⟩:∃ n:Nat,i=(n:Int):=⟨i.toNat,(Int.toNat_of_nonneg hg.lo).symm⟩
 have hn:n<gs.length:=by have:=hg.hi;omega
 have hV:=hg.v
 have hmx:=hV.1
 refine w_loop [(7, .row .bool),(8, .d tInt)] [] (fun y=>∃ k:Nat,y.1.2.1=(k:Int)∧AllV (srB hv).ge (fun _=>True) gs n k y.1.1) (fun y=>n+1 - y.1.2.1.toNat) ?_
 conv=>whnf
 refine And.intro ?_ ?_
 · exact ⟨0,rfl,AllV.start trivial⟩
 rintro ⟨⟨all,_,⟨⟩⟩,⟨⟩⟩ ⟨k,rfl,hA⟩
 have hA:AllV (srB hv).ge (fun _=>True) gs n k (all:List Bool):=hA
 have hle:=hA.le
 have hln:List.length (all:List Bool)=n+1:=hA.ln
 have hkl:(k:Int)≤(n:Int)→k<gs.length:=fun h=>by omega
 have hkv:=fun (h:(k:Int)≤(n:Int))=>leaf_val hV (hkl h)
 have hks:=fun (h:(k:Int)≤(n:Int))=>hsm _ (getD_mem (d:=((0,0,[],()):Gate)) (hkl h))
 repeat' (first|refine an ?_ ?_|((try refine gm ?_);first|((with_reducible show Kz _);(try dsimp+instances only);(with_reducible refine kz _ ?_);clear kz Kz)|refine st ?_|(refine sr ?_;intro Kz kz;conv=>whnf)|(refine cd ?_;(conv=>arg 2;whnf);refine st ?_)|refine blockK_y (by rfl) ?_|(refine sw ?_;conv=>whnf))|(refine gm ?_;conv=>whnf)|(intro hc;(try dsimp+instances only[Dat,SDat,dflt,Ty.size,keepS,bkUpd,Gv.bk,backS,wayA,maxI,minI,negI]at hc);try simp only[LS]at hc))
 all_goals (try ((fail_if_success refine nl ?_);(try dsimp only[Dat,SDat,dflt,Ty.size,keepS,bkUpd,Gv.bk,backS,wayA,maxI,minI,negI]);(try simp only[LS]);first|done|exact dsc|((try simp only[allP,lo,hi,room,true_and,and_true,implies_true]);(repeat' (first|refine an ?_ ?_|((with_reducible refine preA_t ?_ ?_);rotate_left;exact sameP_t)|intro hv))<;>(try omega))))
 · have hkn:k≤n:=Int.ofNat_le.1 hc
   have hk9:=hkl hc
   have hkr9:k<List.length (all:List Bool):=Nat.lt_of_lt_of_eq (Nat.lt_succ_of_le hkn) hln.symm
   have hkid:=fun (j:Nat) (h:(j:Int)<(((List.getD gs k ((0,0,[],()):Gate))).2.2.1.length:Int))=>kid_j hV hk9 hkr9 h
   have hks9:=hks hc
   have hkv9:=hkv hc
   refine w_loop [(10, .d tInt),(11, .d tInt)] [] (fun y=>∃ j:Nat,y.1.2.1=(j:Int)∧j≤((List.getD gs k ((0,0,[],()):Gate))).2.2.1.length∧y.1.1=cntB all (((List.getD gs k ((0,0,[],()):Gate))).2.2.1.take j)∧0≤y.1.1∧y.1.1≤(j:Int)) (fun y=>((List.getD gs k ((0,0,[],()):Gate))).2.2.1.length - y.1.2.1.toNat) ?_
   conv=>whnf
   refine And.intro ?_ ?_
   · exact ⟨0,rfl,Nat.zero_le _,rfl,Int.le_refl 0,Int.le_refl 0⟩
   rintro ⟨⟨(nn:Int),_,⟨⟩⟩,⟨⟩⟩ ⟨j,rfl,hj,hcn,hn0,hn1⟩
   have hcn:nn=cntB (all:List Bool) (((List.getD gs k ((0,0,[],()):Gate))).2.2.1.take j):=hcn
   have hn0:0≤nn:=hn0
   have hn1:nn≤(j:Int):=hn1
   have hkj:=hkid j
   have hsn:=fun (h:(j:Int)<(((List.getD gs k ((0,0,[],()):Gate))).2.2.1.length:Int))=>cntB_snoc (all:=(all:List Bool)) (l:=((List.getD gs k ((0,0,[],()):Gate))).2.2.1) (j:=j) (Int.ofNat_lt.1 h)
   have hy:=fun (h:(j:Int)<(((List.getD gs k ((0,0,[],()):Gate))).2.2.1.length:Int)) (q:List.getD (all:List Bool) (((List.getD gs k ((0,0,[],()):Gate))).2.2.1.getD j 0).toNat false=true)=>show ∃ j':Nat,(j:Int)+1=(j':Int)∧j'≤((List.getD gs k ((0,0,[],()):Gate))).2.2.1.length∧nn+1=cntB all (((List.getD gs k ((0,0,[],()):Gate))).2.2.1.take j')∧0≤nn+1∧nn+1≤(j':Int) from ⟨j+1,rfl,by omega,by rw [hsn h,if_pos q,hcn],by omega,by omega⟩
   have hno:=fun (h:(j:Int)<(((List.getD gs k ((0,0,[],()):Gate))).2.2.1.length:Int)) (q:List.getD (all:List Bool) (((List.getD gs k ((0,0,[],()):Gate))).2.2.1.getD j 0).toNat false=false)=>show ∃ j':Nat,(j:Int)+1=(j':Int)∧j'≤((List.getD gs k ((0,0,[],()):Gate))).2.2.1.length∧nn=cntB all (((List.getD gs k ((0,0,[],()):Gate))).2.2.1.take j')∧0≤nn∧nn≤(j':Int) from ⟨j+1,rfl,by omega,by rw [hsn h,if_neg (by rw [q];decide),hcn];exact (Int.add_zero _).symm,by omega,by omega⟩
   have hb1: -9223372036854775808≤nn+1:=by omega
   have hb2:(j:Int)<(((List.getD gs k ((0,0,[],()):Gate))).2.2.1.length:Int)→nn+1≤9223372036854775807:=fun h=>by omega
   have hfin:=fun (h:¬ (j:Int)<(((List.getD gs k ((0,0,[],()):Gate))).2.2.1.length:Int))=>by
    have h9:=hold_val (hv:=hv) hV hk9 (hA.kids hV hk9)
    rw [show List.take j ((List.getD gs k ((0,0,[],()):Gate))).2.2.1=((List.getD gs k ((0,0,[],()):Gate))).2.2.1 from take_all h] at hcn
    rw [← hcn] at h9
    exact h9
   repeat' (first|refine an ?_ ?_|((try refine gm ?_);first|((with_reducible show Kz _);(try dsimp+instances only);(with_reducible refine kz _ ?_);clear kz Kz)|refine st ?_|(refine sr ?_;intro Kz kz;conv=>whnf)|(refine cd ?_;(conv=>arg 2;whnf);refine st ?_)|refine blockK_y (by rfl) ?_|(refine sw ?_;conv=>whnf))|(refine gm ?_;conv=>whnf)|(intro hc;(try dsimp+instances only[Dat,SDat,dflt,Ty.size,keepS,bkUpd,Gv.bk,backS,wayA,maxI,minI,negI]at hc);try simp only[LS]at hc))
   all_goals (try ((fail_if_success refine nl ?_);(try dsimp only[Dat,SDat,dflt,Ty.size,keepS,bkUpd,Gv.bk,backS,wayA,maxI,minI,negI]);(try simp only[LS]);first|done|exact dsc|((try simp only[allP,lo,hi,room,true_and,and_true,implies_true]);(repeat' (first|refine an ?_ ?_|((with_reducible refine preA_t ?_ ?_);rotate_left;exact sameP_t)|intro hv))<;>(try omega))))
   all_goals (try ((fail_if_success refine nl ?_);(first|with_reducible exact hb1|with_reducible exact hb2 (by assumption)|exact hy (by assumption) hc|exact hno (by assumption) hc)))
   · exact ⟨k+1,rfl,hA.step hkn (Bool.eq_iff_iff.2 (boolOf_true.trans (hfin hc).symm)) trivial⟩
 · exact ((holdsV_good (h:=hv) hg).trans (hA.vs n (by omega)).symm).symm
theorem ok_z64:SpecOK SP glob fi_z64 S_z64:=mk_ok (c:=c_z64) (tab_ok _) mix_ok wf_z64 (by decide) (.cons ok_z68 .nil) (fun x hx=>Nat.zero_lt_one) g_z64
end Go.Gv
