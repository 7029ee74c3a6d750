/- Chapter 16: the reference: Holds and Cost. -/
import Derived.Test.YtibnojoffhlekaaGreatDoorR16b
import Derived.Test.YtibnojoffhlekaaGreatDoorC16f
set_option linter.all false
namespace Go.Gv
open Go Go.Proofs Go.Proofs.YtibnojoffhlekaaGreatDoor
set_option maxRecDepth 100000
set_option maxHeartbeats 4000000
section
variable {T:Type}
structure AllV (S:GE T) (Q:T→Prop) (gs:List Gate) (n k:Nat) (all:List T):Prop where
 le:k≤n+1
 ln:all.length=n+1
 vs:∀ m,m<k→all.getD m S.z=(vlE S gs m).1
 qs:∀ m,Q (all.getD m S.z)
theorem AllV.start {S:GE T} {Q:T→Prop} {gs:List Gate} {n:Nat} (hz:Q S.z):AllV S Q gs n 0 (List.replicate (n+1) S.z):=by
 refine ⟨Nat.zero_le _,List.length_replicate,fun m h=>absurd h (Nat.not_lt_zero m),fun m=>?_⟩
 rw [List.getD_eq_getElem?_getD,List.getElem?_replicate]
 split<;>exact hz
theorem AllV.step {S:GE T} {Q:T→Prop} {gs:List Gate} {n k:Nat} {all:List T} (h:AllV S Q gs n k all) (hk:k≤n) {v:T} (hv:v=(vlE S gs k).1) (q:Q v):AllV S Q gs n (k+1) (all.set k v):=by
 have hl:=h.ln
 refine ⟨by omega,by rw [List.length_set];exact hl,fun m hm=>?_,set_q (by omega) h.qs q⟩
 rw [getD_set (by omega)]
 by_cases e:k=m
 · rw [if_pos e,hv,e]
 · rw [if_neg e];exact h.vs m (by omega)
theorem AllV.kids {S:GE T} {Q:T→Prop} {gs:List Gate} {n k:Nat} {all:List T} (h:AllV S Q gs n k all) (hV:ValidC gs) (hk:k<gs.length):∀ j∈((List.getD gs k ((0,0,[],()):Gate))).2.2.1,all.getD j.toNat S.z=(vlE S gs j.toNat).1:=fun j hj=>by
 have:=kid_in hV hk hj
 exact h.vs _ (by omega)
end
theorem kids_nil {gs:List Gate} (hV:ValidC gs) {k:Nat} (hk:k<gs.length) (hi:¬ inner ((List.getD gs k ((0,0,[],()):Gate))).1):((List.getD gs k ((0,0,[],()):Gate))).2.2.1=[]:=by
 have:=(hV.2 k hk).1.2
 rcases this with h|h|h
 · exact h.2.1
 · exact h.2.1
 · exact absurd h.1 hi
theorem kids_in {gs:List Gate} (hV:ValidC gs) {k j:Nat} (hk:k<gs.length) (hj:(j:Int)<(((List.getD gs k ((0,0,[],()):Gate))).2.2.1.length:Int)):inner ((List.getD gs k ((0,0,[],()):Gate))).1:=Classical.byContradiction fun h=>by
 rw [kids_nil hV hk h] at hj
 simp at hj
 omega
def cntB (all:List Bool) (l:List Int):Int:=((l.filter fun c=>all.getD c.toNat false).length:Int)
theorem cntB_snoc {all:List Bool} {l:List Int} {j:Nat} (h:j<l.length):cntB all (l.take (j+1))=cntB all (l.take j)+if all.getD (l.getD j 0).toNat false=true then 1 else 0:=by
 unfold cntB
 rw [List.take_succ_eq_append_getElem h,List.filter_append,List.length_append,getD_ok 0 h]
 by_cases e:all.getD l[j].toNat false=true
 · rw [if_pos e,List.filter_cons_of_pos (p:=fun c:Int=>all.getD c.toNat false) e];simp
 · rw [if_neg e,List.filter_cons_of_neg (p:=fun c:Int=>all.getD c.toNat false) e];simp
theorem cntB_any {all:List Bool} {l:List Int}:0<cntB all l↔l.any (fun c=>all.getD c.toNat false)=true:=by
 unfold cntB
 rw [List.any_eq_true]
 constructor
 · intro h
   have h:0<(l.filter fun c=>all.getD c.toNat false).length:=by omega
   obtain ⟨c,hc⟩:=List.exists_mem_of_length_pos h
   exact ⟨c,(List.mem_filter.1 hc).1,(List.mem_filter.1 hc).2⟩
 · rintro ⟨c,h1,h2⟩
   have:=List.length_pos_of_mem (List.mem_filter.2 ⟨h1,h2⟩:c∈l.filter fun c=>all.getD c.toNat false)
   omega
theorem cntB_all {all:List Bool} {l:List Int}:cntB all l=(l.length:Int)↔l.all (fun c=>all.getD c.toNat false)=true:=by
 unfold cntB
 rw [Int.ofNat_inj,List.length_filter_eq_length_iff,List.all_eq_true]
theorem fold_or {f:Int→Bool}:∀ (l:List Int) (x:Bool),l.foldl (fun x c=>x||f c) x=(x||l.any f)
 |[],x=>by simp
 |a::l,x=>by rw [List.foldl_cons,fold_or l,List.any_cons,Bool.or_assoc]
theorem fold_and {f:Int→Bool}:∀ (l:List Int) (x:Bool),l.foldl (fun x c=>x && f c) x=(x && l.all f)
 |[],x=>by simp
 |a::l,x=>by rw [List.foldl_cons,fold_and l,List.all_cons,Bool.and_assoc]
theorem hold_val {gs:List Gate} {hv:List Bool} {all:List Bool} (hV:ValidC gs) {k:Nat} (hk:k<gs.length) (ha:∀ j∈((List.getD gs k ((0,0,[],()):Gate))).2.2.1,all.getD j.toNat false=(vlE (srB hv).ge gs j.toNat).1):(vlE (srB hv).ge gs k).1=true↔((((List.getD gs k ((0,0,[],()):Gate))).1=1∨(((List.getD gs k ((0,0,[],()):Gate))).1=2∧((List.getD gs k ((0,0,[],()):Gate))).2.1<(hv.length:Int))∧hv.getD ((List.getD gs k ((0,0,[],()):Gate))).2.1.toNat false=true)∨(((List.getD gs k ((0,0,[],()):Gate))).1=3∧0<cntB all ((List.getD gs k ((0,0,[],()):Gate))).2.2.1))∨((List.getD gs k ((0,0,[],()):Gate))).1=4∧cntB all ((List.getD gs k ((0,0,[],()):Gate))).2.2.1=(((List.getD gs k ((0,0,[],()):Gate))).2.2.1.length:Int):=by
 by_cases hi:inner ((List.getD gs k ((0,0,[],()):Gate))).1
 · have e1:=vl_tot (z:=false) (leaf:=leafB hv) (plus:=fun a b=>a||b) (times:=fun a b=>a && b) hV hk hi
   have e1:(vlE (srB hv).ge gs k).1=_:=e1
   have h2:2≤((List.getD gs k ((0,0,[],()):Gate))).2.2.1.length:=(hV.2 k hk).2.1 hi
   obtain ⟨a,r,ea⟩:∃ a r,((List.getD gs k ((0,0,[],()):Gate))).2.2.1=a::r:=by
    cases q:((List.getD gs k ((0,0,[],()):Gate))).2.2.1 with
    |nil=>rw [q] at h2;simp at h2
    |cons a r=>exact ⟨a,r,rfl⟩
   rw [cntB_any,cntB_all]
   have any_:((List.getD gs k ((0,0,[],()):Gate))).2.2.1.any (fun c=>all.getD c.toNat false)=((List.getD gs k ((0,0,[],()):Gate))).2.2.1.any fun c=>(vlE (srB hv).ge gs c.toNat).1:=by
    rw [Bool.eq_iff_iff,List.any_eq_true,List.any_eq_true]
    exact ⟨fun ⟨c,h1,h2⟩=>⟨c,h1,by rw [← ha c h1];exact h2⟩,fun ⟨c,h1,h2⟩=>⟨c,h1,by rw [ha c h1];exact h2⟩⟩
   have all_:((List.getD gs k ((0,0,[],()):Gate))).2.2.1.all (fun c=>all.getD c.toNat false)=((List.getD gs k ((0,0,[],()):Gate))).2.2.1.all fun c=>(vlE (srB hv).ge gs c.toNat).1:=by
    rw [Bool.eq_iff_iff,List.all_eq_true,List.all_eq_true]
    exact ⟨fun h c h1=>by rw [← ha c h1];exact h c h1,fun h c h1=>by rw [ha c h1];exact h c h1⟩
   rw [any_,all_]
   unfold inner at hi
   rcases hi with h3|h4
   · have e2:(vlE (srB hv).ge gs k).1=((List.getD gs k ((0,0,[],()):Gate))).2.2.1.any fun c=>(vlE (srB hv).ge gs c.toNat).1:=by
      rw [e1,ea,if_neg (show ¬ ((List.getD gs k ((0,0,[],()):Gate))).1=4 by omega)]
      show List.foldl (fun x c=>x||(vlE (srB hv).ge gs c.toNat).1) (vlE (srB hv).ge gs a.toNat).1 r=_
      rw [fold_or (f:=fun c=>(vlE (srB hv).ge gs c.toNat).1),List.any_cons]
     rw [e2]
     refine ⟨fun h=> .inl (.inr ⟨h3,h⟩),fun h=>?_⟩
     rcases h with ((h|h)|h)|h
     · omega
     · have:=h.1.1;omega
     · exact h.2
     · have:=h.1;omega
   · have e2:(vlE (srB hv).ge gs k).1=((List.getD gs k ((0,0,[],()):Gate))).2.2.1.all fun c=>(vlE (srB hv).ge gs c.toNat).1:=by
      rw [e1,ea,if_pos h4]
      show List.foldl (fun x c=>x && (vlE (srB hv).ge gs c.toNat).1) (vlE (srB hv).ge gs a.toNat).1 r=_
      rw [fold_and (f:=fun c=>(vlE (srB hv).ge gs c.toNat).1),List.all_cons]
     rw [e2]
     refine ⟨fun h=> .inr ⟨h4,h⟩,fun h=>?_⟩
     rcases h with ((h|h)|h)|h
     · omega
     · have:=h.1.1;omega
     · have:=h.1;omega
     · exact h.2
 · have e1:vlE (srB hv).ge gs k=(leafB hv ((List.getD gs k ((0,0,[],()):Gate))).1 ((List.getD gs k ((0,0,[],()):Gate))).2.1,0):=vl_leaf hi
   rw [e1]
   unfold inner at hi
   have:¬ ((List.getD gs k ((0,0,[],()):Gate))).1=3∧¬ ((List.getD gs k ((0,0,[],()):Gate))).1=4:=by omega
   simp only [leafB,this,false_and,or_false,decide_eq_true_eq]
theorem holdsV_bad {gs:List Gate} {i:Int} {h:List Bool} (hg:¬ GoodI gs i):holdsV gs i h=false:=by
 unfold holdsV
 rw [evC_bad hg]
 rfl
theorem holdsV_good {gs:List Gate} {i:Int} {h:List Bool} (hg:GoodI gs i):holdsV gs i h=(vlE (srB h).ge gs i.toNat).1:=by
 unfold holdsV
 rw [show evC (srB h).ge gs i=_ from evC_tot hg]
 rfl
@[reducible] noncomputable def S_z99:Spec:={ ins:=(.cons (.d tCirc) (.cons (.d tInt) (.cons (.d (.sl .bool)) .nil))),pre:=(fun x=>(fun c i h=>SmallG c.1) x.1 x.2.1 x.2.2.1),alts:=[{ outs:=(.cons (.d .bool) .nil),res:=(fun x=>(fun c i h=>(holdsV c.1 i h,())) x.1 x.2.1 x.2.2.1)}]}
noncomputable def c_z99:Cf:=(cf_z99 (Fl [(fi_z106,S_z106)]))
theorem g_z99:∀ x,S_z99.pre x→shOK S_z99.ins x→fnGoal c_z99 fn_z99 S_z99 x:=by
 rintro ⟨⟨gs,⟨⟩⟩,(i:Int),(hv:List Bool),⟨⟩⟩ hpre hok
 try dsimp only [Dat,SDat,dflt,Ty.size,keepS,bkUpd,Gv.bk,backS,wayA,maxI,minI,negI] at hpre
 have hln:=shLn_of _ hok;replace hok:=Hd.mk hok;try simp only [shLn,datLn,inRng,lo,hi,maxLen,true_and,and_true] at hln
 have hsm:SmallG gs:=hpre
 first|refine fn_goal (w_head ?_)
 intro Kz kz;(conv=>whnf);(try dsimp+instances only);refine kz _ ?_;clear kz Kz;(conv=>(arg 2;whnf))
 repeat' (first|refine an ?_ ?_|((try refine gm ?_);first|((with_reducible show Kz _);(try dsimp+instances only);(with_reducible refine kz _ ?_);clear kz Kz)|refine st ?_|(refine sr ?_;intro Kz kz;conv=>whnf)|(refine cd ?_;(conv=>arg 2;whnf);refine st ?_)|refine blockK_y (by rfl) ?_|(refine sw ?_;conv=>whnf))|(refine gm ?_;conv=>whnf)|(intro hc;(try dsimp+instances only[Dat,SDat,dflt,Ty.size,keepS,bkUpd,Gv.bk,backS,wayA,maxI,minI,negI]at hc);try simp only[LS]at hc))
 all_goals (try ((fail_if_success refine nl ?_);(try dsimp only[Dat,SDat,dflt,Ty.size,keepS,bkUpd,Gv.bk,backS,wayA,maxI,minI,negI]);(try simp only[LS]);first|done|exact dsc|((try simp only[allP,lo,hi,room,true_and,and_true,implies_true]);(repeat' (first|refine an ?_ ?_|((with_reducible refine preA_t ?_ ?_);rotate_left;exact sameP_t)|intro hv))<;>(try omega))))
 all_goals (try ((fail_if_success refine nl ?_);(exact (by assumption:SmallG gs))))
 all_goals (try ((fail_if_success refine nl ?_);(exact hsm _ (by assumption))))
 all_goals (try ((fail_if_success refine nl ?_);(exact (holdsV_bad hc).symm)))
 all_goals (try ((fail_if_success refine nl ?_);(have h1:=(by assumption:GoodI gs i).lo;have h2:=(by assumption:GoodI gs i).hi;have h3:=(by assumption:GoodI gs i).v.1;omega)))
 have hg:GoodI gs i:=by assumption
 obtain ⟨n,rfl⟩:∃ n:Nat,i=(n:Int):=⟨i.toNat,(Int.toNat_of_nonneg hg.lo).symm⟩
 have hn:n<gs.length:=by have:=hg.hi;omega
 have hV:=hg.v
 have hmx:=hV.1
 refine w_loop [(7, .row .bool),(8, .d tInt)] [] (fun y=>∃ k:Nat,y.1.2.1=(k:Int)∧AllV (srB hv).ge (fun _=>True) gs n k y.1.1) (fun y=>n+1 - y.1.2.1.toNat) ?_
 conv=>whnf
 refine And.intro ?_ ?_
 · exact ⟨0,rfl,AllV.start trivial⟩
 rintro ⟨⟨all,_,⟨⟩⟩,⟨⟩⟩ ⟨k,rfl,hA⟩
 have hA:AllV (srB hv).ge (fun _=>True) gs n k (all:List Bool):=hA
 have hle:=hA.le
 have hln:List.length (all:List Bool)=n+1:=hA.ln
 have hkl:(k:Int)≤(n:Int)→k<gs.length:=fun h=>by omega
 have hkv:=fun (h:(k:Int)≤(n:Int))=>leaf_val hV (hkl h)
 have hks:=fun (h:(k:Int)≤(n:Int))=>hsm _ (getD_mem (d:=((0,0,[],()):Gate)) (hkl h))
 repeat' (first|refine an ?_ ?_|((try refine gm ?_);first|((with_reducible show Kz _);(try dsimp+instances only);(with_reducible refine kz _ ?_);clear kz Kz)|refine st ?_|(refine sr ?_;intro Kz kz;conv=>whnf)|(refine cd ?_;(conv=>arg 2;whnf);refine st ?_)|refine blockK_y (by rfl) ?_|(refine sw ?_;conv=>whnf))|(refine gm ?_;conv=>whnf)|(intro hc;(try dsimp+instances only[Dat,SDat,dflt,Ty.size,keepS,bkUpd,Gv.bk,backS,wayA,maxI,minI,negI]at hc);try simp only[LS]at hc))
 all_goals (try ((fail_if_success refine nl ?_);(try dsimp only[Dat,SDat,dflt,Ty.size,keepS,bkUpd,Gv.bk,backS,wayA,maxI,minI,negI]);(try simp only[LS]);first|done|exact dsc|((try simp only[allP,lo,hi,room,true_and,and_true,implies_true]);(repeat' (first|refine an ?_ ?_|((with_reducible refine preA_t ?_ ?_);rotate_left;exact sameP_t)|intro hv))<;>(try omega))))
 · have hkn:k≤n:=Int.ofNat_le.1 hc
   have hk9:=hkl hc
   have hkr9:k<List.length (all:List Bool):=Nat.lt_of_lt_of_eq (Nat.lt_succ_of_le hkn) hln.symm
   have hkid:=fun (j:Nat) (h:(j:Int)<(((List.getD gs k ((0,0,[],()):Gate))).2.2.1.length:Int))=>kid_j hV hk9 hkr9 h
   have hks9:=hks hc
   have hkv9:=hkv hc
   refine w_loop [(10, .d tInt),(11, .d tInt)] [] (fun y=>∃ j:Nat,y.1.2.1=(j:Int)∧j≤((List.getD gs k ((0,0,[],()):Gate))).2.2.1.length∧y.1.1=cntB all (((List.getD gs k ((0,0,[],()):Gate))).2.2.1.take j)∧0≤y.1.1∧y.1.1≤(j:Int)) (fun y=>((List.getD gs k ((0,0,[],()):Gate))).2.2.1.length - y.1.2.1.toNat) ?_
   conv=>whnf
   refine And.intro ?_ ?_
   · exact ⟨0,rfl,Nat.zero_le _,rfl,Int.le_refl 0,Int.le_refl 0⟩
   rintro ⟨⟨(nn:Int),_,⟨⟩⟩,⟨⟩⟩ ⟨j,rfl,hj,hcn,hn0,hn1⟩
   have hcn:nn=cntB (all:List Bool) (((List.getD gs k ((0,0,[],()):Gate))).2.2.1.take j):=hcn
   have hn0:0≤nn:=hn0
   have hn1:nn≤(j:Int):=hn1
   have hkj:=hkid j
   have hsn:=fun (h:(j:Int)<(((List.getD gs k ((0,0,[],()):Gate))).2.2.1.length:Int))=>cntB_snoc (all:=(all:List Bool)) (l:=((List.getD gs k ((0,0,[],()):Gate))).2.2.1) (j:=j) (Int.ofNat_lt.1 h)
   have hy:=fun (h:(j:Int)<(((List.getD gs k ((0,0,[],()):Gate))).2.2.1.length:Int)) (q:List.getD (all:List Bool) (((List.getD gs k ((0,0,[],()):Gate))).2.2.1.getD j 0).toNat false=true)=>show ∃ j':Nat,(j:Int)+1=(j':Int)∧j'≤((List.getD gs k ((0,0,[],()):Gate))).2.2.1.length∧nn+1=cntB all (((List.getD gs k ((0,0,[],()):Gate))).2.2.1.take j')∧0≤nn+1∧nn+1≤(j':Int) from ⟨j+1,rfl,by omega,by rw [hsn h,if_pos q,hcn],by omega,by omega⟩
   have hno:=fun (h:(j:Int)<(((List.getD gs k ((0,0,[],()):Gate))).2.2.1.length:Int)) (q:List.getD (all:List Bool) (((List.getD gs k ((0,0,[],()):Gate))).2.2.1.getD j 0).toNat false=false)=>show ∃ j':Nat,(j:Int)+1=(j':Int)∧j'≤((List.getD gs k ((0,0,[],()):Gate))).2.2.1.length∧nn=cntB all (((List.getD gs k ((0,0,[],()):Gate))).2.2.1.take j')∧0≤nn∧nn≤(j':Int) from ⟨j+1,rfl,by omega,by rw [hsn h,if_neg (by rw [q];decide),hcn];exact (Int.add_zero _).symm,by omega,by omega⟩
   have hb1: -9223372036854775808≤nn+1:=by omega
   have hb2:(j:Int)<(((List.getD gs k ((0,0,[],()):Gate))).2.2.1.length:Int)→nn+1≤9223372036854775807:=fun h=>by omega
   have hfin:=fun (h:¬ (j:Int)<(((List.getD gs k ((0,0,[],()):Gate))).2.2.1.length:Int))=>by
    have h9:=hold_val (hv:=hv) hV hk9 (hA.kids hV hk9)
    rw [show List.take j ((List.getD gs k ((0,0,[],()):Gate))).2.2.1=((List.getD gs k ((0,0,[],()):Gate))).2.2.1 from take_all h] at hcn
    rw [← hcn] at h9
    exact h9
   repeat' (first|refine an ?_ ?_|((try refine gm ?_);first|((with_reducible show Kz _);(try dsimp+instances only);(with_reducible refine kz _ ?_);clear kz Kz)|refine st ?_|(refine sr ?_;intro Kz kz;conv=>whnf)|(refine cd ?_;(conv=>arg 2;whnf);refine st ?_)|refine blockK_y (by rfl) ?_|(refine sw ?_;conv=>whnf))|(refine gm ?_;conv=>whnf)|(intro hc;(try dsimp+instances only[Dat,SDat,dflt,Ty.size,keepS,bkUpd,Gv.bk,backS,wayA,maxI,minI,negI]at hc);try simp only[LS]at hc))
   all_goals (try ((fail_if_success refine nl ?_);(try dsimp only[Dat,SDat,dflt,Ty.size,keepS,bkUpd,Gv.bk,backS,wayA,maxI,minI,negI]);(try simp only[LS]);first|done|exact dsc|((try simp only[allP,lo,hi,room,true_and,and_true,implies_true]);(repeat' (first|refine an ?_ ?_|((with_reducible refine preA_t ?_ ?_);rotate_left;exact sameP_t)|intro hv))<;>(try omega))))
   all_goals (try ((fail_if_success refine nl ?_);(first|with_reducible exact hb1|with_reducible exact hb2 (by assumption)|exact hy (by assumption) hc|exact hno (by assumption) hc)))
   · exact ⟨k+1,rfl,hA.step hkn (Bool.eq_iff_iff.2 (boolOf_true.trans (hfin hc).symm)) trivial⟩
 · exact ((holdsV_good (h:=hv) hg).trans (hA.vs n (by omega)).symm).symm
theorem ok_z99:SpecOK SP glob fi_z99 S_z99:=mk_ok (c:=c_z99) (tab_ok _) mix_ok wf_z99 (by decide) (.cons ok_z106 .nil) (fun x hx=>Nat.zero_lt_one) g_z99
def opC (gk x y:Int):Int:=if gk=4 then timesC x y else plusC x y
theorem opC_rg {gk x y:Int} (hx:rgC x) (hy:rgC y):rgC (opC gk x y):=by
 unfold opC
 split
 · exact timesC_rg hx hy
 · exact plusC_rg hx hy
def initC (cs:List Int) (k v:Int):Int:=if k=1∨k=4 then 0 else if (k=2∧v<(cs.length:Int))∧0≤cs.getD v.toNat 0 then min (cs.getD v.toNat 0) 1000000000 else -1
theorem initC_rg (cs:List Int) (k v:Int):rgC (initC cs k v):=by
 unfold initC rgC
 split
 · omega
 · split<;>omega
structure CosJ (all l:List Int) (gk x0:Int) (idx x:Int) (j:Nat):Prop where
 ix:idx=(j:Int)
 le:j≤l.length
 eq:x=(l.take j).foldl (fun x c=>opC gk x (all.getD c.toNat 0)) x0
 rg:rgC x
theorem CosJ.start {all l:List Int} {gk x0:Int} (h:rgC x0):CosJ all l gk x0 0 x0 0:=⟨rfl,Nat.zero_le _,rfl,h⟩
theorem CosJ.step {all l:List Int} {gk x0 x:Int} {j:Nat} (h:CosJ all l gk x0 (j:Int) x j) (hj:(j:Int)<(l.length:Int)) (hq:∀ m,rgC (all.getD m 0)) {x':Int} (e:x'=opC gk x (all.getD (l.getD j 0).toNat 0)):CosJ all l gk x0 ((j:Int)+1) x' (j+1):=by
 have hj':j<l.length:=Int.ofNat_lt.1 hj
 refine ⟨rfl,hj',?_,by rw [e];exact opC_rg h.rg (hq _)⟩
 rw [List.take_succ_eq_append_getElem hj',List.foldl_append,← h.eq,e,getD_ok 0 hj']
 rfl
theorem CosJ.fin {all l:List Int} {gk x0 x:Int} {j:Nat} (h:CosJ all l gk x0 (j:Int) x j) (hj:¬ (j:Int)<(l.length:Int)):x=l.foldl (fun x c=>opC gk x (all.getD c.toNat 0)) x0:=by
 have:=h.eq
 rw [take_all hj] at this
 exact this
theorem foldl_mem {α β:Type} {f g:β→α→β}:∀ (l:List α) (x:β),(∀ a∈l,∀ x,f x a=g x a)→l.foldl f x=l.foldl g x
 |[],x,_=>rfl
 |a::l,x,h=>by
  rw [List.foldl_cons,List.foldl_cons,h a List.mem_cons_self]
  exact foldl_mem l _ fun b hb=>h b (List.mem_cons_of_mem _ hb)
theorem cost_val {gs:List Gate} {cs:List Int} {all:List Int} (hV:ValidC gs) {k:Nat} (hk:k<gs.length) (ha:∀ j∈((List.getD gs k ((0,0,[],()):Gate))).2.2.1,all.getD j.toNat 0=(vlE (srC cs).ge gs j.toNat).1) (hq:∀ m,rgC (all.getD m 0)):((List.getD gs k ((0,0,[],()):Gate))).2.2.1.foldl (fun x c=>opC ((List.getD gs k ((0,0,[],()):Gate))).1 x (all.getD c.toNat 0)) (initC cs ((List.getD gs k ((0,0,[],()):Gate))).1 ((List.getD gs k ((0,0,[],()):Gate))).2.1)=(vlE (srC cs).ge gs k).1:=by
 by_cases hi:inner ((List.getD gs k ((0,0,[],()):Gate))).1
 · have e1:(vlE (srC cs).ge gs k).1=_:=vl_tot (z:=0) (leaf:=leafC cs) (plus:=plusC) (times:=timesC) hV hk hi
   have h2:2≤((List.getD gs k ((0,0,[],()):Gate))).2.2.1.length:=(hV.2 k hk).2.1 hi
   obtain ⟨a,r,ea⟩:∃ a r,((List.getD gs k ((0,0,[],()):Gate))).2.2.1=a::r:=by
    cases q:((List.getD gs k ((0,0,[],()):Gate))).2.2.1 with
    |nil=>rw [q] at h2;simp at h2
    |cons a r=>exact ⟨a,r,rfl⟩
   rw [e1]
   rw [ea] at ha ⊢
   have h0:opC ((List.getD gs k ((0,0,[],()):Gate))).1 (initC cs ((List.getD gs k ((0,0,[],()):Gate))).1 ((List.getD gs k ((0,0,[],()):Gate))).2.1) (all.getD a.toNat 0)=all.getD a.toNat 0:=by
    have:=hq a.toNat
    unfold rgC at this
    unfold inner at hi
    unfold opC initC
    rcases hi with h|h
    · rw [if_neg (by omega),if_neg (by omega),if_neg (by omega)];unfold plusC;split<;>omega
    · rw [if_pos h,if_pos (.inr h)];unfold timesC;split<;>omega
   rw [List.foldl_cons,h0,ha a List.mem_cons_self]
   refine foldl_mem r _ fun c hc x=>?_
   rw [ha c (List.mem_cons_of_mem _ hc)]
   unfold opC
   split<;>rfl
 · have e1:vlE (srC cs).ge gs k=(leafC cs ((List.getD gs k ((0,0,[],()):Gate))).1 ((List.getD gs k ((0,0,[],()):Gate))).2.1,0):=vl_leaf hi
   rw [e1,kids_nil hV hk hi]
   show initC cs ((List.getD gs k ((0,0,[],()):Gate))).1 ((List.getD gs k ((0,0,[],()):Gate))).2.1=leafC cs ((List.getD gs k ((0,0,[],()):Gate))).1 ((List.getD gs k ((0,0,[],()):Gate))).2.1
   unfold inner at hi
   unfold initC leafC
   by_cases h1:((List.getD gs k ((0,0,[],()):Gate))).1=1
   · rw [if_pos (.inl h1),if_pos h1]
   · rw [if_neg (by omega),if_neg h1]
theorem costV_bad {gs:List Gate} {i:Int} {h:List Int} (hg:¬ GoodI gs i):costV gs i h=(0,false):=costV_no (.inl (by rw [evC_bad hg];show ¬ (1:Int)=0;decide))
theorem costV_neg {gs:List Gate} {i:Int} {h:List Int} (hg:GoodI gs i) (hr:rgC (vlE (srC h).ge gs i.toNat).1) (hc:(vlE (srC h).ge gs i.toNat).1<0):costV gs i h=(0,false):=costV_no (.inr (by rw [show evC (srC h).ge gs i=_ from evC_tot hg];have:=hr.1;show (vlE (srC h).ge gs i.toNat).1= -1;omega))
theorem costV_pos {gs:List Gate} {i:Int} {h:List Int} (hg:GoodI gs i) (hc:¬ (vlE (srC h).ge gs i.toNat).1<0):costV gs i h=((vlE (srC h).ge gs i.toNat).1,true):=by
 have e:evC (srC h).ge gs i=((vlE (srC h).ge gs i.toNat).1,0):=evC_tot hg
 rw [costV_yes (by rw [e];exact not_or.2 ⟨fun h=>h rfl,show ¬ (vlE (srC h).ge gs i.toNat).1= -1 by omega⟩),e]
section
variable {gk x y:Int}
theorem opcA (hx:rgC x) (hy:rgC y) (h:(gk=3∧0≤y)∧(x<0∨y<x)):y=opC gk x y:=by
 unfold opC plusC
 unfold rgC at hx hy
 rw [if_neg (show ¬ gk=4 by omega)]
 split<;>omega
theorem opcB (hx:rgC x) (hy:rgC y) (h:gk=4∧(x<0∨y<0)): -1=opC gk x y:=by
 unfold opC timesC
 unfold rgC at hx hy
 rw [if_pos h.1,if_pos (show x= -1∨y= -1 by omega)]
theorem opcD (hx:rgC x) (hy:rgC y) (h:¬ (gk=4∧(x<0∨y<0))) (h4:gk=4):min (x+y) 1000000000=opC gk x y:=by
 unfold opC timesC
 unfold rgC at hx hy
 have h9:=fun q=>h ⟨h4,q⟩
 rw [if_pos h4,if_neg (show ¬ (x= -1∨y= -1) by omega)]
theorem opcE (hi:inner gk) (hx:rgC x) (hy:rgC y) (h:¬ ((gk=3∧0≤y)∧(x<0∨y<x))) (h4:¬ gk=4):x=opC gk x y:=by
 unfold inner at hi
 have h3:gk=3:=by omega
 unfold opC plusC
 unfold rgC at hx hy
 rw [if_neg h4]
 have h9:=fun q1 q2=>h ⟨⟨h3,q1⟩,q2⟩
 split<;>omega
end
@[reducible] noncomputable def S_z95:Spec:={ ins:=(.cons (.d tCirc) (.cons (.d tInt) (.cons (.d (.sl tInt)) .nil))),pre:=(fun x=>(fun c i h=>SmallG c.1) x.1 x.2.1 x.2.2.1),alts:=[{ outs:=(.cons (.d tInt) (.cons (.d .bool) .nil)),res:=(fun x=>(fun c i h=>((costV c.1 i h).1,(costV c.1 i h).2,())) x.1 x.2.1 x.2.2.1)}]}
noncomputable def c_z95:Cf:=(cf_z95 (Fl [(fi_z106,S_z106)]))
theorem g_z95:∀ x,S_z95.pre x→shOK S_z95.ins x→fnGoal c_z95 fn_z95 S_z95 x:=by
 rintro ⟨⟨gs,⟨⟩⟩,(i:Int),(cs:List Int),⟨⟩⟩ hpre hok
 try dsimp only [Dat,SDat,dflt,Ty.size,keepS,bkUpd,Gv.bk,backS,wayA,maxI,minI,negI] at hpre
 have hln:=shLn_of _ hok;replace hok:=Hd.mk hok;try simp only [shLn,datLn,inRng,lo,hi,maxLen,true_and,and_true] at hln
 have hsm:SmallG gs:=hpre
 first|refine fn_goal (w_head ?_)
 intro Kz kz;(conv=>whnf);(try dsimp+instances only);refine kz _ ?_;clear kz Kz;(conv=>(arg 2;whnf))
 repeat' (first|refine an ?_ ?_|((try refine gm ?_);first|((with_reducible show Kz _);(try dsimp+instances only);(with_reducible refine kz _ ?_);clear kz Kz)|refine st ?_|(refine sr ?_;intro Kz kz;conv=>whnf)|(refine cd ?_;(conv=>arg 2;whnf);refine st ?_)|refine blockK_y (by rfl) ?_|(refine sw ?_;conv=>whnf))|(refine gm ?_;conv=>whnf)|(intro hc;(try dsimp+instances only[Dat,SDat,dflt,Ty.size,keepS,bkUpd,Gv.bk,backS,wayA,maxI,minI,negI]at hc);try simp only[LS]at hc))
 all_goals (try ((fail_if_success refine nl ?_);(try dsimp only[Dat,SDat,dflt,Ty.size,keepS,bkUpd,Gv.bk,backS,wayA,maxI,minI,negI]);(try simp only[LS]);first|done|exact dsc|((try simp only[allP,lo,hi,room,true_and,and_true,implies_true]);(repeat' (first|refine an ?_ ?_|((with_reducible refine preA_t ?_ ?_);rotate_left;exact sameP_t)|intro hv))<;>(try omega))))
 all_goals (try ((fail_if_success refine nl ?_);(exact (by assumption:SmallG gs))))
 all_goals (try ((fail_if_success refine nl ?_);(exact hsm _ (by assumption))))
 all_goals (try ((fail_if_success refine nl ?_);(first|exact (congrArg Prod.fst (costV_bad hc)).symm|exact (congrArg Prod.snd (costV_bad hc)).symm)))
 all_goals (try ((fail_if_success refine nl ?_);(have h1:=(by assumption:GoodI gs i).lo;have h2:=(by assumption:GoodI gs i).hi;have h3:=(by assumption:GoodI gs i).v.1;omega)))
 have hg:GoodI gs i:=by assumption
 obtain ⟨n,rfl⟩:∃ n:Nat,i=(n:Int):=⟨i.toNat,(Int.toNat_of_nonneg hg.lo).symm⟩
 have hn:n<gs.length:=by have:=hg.hi;omega
 have hV:=hg.v
 have hmx:=hV.1
 refine w_loop [(8, .row tInt),(9, .d tInt)] [] (fun y=>∃ k:Nat,y.1.2.1=(k:Int)∧AllV (srC cs).ge rgC gs n k y.1.1) (fun y=>n+1 - y.1.2.1.toNat) ?_
 conv=>whnf
 refine And.intro ?_ ?_
 · exact ⟨0,rfl,AllV.start rgC_z⟩
 rintro ⟨⟨all,_,⟨⟩⟩,⟨⟩⟩ ⟨k,rfl,hA⟩
 have hA:AllV (srC cs).ge rgC gs n k (all:List Int):=hA
 have hle:=hA.le
 have hln:List.length (all:List Int)=n+1:=hA.ln
 have hkl:(k:Int)≤(n:Int)→k<gs.length:=fun h=>by omega
 have hkv:=fun (h:(k:Int)≤(n:Int))=>leaf_val hV (hkl h)
 have hks:=fun (h:(k:Int)≤(n:Int))=>hsm _ (getD_mem (d:=((0,0,[],()):Gate)) (hkl h))
 repeat' (first|refine an ?_ ?_|((try refine gm ?_);first|((with_reducible show Kz _);(try dsimp+instances only);(with_reducible refine kz _ ?_);clear kz Kz)|refine st ?_|(refine sr ?_;intro Kz kz;conv=>whnf)|(refine cd ?_;(conv=>arg 2;whnf);refine st ?_)|refine blockK_y (by rfl) ?_|(refine sw ?_;conv=>whnf))|(refine gm ?_;conv=>whnf)|(intro hc;(try dsimp+instances only[Dat,SDat,dflt,Ty.size,keepS,bkUpd,Gv.bk,backS,wayA,maxI,minI,negI]at hc);try simp only[LS]at hc))
 all_goals (try ((fail_if_success refine nl ?_);(try dsimp only[Dat,SDat,dflt,Ty.size,keepS,bkUpd,Gv.bk,backS,wayA,maxI,minI,negI]);(try simp only[LS]);first|done|exact dsc|((try simp only[allP,lo,hi,room,true_and,and_true,implies_true]);(repeat' (first|refine an ?_ ?_|((with_reducible refine preA_t ?_ ?_);rotate_left;exact sameP_t)|intro hv))<;>(try omega))))
 all_goals (try (have hkn:k≤n:=Int.ofNat_le.1 (by assumption)))
 all_goals (try (have hk9:=hkl (by assumption)))
 all_goals (try (have hkr9:k<List.length (all:List Int):=Nat.lt_of_lt_of_eq (Nat.lt_succ_of_le hkn) hln.symm))
 all_goals (try (have hkid:=fun (j:Nat) (h:(j:Int)<(((List.getD gs k ((0,0,[],()):Gate))).2.2.1.length:Int))=>kid_j hV hk9 hkr9 h))
 all_goals (try (have hks9:=hks (by assumption)))
 · exfalso
   omega
 · have he0:(0:Int)=initC cs ((List.getD gs k ((0,0,[],()):Gate))).1 ((List.getD gs k ((0,0,[],()):Gate))).2.1:=(if_pos (by assumption)).symm
   have hrx:rgC (0:Int):=by rw [he0];exact initC_rg _ _ _
   refine w_loop [(11, .d tInt),(12, .d tInt)] [] (fun y=>∃ j:Nat,CosJ all ((List.getD gs k ((0,0,[],()):Gate))).2.2.1 ((List.getD gs k ((0,0,[],()):Gate))).1 (0:Int) y.1.2.1 y.1.1 j) (fun y=>((List.getD gs k ((0,0,[],()):Gate))).2.2.1.length - y.1.2.1.toNat) ?_
   conv=>whnf
   refine And.intro ?_ ?_
   · exact ⟨0,CosJ.start hrx⟩
   rintro ⟨⟨(x:Int),(idx:Int),⟨⟩⟩,⟨⟩⟩ ⟨j,hJ⟩
   have hJ:CosJ all ((List.getD gs k ((0,0,[],()):Gate))).2.2.1 ((List.getD gs k ((0,0,[],()):Gate))).1 (0:Int) idx x j:=hJ
   have hi9:=hJ.ix
   subst hi9
   have hle9:=hJ.le
   have hkj:=hkid j
   have hx9:=hJ.rg
   have hy9:=hA.qs (((List.getD gs k ((0,0,[],()):Gate))).2.2.1.getD j 0).toNat
   have hx1:=hx9.1
   have hx2:=hx9.2
   have hy1: -1≤List.getD (all:List Int) (((List.getD gs k ((0,0,[],()):Gate))).2.2.1.getD j 0).toNat 0:=hy9.1
   have hy2:List.getD (all:List Int) (((List.getD gs k ((0,0,[],()):Gate))).2.2.1.getD j 0).toNat 0≤1000000000:=hy9.2
   have hs1: -9223372036854775808≤x+List.getD (all:List Int) (((List.getD gs k ((0,0,[],()):Gate))).2.2.1.getD j 0).toNat 0:=Int.le_trans (by decide) (Int.add_le_add hx1 hy1)
   have hs2:x+List.getD (all:List Int) (((List.getD gs k ((0,0,[],()):Gate))).2.2.1.getD j 0).toNat 0≤9223372036854775807:=Int.le_trans (Int.add_le_add hx2 hy2) (by decide)
   have hin:=fun (h:(j:Int)<(((List.getD gs k ((0,0,[],()):Gate))).2.2.1.length:Int))=>kids_in hV hk9 h
   have hon:=fun (h:(j:Int)<(((List.getD gs k ((0,0,[],()):Gate))).2.2.1.length:Int)) (x':Int) (e:x'=opC ((List.getD gs k ((0,0,[],()):Gate))).1 x (List.getD (all:List Int) (((List.getD gs k ((0,0,[],()):Gate))).2.2.1.getD j 0).toNat 0))=>show ∃ j':Nat,CosJ all ((List.getD gs k ((0,0,[],()):Gate))).2.2.1 ((List.getD gs k ((0,0,[],()):Gate))).1 (0:Int) ((j:Int)+1) x' j' from ⟨j+1,hJ.step h hA.qs e⟩
   have hfin:=fun (h:¬ (j:Int)<(((List.getD gs k ((0,0,[],()):Gate))).2.2.1.length:Int))=>show ∃ k':Nat,(k:Int)+1=(k':Int)∧AllV (srC cs).ge rgC gs n k' (List.set all k x) from ⟨k+1,rfl,hA.step hkn ((hJ.fin h).trans ((congrArg (fun z=>((List.getD gs k ((0,0,[],()):Gate))).2.2.1.foldl (fun x c=>opC ((List.getD gs k ((0,0,[],()):Gate))).1 x (List.getD (all:List Int) c.toNat 0)) z) he0).trans (cost_val hV hk9 (hA.kids hV hk9) hA.qs))) hx9⟩
   repeat' (first|refine an ?_ ?_|((try refine gm ?_);first|((with_reducible show Kz _);(try dsimp+instances only);(with_reducible refine kz _ ?_);clear kz Kz)|refine st ?_|(refine sr ?_;intro Kz kz;conv=>whnf)|(refine cd ?_;(conv=>arg 2;whnf);refine st ?_)|refine blockK_y (by rfl) ?_|(refine sw ?_;conv=>whnf))|(refine gm ?_;conv=>whnf)|(intro hc;(try dsimp+instances only[Dat,SDat,dflt,Ty.size,keepS,bkUpd,Gv.bk,backS,wayA,maxI,minI,negI]at hc);try simp only[LS]at hc))
   all_goals (try ((fail_if_success refine nl ?_);(try dsimp only[Dat,SDat,dflt,Ty.size,keepS,bkUpd,Gv.bk,backS,wayA,maxI,minI,negI]);(try simp only[LS]);first|done|exact dsc|((try simp only[allP,lo,hi,room,true_and,and_true,implies_true]);(repeat' (first|refine an ?_ ?_|((with_reducible refine preA_t ?_ ?_);rotate_left;exact sameP_t)|intro hv))<;>(try omega))))
   all_goals (try ((fail_if_success refine nl ?_);(first|with_reducible exact hs1|with_reducible exact hs2|exact hfin (by assumption))))
   all_goals (try ((fail_if_success refine nl ?_);(first|exact hon (by assumption) _ (opcA hx9 hy9 (by assumption))|exact hon (by assumption) _ (opcB hx9 hy9 (by assumption))|exact hon (by assumption) _ (opcD hx9 hy9 (by assumption) (by assumption))|exact hon (by assumption) _ (opcE (hin (by assumption)) hx9 hy9 (by assumption) (by assumption)))))
 · have he0:min (List.getD cs ((List.getD gs k ((0,0,[],()):Gate))).2.1.toNat 0) 1000000000=initC cs ((List.getD gs k ((0,0,[],()):Gate))).1 ((List.getD gs k ((0,0,[],()):Gate))).2.1:=((if_neg (by assumption)).trans (if_pos hc)).symm
   have hrx:rgC (min (List.getD cs ((List.getD gs k ((0,0,[],()):Gate))).2.1.toNat 0) 1000000000):=by rw [he0];exact initC_rg _ _ _
   refine w_loop [(11, .d tInt),(12, .d tInt)] [] (fun y=>∃ j:Nat,CosJ all ((List.getD gs k ((0,0,[],()):Gate))).2.2.1 ((List.getD gs k ((0,0,[],()):Gate))).1 (min (List.getD cs ((List.getD gs k ((0,0,[],()):Gate))).2.1.toNat 0) 1000000000) y.1.2.1 y.1.1 j) (fun y=>((List.getD gs k ((0,0,[],()):Gate))).2.2.1.length - y.1.2.1.toNat) ?_
   conv=>whnf
   refine And.intro ?_ ?_
   · exact ⟨0,CosJ.start hrx⟩
   rintro ⟨⟨(x:Int),(idx:Int),⟨⟩⟩,⟨⟩⟩ ⟨j,hJ⟩
   have hJ:CosJ all ((List.getD gs k ((0,0,[],()):Gate))).2.2.1 ((List.getD gs k ((0,0,[],()):Gate))).1 (min (List.getD cs ((List.getD gs k ((0,0,[],()):Gate))).2.1.toNat 0) 1000000000) idx x j:=hJ
   have hi9:=hJ.ix
   subst hi9
   have hle9:=hJ.le
   have hkj:=hkid j
   have hx9:=hJ.rg
   have hy9:=hA.qs (((List.getD gs k ((0,0,[],()):Gate))).2.2.1.getD j 0).toNat
   have hx1:=hx9.1
   have hx2:=hx9.2
   have hy1: -1≤List.getD (all:List Int) (((List.getD gs k ((0,0,[],()):Gate))).2.2.1.getD j 0).toNat 0:=hy9.1
   have hy2:List.getD (all:List Int) (((List.getD gs k ((0,0,[],()):Gate))).2.2.1.getD j 0).toNat 0≤1000000000:=hy9.2
   have hs1: -9223372036854775808≤x+List.getD (all:List Int) (((List.getD gs k ((0,0,[],()):Gate))).2.2.1.getD j 0).toNat 0:=Int.le_trans (by decide) (Int.add_le_add hx1 hy1)
   have hs2:x+List.getD (all:List Int) (((List.getD gs k ((0,0,[],()):Gate))).2.2.1.getD j 0).toNat 0≤9223372036854775807:=Int.le_trans (Int.add_le_add hx2 hy2) (by decide)
   have hin:=fun (h:(j:Int)<(((List.getD gs k ((0,0,[],()):Gate))).2.2.1.length:Int))=>kids_in hV hk9 h
   have hon:=fun (h:(j:Int)<(((List.getD gs k ((0,0,[],()):Gate))).2.2.1.length:Int)) (x':Int) (e:x'=opC ((List.getD gs k ((0,0,[],()):Gate))).1 x (List.getD (all:List Int) (((List.getD gs k ((0,0,[],()):Gate))).2.2.1.getD j 0).toNat 0))=>show ∃ j':Nat,CosJ all ((List.getD gs k ((0,0,[],()):Gate))).2.2.1 ((List.getD gs k ((0,0,[],()):Gate))).1 (min (List.getD cs ((List.getD gs k ((0,0,[],()):Gate))).2.1.toNat 0) 1000000000) ((j:Int)+1) x' j' from ⟨j+1,hJ.step h hA.qs e⟩
   have hfin:=fun (h:¬ (j:Int)<(((List.getD gs k ((0,0,[],()):Gate))).2.2.1.length:Int))=>show ∃ k':Nat,(k:Int)+1=(k':Int)∧AllV (srC cs).ge rgC gs n k' (List.set all k x) from ⟨k+1,rfl,hA.step hkn ((hJ.fin h).trans ((congrArg (fun z=>((List.getD gs k ((0,0,[],()):Gate))).2.2.1.foldl (fun x c=>opC ((List.getD gs k ((0,0,[],()):Gate))).1 x (List.getD (all:List Int) c.toNat 0)) z) he0).trans (cost_val hV hk9 (hA.kids hV hk9) hA.qs))) hx9⟩
   repeat' (first|refine an ?_ ?_|((try refine gm ?_);first|((with_reducible show Kz _);(try dsimp+instances only);(with_reducible refine kz _ ?_);clear kz Kz)|refine st ?_|(refine sr ?_;intro Kz kz;conv=>whnf)|(refine cd ?_;(conv=>arg 2;whnf);refine st ?_)|refine blockK_y (by rfl) ?_|(refine sw ?_;conv=>whnf))|(refine gm ?_;conv=>whnf)|(intro hc;(try dsimp+instances only[Dat,SDat,dflt,Ty.size,keepS,bkUpd,Gv.bk,backS,wayA,maxI,minI,negI]at hc);try simp only[LS]at hc))
   all_goals (try ((fail_if_success refine nl ?_);(try dsimp only[Dat,SDat,dflt,Ty.size,keepS,bkUpd,Gv.bk,backS,wayA,maxI,minI,negI]);(try simp only[LS]);first|done|exact dsc|((try simp only[allP,lo,hi,room,true_and,and_true,implies_true]);(repeat' (first|refine an ?_ ?_|((with_reducible refine preA_t ?_ ?_);rotate_left;exact sameP_t)|intro hv))<;>(try omega))))
   all_goals (try ((fail_if_success refine nl ?_);(first|with_reducible exact hs1|with_reducible exact hs2|exact hfin (by assumption))))
   all_goals (try ((fail_if_success refine nl ?_);(first|exact hon (by assumption) _ (opcA hx9 hy9 (by assumption))|exact hon (by assumption) _ (opcB hx9 hy9 (by assumption))|exact hon (by assumption) _ (opcD hx9 hy9 (by assumption) (by assumption))|exact hon (by assumption) _ (opcE (hin (by assumption)) hx9 hy9 (by assumption) (by assumption)))))
 · have he0:(-1:Int)=initC cs ((List.getD gs k ((0,0,[],()):Gate))).1 ((List.getD gs k ((0,0,[],()):Gate))).2.1:=((if_neg (by assumption)).trans (if_neg hc)).symm
   have hrx:rgC (-1:Int):=by rw [he0];exact initC_rg _ _ _
   refine w_loop [(11, .d tInt),(12, .d tInt)] [] (fun y=>∃ j:Nat,CosJ all ((List.getD gs k ((0,0,[],()):Gate))).2.2.1 ((List.getD gs k ((0,0,[],()):Gate))).1 (-1:Int) y.1.2.1 y.1.1 j) (fun y=>((List.getD gs k ((0,0,[],()):Gate))).2.2.1.length - y.1.2.1.toNat) ?_
   conv=>whnf
   refine And.intro ?_ ?_
   · exact ⟨0,CosJ.start hrx⟩
   rintro ⟨⟨(x:Int),(idx:Int),⟨⟩⟩,⟨⟩⟩ ⟨j,hJ⟩
   have hJ:CosJ all ((List.getD gs k ((0,0,[],()):Gate))).2.2.1 ((List.getD gs k ((0,0,[],()):Gate))).1 (-1:Int) idx x j:=hJ
   have hi9:=hJ.ix
   subst hi9
   have hle9:=hJ.le
   have hkj:=hkid j
   have hx9:=hJ.rg
   have hy9:=hA.qs (((List.getD gs k ((0,0,[],()):Gate))).2.2.1.getD j 0).toNat
   have hx1:=hx9.1
   have hx2:=hx9.2
   have hy1: -1≤List.getD (all:List Int) (((List.getD gs k ((0,0,[],()):Gate))).2.2.1.getD j 0).toNat 0:=hy9.1
   have hy2:List.getD (all:List Int) (((List.getD gs k ((0,0,[],()):Gate))).2.2.1.getD j 0).toNat 0≤1000000000:=hy9.2
   have hs1: -9223372036854775808≤x+List.getD (all:List Int) (((List.getD gs k ((0,0,[],()):Gate))).2.2.1.getD j 0).toNat 0:=Int.le_trans (by decide) (Int.add_le_add hx1 hy1)
   have hs2:x+List.getD (all:List Int) (((List.getD gs k ((0,0,[],()):Gate))).2.2.1.getD j 0).toNat 0≤9223372036854775807:=Int.le_trans (Int.add_le_add hx2 hy2) (by decide)
   have hin:=fun (h:(j:Int)<(((List.getD gs k ((0,0,[],()):Gate))).2.2.1.length:Int))=>kids_in hV hk9 h
   have hon:=fun (h:(j:Int)<(((List.getD gs k ((0,0,[],()):Gate))).2.2.1.length:Int)) (x':Int) (e:x'=opC ((List.getD gs k ((0,0,[],()):Gate))).1 x (List.getD (all:List Int) (((List.getD gs k ((0,0,[],()):Gate))).2.2.1.getD j 0).toNat 0))=>show ∃ j':Nat,CosJ all ((List.getD gs k ((0,0,[],()):Gate))).2.2.1 ((List.getD gs k ((0,0,[],()):Gate))).1 (-1:Int) ((j:Int)+1) x' j' from ⟨j+1,hJ.step h hA.qs e⟩
   have hfin:=fun (h:¬ (j:Int)<(((List.getD gs k ((0,0,[],()):Gate))).2.2.1.length:Int))=>show ∃ k':Nat,(k:Int)+1=(k':Int)∧AllV (srC cs).ge rgC gs n k' (List.set all k x) from ⟨k+1,rfl,hA.step hkn ((hJ.fin h).trans ((congrArg (fun z=>((List.getD gs k ((0,0,[],()):Gate))).2.2.1.foldl (fun x c=>opC ((List.getD gs k ((0,0,[],()):Gate))).1 x (List.getD (all:List Int) c.toNat 0)) z) he0).trans (cost_val hV hk9 (hA.kids hV hk9) hA.qs))) hx9⟩
   repeat' (first|refine an ?_ ?_|((try refine gm ?_);first|((with_reducible show Kz _);(try dsimp+instances only);(with_reducible refine kz _ ?_);clear kz Kz)|refine st ?_|(refine sr ?_;intro Kz kz;conv=>whnf)|(refine cd ?_;(conv=>arg 2;whnf);refine st ?_)|refine blockK_y (by rfl) ?_|(refine sw ?_;conv=>whnf))|(refine gm ?_;conv=>whnf)|(intro hc;(try dsimp+instances only[Dat,SDat,dflt,Ty.size,keepS,bkUpd,Gv.bk,backS,wayA,maxI,minI,negI]at hc);try simp only[LS]at hc))
   all_goals (try ((fail_if_success refine nl ?_);(try dsimp only[Dat,SDat,dflt,Ty.size,keepS,bkUpd,Gv.bk,backS,wayA,maxI,minI,negI]);(try simp only[LS]);first|done|exact dsc|((try simp only[allP,lo,hi,room,true_and,and_true,implies_true]);(repeat' (first|refine an ?_ ?_|((with_reducible refine preA_t ?_ ?_);rotate_left;exact sameP_t)|intro hv))<;>(try omega))))
   all_goals (try ((fail_if_success refine nl ?_);(first|with_reducible exact hs1|with_reducible exact hs2|exact hfin (by assumption))))
   all_goals (try ((fail_if_success refine nl ?_);(first|exact hon (by assumption) _ (opcA hx9 hy9 (by assumption))|exact hon (by assumption) _ (opcB hx9 hy9 (by assumption))|exact hon (by assumption) _ (opcD hx9 hy9 (by assumption) (by assumption))|exact hon (by assumption) _ (opcE (hin (by assumption)) hx9 hy9 (by assumption) (by assumption)))))
 all_goals (try have hen:List.getD (all:List Int) n 0=(vlE (srC cs).ge gs n).1:=hA.vs n (by omega))
 all_goals (try ((fail_if_success refine nl ?_);(first|exact (congrArg Prod.fst (costV_neg (h:=cs) hg (by show rgC (vlE (srC cs).ge gs n).1;rw [← hen];exact hA.qs n) (by show (vlE (srC cs).ge gs n).1<0;rw [← hen];exact hc))).symm|exact (congrArg Prod.snd (costV_neg (h:=cs) hg (by show rgC (vlE (srC cs).ge gs n).1;rw [← hen];exact hA.qs n) (by show (vlE (srC cs).ge gs n).1<0;rw [← hen];exact hc))).symm|exact hen.trans (congrArg Prod.fst (costV_pos (h:=cs) hg (by show ¬ (vlE (srC cs).ge gs n).1<0;rw [← hen];exact hc))).symm|exact (congrArg Prod.snd (costV_pos (h:=cs) hg (by show ¬ (vlE (srC cs).ge gs n).1<0;rw [← hen];exact hc))).symm)))
theorem ok_z95:SpecOK SP glob fi_z95 S_z95:=mk_ok (c:=c_z95) (tab_ok _) mix_ok wf_z95 (by decide) (.cons ok_z106 .nil) (fun x hx=>Nat.zero_lt_one) g_z95
end Go.Gv
