/- Chapter 16: the reference: Holds and Cost. -/
import Derived.Test.YtibnojoffhlekaaGreatDoorR16b
import Derived.Test.YtibnojoffhlekaaGreatDoorC16f
set_option linter.all false
namespace Go.Gv
open Go Go.Proofs Go.Proofs.YtibnojoffhlekaaGreatDoor
set_option maxRecDepth 100000
set_option maxHeartbeats 4000000
section
variable {T:Type}
structure AllV (S:GE T) (Q:T→Prop) (gs:List Gate) (n k:Nat) (all:List T):Prop where
 le:k≤n+1
 ln:all.length=n+1
 vs:∀ m,m<k→all.getD m S.z=(vlE S gs m).1
 qs:∀ m,Q (all.getD m S.z)
theorem AllV.start {S:GE T} {Q:T→Prop} {gs:List Gate} {n:Nat} (hz:Q S.z):AllV S Q gs n 0 (List.replicate (n+1) S.z):=by
 refine ⟨Nat.zero_le _,List.length_replicate,fun m h=>absurd h (Nat.not_lt_zero m),fun m=>?_⟩
 rw [List.getD_eq_getElem?_getD,List.getElem?_replicate]
 split<;>exact hz
theorem AllV.step {S:GE T} {Q:T→Prop} {gs:List Gate} {n k:Nat} {all:List T} (h:AllV S Q gs n k all) (hk:k≤n) {v:T} (hv:v=(vlE S gs k).1) (q:Q v):AllV S Q gs n (k+1) (all.set k v):=by
 have hl:=h.ln
 refine ⟨by omega,by rw [List.length_set];exact hl,fun m hm=>?_,set_q (by omega) h.qs q⟩
 rw [getD_set (by omega)]
 by_cases e:k=m
 · rw [if_pos e,hv,e]
 · rw [if_neg e];exact h.vs m (by omega)
theorem AllV.kids {S:GE T} {Q:T→Prop} {gs:List Gate} {n k:Nat} {all:List T} (h:AllV S Q gs n k all) (hV:ValidC gs) (hk:k<gs.length):∀ j∈((List.getD gs k ((0,0,[],()):Gate))).2.2.1,all.getD j.toNat S.z=(vlE S gs j.toNat).1:=fun j hj=>by
 have:=kid_in hV hk hj
 exact h.vs _ (by omega)
end
theorem kids_nil {gs:List Gate} (hV:ValidC gs) {k:Nat} (hk:k<gs.length) (hi:¬ inner ((List.getD gs k ((0,0,[],()):Gate))).1):((List.getD gs k ((0,0,[],()):Gate))).2.2.1=[]:=by
 have:=(hV.2 k hk).1.2
 rcases this with h|h|h
 · exact h.2.1
 · exact h.2.1
 · exact absurd h.1 hi
theorem kids_in {gs:List Gate} (hV:ValidC gs) {k j:Nat} (hk:k<gs.length) (hj:(j:Int)<(((List.getD gs k ((0,0,[],()):Gate))).2.2.1.length:Int)):inner ((List.getD gs k ((0,0,[],()):Gate))).1:=Classical.byContradiction fun h=>by
 rw [kids_nil hV hk h] at hj
 simp at hj
 omega
def cntB (all:List Bool) (l:List Int):Int:=((l.filter fun c=>all.getD c.toNat false).length:Int)
theorem holdsV_good {gs:List Gate} {i:Int} {h:List Bool} (hg:GoodI gs i):holdsV gs i h=(vlE (srB h).ge gs i.toNat).1:=by
 unfold holdsV
 rw [show evC (srB h).ge gs i=_ from evC_tot hg]
 rfl
def opC (gk x y:Int):Int:=if gk=4 then timesC x y else plusC x y
theorem opC_rg {gk x y:Int} (hx:rgC x) (hy:rgC y):rgC (opC gk x y):=by
 unfold opC
 split
 · exact timesC_rg hx hy
 · exact plusC_rg hx hy
def initC (cs:List Int) (k v:Int):Int:=if k=1∨k=4 then 0 else if (k=2∧v<(cs.length:Int))∧0≤cs.getD v.toNat 0 then min (cs.getD v.toNat 0) 1000000000 else -1
structure CosJ (all l:List Int) (gk x0:Int) (idx x:Int) (j:Nat):Prop where
 ix:idx=(j:Int)
 le:j≤l.length
 eq:x=(l.take j).foldl (fun x c=>opC gk x (all.getD c.toNat 0)) x0
 rg:rgC x
theorem CosJ.start {all l:List Int} {gk x0:Int} (h:rgC x0):CosJ all l gk x0 0 x0 0:=⟨rfl,Nat.zero_le _,rfl,h⟩
theorem CosJ.step {all l:List Int} {gk x0 x:Int} {j:Nat} (h:CosJ all l gk x0 (j:Int) x j) (hj:(j:Int)<(l.length:Int)) (hq:∀ m,rgC (all.getD m 0)) {x':Int} (e:x'=opC gk x (all.getD (l.getD j 0).toNat 0)):CosJ all l gk x0 ((j:Int)+1) x' (j+1):=by
 have hj':j<l.length:=Int.ofNat_lt.1 hj
 refine ⟨rfl,hj',?_,by rw [e];exact opC_rg h.rg (hq _)⟩
 rw [List.take_succ_eq_append_getElem hj',List.foldl_append,← h.eq,e,getD_ok 0 hj']
 rfl
theorem CosJ.fin {all l:List Int} {gk x0 x:Int} {j:Nat} (h:CosJ all l gk x0 (j:Int) x j) (hj:¬ (j:Int)<(l.length:Int)):x=l.foldl (fun x c=>opC gk x (all.getD c.toNat 0)) x0:=by
 have:=h.eq
 rw [take_all hj] at this
 exact this
theorem costV_pos {gs:List Gate} {i:Int} {h:List Int} (hg:GoodI gs i) (hc:¬ (vlE (srC h).ge gs i.toNat).1<0):costV gs i h=((vlE (srC h).ge gs i.toNat).1,true):=by
 have e:evC (srC h).ge gs i=((vlE (srC h).ge gs i.toNat).1,0):=evC_tot hg
 rw [costV_yes (by rw [e];exact not_or.2 ⟨fun h=>h rfl,show ¬ (vlE (srC h).ge gs i.toNat).1= -1 by omega⟩),e]
section
variable {gk x y:Int}
end
end Go.Gv
