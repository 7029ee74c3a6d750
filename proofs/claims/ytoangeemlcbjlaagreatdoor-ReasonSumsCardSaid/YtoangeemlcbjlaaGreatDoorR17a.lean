/- Chapter 17: the reference's Holds; chapter 16: the reference: Holds and Cost. -/
import Derived.Test.YtoangeemlcbjlaaGreatDoorR16b
import Derived.Test.YtoangeemlcbjlaaGreatDoorC17a
set_option linter.all false
namespace Go.Gv
open Go Go.Proofs Go.Proofs.YtoangeemlcbjlaaGreatDoor
set_option maxRecDepth 100000
set_option maxHeartbeats 4000000
section
variable {T:Type}
structure AllV (S:GE T) (Q:T→Prop) (gs:List Gate) (n k:Nat) (all:List T):Prop where
 le:k≤n+1
 ln:all.length=n+1
 vs:∀ m,m<k→all.getD m S.z=(vlE S gs m).1
 qs:∀ m,Q (all.getD m S.z)
theorem AllV.start {S:GE T} {Q:T→Prop} {gs:List Gate} {n:Nat} (hz:Q S.z):AllV S Q gs n 0 (List.replicate (n+1) S.z):=by
 refine ⟨Nat.zero_le _,List.length_replicate,fun m h=>absurd h (Nat.not_lt_zero m),fun m=>?_⟩
 rw [List.getD_eq_getElem?_getD,List.getElem?_replicate]
 split<;>exact hz
theorem AllV.step {S:GE T} {Q:T→Prop} {gs:List Gate} {n k:Nat} {all:List T} (h:AllV S Q gs n k all) (hk:k≤n) {v:T} (hv:v=(vlE S gs k).1) (q:Q v):AllV S Q gs n (k+1) (all.set k v):=by
 have hl:=h.ln
 refine ⟨by omega,by rw [List.length_set];exact hl,fun m hm=>?_,set_q (by omega) h.qs q⟩
 rw [getD_set (by omega)]
 by_cases e:k=m
 · rw [if_pos e,hv,e]
 · rw [if_neg e];exact h.vs m (by omega)
theorem AllV.kids {S:GE T} {Q:T→Prop} {gs:List Gate} {n k:Nat} {all:List T} (h:AllV S Q gs n k all) (hV:ValidC gs) (hk:k<gs.length):∀ j∈((List.getD gs k ((0,0,[],()):Gate))).2.2.1,all.getD j.toNat S.z=(vlE S gs j.toNat).1:=fun j hj=>by
 have:=kid_in hV hk hj
 exact h.vs _ (by omega)
end
def cntB (all:List Bool) (l:List Int):Int:=((l.filter fun c=>all.getD c.toNat false).length:Int)
theorem holdsV_bad {gs:List Gate} {i:Int} {h:List Bool} (hg:¬ GoodI gs i):holdsV gs i h=false:=by
 unfold holdsV
 rw [evC_bad hg]
 rfl
theorem holdsV_good {gs:List Gate} {i:Int} {h:List Bool} (hg:GoodI gs i):holdsV gs i h=(vlE (srB h).ge gs i.toNat).1:=by
 unfold holdsV
 rw [show evC (srB h).ge gs i=_ from evC_tot hg]
 rfl
end Go.Gv
