/- Chapter 16: the reference: Count and Poly. -/
import Derived.Test.YtibnojoffhlekaaGreatDoorR16c
set_option linter.all false
namespace Go.Gv
open Go Go.Proofs Go.Proofs.YtibnojoffhlekaaGreatDoor
set_option maxRecDepth 100000
set_option maxHeartbeats 4000000
section
variable {T:Type}
structure EvF (S:GE T) (Q:T→Prop) (gs:List Gate) (n k:Nat) (all:List T):Prop where
 le:k≤n+1
 ln:all.length=n+1
 run:runR S gs (n:Int)=runE S gs (reachF gs n k) all
 qs:∀ m,Q (all.getD m S.z)
theorem EvF.start {S:GE T} {Q:T→Prop} {gs:List Gate} {n:Nat} (hz:Q S.z):EvF S Q gs n 0 (List.replicate (n+1) S.z):=by
 refine ⟨Nat.zero_le _,List.length_replicate,?_,fun m=>?_⟩
 · rw [← reachF_zero];rfl
 · rw [List.getD_eq_getElem?_getD,List.getElem?_replicate]
   split<;>exact hz
theorem EvF.step {S:GE T} {Q:T→Prop} {gs:List Gate} {n k:Nat} {all:List T} (h:EvF S Q gs n k all) (hk:k≤n) (hr:Rch gs n k) {v:T} (e:S.G all ((List.getD gs k ((0,0,[],()):Gate)))=(v,0)) (q:Q v):EvF S Q gs n (k+1) (all.set k v):=by
 have hl:=h.ln
 have h1:=h.run
 rw [reachF_hit hk hr] at h1
 have h2:=run_next h1 (by rw [e])
 rw [e] at h2
 exact ⟨by omega,by rw [List.length_set];exact hl,h2,set_q (by omega) h.qs q⟩
theorem EvF.skip {S:GE T} {Q:T→Prop} {gs:List Gate} {n k:Nat} {all:List T} (h:EvF S Q gs n k all) (hk:k≤n) (hr:¬ Rch gs n k):EvF S Q gs n (k+1) all:=⟨by omega,h.ln,by rw [h.run,reachF_miss hk hr],h.qs⟩
theorem EvF.stop {S:GE T} {Q:T→Prop} {gs:List Gate} {n k:Nat} {all:List T} (h:EvF S Q gs n k all) (hg:GoodI gs (n:Int)) (hk:k≤n) (hr:Rch gs n k) (e:¬ (S.G all ((List.getD gs k ((0,0,[],()):Gate)))).2=0):evC S gs (n:Int)=(S.z,(S.G all ((List.getD gs k ((0,0,[],()):Gate)))).2):=by
 have h1:=h.run
 rw [reachF_hit hk hr] at h1
 exact ev_stop hg h1 e
theorem EvF.fin {S:GE T} {Q:T→Prop} {gs:List Gate} {n k:Nat} {all:List T} (h:EvF S Q gs n k all) (hg:GoodI gs (n:Int)) (hk:¬ (k:Int)≤(n:Int)):evC S gs (n:Int)=(all.getD n S.z,0):=by
 have h1:=h.run
 rw [reachF_end (by omega)] at h1
 exact ev_end hg h1
end
theorem reachB_at {gs:List Gate} {i:Int} {k:Nat} (hk:k<gs.length):(reachB gs i).getD k false=true↔Rch gs i.toNat k:=by
 have hl:k<(reachB gs i).length:=by unfold reachB;rw [List.length_map,List.length_range];exact hk
 rw [getD_ok false hl]
 simp [reachB,boolOf_true]
theorem reachB_len (gs:List Gate) (i:Int):(reachB gs i).length=gs.length:=by unfold reachB;rw [List.length_map,List.length_range]
def opN (gk x y:Int):Int:=if gk=3 then x+y else x * y
def initN (vs:List Int) (k v:Int):Int:=if k=2∧v<(vs.length:Int) then vs.getD v.toNat 0 else if k=1∨k=4 then 1 else 0
structure ZerJ (all l:List Int) (gk x0 idx x:Int) (j:Nat):Prop where
 ix:idx=(j:Int)
 le:j≤l.length
 eq:x=if gk=4∧0∈(l.take j).map (atL 0 all) then 0 else x0
theorem ZerJ.start {all l:List Int} {gk x0:Int}:ZerJ all l gk x0 0 x0 0:=⟨rfl,Nat.zero_le _,(if_neg fun h=>by have:=h.2;simp at this).symm⟩
theorem ZerJ.fin {all l:List Int} {gk x0 x:Int} {j:Nat} (h:ZerJ all l gk x0 (j:Int) x j) (hj:¬ (j:Int)<(l.length:Int)):x=if gk=4∧0∈l.map (atL 0 all) then 0 else x0:=by
 have:=h.eq
 rw [take_all hj] at this
 exact this
structure NumJ (all l:List Int) (gk x1 idx x:Int) (j:Nat):Prop where
 ix:idx=(j:Int)
 le:j≤l.length
 eq:x=((l.take j).map (atL 0 all)).foldl (opN gk) x1
 nn:0≤x
theorem NumJ.start {all l:List Int} {gk x1:Int} (h:0≤x1):NumJ all l gk x1 0 x1 0:=⟨rfl,Nat.zero_le _,rfl,h⟩
theorem NumJ.step {all l:List Int} {gk x1 x:Int} {j:Nat} (h:NumJ all l gk x1 (j:Int) x j) (hj:(j:Int)<(l.length:Int)) (hq:0≤all.getD (l.getD j 0).toNat 0) {x':Int} (e:x'=opN gk x (all.getD (l.getD j 0).toNat 0)):NumJ all l gk x1 ((j:Int)+1) x' (j+1):=⟨rfl,Int.ofNat_lt.1 hj,by rw [take_snoc (Int.ofNat_lt.1 hj),List.foldl_append,← h.eq,e];rfl,by
 rw [e]
 unfold opN
 have:=h.nn
 split
 · omega
 · exact Int.mul_nonneg this hq⟩
def okN (gs:List Gate) (i:Int) (vs:List Int) (v:Nat):Prop:=GoodI gs i∧∀ x∈vs.take v,0≤x
end Go.Gv
