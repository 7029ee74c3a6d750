/- The plain law of circuits: the same gates under other numbers have the same values. -/
import Derived.Test.YtoangeemlcbjlaaGreatDoorP16f
set_option linter.all false
namespace Go.Gv
open Go Go.Proofs Go.Proofs.YtoangeemlcbjlaaGreatDoor
set_option maxRecDepth 100000
set_option maxHeartbeats 4000000
variable {T:Type}
structure Iso (gs ds:List Gate) (r:Nat) (f:Nat→Nat):Prop where
 v:ValidC gs
 hr:r<gs.length
 mono:∀ a∈reachT gs r,∀ b∈reachT gs r,a<b→f a<f b
 at':∀ k∈reachT gs r,(ds.getD (f k) ((0,0,[],()):Gate)).1=((List.getD gs k ((0,0,[],()):Gate))).1∧(ds.getD (f k) ((0,0,[],()):Gate)).2.1=((List.getD gs k ((0,0,[],()):Gate))).2.1∧(ds.getD (f k) ((0,0,[],()):Gate)).2.2.1=((List.getD gs k ((0,0,[],()):Gate))).2.2.1.map fun j=>((f j.toNat:Nat):Int)
theorem Iso.vl {gs ds:List Gate} {r:Nat} {f:Nat→Nat} (h:Iso gs ds r f) (S:GE T):∀ n k,k<n→k∈reachT gs r→vlE S ds (f k)=vlE S gs k
 |0,_,hn,_=>by omega
 |n+1,k,hn,hk=>by
  have hr:=h.hr
  have hkl:k<gs.length:=by have:=(reachT_mem.1 hk).1;omega
  obtain ⟨e1,e2,e3⟩:=h.at' k hk
  refine S.mp (valsE S gs k) (valsE S ds (f k)) ((List.getD gs k ((0,0,[],()):Gate))) (ds.getD (f k) ((0,0,[],()):Gate)) e1 e2 ?_
  rw [e3,List.map_map]
  refine List.map_congr_left fun j hj=>?_
  obtain ⟨q1,q2,_⟩:=reachT_kid h.v hr hk hj
  show atL S.z (valsE S ds (f k)) ((f j.toNat:Nat):Int)=atL S.z (valsE S gs k) j
  unfold atL
  rw [valsE_get S gs k _ q2,Int.toNat_natCast,valsE_get S ds _ _ (h.mono _ q1 _ hk q2),Iso.vl h S n _ (by omega) q1]
theorem sorted_ext:∀ {l m:List Nat},l.Pairwise (·<·)→m.Pairwise (·<·)→(∀ e,e∈l↔e∈m)→l=m
 |[],[],_,_,_=>rfl
 |[],y::m,_,_,h=>absurd ((h y).2 List.mem_cons_self) (by simp)
 |x::l,[],_,_,h=>absurd ((h x).1 List.mem_cons_self) (by simp)
 |x::l,y::m,hl,hm,h=>by
  obtain ⟨a1,a2⟩:=List.pairwise_cons.1 hl
  obtain ⟨b1,b2⟩:=List.pairwise_cons.1 hm
  have e:x=y:=by
   rcases List.mem_cons.1 ((h x).1 List.mem_cons_self) with e|e
   · exact e
   · rcases List.mem_cons.1 ((h y).2 List.mem_cons_self) with e'|e'
     · exact e'.symm
     · have:=b1 x e;have:=a1 y e';omega
  subst e
  rw [sorted_ext a2 b2 fun z=>?_]
  constructor
  · intro hz
    rcases List.mem_cons.1 ((h z).1 (List.mem_cons_of_mem _ hz)) with e|e
    · subst e;exact absurd (a1 z hz) (Nat.lt_irrefl _)
    · exact e
  · intro hz
    rcases List.mem_cons.1 ((h z).2 (List.mem_cons_of_mem _ hz)) with e|e
    · subst e;exact absurd (b1 z hz) (Nat.lt_irrefl _)
    · exact e
theorem Iso.le {gs ds:List Gate} {r:Nat} {f:Nat→Nat} (h:Iso gs ds r f) {k:Nat} (hk:k∈reachT gs r):f k≤f r:=by
 rcases Nat.lt_or_eq_of_le (reachT_mem.1 hk).1 with q|q
 · exact Nat.le_of_lt (h.mono _ hk _ (reachT_self _ _) q)
 · rw [q];exact Nat.le_refl _
theorem Iso.reach {gs ds:List Gate} {r:Nat} {f:Nat→Nat} (h:Iso gs ds r f):reachT ds (f r)=(reachT gs r).map f:=by
 have hr:=h.hr
 have key:∀ m,Rch ds (f r) m↔∃ k∈reachT gs r,f k=m:=fun m=>by
  constructor
  · intro hm
    induction hm with
    |base=>exact ⟨r,reachT_self _ _,rfl⟩
    |kid _ hj ih=>
     obtain ⟨k,hk,rfl⟩:=ih
     rw [(h.at' k hk).2.2] at hj
     obtain ⟨i,hi,rfl⟩:=List.mem_map.1 hj
     exact ⟨i.toNat,(reachT_kid h.v hr hk hi).1,by rw [Int.toNat_natCast]⟩
  · rintro ⟨k,hk,rfl⟩
    have hk2:=(reachT_mem.1 hk).2
    clear hk
    induction hk2 with
    |base=>exact .base
    |kid hq hj ih=>
     rename_i k j
     have hk:k∈reachT gs r:=reachT_mem.2 ⟨hq.le h.v hr,hq⟩
     have hm:((f j.toNat:Nat):Int)∈(ds.getD (f k) ((0,0,[],()):Gate)).2.2.1:=by
      rw [(h.at' k hk).2.2]
      exact List.mem_map.2 ⟨j,hj,rfl⟩
     have:=Rch.kid ih hm
     rwa [Int.toNat_natCast] at this
 refine sorted_ext (reachT_sorted _ _) ?_ fun m=>?_
 · rw [List.pairwise_map]
   exact (reachT_sorted gs r).imp_of_mem fun {a b} ha hb hab=>h.mono a ha b hb hab
 · rw [reachT_mem,key,List.mem_map]
   exact ⟨fun q=>q.2,fun q=>⟨by obtain ⟨k,hk,rfl⟩:=q;exact h.le hk,q⟩⟩
theorem Iso.err {gs ds:List Gate} {r:Nat} {f:Nat→Nat} (h:Iso gs ds r f) (S:GE T):errL S ds (f r)=errL S gs r:=by
 unfold errL
 rw [h.reach,List.map_map]
 congr 1
 exact List.map_congr_left fun k hk=>by
  show (vlE S ds (f k)).2=(vlE S gs k).2
  rw [h.vl S (k+1) k (Nat.lt_succ_self k) hk]
theorem Iso.ev {gs ds:List Gate} {r:Nat} {f:Nat→Nat} (h:Iso gs ds r f) (S:GE T) (hd:ValidC ds) (hf:f r<ds.length):evC S ds ((f r:Nat):Int)=evC S gs (r:Int):=by
 have hr:=h.hr
 rw [evC_good ⟨by omega,by omega,hd⟩,evC_good ⟨by omega,by omega,h.v⟩,Int.toNat_natCast,Int.toNat_natCast,h.err S,h.vl S (r+1) r (Nat.lt_succ_self r) (reachT_self _ _)]
end Go.Gv
