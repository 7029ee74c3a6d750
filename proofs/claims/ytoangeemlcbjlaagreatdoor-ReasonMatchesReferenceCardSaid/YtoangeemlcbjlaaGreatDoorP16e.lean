/- The plain law of circuits: gates are evaluated in order; what is reached. -/
import Derived.Test.YtoangeemlcbjlaaGreatDoorC16
set_option linter.all false
namespace Go.Gv
open Go Go.Proofs Go.Proofs.YtoangeemlcbjlaaGreatDoor
set_option maxRecDepth 100000
set_option maxHeartbeats 4000000
theorem kid_in {gs:List Gate} (h:ValidC gs) {k:Nat} (hk:k<gs.length) {j:Int} (hj:j∈((List.getD gs k ((0,0,[],()):Gate))).2.2.1):0≤j∧j<k:=(h.2 k hk).1.1 j hj
theorem leaf_kind {gs:List Gate} (hV:ValidC gs) {k:Nat} (hk:k<gs.length) (hi:¬ inner ((List.getD gs k ((0,0,[],()):Gate))).1):((List.getD gs k ((0,0,[],()):Gate))).1=0∨((List.getD gs k ((0,0,[],()):Gate))).1=1∨(((List.getD gs k ((0,0,[],()):Gate))).1=2∧0≤((List.getD gs k ((0,0,[],()):Gate))).2.1∧((List.getD gs k ((0,0,[],()):Gate))).2.1<4000):=by
 have:=(hV.2 k hk).1.2
 rcases this with h|h|h
 · exact .inr (.inr ⟨h.1,h.2.2.1,h.2.2.2⟩)
 · rcases h.1 with h|h
   · exact .inl h
   · exact .inr (.inl h)
 · exact absurd h.1 hi
inductive Rch (gs:List Gate) (i:Nat):Nat→Prop
 |base:Rch gs i i
 |kid {k:Nat} {j:Int} (h:Rch gs i k) (hj:j∈((List.getD gs k ((0,0,[],()):Gate))).2.2.1):Rch gs i j.toNat
theorem Rch.le {gs:List Gate} {i:Nat} (h:ValidC gs) (hi:i<gs.length) {k:Nat} (hk:Rch gs i k):k≤i:=by
 induction hk with
 |base=>exact Nat.le_refl _
 |kid _ hj ih=>have:=kid_in h (by omega) hj;omega
noncomputable def reachT (gs:List Gate) (i:Nat):List Nat:=(List.range (i+1)).filter fun k=>boolOf (Rch gs i k)
theorem reachT_mem {gs:List Gate} {i k:Nat}:k∈reachT gs i↔k≤i∧Rch gs i k:=by
 unfold reachT
 rw [List.mem_filter,List.mem_range,boolOf_true,Nat.lt_succ_iff]
theorem reachT_self (gs:List Gate) (i:Nat):i∈reachT gs i:=reachT_mem.2 ⟨Nat.le_refl _, .base⟩
theorem reachT_sorted (gs:List Gate) (i:Nat):(reachT gs i).Pairwise (·<·):=List.Pairwise.filter _ List.pairwise_lt_range
theorem reachT_kid {gs:List Gate} {i k:Nat} {j:Int} (h:ValidC gs) (hi:i<gs.length) (hk:k∈reachT gs i) (hj:j∈((List.getD gs k ((0,0,[],()):Gate))).2.2.1):j.toNat∈reachT gs i∧j.toNat<k∧0≤j:=by
 have hk:=reachT_mem.1 hk
 have:=kid_in h (by omega) hj
 exact ⟨reachT_mem.2 ⟨by omega, .kid hk.2 hj⟩,by omega,this.1⟩
def atL {T:Type} (z:T) (all:List T) (j:Int):T:=all.getD j.toNat z
structure GE (T:Type) where
 z:T
 G:List T→Gate→T × Int
 mp:∀ all all' g g',g'.1=g.1→g'.2.1=g.2.1→g'.2.2.1.map (atL z all')=g.2.2.1.map (atL z all)→G all' g'=G all g
variable {T:Type}
theorem GE.loc (S:GE T) (all all':List T) (g:Gate) (h:∀ j∈g.2.2.1,atL S.z all j=atL S.z all' j):S.G all g=S.G all' g:=S.mp _ _ _ _ rfl rfl (List.map_congr_left h)
noncomputable def runE (S:GE T) (gs:List Gate):List Nat→List T→List T × Int
 |[],all=>(all,0)
 |k::r,all=>if (S.G all ((List.getD gs k ((0,0,[],()):Gate)))).2=0 then runE S gs r (all.set k (S.G all ((List.getD gs k ((0,0,[],()):Gate)))).1) else (all,(S.G all ((List.getD gs k ((0,0,[],()):Gate)))).2)
theorem runE_go {S:GE T} {gs:List Gate} {k:Nat} {r:List Nat} {all:List T} (h:(S.G all ((List.getD gs k ((0,0,[],()):Gate)))).2=0):runE S gs (k::r) all=runE S gs r (all.set k (S.G all ((List.getD gs k ((0,0,[],()):Gate)))).1):=by unfold runE;rw [if_pos h];cases r<;>rfl
theorem runE_stop {S:GE T} {gs:List Gate} {k:Nat} {r:List Nat} {all:List T} (h:¬ (S.G all ((List.getD gs k ((0,0,[],()):Gate)))).2=0):runE S gs (k::r) all=(all,(S.G all ((List.getD gs k ((0,0,[],()):Gate)))).2):=by unfold runE;rw [if_neg h]
structure GoodI (gs:List Gate) (i:Int):Prop where
 lo:0≤i
 hi:i<gs.length
 v:ValidC gs
noncomputable instance (gs:List Gate) (i:Int):Decidable (GoodI gs i):=Classical.propDecidable _
noncomputable def runR (S:GE T) (gs:List Gate) (i:Int):List T × Int:=runE S gs (reachT gs i.toNat) (List.replicate (i.toNat+1) S.z)
noncomputable def evC (S:GE T) (gs:List Gate) (i:Int):T × Int:=if GoodI gs i then (if (runR S gs i).2=0 then ((runR S gs i).1.getD i.toNat S.z,0) else (S.z,(runR S gs i).2)) else (S.z,1)
noncomputable def valsE (S:GE T) (gs:List Gate):Nat→List T
 |0=>[]
 |n+1=>valsE S gs n++[(S.G (valsE S gs n) (gs.getD n ((0,0,[],()):Gate))).1]
noncomputable def vlE (S:GE T) (gs:List Gate) (k:Nat):T × Int:=S.G (valsE S gs k) ((List.getD gs k ((0,0,[],()):Gate)))
theorem valsE_len (S:GE T) (gs:List Gate):∀ n,(valsE S gs n).length=n
 |0=>rfl
 |n+1=>by unfold valsE;rw [List.length_append,valsE_len S gs n];rfl
theorem valsE_get (S:GE T) (gs:List Gate):∀ n k,k<n→(valsE S gs n).getD k S.z=(vlE S gs k).1
 |0,k,h=>by omega
 |n+1,k,h=>by
  unfold valsE
  by_cases e:k<n
  · rw [List.getD_eq_getElem?_getD,List.getElem?_append_left (by rw [valsE_len];exact e),← List.getD_eq_getElem?_getD]
    exact valsE_get S gs n k e
  · have:k=n:=by omega
    subst this
    rw [List.getD_eq_getElem?_getD,List.getElem?_append_right (by rw [valsE_len];omega),valsE_len]
    simp [vlE]
def firstE:List Int→Int
 |[]=>0
 |e::r=>if e=0 then firstE r else e
theorem firstE_zero:∀ {l:List Int},firstE l=0↔∀ e∈l,e=0
 |[]=>by simp [firstE]
 |e::r=>by
  unfold firstE
  by_cases h:e=0
  · rw [if_pos h,firstE_zero];simp [h]
  · rw [if_neg h];simp [h]
theorem gate_eq {S:GE T} {gs:List Gate} {all:List T} {k:Nat} (hV:ValidC gs) (hk:k<gs.length) (h:∀ j∈((List.getD gs k ((0,0,[],()):Gate))).2.2.1,all.getD j.toNat S.z=(vlE S gs j.toNat).1):S.G all ((List.getD gs k ((0,0,[],()):Gate)))=vlE S gs k:=
 S.loc _ _ _ fun j hj=>by
  have:=kid_in hV hk hj
  unfold atL
  rw [h j hj,valsE_get S gs k _ (by omega)]
theorem getD_set {l:List T} {k m:Nat} {v d:T} (hk:k<l.length):(l.set k v).getD m d=if k=m then v else l.getD m d:=by
 rw [List.getD_eq_getElem?_getD,List.getElem?_set]
 by_cases h:k=m
 · rw [if_pos h,if_pos h];subst h;simp [hk]
 · rw [if_neg h,if_neg h,List.getD_eq_getElem?_getD]
theorem run_spec {S:GE T} {gs:List Gate} {i:Nat} (hV:ValidC gs) (hi:i<gs.length):∀ (rest done:List Nat) (all:List T),reachT gs i=done++rest→all.length=i+1→(∀ k∈done,all.getD k S.z=(vlE S gs k).1)→
    (runE S gs rest all).2=firstE (rest.map fun k=>(vlE S gs k).2)∧(firstE (rest.map fun k=>(vlE S gs k).2)=0→∀ k∈reachT gs i,(runE S gs rest all).1.getD k S.z=(vlE S gs k).1)
 |[],done,all,hr,hl,hd=>⟨rfl,fun _ k hk=>by rw [hr,List.append_nil] at hk;exact hd k hk⟩
 |k::rest,done,all,hr,hl,hd=>by
  have hkm:k∈reachT gs i:=by rw [hr];simp
  have hki:k≤i:=(reachT_mem.1 hkm).1
  have hs:=reachT_sorted gs i
  have hin:∀ j∈((List.getD gs k ((0,0,[],()):Gate))).2.2.1,j.toNat∈done:=fun j hj=>by
   obtain ⟨h1,h2,_⟩:=reachT_kid hV hi hkm hj
   rw [hr] at h1 hs
   rcases List.mem_append.1 h1 with h|h
   · exact h
   · have h3:=(List.pairwise_append.1 hs).2.1
     rcases List.mem_cons.1 h with h|h
     · omega
     · have:=(List.pairwise_cons.1 h3).1 _ h;omega
  have hg:S.G all ((List.getD gs k ((0,0,[],()):Gate)))=vlE S gs k:=gate_eq hV (by omega) fun j hj=>hd _ (hin j hj)
  rw [List.map_cons]
  by_cases he:(vlE S gs k).2=0
  · rw [runE_go (by rw [hg];exact he),hg]
    have ih:=run_spec hV hi rest (done++[k]) (all.set k (vlE S gs k).1) (by rw [hr];simp) (by rw [List.length_set];exact hl) fun m hm=>by
     rw [getD_set (by omega)]
     rcases List.mem_append.1 hm with hm|hm
     · have:m<k:=by
        rw [hr] at hs
        exact (List.pairwise_append.1 hs).2.2 m hm k List.mem_cons_self
       rw [if_neg (by omega)]
       exact hd m hm
     · rw [List.mem_singleton.1 hm,if_pos rfl]
    have ef:firstE ((vlE S gs k).2::rest.map fun k=>(vlE S gs k).2)=firstE (rest.map fun k=>(vlE S gs k).2):=by
     conv=>lhs;unfold firstE
     rw [if_pos he]
    rw [ef]
    exact ih
  · rw [runE_stop (by rw [hg];exact he),hg]
    have ef:firstE ((vlE S gs k).2::rest.map fun k=>(vlE S gs k).2)=(vlE S gs k).2:=by
     conv=>lhs;unfold firstE
     rw [if_neg he]
    rw [ef]
    exact ⟨rfl,fun h=>absurd h he⟩
noncomputable def errL (S:GE T) (gs:List Gate) (i:Nat):Int:=firstE ((reachT gs i).map fun k=>(vlE S gs k).2)
theorem evC_bad {S:GE T} {gs:List Gate} {i:Int} (h:¬ GoodI gs i):evC S gs i=(S.z,1):=by unfold evC;rw [if_neg h]
theorem evC_good {S:GE T} {gs:List Gate} {i:Int} (h:GoodI gs i):evC S gs i=if errL S gs i.toNat=0 then ((vlE S gs i.toNat).1,0) else (S.z,errL S gs i.toNat):=by
 have hi:=h.hi
 have h0:=h.lo
 obtain ⟨h1,h2⟩:=run_spec (S:=S) h.v (i:=i.toNat) (by omega) (reachT gs i.toNat) [] (List.replicate (i.toNat+1) S.z) rfl (by simp) (by simp)
 unfold evC
 rw [if_pos h]
 unfold runR errL
 rw [h1]
 by_cases k:firstE ((reachT gs i.toNat).map fun k=>(vlE S gs k).2)=0
 · rw [if_pos k,if_pos k,h2 k _ (reachT_self _ _)]
 · rw [if_neg k,if_neg k]
theorem errL_zero {S:GE T} {gs:List Gate} {i:Nat}:errL S gs i=0↔∀ k∈reachT gs i,(vlE S gs k).2=0:=by
 unfold errL
 rw [firstE_zero]
 simp
theorem vals_at {S:GE T} {gs:List Gate} {k:Nat} (hV:ValidC gs) (hk:k<gs.length) {j:Int} (hj:j∈((List.getD gs k ((0,0,[],()):Gate))).2.2.1):atL S.z (valsE S gs k) j=(vlE S gs j.toNat).1:=by
 have:=kid_in hV hk hj
 exact valsE_get S gs k _ (by omega)
structure MarkR (gs:List Gate) (i:Nat) (xs:List Bool) (n:Nat):Prop where
 ok:∀ k,xs.getD k false=true→Rch gs i k
 me:xs.getD i false=true
 cl:∀ k,n≤k→xs.getD k false=true→∀ j∈((List.getD gs k ((0,0,[],()):Gate))).2.2.1,xs.getD j.toNat false=true
theorem MarkR.done {gs:List Gate} {i:Nat} {xs:List Bool} (h:MarkR gs i xs 0) (k:Nat):xs.getD k false=true↔Rch gs i k:=by
 refine ⟨h.ok k,fun hk=>?_⟩
 induction hk with
 |base=>exact h.me
 |kid _ hj ih=>exact h.cl _ (Nat.zero_le _) ih _ hj
theorem mark_start {gs:List Gate} {i n:Nat} (hi:i<n):MarkR gs i ((List.replicate n false).set i true) (i+1):=by
 have key:∀ k,((List.replicate n false).set i true).getD k false=true↔i=k:=fun k=>by
  rw [getD_set (by simpa using hi)]
  by_cases h:i=k
  · rw [if_pos h];simp [h]
  · rw [if_neg h,List.getD_eq_getElem?_getD,List.getElem?_replicate]
    split<;>simp [h]
 refine ⟨fun k hk=>?_,(key i).2 rfl,fun k h1 h2=>?_⟩
 · have:=(key k).1 hk;subst this;exact .base
 · have:=(key k).1 h2;omega
theorem MarkR.skip {gs:List Gate} {i k:Nat} {xs:List Bool} (h:MarkR gs i xs (k+1)) (hk:xs.getD k false=false):MarkR gs i xs k:=⟨h.ok,h.me,fun m h1 h2=>by
 by_cases e:m=k
 · subst e;rw [hk] at h2;cases h2
 · exact h.cl m (by omega) h2⟩
structure MarkK (gs:List Gate) (i:Nat) (xs:List Bool) (k m:Nat):Prop where
 ok:∀ k,xs.getD k false=true→Rch gs i k
 me:xs.getD i false=true
 cl:∀ n,k<n→xs.getD n false=true→∀ j∈(gs.getD n ((0,0,[],()):Gate)).2.2.1,xs.getD j.toNat false=true
 hr:xs.getD k false=true
 ks:∀ j∈((List.getD gs k ((0,0,[],()):Gate))).2.2.1.take m,xs.getD j.toNat false=true
theorem MarkR.open {gs:List Gate} {i k:Nat} {xs:List Bool} (h:MarkR gs i xs (k+1)) (hk:xs.getD k false=true):MarkK gs i xs k 0:=⟨h.ok,h.me,fun n hn=>h.cl n hn,hk,by simp⟩
theorem MarkK.shut {gs:List Gate} {i k m:Nat} {xs:List Bool} (h:MarkK gs i xs k m) (hm:((List.getD gs k ((0,0,[],()):Gate))).2.2.1.length≤m):MarkR gs i xs k:=⟨h.ok,h.me,fun n h1 h2=>by
 by_cases e:n=k
 · subst e;intro j hj;exact h.ks j (by rw [List.take_of_length_le hm];exact hj)
 · exact h.cl n (by omega) h2⟩
theorem MarkK.step {gs:List Gate} {i k m:Nat} {xs:List Bool} (h:MarkK gs i xs k m) (hm:m<((List.getD gs k ((0,0,[],()):Gate))).2.2.1.length) (hl:(((List.getD gs k ((0,0,[],()):Gate))).2.2.1.getD m 0).toNat<xs.length) (hlt:(((List.getD gs k ((0,0,[],()):Gate))).2.2.1.getD m 0).toNat<k):MarkK gs i (xs.set (((List.getD gs k ((0,0,[],()):Gate))).2.2.1.getD m 0).toNat true) k (m+1):=by
 have key:∀ n,(xs.set (((List.getD gs k ((0,0,[],()):Gate))).2.2.1.getD m 0).toNat true).getD n false=true↔(((List.getD gs k ((0,0,[],()):Gate))).2.2.1.getD m 0).toNat=n∨xs.getD n false=true:=fun n=>by
  rw [getD_set hl]
  by_cases e:(((List.getD gs k ((0,0,[],()):Gate))).2.2.1.getD m 0).toNat=n
  · rw [if_pos e];exact ⟨fun _=> .inl e,fun _=>rfl⟩
  · rw [if_neg e];exact ⟨fun h=> .inr h,fun h=>h.elim (fun h=>absurd h e) id⟩
 refine ⟨fun n hn=>?_,(key i).2 (.inr h.me),fun n h1 h2 j hj=>?_,(key k).2 (.inr h.hr),fun j hj=>?_⟩
 · rcases (key n).1 hn with rfl|hn
   · exact .kid (h.ok k h.hr) (getD_mem hm)
   · exact h.ok n hn
 · rcases (key n).1 h2 with e|h2
   · omega
   · exact (key _).2 (.inr (h.cl n h1 h2 j hj))
 · rw [List.take_succ_eq_append_getElem hm,← getD_ok 0 hm] at hj
   rcases List.mem_append.1 hj with hj|hj
   · exact (key _).2 (.inr (h.ks j hj))
   · rw [List.mem_singleton.1 hj];exact (key _).2 (.inl rfl)
end Go.Gv
