/- The plain law of reasons: sixteen gates have at most 400 reasons. -/
import Derived.Test.YtoangeemlcbjlaaGreatDoorQ17b
set_option linter.all false
namespace Go.Gv
open Go Go.Proofs Go.Proofs.YtoangeemlcbjlaaGreatDoor
set_option maxRecDepth 100000
set_option maxHeartbeats 4000000
inductive Mk (gs:List Gate) (c:Nat→Int) (k:Nat):Nat→Prop
 |base:Mk gs c k k
 |plus {j:Nat} (h:Mk gs c k j) (h3:((List.getD gs j ((0,0,[],()):Gate))).1=3):Mk gs c k (c j).toNat
 |times {j:Nat} {i:Int} (h:Mk gs c k j) (h4:((List.getD gs j ((0,0,[],()):Gate))).1=4) (hi:i∈((List.getD gs j ((0,0,[],()):Gate))).2.2.1):Mk gs c k i.toNat
structure Cho (h:List Bool) (gs:List Gate) (k:Nat) (s:Is) (c:Nat→Int):Prop where
 kid:∀ j,Mk gs c k j→((List.getD gs j ((0,0,[],()):Gate))).1=3→c j∈((List.getD gs j ((0,0,[],()):Gate))).2.2.1
 tru:∀ j,Mk gs c k j→up (valR h gs j) s
theorem Mk.le {gs:List Gate} {c:Nat→Int} {k:Nat} (hV:ValidC gs) (hk:k<gs.length) (hc:∀ j,Mk gs c k j→((List.getD gs j ((0,0,[],()):Gate))).1=3→c j∈((List.getD gs j ((0,0,[],()):Gate))).2.2.1) {j:Nat} (h:Mk gs c k j):j=k∨j<k:=by
 induction h with
 |base=>exact .inl rfl
 |plus h h3 ih=>have:=kid_in hV (by omega) (hc _ h h3);omega
 |times h h4 hi ih=>have:=kid_in hV (by omega) hi;omega
theorem up_plus {h:List Bool} {gs:List Gate} {k:Nat} {T:Is} (hV:ValidC gs) (hk:k<gs.length) (h3:((List.getD gs k ((0,0,[],()):Gate))).1=3):up (valR h gs k) T↔∃ i∈((List.getD gs k ((0,0,[],()):Gate))).2.2.1,up (valR h gs i.toNat) T:=by
 rw [valR_plus hV hk h3,plusR_up (fun L hL=>by
  obtain ⟨j,hj,rfl⟩:=List.mem_map.1 hL
  have:=kid_in hV hk hj
  exact valR_Can hV (by omega))]
 constructor
 · rintro ⟨L,hL,q⟩
   obtain ⟨j,hj,rfl⟩:=List.mem_map.1 hL
   exact ⟨j,hj,q⟩
 · rintro ⟨j,hj,q⟩
   exact ⟨_,List.mem_map.2 ⟨j,hj,rfl⟩,q⟩
theorem up_times {h:List Bool} {gs:List Gate} {k:Nat} {T:Is} (hV:ValidC gs) (hk:k<gs.length) (h4:((List.getD gs k ((0,0,[],()):Gate))).1=4):up (valR h gs k) T↔∀ i∈((List.getD gs k ((0,0,[],()):Gate))).2.2.1,up (valR h gs i.toNat) T:=by
 rw [valR_times hV hk h4,timesR_up]
 constructor
 · intro q j hj
   exact q _ (List.mem_map.2 ⟨j,hj,rfl⟩)
 · intro q L hL
   obtain ⟨j,hj,rfl⟩:=List.mem_map.1 hL
   exact q j hj
theorem up_var {h:List Bool} {gs:List Gate} {k:Nat} {T:Is} (h2:((List.getD gs k ((0,0,[],()):Gate))).1=2):up (valR h gs k) T↔((List.getD gs k ((0,0,[],()):Gate))).2.1∈T∨hadB h ((List.getD gs k ((0,0,[],()):Gate))).2.1=true:=by
 have hi:¬ inner ((List.getD gs k ((0,0,[],()):Gate))).1:=by rw [h2];unfold inner;omega
 rw [valR_leaf hi,if_neg (by omega),if_pos h2]
 unfold varR
 by_cases q:hadB h ((List.getD gs k ((0,0,[],()):Gate))).2.1=true
 · rw [if_pos q,up_one]
   exact ⟨fun _=> .inr q,fun _ x hx=>by cases hx⟩
 · rw [if_neg q,up_one]
   exact ⟨fun k=> .inl (k _ (List.mem_singleton.2 rfl)),fun k x hx=>by rw [List.mem_singleton.1 hx];exact k.resolve_right q⟩
def UsedV (h:List Bool) (gs:List Gate) (c:Nat→Int) (k:Nat) (v:Int):Prop:=∃ j,Mk gs c k j∧((List.getD gs j ((0,0,[],()):Gate))).1=2∧((List.getD gs j ((0,0,[],()):Gate))).2.1=v∧¬ hadB h v=true
theorem cho_holds {h:List Bool} {gs:List Gate} {k:Nat} {s T:Is} {c:Nat→Int} (hV:ValidC gs) (hk:k<gs.length) (H:Cho h gs k s c) (hT:∀ v,UsedV h gs c k v→v∈T):∀ n j,j<n→Mk gs c k j→up (valR h gs j) T
 |0,j,hn,_=>by omega
 |n+1,j,hn,hj=>by
  have hjl:j<gs.length:=by have:=hj.le hV hk H.kid;omega
  by_cases hi:inner ((List.getD gs j ((0,0,[],()):Gate))).1
  · rcases hi with h3|h4
    · have hc:=H.kid j hj h3
      have:=kid_in hV hjl hc
      exact (up_plus hV hjl h3).2 ⟨_,hc,cho_holds hV hk H hT n _ (by omega) (.plus hj h3)⟩
    · exact (up_times hV hjl h4).2 fun i hi=>by
       have:=kid_in hV hjl hi
       exact cho_holds hV hk H hT n _ (by omega) (.times hj h4 hi)
  · rcases leaf_kind hV hjl hi with e|e|⟨e,e1,e2⟩
    · have:=H.tru j hj
      rw [valR_leaf hi,e,if_neg (by decide),if_neg (by decide)] at this
      exact absurd this up_nil
    · rw [valR_leaf hi,if_pos e,up_one];exact fun x hx=>by cases hx
    · rw [up_var e]
      by_cases q:hadB h ((List.getD gs j ((0,0,[],()):Gate))).2.1=true
      · exact .inr q
      · exact .inl (hT _ ⟨j,hj,e,rfl,q⟩)
theorem cho_vars {h:List Bool} {gs:List Gate} {k:Nat} {s:Is} {c:Nat→Int} (hV:ValidC gs) (hk:k<gs.length) (hs:s∈valR h gs k) (H:Cho h gs k s c) (v:Int):v∈s↔UsedV h gs c k v:=by
 have hu:∀ v,UsedV h gs c k v→v∈s:=fun v ⟨j,hj,h2,e,hn⟩=>by
  have:=(up_var h2).1 (H.tru j hj)
  rw [e] at this
  exact this.resolve_right hn
 refine ⟨fun hv=>?_,hu v⟩
 have hp:=cho_holds (T:=s.filter fun v=>boolOf (UsedV h gs c k v)) hV hk H (fun v hv=>List.mem_filter.2 ⟨hu v hv,boolOf_true.2 hv⟩) (k+1) k (Nat.lt_succ_self k) .base
 obtain ⟨t,ht,hts⟩:=hp
 have e:=(valR_Can hV hk).anti t ht s hs fun x hx=>(List.mem_filter.1 (hts x hx)).1
 subst e
 exact boolOf_true.1 (List.mem_filter.1 (hts v hv)).2
theorem cho_of {h:List Bool} {gs:List Gate} {k:Nat} {s:Is} (hV:ValidC gs) (hk:k<gs.length) (hs:up (valR h gs k) s) (c:Nat→Int) (hc:∀ j,j<gs.length→up (valR h gs j) s→((List.getD gs j ((0,0,[],()):Gate))).1=3→c j∈((List.getD gs j ((0,0,[],()):Gate))).2.2.1∧up (valR h gs (c j).toNat) s):Cho h gs k s c:=by
 have key:∀ j,Mk gs c k j→j<gs.length∧up (valR h gs j) s:=fun j hj=>by
  induction hj with
  |base=>exact ⟨hk,hs⟩
  |plus _ h3 ih=>
   have:=hc _ ih.1 ih.2 h3
   have hl:=kid_in hV ih.1 this.1
   exact ⟨by have:=ih.1;omega,this.2⟩
  |times _ h4 hi ih=>
   have hl:=kid_in hV ih.1 hi
   exact ⟨by have:=ih.1;omega,(up_times hV ih.1 h4).1 ih.2 _ hi⟩
 exact ⟨fun j hj h3=>(hc j (key j hj).1 (key j hj).2 h3).1,fun j hj=>(key j hj).2⟩
theorem cho_ex {h:List Bool} {gs:List Gate} {k:Nat} {s:Is} (hV:ValidC gs) (hk:k<gs.length) (hs:up (valR h gs k) s):∃ c:Nat→Int,∀ j,j<gs.length→up (valR h gs j) s→((List.getD gs j ((0,0,[],()):Gate))).1=3→c j∈((List.getD gs j ((0,0,[],()):Gate))).2.2.1∧up (valR h gs (c j).toNat) s:=by
 have:∀ j,∃ i:Int,j<gs.length→up (valR h gs j) s→((List.getD gs j ((0,0,[],()):Gate))).1=3→i∈((List.getD gs j ((0,0,[],()):Gate))).2.2.1∧up (valR h gs i.toNat) s:=fun j=>by
  by_cases q:j<gs.length∧up (valR h gs j) s∧((List.getD gs j ((0,0,[],()):Gate))).1=3
  · obtain ⟨i,h1,h2⟩:=(up_plus hV q.1 q.2.2).1 q.2.1
    exact ⟨i,fun _ _ _=>⟨h1,h2⟩⟩
  · exact ⟨0,fun a b d=>absurd ⟨a,b,d⟩ q⟩
 exact ⟨fun j=>Classical.choose (this j),fun j=>Classical.choose_spec (this j)⟩
def kindL (gs:List Gate) (q:Int→Bool):List Nat:=(List.range gs.length).filter fun j=>q ((List.getD gs j ((0,0,[],()):Gate))).1
theorem kindL_mem {gs:List Gate} {q:Int→Bool} {j:Nat}:j∈kindL gs q↔j<gs.length∧q ((List.getD gs j ((0,0,[],()):Gate))).1=true:=by unfold kindL;rw [List.mem_filter,List.mem_range]
def is2 (x:Int):Bool:=decide (x=2)
def is3 (x:Int):Bool:=decide (x=3)
def is4 (x:Int):Bool:=decide (x=4)
def is24 (x:Int):Bool:=decide (x=2)||decide (x=4)
theorem three_le {α:Type} {f:α→Int}:∀ (l:List α),(l.filter fun j=>is2 (f j)).length+(l.filter fun j=>is3 (f j)).length+(l.filter fun j=>is4 (f j)).length≤l.length
 |[]=>Nat.le_refl _
 |a::l=>by
  have:=three_le (f:=f) l
  simp only [List.filter_cons,is2,is3,is4] at *
  by_cases h2:f a=2
  · simp only [h2];simp;omega
  · by_cases h3:f a=3
    · simp only [h3];simp;omega
    · by_cases h4:f a=4
      · simp only [h4];simp;omega
      · simp only [h2,h3,h4];simp;omega
theorem two_eq {α:Type} {f:α→Int}:∀ (l:List α),(l.filter fun j=>is24 (f j)).length=(l.filter fun j=>is2 (f j)).length+(l.filter fun j=>is4 (f j)).length
 |[]=>rfl
 |a::l=>by
  have:=two_eq (f:=f) l
  simp only [List.filter_cons,is2,is4,is24] at *
  by_cases h2:f a=2
  · simp only [h2];simp;omega
  · by_cases h4:f a=4
    · simp only [h4];simp;omega
    · simp only [h2,h4];simp;omega
def subsK {α:Type}:List α→Nat→List (List α)
 |[],_=>[[]]
 |_::_,0=>[[]]
 |x::l,n+1=>subsK l (n+1)++(subsK l n).map (x::·)
def cntK:Nat→Nat→Nat
 |0,_=>1
 |_+1,0=>1
 |u+1,n+1=>cntK u (n+1)+cntK u n
theorem subsK_len {α:Type}:∀ (l:List α) (n:Nat),(subsK l n).length=cntK l.length n
 |[],_=>by unfold subsK cntK;rfl
 |_::_,0=>by unfold subsK;rfl
 |x::l,n+1=>by
  unfold subsK
  rw [List.length_append,List.length_map,subsK_len l,subsK_len l,List.length_cons]
  rfl
theorem nil_subsK {α:Type}:∀ (l:List α) (n:Nat),[]∈subsK l n
 |[],_=>by unfold subsK;simp
 |_::_,0=>by unfold subsK;simp
 |x::l,n+1=>by unfold subsK;exact List.mem_append_left _ (nil_subsK l _)
theorem subsK_mem {α:Type}:∀ {l m:List α} {n:Nat},m.Sublist l→m.length≤n→m∈subsK l n
 |[],m,n,h,_=>by rw [List.sublist_nil.1 h];exact nil_subsK _ _
 |x::l,m,0,_,hl=>by
  rw [List.length_eq_zero_iff.1 (by omega:m.length=0)];exact nil_subsK _ _
 |x::l,m,n+1,h,hl=>by
  unfold subsK
  rcases List.sublist_cons_iff.1 h with h|⟨r,rfl,h'⟩
  · exact List.mem_append_left _ (subsK_mem h hl)
  · exact List.mem_append_right _ (List.mem_map.2 ⟨r,subsK_mem h' (by simpa using hl),rfl⟩)
theorem cntK_mono:∀ {u w n:Nat},u≤w→cntK u n≤cntK w n
 |0,0,_,_=>Nat.le_refl _
 |0,w+1,0,_=>Nat.le_refl _
 |0,w+1,n+1,_=>by
  have:=@cntK_mono 0 w (n+1) (Nat.zero_le _)
  have e:∀ n,cntK 0 n=1:=fun n=>by unfold cntK;rfl
  rw [e] at *
  show 1≤cntK w (n+1)+cntK w n
  omega
 |u+1,0,_,h=>by omega
 |u+1,w+1,0,_=>Nat.le_refl _
 |u+1,w+1,n+1,h=>Nat.add_le_add (cntK_mono (by omega)) (cntK_mono (by omega))
def wordsN (a:Nat):Nat→List (List Nat)
 |0=>[[]]
 |n+1=>(wordsN a n).flatMap fun w=>(List.range a).map (·::w)
theorem flatMap_len {α β:Type} {f:α→List β} {m:Nat}:∀ (l:List α),(∀ x∈l,(f x).length≤m)→(l.flatMap f).length≤l.length * m
 |[],_=>by simp
 |a::l,h=>by
  have:=flatMap_len (f:=f) l fun x hx=>h x (List.mem_cons_of_mem _ hx)
  have:=h a List.mem_cons_self
  rw [List.flatMap_cons,List.length_append,List.length_cons,Nat.succ_mul];omega
theorem wordsN_len (a:Nat):∀ n,(wordsN a n).length≤a ^ n
 |0=>Nat.le_refl _
 |n+1=>by
  have:=wordsN_len a n
  unfold wordsN
  refine Nat.le_trans (flatMap_len (m:=a) _ fun w _=>by simp) ?_
  rw [Nat.pow_succ]
  exact Nat.mul_le_mul_right _ this
theorem wordsN_mem {a:Nat}:∀ {w:List Nat},(∀ x∈w,x<a)→w∈wordsN a w.length
 |[],_=>by simp [wordsN]
 |x::w,h=>by
  show x::w∈wordsN a (w.length+1)
  unfold wordsN
  exact List.mem_flatMap.2 ⟨w,wordsN_mem fun y hy=>h y (List.mem_cons_of_mem _ hy),List.mem_map.2 ⟨x,List.mem_range.2 (h x List.mem_cons_self),rfl⟩⟩
noncomputable def setOf (gs:List Gate) (P:Int→Prop):Is:=(compI (sortI ((gs.filter fun g=>is2 g.1).map fun g=>g.2.1))).filter fun v=>boolOf (P v)
theorem setOf_inc (gs:List Gate) (P:Int→Prop):Inc (setOf gs P):=(compI_inc (sortI_sorted _)).filter _
theorem setOf_mem {gs:List Gate} {P:Int→Prop} {v:Int}:v∈setOf gs P↔(∃ g∈gs,g.1=2∧g.2.1=v)∧P v:=by
 unfold setOf
 rw [List.mem_filter,compI_mem,sortI_mem,List.mem_map,boolOf_true]
 constructor
 · rintro ⟨⟨g,hg,e⟩,h⟩
   have hg:=List.mem_filter.1 hg
   exact ⟨⟨g,hg.1,by simpa [is2] using hg.2,e⟩,h⟩
 · rintro ⟨⟨g,hg,h2,e⟩,h⟩
   exact ⟨⟨g,List.mem_filter.2 ⟨hg,by simpa [is2] using h2⟩,e⟩,h⟩
theorem set_is {gs:List Gate} {s:Is} {P:Int→Prop} (hs:Inc s) (h:∀ v,v∈s↔P v) (hp:∀ v,P v→∃ g∈gs,g.1=2∧g.2.1=v):s=setOf gs P:=
 inc_ext hs (setOf_inc gs P) fun v=>by rw [setOf_mem,h];exact ⟨fun k=>⟨hp v k,k⟩,fun k=>k.2⟩
theorem can_nodup {L:List Is} (h:Can L):L.Nodup:=h.ord.imp fun {a b} hb (e:a=b)=>bef_irr b (by rw [e] at hb;exact hb)
theorem can_codes {α:Type} {L:List Is} (hL:Can L) (C:List α) (dec:α→Is) (h:∀ s∈L,∃ c∈C,s=dec c):L.length≤C.length:=by
 have:=nodup_len (can_nodup hL) (b:=C.map dec) fun s hs=>by
  obtain ⟨c,hc,rfl⟩:=h s hs
  exact List.mem_map.2 ⟨c,hc,rfl⟩
 rwa [List.length_map] at this
end Go.Gv
