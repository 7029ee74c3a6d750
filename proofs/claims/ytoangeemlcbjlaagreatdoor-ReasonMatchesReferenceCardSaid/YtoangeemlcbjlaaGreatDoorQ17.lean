/- The plain law of reasons: sets as increasing lists, their order, minimal ones, unions. -/
import Derived.Test.YtoangeemlcbjlaaGreatDoorP16j
import Derived.Test.YtoangeemlcbjlaaGreatDoorFI
set_option linter.all false
namespace Go.Gv
open Go Go.Proofs Go.Proofs.YtoangeemlcbjlaaGreatDoor
set_option maxRecDepth 100000
set_option maxHeartbeats 4000000
abbrev Is:=List Int
def Inc (s:Is):Prop:=s.Pairwise fun a b=>a<b
def sub (a b:Is):Prop:=∀ x∈a,x∈b
theorem sub_refl (a:Is):sub a a:=fun _ h=>h
theorem sub_trans {a b c:Is} (h:sub a b) (k:sub b c):sub a c:=fun x hx=>k x (h x hx)
theorem Inc.nodup {s:Is} (h:Inc s):s.Nodup:=h.imp fun h e=>by omega
theorem inc_ext:∀ {a b:Is},Inc a→Inc b→(∀ x,x∈a↔x∈b)→a=b
 |[],[],_,_,_=>rfl
 |[],y::b,_,_,h=>by simpa using (h y).2 List.mem_cons_self
 |x::a,[],_,_,h=>by simpa using (h x).1 List.mem_cons_self
 |x::a,y::b,ha,hb,h=>by
  have ha':=List.pairwise_cons.1 ha
  have hb':=List.pairwise_cons.1 hb
  have e:x=y:=by
   rcases List.mem_cons.1 ((h x).1 List.mem_cons_self) with e|e
   · exact e
   · rcases List.mem_cons.1 ((h y).2 List.mem_cons_self) with f|f
     · exact f.symm
     · have:=ha'.1 _ f;have:=hb'.1 _ e;omega
  subst e
  rw [inc_ext ha'.2 hb'.2 fun z=>⟨fun hz=>by
   rcases List.mem_cons.1 ((h z).1 (List.mem_cons_of_mem _ hz)) with e|e
   · subst e;have:=ha'.1 _ hz;omega
   · exact e,fun hz=>by
   rcases List.mem_cons.1 ((h z).2 (List.mem_cons_of_mem _ hz)) with e|e
   · subst e;have:=hb'.1 _ hz;omega
   · exact e⟩]
theorem sub_anti {a b:Is} (ha:Inc a) (hb:Inc b) (h:sub a b) (k:sub b a):a=b:=inc_ext ha hb fun x=>⟨h x,k x⟩
theorem nodup_len {α:Type} [DecidableEq α]:∀ {a b:List α},a.Nodup→(∀ x∈a,x∈b)→a.length≤b.length
 |[],_,_,_=>Nat.zero_le _
 |x::a,b,ha,h=>by
  have ha':=List.nodup_cons.1 ha
  have hx:x∈b:=h x List.mem_cons_self
  have:=nodup_len (a:=a) (b:=b.erase x) ha'.2 fun y hy=>by
   have hne:y≠x:=fun e=>ha'.1 (e ▸ hy)
   exact (List.mem_erase_of_ne hne).2 (h y (List.mem_cons_of_mem _ hy))
  rw [List.length_erase_of_mem hx] at this
  have:=List.length_pos_of_mem hx
  simp;omega
theorem sub_len {a b:Is} (ha:Inc a) (h:sub a b):a.length≤b.length:=nodup_len ha.nodup h
theorem nodup_full {α:Type} [DecidableEq α]:∀ {a b:List α},a.Nodup→(∀ x∈a,x∈b)→b.length≤a.length→∀ x∈b,x∈a
 |a,b,ha,h,hl,x,hx=>by
  by_cases hm:x∈a
  · exact hm
  · have:=nodup_len (a:=x::a) (b:=b) (List.nodup_cons.2 ⟨hm,ha⟩) fun y hy=>by
     rcases List.mem_cons.1 hy with rfl|hy
     · exact hx
     · exact h y hy
    simp at this;omega
theorem sub_eq_len {a b:Is} (ha:Inc a) (hb:Inc b) (h:sub a b) (hl:b.length≤a.length):a=b:=sub_anti ha hb h (nodup_full ha.nodup h hl)
def cmpL:Is→Is→Int
 |[],[]=>0
 |[],_::_=> -1
 |_::_,[]=>1
 |x::a,y::b=>if cmpI x y=0 then cmpL a b else cmpI x y
def ordL (a b:Is):Int:=if cmpI a.length b.length=0 then cmpL a b else cmpI a.length b.length
def bef (a b:Is):Prop:=ordL a b<0
theorem cmpI_lt {x y:Int}:cmpI x y<0↔x<y:=by unfold cmpI;split<;>(try split)<;>omega
theorem cmpI_z {x y:Int}:cmpI x y=0↔x=y:=by unfold cmpI;split<;>(try split)<;>omega
theorem cmpI_neg (x y:Int):cmpI y x= - cmpI x y:=by unfold cmpI;split<;>split<;>(try split)<;>omega
theorem cmpL_self:∀ a:Is,cmpL a a=0
 |[]=>rfl
 |x::a=>by unfold cmpL;rw [if_pos (cmpI_z.2 rfl),cmpL_self a]
theorem cmpL_neg:∀ a b:Is,cmpL b a= - cmpL a b
 |[],[]=>rfl
 |[],_::_=>rfl
 |_::_,[]=>rfl
 |x::a,y::b=>by
  unfold cmpL
  by_cases h:x=y
  · subst h
    rw [if_pos (cmpI_z.2 rfl),if_pos (cmpI_z.2 rfl),cmpL_neg a b]
  · rw [if_neg (fun e=>h (cmpI_z.1 e)),if_neg (fun e=>h (cmpI_z.1 e).symm),cmpI_neg]
theorem cmpL_z:∀ {a b:Is},cmpL a b=0→a=b
 |[],[],_=>rfl
 |[],_::_,h=>by cases h
 |_::_,[],h=>by cases h
 |x::a,y::b,h=>by
  unfold cmpL at h
  split at h
  · rename_i e;rw [cmpI_z.1 e,cmpL_z h]
  · rename_i e;exact absurd h e
theorem cmpL_trans:∀ {a b c:Is},cmpL a b<0→cmpL b c<0→cmpL a c<0
 |[],[],_,h,_=>by cases h
 |[],_::_,[],_,k=>by cases k
 |[],_::_,_::_,_,_=>by show (-1:Int)<0;decide
 |_::_,[],_,h,_=>by cases h
 |_::_,_::_,[],_,k=>by cases k
 |x::a,y::b,z::c,h,k=>by
  unfold cmpL at h k ⊢
  by_cases e:x=y
  · subst e
    rw [if_pos (cmpI_z.2 rfl)] at h
    by_cases f:x=z
    · subst f
      rw [if_pos (cmpI_z.2 rfl)] at k ⊢
      exact cmpL_trans h k
    · rw [if_neg (fun e=>f (cmpI_z.1 e))] at k ⊢
      exact k
  · rw [if_neg (fun q=>e (cmpI_z.1 q))] at h
    have h:=cmpI_lt.1 h
    by_cases f:y=z
    · subst f
      rw [if_neg (fun q=>e (cmpI_z.1 q))]
      exact cmpI_lt.2 h
    · rw [if_neg (fun q=>f (cmpI_z.1 q))] at k
      have k:=cmpI_lt.1 k
      rw [if_neg (fun q=>by have:=cmpI_z.1 q;omega)]
      exact cmpI_lt.2 (by omega)
theorem ordL_self (a:Is):ordL a a=0:=by unfold ordL;rw [if_pos (cmpI_z.2 rfl),cmpL_self]
theorem ordL_neg (a b:Is):ordL b a= - ordL a b:=by
 unfold ordL
 by_cases h:(a.length:Int)=b.length
 · rw [if_pos (cmpI_z.2 h),if_pos (cmpI_z.2 h.symm),cmpL_neg]
 · rw [if_neg (fun e=>h (cmpI_z.1 e)),if_neg (fun e=>h (cmpI_z.1 e).symm),cmpI_neg]
theorem ordL_z {a b:Is} (h:ordL a b=0):a=b:=by
 unfold ordL at h
 split at h
 · exact cmpL_z h
 · rename_i e;exact absurd h e
theorem bef_trans {a b c:Is} (h:bef a b) (k:bef b c):bef a c:=by
 unfold bef ordL at *
 by_cases e:(a.length:Int)=b.length
 · rw [if_pos (cmpI_z.2 e)] at h
   by_cases f:(b.length:Int)=c.length
   · rw [if_pos (cmpI_z.2 f)] at k
     rw [if_pos (cmpI_z.2 (e.trans f))]
     exact cmpL_trans h k
   · rw [if_neg (fun q=>f (cmpI_z.1 q))] at k
     rw [e,if_neg (fun q=>f (cmpI_z.1 q))];exact k
 · rw [if_neg (fun q=>e (cmpI_z.1 q))] at h
   have h:=cmpI_lt.1 h
   by_cases f:(b.length:Int)=c.length
   · rw [← f,if_neg (fun q=>e (cmpI_z.1 q))];exact cmpI_lt.2 h
   · rw [if_neg (fun q=>f (cmpI_z.1 q))] at k
     have k:=cmpI_lt.1 k
     rw [if_neg (fun q=>by have:=cmpI_z.1 q;omega)]
     exact cmpI_lt.2 (by omega)
theorem bef_irr (a:Is):¬ bef a a:=by unfold bef;rw [ordL_self];omega
theorem bef_asym {a b:Is} (h:bef a b):¬ bef b a:=fun k=>bef_irr a (bef_trans h k)
theorem bef_tri (a b:Is):bef a b∨a=b∨bef b a:=by
 unfold bef
 have:=ordL_neg a b
 rcases Int.lt_trichotomy (ordL a b) 0 with h|h|h
 · exact .inl h
 · exact .inr (.inl (ordL_z h))
 · exact .inr (.inr (by omega))
theorem bef_len {a b:Is} (h:bef a b):a.length≤b.length:=by
 unfold bef ordL at h
 split at h
 · rename_i e;have:=cmpI_z.1 e;omega
 · have:=cmpI_lt.1 h;omega
theorem ordL_le {a b:Is}:ordL a b≤0↔bef a b∨a=b:=by
 constructor
 · intro h
   rcases bef_tri a b with k|k|k
   · exact .inl k
   · exact .inr k
   · unfold bef at k;rw [ordL_neg] at k;omega
 · rintro (h|rfl)
   · exact Int.le_of_lt h
   · rw [ordL_self];omega
theorem ordL_ntrans {x y z:Is} (h1:¬ ordL y x<0) (h2:¬ ordL z y<0):¬ ordL z x<0:=by
 have h1:bef x y∨x=y:=ordL_le.1 (by rw [ordL_neg];omega)
 have h2:bef y z∨y=z:=ordL_le.1 (by rw [ordL_neg];omega)
 have h3:bef x z∨x=z:=by
  rcases h1 with h1|rfl
  · rcases h2 with h2|rfl
    · exact .inl (bef_trans h1 h2)
    · exact .inl h1
  · exact h2
 have:=ordL_le.2 h3
 rw [ordL_neg];omega
def leL (a b:Is):Bool:=decide (ordL a b≤0)
theorem leL_iff {a b:Is}:leL a b=true↔bef a b∨a=b:=by unfold leL;rw [decide_eq_true_eq,ordL_le]
def sortL (l:List Is):List Is:=l.mergeSort leL
theorem sortL_perm (l:List Is):(sortL l).Perm l:=List.mergeSort_perm l leL
theorem sortL_sorted (l:List Is):(sortL l).Pairwise fun a b=>bef a b∨a=b:=by
 have:=List.pairwise_mergeSort (le:=leL) (fun a b c h1 h2=>by
  rw [leL_iff] at *
  rcases h1 with h1|rfl
  · rcases h2 with h2|rfl
    · exact .inl (bef_trans h1 h2)
    · exact .inl h1
  · exact h2) (fun a b=>by
  rcases bef_tri a b with h|h|h
  · rw [leL_iff.2 (.inl h)];rfl
  · rw [leL_iff.2 (.inr h)];rfl
  · rw [leL_iff.2 (.inl h),Bool.or_true]) l
 exact this.imp fun h=>leL_iff.1 h
theorem sortL_mem {l:List Is} {s:Is}:s∈sortL l↔s∈l:=(sortL_perm l).mem_iff
theorem sortL_len (l:List Is):(sortL l).length=l.length:=(sortL_perm l).length_eq
theorem sortL_uniq {l m:List Is} (hp:m.Perm l) (hs:m.Pairwise fun a b=>¬ ordL b a<0):m=sortL l:=
 List.Perm.eq_of_pairwise (le:=fun a b:Is=>bef a b∨a=b) (fun a b _ _ h1 h2=>by
  rcases h1 with h1|rfl
  · rcases h2 with h2|rfl
    · exact absurd h2 (bef_asym h1)
    · rfl
  · rfl) (hs.imp fun h=>ordL_le.1 (by rw [ordL_neg];omega)) (sortL_sorted l) (hp.trans (sortL_perm l).symm)
theorem pw_uniq {α:Type} {R:α→α→Prop} (asym:∀ a b,R a b→¬ R b a):∀ {A B:List α},A.Pairwise R→B.Pairwise R→(∀ x,x∈A↔x∈B)→A=B
 |[],[],_,_,_=>rfl
 |[],y::b,_,_,h=>by simpa using (h y).2 List.mem_cons_self
 |x::a,[],_,_,h=>by simpa using (h x).1 List.mem_cons_self
 |x::a,y::b,ha,hb,h=>by
  have ha':=List.pairwise_cons.1 ha
  have hb':=List.pairwise_cons.1 hb
  have e:x=y:=by
   rcases List.mem_cons.1 ((h x).1 List.mem_cons_self) with e|e
   · exact e
   · rcases List.mem_cons.1 ((h y).2 List.mem_cons_self) with f|f
     · exact f.symm
     · exact absurd (hb'.1 _ e) (asym _ _ (ha'.1 _ f))
  subst e
  rw [pw_uniq asym ha'.2 hb'.2 fun z=>⟨fun hz=>by
   rcases List.mem_cons.1 ((h z).1 (List.mem_cons_of_mem _ hz)) with e|e
   · subst e;have:=ha'.1 _ hz;exact absurd this (asym _ _ this)
   · exact e,fun hz=>by
   rcases List.mem_cons.1 ((h z).2 (List.mem_cons_of_mem _ hz)) with e|e
   · subst e;have:=hb'.1 _ hz;exact absurd this (asym _ _ this)
   · exact e⟩]
def up (L:List Is) (T:Is):Prop:=∃ s∈L,sub s T
structure Can (L:List Is):Prop where
 inc:∀ s∈L,Inc s
 ord:L.Pairwise bef
 anti:∀ s∈L,∀ t∈L,sub s t→s=t
theorem Can.uniq {A B:List Is} (ha:Can A) (hb:Can B) (h:∀ T,Inc T→(up A T↔up B T)):A=B:=by
 have key:∀ {A B:List Is},Can A→Can B→(∀ T,Inc T→(up A T↔up B T))→∀ s∈A,s∈B:=fun {A B} ha hb h s hs=>by
  obtain ⟨t,ht,h1⟩:=(h s (ha.inc s hs)).1 ⟨s,hs,sub_refl s⟩
  obtain ⟨u,hu,h2⟩:=(h t (hb.inc t ht)).2 ⟨t,ht,sub_refl t⟩
  have e:=ha.anti u hu s hs (sub_trans h2 h1)
  subst e
  rw [sub_anti (ha.inc u hs) (hb.inc t ht) h2 h1];exact ht
 exact pw_uniq (fun _ _=>bef_asym) ha.ord hb.ord fun s=>⟨key ha hb h s,key hb ha (fun T hT=>(h T hT).symm) s⟩
instance (a b:Is):Decidable (sub a b):=inferInstanceAs (Decidable (∀ x∈a,x∈b))
def keepM (out:List Is) (s:Is):List Is:=if ∃ t∈out,sub t s then out else out++[s]
def minG (out:List Is) (L:List Is):List Is:=L.foldl keepM out
structure MinI (done out:List Is):Prop where
 mem:∀ s∈out,s∈done
 cov:∀ s∈done,∃ t∈out,sub t s
 ord:out.Pairwise bef
 anti:∀ s∈out,∀ t∈out,sub s t→s=t
theorem MinI.step {done out:List Is} {s:Is} (h:MinI done out) (hi:Inc s) (hd:∀ t∈done,Inc t) (hs:∀ t∈done,bef t s∨t=s):MinI (done++[s]) (keepM out s):=by
 unfold keepM
 split
 · rename_i hc
   refine ⟨fun t ht=>List.mem_append_left _ (h.mem t ht),fun t ht=>?_,h.ord,h.anti⟩
   rcases List.mem_append.1 ht with ht|ht
   · exact h.cov t ht
   · rw [List.mem_singleton.1 ht];exact hc
 · rename_i hc
   have hc:∀ t∈out,¬ sub t s:=fun t ht k=>hc ⟨t,ht,k⟩
   refine ⟨fun t ht=>?_,fun t ht=>?_,?_,fun a ha b hb hab=>?_⟩
   · rcases List.mem_append.1 ht with ht|ht
     · exact List.mem_append_left _ (h.mem t ht)
     · exact List.mem_append_right _ ht
   · rcases List.mem_append.1 ht with ht|ht
     · obtain ⟨u,hu,k⟩:=h.cov t ht
       exact ⟨u,List.mem_append_left _ hu,k⟩
     · exact ⟨t,List.mem_append_right _ ht,sub_refl t⟩
   · refine List.pairwise_append.2 ⟨h.ord,List.pairwise_singleton _ _,fun t ht u hu=>?_⟩
     rw [List.mem_singleton.1 hu]
     rcases hs t (h.mem t ht) with k|k
     · exact k
     · exact absurd (by rw [k];exact sub_refl s) (hc t ht)
   · rcases List.mem_append.1 ha with ha|ha
     · rcases List.mem_append.1 hb with hb|hb
       · exact h.anti a ha b hb hab
       · rw [List.mem_singleton.1 hb] at hab;exact absurd hab (hc a ha)
     · rw [List.mem_singleton.1 ha] at hab ⊢
       rcases List.mem_append.1 hb with hb|hb
       · have hbd:=h.mem b hb
         have hl:b.length≤s.length:=by
          rcases hs b hbd with k|k
          · exact bef_len k
          · rw [k];exact Nat.le_refl _
         exact sub_eq_len hi (hd b hbd) hab hl
       · rw [List.mem_singleton.1 hb]
theorem minG_inv:∀ {L done out:List Is},MinI done out→(∀ s∈done++L,Inc s)→(done++L).Pairwise (fun a b=>bef a b∨a=b)→MinI (done++L) (minG out L)
 |[],done,out,h,_,_=>by rw [List.append_nil];exact h
 |s::L,done,out,h,hi,hp=>by
  have hst:=h.step (hi s (by simp)) (fun t ht=>hi t (List.mem_append_left _ ht)) (fun t ht=>(List.pairwise_append.1 hp).2.2 t ht s List.mem_cons_self)
  have:=minG_inv (L:=L) hst (by simpa using hi) (by simpa using hp)
  rw [List.append_assoc] at this
  exact this
def mins (L:List Is):List Is:=minG [] (sortL L)
theorem mins_inv {L:List Is} (h:∀ s∈L,Inc s):MinI (sortL L) (mins L):=by
 have:=minG_inv (L:=sortL L) (done:=[]) (out:=[]) ⟨by simp,by simp, .nil,by simp⟩ (by simpa [sortL_mem] using h) (by simpa using sortL_sorted L)
 show MinI (sortL L) (minG [] (sortL L))
 simpa using this
theorem mins_mem {L:List Is} (h:∀ s∈L,Inc s) {s:Is} (hs:s∈mins L):s∈L:=sortL_mem.1 ((mins_inv h).mem s hs)
theorem mins_can {L:List Is} (h:∀ s∈L,Inc s):Can (mins L):=⟨fun s hs=>h s (mins_mem h hs),(mins_inv h).ord,(mins_inv h).anti⟩
theorem mins_up {L:List Is} (h:∀ s∈L,Inc s) (T:Is):up (mins L) T↔up L T:=
 ⟨fun ⟨s,hs,k⟩=>⟨s,mins_mem h hs,k⟩,fun ⟨s,hs,k⟩=>let ⟨t,ht,q⟩:=(mins_inv h).cov s (sortL_mem.2 hs);⟨t,ht,sub_trans q k⟩⟩
theorem mins_len {L:List Is}:(mins L).length≤L.length:=by
 have:∀ (L out:List Is),(minG out L).length≤out.length+L.length:=fun L=>by
  induction L with
  |nil=>intro out;simp [minG]
  |cons s L ih=>
   intro out
   have:=ih (keepM out s)
   have h2:(keepM out s).length≤out.length+1:=by unfold keepM;split<;>simp
   show (minG (keepM out s) L).length≤_
   simp only [List.length_cons];omega
 have:=this (sortL L) []
 rw [sortL_len] at this
 simpa [mins] using this
theorem mins_congr {L M:List Is} (hL:∀ s∈L,Inc s) (hM:∀ s∈M,Inc s) (h:∀ T,Inc T→(up L T↔up M T)):mins L=mins M:=
 (mins_can hL).uniq (mins_can hM) fun T hT=>by rw [mins_up hL,mins_up hM];exact h T hT
def compI:Is→Is
 |[]=>[]
 |[x]=>[x]
 |x::y::l=>if x=y then compI (y::l) else x::compI (y::l)
theorem compI_mem:∀ {l:Is} {z:Int},z∈compI l↔z∈l
 |[],_=>by simp [compI]
 |[x],_=>by simp [compI]
 |x::y::l,z=>by
  unfold compI
  have ih:=@compI_mem (y::l) z
  by_cases h:x=y
  · subst h;rw [if_pos rfl,ih];simp
  · rw [if_neg h,List.mem_cons,ih,List.mem_cons (a:=z) (b:=x)]
theorem compI_inc:∀ {l:Is},l.Pairwise (fun a b=>a≤b)→Inc (compI l)
 |[],_=> .nil
 |[x],_=>List.pairwise_singleton _ _
 |x::y::l,h=>by
  have h1:=List.pairwise_cons.1 h
  have ih:=compI_inc h1.2
  unfold compI
  by_cases e:x=y
  · rw [if_pos e];exact ih
  · rw [if_neg e]
    refine List.pairwise_cons.2 ⟨fun z hz=>?_,ih⟩
    have hz:=compI_mem.1 hz
    have hxy:=h1.1 y List.mem_cons_self
    have hyz:y≤z:=by
     rcases List.mem_cons.1 hz with rfl|hz
     · omega
     · exact (List.pairwise_cons.1 h1.2).1 z hz
    omega
theorem compI_len:∀ (l:Is),(compI l).length≤l.length
 |[]=>Nat.le_refl _
 |[x]=>Nat.le_refl _
 |x::y::l=>by
  unfold compI
  have:=compI_len (y::l)
  split
  · simp only [List.length_cons] at *;omega
  · simp only [List.length_cons] at *;omega
def unionL (a b:Is):Is:=compI (sortI (a++b))
theorem unionL_inc (a b:Is):Inc (unionL a b):=compI_inc (sortI_sorted _)
theorem unionL_mem {a b:Is} {x:Int}:x∈unionL a b↔x∈a∨x∈b:=by unfold unionL;rw [compI_mem,sortI_mem,List.mem_append]
theorem unionL_uniq {a b c:Is} (h:Inc c) (k:∀ x,x∈c↔x∈a∨x∈b):c=unionL a b:=inc_ext h (unionL_inc a b) fun x=>by rw [k,unionL_mem]
theorem union_sub {a b T:Is}:sub (unionL a b) T↔sub a T∧sub b T:=
 ⟨fun h=>⟨fun x hx=>h x (unionL_mem.2 (.inl hx)),fun x hx=>h x (unionL_mem.2 (.inr hx))⟩,fun h x hx=>(unionL_mem.1 hx).elim (h.1 x) (h.2 x)⟩
def pairsU (A B:List Is):List Is:=A.flatMap fun a=>B.map fun b=>unionL a b
theorem pairsU_mem {A B:List Is} {s:Is}:s∈pairsU A B↔∃ a∈A,∃ b∈B,s=unionL a b:=by
 unfold pairsU
 simp only [List.mem_flatMap,List.mem_map]
 exact ⟨fun ⟨a,ha,b,hb,e⟩=>⟨a,ha,b,hb,e.symm⟩,fun ⟨a,ha,b,hb,e⟩=>⟨a,ha,b,hb,e.symm⟩⟩
theorem pairsU_inc {A B:List Is}:∀ s∈pairsU A B,Inc s:=fun s hs=>by
 obtain ⟨a,_,b,_,rfl⟩:=pairsU_mem.1 hs;exact unionL_inc a b
theorem pairsU_up {A B:List Is} {T:Is}:up (pairsU A B) T↔up A T∧up B T:=by
 constructor
 · rintro ⟨s,hs,k⟩
   obtain ⟨a,ha,b,hb,rfl⟩:=pairsU_mem.1 hs
   exact ⟨⟨a,ha,(union_sub.1 k).1⟩,b,hb,(union_sub.1 k).2⟩
 · rintro ⟨⟨a,ha,k⟩,b,hb,q⟩
   exact ⟨_,pairsU_mem.2 ⟨a,ha,b,hb,rfl⟩,union_sub.2 ⟨k,q⟩⟩
theorem up_append {A B:List Is} {T:Is}:up (A++B) T↔up A T∨up B T:=by
 unfold up
 constructor
 · rintro ⟨s,hs,k⟩
   rcases List.mem_append.1 hs with h|h
   · exact .inl ⟨s,h,k⟩
   · exact .inr ⟨s,h,k⟩
 · rintro (⟨s,hs,k⟩|⟨s,hs,k⟩)
   · exact ⟨s,List.mem_append_left _ hs,k⟩
   · exact ⟨s,List.mem_append_right _ hs,k⟩
theorem up_nil {T:Is}:¬ up [] T:=fun ⟨_,h,_⟩=>by cases h
theorem up_one {s T:Is}:up [s] T↔sub s T:=by unfold up;simp
end Go.Gv
