/- The plain law of reasons: how large the search's lists grow; how the reference puts sets in. -/
import Derived.Test.YtoangeemlcbjlaaGreatDoorQ17e
import Derived.Test.YtoangeemlcbjlaaGreatDoorQ17f
set_option linter.all false
namespace Go.Gv
open Go Go.Proofs Go.Proofs.YtoangeemlcbjlaaGreatDoor
set_option maxRecDepth 100000
set_option maxHeartbeats 4000000
def varW (gs:List Gate):Is:=compI (sortI ((gs.filter fun g=>is2 g.1).map fun g=>g.2.1))
theorem varW_inc (gs:List Gate):Inc (varW gs):=compI_inc (sortI_sorted _)
theorem varW_mem {gs:List Gate} {v:Int}:v∈varW gs↔∃ g∈gs,g.1=2∧g.2.1=v:=by
 unfold varW
 rw [compI_mem,sortI_mem,List.mem_map]
 constructor
 · rintro ⟨g,hg,e⟩
   have hg:=List.mem_filter.1 hg
   exact ⟨g,hg.1,by simpa [is2] using hg.2,e⟩
 · rintro ⟨g,hg,h2,e⟩
   exact ⟨g,List.mem_filter.2 ⟨hg,by simpa [is2] using h2⟩,e⟩
theorem varW_len (gs:List Gate):(varW gs).length≤gs.length:=by
 unfold varW
 refine Nat.le_trans (compI_len _) ?_
 rw [sortI_len,List.length_map]
 exact List.length_filter_le _ _
def SetOK (gs:List Gate) (s:Is):Prop:=Inc s∧∀ x∈s,x∈varW gs
def BE (gs:List Gate) (l:List Is):Prop:=∀ s∈l,SetOK gs s
def BS (gs:List Gate) (l:List Is):Prop:=BE gs l∧l.length≤65536
def BM (gs:List Gate) (m:KM):Prop:=∀ i l,kget m i=some l→BS gs l
theorem SetOK.len {gs:List Gate} {s:Is} (h:SetOK gs s):s.length≤gs.length:=Nat.le_trans (sub_len h.1 h.2) (varW_len gs)
theorem BE.inc {gs:List Gate} {l:List Is} (h:BE gs l):∀ s∈l,Inc s:=fun s hs=>(h s hs).1
theorem BE.nil (gs:List Gate):BE gs []:=fun s hs=>by cases hs
theorem BS.nil (gs:List Gate):BS gs []:=⟨BE.nil gs,by simp⟩
theorem BS.empty (gs:List Gate):BS gs [[]]:=⟨fun s hs=>by rw [List.mem_singleton.1 hs];exact ⟨inc_nil,fun x hx=>by cases hx⟩,by simp⟩
theorem BE.append {gs:List Gate} {l m:List Is} (h:BE gs l) (k:BE gs m):BE gs (l++m):=fun s hs=>(List.mem_append.1 hs).elim (h s) (k s)
theorem BE.pairs {gs:List Gate} {l m:List Is} (h:BE gs l) (k:BE gs m):BE gs (pairsU l m):=fun s hs=>by
 obtain ⟨a,ha,b,hb,rfl⟩:=pairsU_mem.1 hs
 exact ⟨unionL_inc a b,fun x hx=>(unionL_mem.1 hx).elim ((h a ha).2 x) ((k b hb).2 x)⟩
theorem BE.mins {gs:List Gate} {l:List Is} (h:BE gs l) (hl:gs.length≤16):BS gs (mins l):=by
 refine ⟨fun s hs=>h s (mins_mem h.inc hs),?_⟩
 have h1:=nodup_len (can_nodup (mins_can h.inc)) (b:=subsK (varW gs) 16) fun s hs=>by
  have hs:=h s (mins_mem h.inc hs)
  have:s=(varW gs).filter fun x=>decide (x∈s):=inc_ext hs.1 ((varW_inc gs).filter _) fun x=>by
   rw [List.mem_filter,decide_eq_true_eq]
   exact ⟨fun hx=>⟨hs.2 x hx,hx⟩,fun hx=>hx.2⟩
  rw [this]
  exact subsK_mem List.filter_sublist (Nat.le_trans (List.length_filter_le _ _) (Nat.le_trans (varW_len gs) hl))
 rw [subsK_len] at h1
 have h2:=cntK_mono (n:=16) (Nat.le_trans (varW_len gs) hl)
 have e:cntK 16 16=65536:=by decide
 omega
theorem pairsU_len (A B:List Is):(pairsU A B).length=A.length * B.length:=by
 unfold pairsU
 induction A with
 |nil=>simp
 |cons a A ih=>rw [List.flatMap_cons,List.length_append,List.length_map,ih,List.length_cons,Nat.succ_mul];omega
theorem foldP_bs {gs:List Gate} {W:KM→Bool→Int→WSt}:∀ (ks:List Int) (a:List Is) (m:KM) (b:Bool),BE gs a→BM gs m→(∀ j∈ks,∀ m b,BM gs m→BS gs (W m b j).1∧BM gs (W m b j).2.1)→BE gs (foldW W (fun a l=>a++l) (a,m,b) ks).1∧(foldW W (fun a l=>a++l) (a,m,b) ks).1.length≤a.length+65536 * ks.length∧BM gs (foldW W (fun a l=>a++l) (a,m,b) ks).2.1
 |[],a,m,b,ha,hm,_=>⟨ha,by simp [foldW],hm⟩
 |j::ks,a,m,b,ha,hm,hW=>by
  obtain ⟨h1,h2⟩:=hW j List.mem_cons_self m b hm
  obtain ⟨k1,k2,k3⟩:=foldP_bs ks (a++(W m b j).1) (W m b j).2.1 (W m b j).2.2 (ha.append h1.1) h2 fun j hj=>hW j (List.mem_cons_of_mem _ hj)
  refine ⟨k1,?_,k3⟩
  have h3:=h1.2
  rw [List.length_append] at k2
  have e:(foldW W (fun a l=>a++l) (a,m,b) (j::ks))=foldW W (fun a l=>a++l) (a++(W m b j).1,(W m b j).2.1,(W m b j).2.2) ks:=rfl
  rw [e,List.length_cons];omega
theorem foldT_bs {gs:List Gate} (hl:gs.length≤16) {W:KM→Bool→Int→WSt}:∀ (ks:List Int) (a:List Is) (m:KM) (b:Bool),BS gs a→BM gs m→(∀ j∈ks,∀ m b,BM gs m→BS gs (W m b j).1∧BM gs (W m b j).2.1)→BS gs (foldW W (fun a l=>mins (pairsU a l)) (a,m,b) ks).1∧BM gs (foldW W (fun a l=>mins (pairsU a l)) (a,m,b) ks).2.1
 |[],a,m,b,ha,hm,_=>⟨ha,hm⟩
 |j::ks,a,m,b,ha,hm,hW=>by
  obtain ⟨h1,h2⟩:=hW j List.mem_cons_self m b hm
  exact foldT_bs hl ks (mins (pairsU a (W m b j).1)) (W m b j).2.1 (W m b j).2.2 ((ha.1.pairs h1.1).mins hl) h2 fun j hj=>hW j (List.mem_cons_of_mem _ hj)
theorem endW_bs {gs:List Gate} {i:Int} {r:WSt} (h:BS gs r.1) (k:BM gs r.2.1):BS gs (endW i r).1∧BM gs (endW i r).2.1:=by
 refine ⟨h,fun j l hl=>?_⟩
 have hl:kget (kput r.2.1 i r.1) j=some l:=hl
 rw [kget_put] at hl
 split at hl
 · cases hl;exact h
 · exact k j l hl
theorem varP_bs {gs:List Gate} {h:List Bool} {k:Nat} (h2:((List.getD gs k ((0,0,[],()):Gate))).1=2):BS gs (varP h ((List.getD gs k ((0,0,[],()):Gate))).2.1):=by
 unfold varP
 split
 · exact BS.empty gs
 · refine ⟨fun s hs=>?_,by simp⟩
   rw [List.mem_singleton.1 hs]
   refine ⟨inc_one _,fun x hx=>?_⟩
   rw [List.mem_singleton.1 hx]
   exact varW_mem.2 ⟨(List.getD gs k ((0,0,[],()):Gate)),getD_mem (kind_lt h2 (by decide)),h2,rfl⟩
theorem whyF_bs {h:List Bool} {gs:List Gate} (hl:gs.length≤16):∀ (n:Nat) (m:KM) (b:Bool) (i:Int),BM gs m→BS gs (whyF h gs n m b i).1∧BM gs (whyF h gs n m b i).2.1
 |0,m,b,i,hm=>⟨BS.nil gs,hm⟩
 |n+1,m,b,i,hm=>by
  unfold whyF
  split
  · refine ⟨?_,hm⟩
    show BS gs ((kget m i).getD [])
    cases e:kget m i with
    |none=>exact BS.nil gs
    |some l=>exact hm i l e
  · have hk:∀ j∈((List.getD gs (Int.toNat i) ((0,0,[],()):Gate))).2.2.1,∀ m b,BM gs m→BS gs (whyF h gs n m b j).1∧BM gs (whyF h gs n m b j).2.1:=fun j _ m b hm=>whyF_bs hl n m b j hm
    refine (fun q:BS gs (bodyW h (whyF h gs n) m b ((List.getD gs (Int.toNat i) ((0,0,[],()):Gate)))).1∧BM gs (bodyW h (whyF h gs n) m b ((List.getD gs (Int.toNat i) ((0,0,[],()):Gate)))).2.1=>endW_bs q.1 q.2) ?_
    unfold bodyW
    split
    · exact ⟨BS.empty gs,hm⟩
    · split
      · rename_i h2;exact ⟨varP_bs h2,hm⟩
      · split
        · obtain ⟨k1,k2,k3⟩:=foldP_bs ((List.getD gs (Int.toNat i) ((0,0,[],()):Gate))).2.2.1 [] m b (BE.nil gs) hm hk
          exact ⟨k1.mins hl,k3⟩
        · split
          · exact foldT_bs hl ((List.getD gs (Int.toNat i) ((0,0,[],()):Gate))).2.2.1 [[]] m b (BS.empty gs) hm hk
          · exact ⟨BS.nil gs,hm⟩
instance (a b:Is):Decidable (bef a b):=inferInstanceAs (Decidable (ordL a b<0))
def putL (s:Is):List Is→Bool→List Is
 |[],d=>if d=true then [] else [s]
 |t::r,d=>if sub s t then putL s r d else if d=false∧bef s t then s::t::putL s r true else t::putL s r d
theorem putL_mem {s:Is}:∀ {l:List Is} {d:Bool} {t:Is},t∈putL s l d↔(t∈l∧¬ sub s t)∨(d=false∧t=s)
 |[],d,t=>by
  unfold putL
  cases d<;>simp
 |u::r,d,t=>by
  unfold putL
  have ih:=fun d=>@putL_mem s r d t
  by_cases h:sub s u
  · rw [if_pos h,ih]
    simp only [List.mem_cons]
    constructor
    · rintro (⟨a,b⟩|c)
      · exact .inl ⟨.inr a,b⟩
      · exact .inr c
    · rintro (⟨a|a,b⟩|c)
      · subst a;exact absurd h b
      · exact .inl ⟨a,b⟩
      · exact .inr c
  · rw [if_neg h]
    by_cases hd:d=false∧bef s u
    · rw [if_pos hd,List.mem_cons,List.mem_cons,ih,List.mem_cons]
      constructor
      · rintro (rfl|rfl|⟨a,b⟩|⟨a,_⟩)
        · exact .inr ⟨hd.1,rfl⟩
        · exact .inl ⟨.inl rfl,h⟩
        · exact .inl ⟨.inr a,b⟩
        · cases a
      · rintro (⟨a|a,b⟩|⟨_,a⟩)
        · exact .inr (.inl a)
        · exact .inr (.inr (.inl ⟨a,b⟩))
        · exact .inl a
    · rw [if_neg hd,List.mem_cons,ih,List.mem_cons]
      constructor
      · rintro (rfl|⟨a,b⟩|c)
        · exact .inl ⟨.inl rfl,h⟩
        · exact .inl ⟨.inr a,b⟩
        · exact .inr c
      · rintro (⟨a|a,b⟩|c)
        · exact .inl a
        · exact .inr (.inl ⟨a,b⟩)
        · exact .inr (.inr c)
theorem putL_ord {s:Is}:∀ {l:List Is} {d:Bool},l.Pairwise bef→(∀ t∈l,t≠s)→(putL s l d).Pairwise bef
 |[],d,_,_=>by unfold putL;split;exact .nil;exact List.pairwise_singleton _ _
 |u::r,d,h,hne=>by
  have h1:=List.pairwise_cons.1 h
  have hr:∀ t∈r,t≠s:=fun t ht=>hne t (List.mem_cons_of_mem _ ht)
  unfold putL
  by_cases hs:sub s u
  · rw [if_pos hs];exact putL_ord h1.2 hr
  · rw [if_neg hs]
    by_cases hd:d=false∧bef s u
    · rw [if_pos hd]
      refine List.pairwise_cons.2 ⟨fun t ht=>?_,List.pairwise_cons.2 ⟨fun t ht=>?_,putL_ord h1.2 hr⟩⟩
      · rcases List.mem_cons.1 ht with rfl|ht
        · exact hd.2
        · rcases putL_mem.1 ht with ⟨a,_⟩|⟨a,_⟩
          · exact bef_trans hd.2 (h1.1 t a)
          · cases a
      · rcases putL_mem.1 ht with ⟨a,_⟩|⟨a,_⟩
        · exact h1.1 t a
        · cases a
    · rw [if_neg hd]
      refine List.pairwise_cons.2 ⟨fun t ht=>?_,putL_ord h1.2 hr⟩
      rcases putL_mem.1 ht with ⟨a,_⟩|⟨a,rfl⟩
      · exact h1.1 t a
      · rcases bef_tri u t with q|q|q
        · exact q
        · exact absurd q (hne u List.mem_cons_self)
        · exact absurd ⟨a,q⟩ hd
def putV (l:List Is) (s:Is):List Is:=mins (l++[s])
theorem snoc_inc {l:List Is} {s:Is} (h:∀ t∈l,Inc t) (hs:Inc s):∀ t∈l++[s],Inc t:=fun t ht=>by
 rcases List.mem_append.1 ht with ht|ht
 · exact h t ht
 · rw [List.mem_singleton.1 ht];exact hs
theorem putV_in {l:List Is} {s:Is} (hl:Can l) (hs:Inc s) {t:Is} (ht:t∈l) (hts:sub t s):putV l s=l:=by
 refine (mins_can (snoc_inc hl.inc hs)).uniq hl fun T _=>?_
 rw [mins_up (snoc_inc hl.inc hs),up_append,up_one]
 exact ⟨fun q=>q.elim id fun q=>⟨t,ht,sub_trans hts q⟩, .inl⟩
theorem putV_new {l:List Is} {s:Is} (hl:Can l) (hs:Inc s) (hn:∀ t∈l,¬ sub t s):putV l s=putL s l false:=by
 have hne:∀ t∈l,t≠s:=fun t ht e=>hn t ht (by rw [e];exact sub_refl s)
 refine (mins_can (snoc_inc hl.inc hs)).uniq ⟨fun t ht=>?_,putL_ord hl.ord hne,fun a ha b hb hab=>?_⟩ fun T _=>?_
 · rcases putL_mem.1 ht with ⟨a,_⟩|⟨_,rfl⟩
   · exact hl.inc t a
   · exact hs
 · rcases putL_mem.1 ha with ⟨ha1,qa⟩|⟨_,ea⟩
   · rcases putL_mem.1 hb with ⟨hb1,_⟩|⟨_,eb⟩
     · exact hl.anti a ha1 b hb1 hab
     · rw [eb] at hab;exact absurd hab (hn a ha1)
   · rcases putL_mem.1 hb with ⟨hb1,qb⟩|⟨_,eb⟩
     · rw [ea] at hab;exact absurd hab qb
     · rw [ea,eb]
 · rw [mins_up (snoc_inc hl.inc hs),up_append,up_one]
   constructor
   · rintro (⟨t,ht,q⟩|q)
     · by_cases k:sub s t
       · exact ⟨s,putL_mem.2 (.inr ⟨rfl,rfl⟩),sub_trans k q⟩
       · exact ⟨t,putL_mem.2 (.inl ⟨ht,k⟩),q⟩
     · exact ⟨s,putL_mem.2 (.inr ⟨rfl,rfl⟩),q⟩
   · rintro ⟨t,ht,q⟩
     rcases putL_mem.1 ht with ⟨ht,_⟩|⟨_,rfl⟩
     · exact .inl ⟨t,ht,q⟩
     · exact .inr q
theorem putV_mins {l:List Is} {s:Is} (hl:∀ t∈l,Inc t) (hs:Inc s):putV (mins l) s=mins (l++[s]):=by
 refine mins_congr (snoc_inc (mins_can hl).inc hs) (snoc_inc hl hs) fun T _=>?_
 rw [up_append,up_append,mins_up hl]
theorem mins_nil:mins []=[]:=List.length_eq_zero_iff.1 (by have:=@mins_len [];simpa using this)
end Go.Gv
