/- The plain law of reasons: sixteen gates have at most 400 reasons, the cases. -/
import Derived.Test.YtoangeemlcbjlaaGreatDoorQ17c
set_option linter.all false
namespace Go.Gv
open Go Go.Proofs Go.Proofs.YtoangeemlcbjlaaGreatDoor
set_option maxRecDepth 100000
set_option maxHeartbeats 4000000
theorem kind_lt {gs:List Gate} {j:Nat} {x:Int} (h:((List.getD gs j ((0,0,[],()):Gate))).1=x) (hx:x≠0):j<gs.length:=by
 rcases Nat.lt_or_ge j gs.length with q|q
 · exact q
 · rw [List.getD_eq_getElem?_getD,List.getElem?_eq_none q] at h
   exact absurd h.symm hx
theorem is3L {gs:List Gate} {j:Nat} (h:((List.getD gs j ((0,0,[],()):Gate))).1=3):j∈kindL gs is3:=kindL_mem.2 ⟨kind_lt h (by decide),by rw [h];rfl⟩
theorem kindL_nodup (gs:List Gate) (q:Int→Bool):(kindL gs q).Nodup:=List.Pairwise.filter _ List.nodup_range
theorem used_gate {h:List Bool} {gs:List Gate} {c:Nat→Int} {k:Nat} {v:Int} (hu:UsedV h gs c k v):∃ g∈gs,g.1=2∧g.2.1=v:=by
 obtain ⟨j,_,h2,e,_⟩:=hu
 exact ⟨(List.getD gs j ((0,0,[],()):Gate)),getD_mem (kind_lt h2 (by decide)),h2,e⟩
theorem Mk.congr {gs:List Gate} {c d:Nat→Int} {k:Nat} (h:∀ j,((List.getD gs j ((0,0,[],()):Gate))).1=3→c j=d j) {j:Nat} (hj:Mk gs c k j):Mk gs d k j:=by
 induction hj with
 |base=>exact .base
 |plus _ h3 ih=>rw [h _ h3];exact .plus ih h3
 |times _ h4 hi ih=>exact .times ih h4 hi
theorem few_plus {h:List Bool} {gs:List Gate} {k:Nat} (hV:ValidC gs) (hk:k<gs.length) (hl:gs.length≤16):(valR h gs k).length≤16 ^ (kindL gs is3).length:=by
 let PL:=kindL gs is3
 let cw:List Nat→Nat→Int:=fun w j=>((w.getD (PL.idxOf j) 0:Nat):Int)
 refine Nat.le_trans (can_codes (valR_Can hV hk) (wordsN 16 PL.length) (fun w=>setOf gs (UsedV h gs (cw w) k)) fun s hs=>?_) (wordsN_len 16 _)
 obtain ⟨c,hc⟩:=cho_ex (h:=h) hV hk ⟨s,hs,sub_refl s⟩
 have hc':∀ j,j<gs.length→up (valR h gs j) s→((List.getD gs j ((0,0,[],()):Gate))).1=3→(((c j).toNat % 16:Nat):Int)∈((List.getD gs j ((0,0,[],()):Gate))).2.2.1∧up (valR h gs (((c j).toNat % 16:Nat):Int).toNat) s:=fun j hj hu h3=>by
  have h1:=hc j hj hu h3
  have:=kid_in hV hj h1.1
  have e:(((c j).toNat % 16:Nat):Int)=c j:=by rw [Nat.mod_eq_of_lt (by omega)];omega
  rw [e];exact h1
 have H:=cho_of hV hk ⟨s,hs,sub_refl s⟩ (fun j=>(((c j).toNat % 16:Nat):Int)) hc'
 refine ⟨PL.map fun j=>(c j).toNat % 16,?_,?_⟩
 · have:=wordsN_mem (a:=16) (w:=PL.map fun j=>(c j).toNat % 16) fun x hx=>by
    obtain ⟨j,_,rfl⟩:=List.mem_map.1 hx
    exact Nat.mod_lt _ (by omega)
   rwa [List.length_map] at this
 · have hag:∀ j,((List.getD gs j ((0,0,[],()):Gate))).1=3→(((c j).toNat % 16:Nat):Int)=cw (PL.map fun j=>(c j).toNat % 16) j:=fun j h3=>by
    have hm:j∈PL:=is3L h3
    have hi:PL.idxOf j<PL.length:=List.idxOf_lt_length_of_mem hm
    show _=(((PL.map fun j=>(c j).toNat % 16).getD (PL.idxOf j) 0:Nat):Int)
    rw [List.getD_eq_getElem?_getD,List.getElem?_map,List.getElem?_eq_getElem hi,List.getElem_idxOf]
    rfl
   refine set_is ((valR_Can hV hk).inc s hs) (fun v=>?_) fun v=>used_gate
   rw [cho_vars hV hk hs H v]
   exact ⟨fun ⟨j,a,b⟩=>⟨j,a.congr hag,b⟩,fun ⟨j,a,b⟩=>⟨j,a.congr fun i q=>(hag i q).symm,b⟩⟩
inductive Ck (gs:List Gate) (Y:List Nat) (k:Nat):Nat→Prop
 |base:Ck gs Y k k
 |tgt {j:Nat} (h:j∈Y):Ck gs Y k j
 |times {j:Nat} {i:Int} (h:Ck gs Y k j) (h4:((List.getD gs j ((0,0,[],()):Gate))).1=4) (hi:i∈((List.getD gs j ((0,0,[],()):Gate))).2.2.1):Ck gs Y k i.toNat
noncomputable def decY (h:List Bool) (gs:List Gate) (k:Nat) (Y:List Nat):Is:=setOf gs fun v=>∃ j,Ck gs Y k j∧((List.getD gs j ((0,0,[],()):Gate))).1=2∧((List.getD gs j ((0,0,[],()):Gate))).2.1=v∧¬ hadB h v=true
theorem Ck.mono {gs:List Gate} {Y Z:List Nat} {k:Nat} (h:∀ j∈Y,j∈Z) {j:Nat} (hj:Ck gs Y k j):Ck gs Z k j:=by
 induction hj with
 |base=>exact .base
 |tgt hj=>exact .tgt (h _ hj)
 |times _ h4 hi ih=>exact .times ih h4 hi
theorem decY_congr {h:List Bool} {gs:List Gate} {k:Nat} {Y Z:List Nat} (e:∀ j,j∈Y↔j∈Z):decY h gs k Y=decY h gs k Z:=by
 unfold decY
 congr 1
 funext v
 exact propext ⟨fun ⟨j,a,b⟩=>⟨j,a.mono fun i hi=>(e i).1 hi,b⟩,fun ⟨j,a,b⟩=>⟨j,a.mono fun i hi=>(e i).2 hi,b⟩⟩
def Tgt (gs:List Gate) (c:Nat→Int) (k j:Nat):Prop:=∃ p,Mk gs c k p∧((List.getD gs p ((0,0,[],()):Gate))).1=3∧(c p).toNat=j
noncomputable def tgts (gs:List Gate) (c:Nat→Int) (k:Nat):List Nat:=(kindL gs is24).filter fun j=>boolOf (Tgt gs c k j)
theorem is24_iff {x:Int}:is24 x=true↔x=2∨x=4:=by unfold is24;simp
theorem tgts_mem {gs:List Gate} {c:Nat→Int} {k j:Nat}:j∈tgts gs c k↔(j<gs.length∧(((List.getD gs j ((0,0,[],()):Gate))).1=2∨((List.getD gs j ((0,0,[],()):Gate))).1=4))∧Tgt gs c k j:=by
 unfold tgts;rw [List.mem_filter,kindL_mem,boolOf_true,is24_iff]
theorem cho_dec {h:List Bool} {gs:List Gate} {k:Nat} {s:Is} {c:Nat→Int} (hV:ValidC gs) (hk:k<gs.length) (hs:s∈valR h gs k) (H:Cho h gs k s c):s=decY h gs k (tgts gs c k):=by
 refine set_is ((valR_Can hV hk).inc s hs) (fun v=>?_) fun v ⟨j,_,h2,e,_⟩=>⟨(List.getD gs j ((0,0,[],()):Gate)),getD_mem (kind_lt h2 (by decide)),h2,e⟩
 rw [cho_vars hV hk hs H v]
 have fw:∀ j,Mk gs c k j→(((List.getD gs j ((0,0,[],()):Gate))).1=2∨((List.getD gs j ((0,0,[],()):Gate))).1=4)→Ck gs (tgts gs c k) k j:=fun j hj=>by
  induction hj with
  |base=>exact fun _=> .base
  |plus hp h3 ih=>
   intro hq
   refine .tgt (tgts_mem.2 ⟨⟨?_,hq⟩,_,hp,h3,rfl⟩)
   rcases hq with q|q
   · exact kind_lt q (by decide)
   · exact kind_lt q (by decide)
  |times hp h4 hi ih=>exact fun _=> .times (ih (.inr h4)) h4 hi
 have bw:∀ j,Ck gs (tgts gs c k) k j→Mk gs c k j:=fun j hj=>by
  induction hj with
  |base=>exact .base
  |tgt hj=>obtain ⟨_,p,hp,h3,rfl⟩:=tgts_mem.1 hj;exact .plus hp h3
  |times _ h4 hi ih=>exact .times ih h4 hi
 exact ⟨fun ⟨j,a,h2,b⟩=>⟨j,fw j a (.inl h2),h2,b⟩,fun ⟨j,a,b⟩=>⟨j,bw j a,b⟩⟩
theorem tgts_nodup (gs:List Gate) (c:Nat→Int) (k:Nat):(tgts gs c k).Nodup:=List.Pairwise.filter _ (kindL_nodup gs is24)
theorem tgts_len {gs:List Gate} {c:Nat→Int} {k:Nat}:(tgts gs c k).length≤(kindL gs is3).length:=by
 have:=nodup_len (tgts_nodup gs c k) (b:=(kindL gs is3).map fun p=>(c p).toNat) fun j hj=>by
  obtain ⟨_,p,hp,h3,e⟩:=tgts_mem.1 hj
  exact List.mem_map.2 ⟨p,is3L h3,e⟩
 rwa [List.length_map] at this
theorem few_tgt {h:List Bool} {gs:List Gate} {k:Nat} (hV:ValidC gs) (hk:k<gs.length):(valR h gs k).length≤cntK ((kindL gs is2).length+(kindL gs is4).length) (kindL gs is3).length:=by
 have hu:(kindL gs is24).length=(kindL gs is2).length+(kindL gs is4).length:=two_eq (f:=fun j=>((List.getD gs j ((0,0,[],()):Gate))).1) _
 rw [← hu,← subsK_len]
 refine can_codes (valR_Can hV hk) _ (decY h gs k) fun s hs=>?_
 obtain ⟨c,hc⟩:=cho_ex (h:=h) hV hk ⟨s,hs,sub_refl s⟩
 exact ⟨_,subsK_mem List.filter_sublist tgts_len,cho_dec hV hk hs (cho_of hV hk ⟨s,hs,sub_refl s⟩ c hc)⟩
theorem down {h:List Bool} {gs:List Gate} (hV:ValidC gs):∀ n k,k<n→k<gs.length→∀ s∈valR h gs k,∃ j,j<gs.length∧((List.getD gs j ((0,0,[],()):Gate))).1≠3∧s∈valR h gs j
 |0,k,hn,_,_,_=>by omega
 |n+1,k,hn,hk,s,hs=>by
  by_cases h3:((List.getD gs k ((0,0,[],()):Gate))).1=3
  · rw [valR_plus hV hk h3] at hs
    have hcan:∀ L∈(((List.getD gs k ((0,0,[],()):Gate))).2.2.1.map fun j=>valR h gs j.toNat),Can L:=fun L hL=>by
     obtain ⟨j,hj,rfl⟩:=List.mem_map.1 hL
     have:=kid_in hV hk hj
     exact valR_Can hV (by omega)
    obtain ⟨L,hL,hs⟩:=List.mem_flatten.1 (mins_mem (flat_inc hcan) hs)
    obtain ⟨j,hj,rfl⟩:=List.mem_map.1 hL
    have:=kid_in hV hk hj
    exact down hV n _ (by omega) (by omega) s hs
  · exact ⟨k,hk,h3,hs⟩
theorem leaf_mem {h:List Bool} {gs:List Gate} {j:Nat} (hV:ValidC gs) (hj:j<gs.length) (h3:((List.getD gs j ((0,0,[],()):Gate))).1≠3) (h4:((List.getD gs j ((0,0,[],()):Gate))).1≠4) {s:Is} (hs:s∈valR h gs j):s=[]∨∃ i∈kindL gs is2,s=[(gs.getD i ((0,0,[],()):Gate)).2.1]:=by
 have hi:¬ inner ((List.getD gs j ((0,0,[],()):Gate))).1:=fun q=>q.elim h3 h4
 rw [valR_leaf hi] at hs
 split at hs
 · exact .inl (List.mem_singleton.1 hs)
 · split at hs
   · rename_i h2
     unfold varR at hs
     split at hs
     · exact .inl (List.mem_singleton.1 hs)
     · exact .inr ⟨j,kindL_mem.2 ⟨hj,by rw [h2];rfl⟩,List.mem_singleton.1 hs⟩
   · cases hs
theorem no_times {h:List Bool} {gs:List Gate} {k:Nat} (hV:ValidC gs) (hk:k<gs.length) (hl:gs.length≤16) (h4:(kindL gs is4).length=0):(valR h gs k).length≤17:=by
 have:=nodup_len (can_nodup (valR_Can (h:=h) hV hk)) (b:=[]::(kindL gs is2).map fun i=>[(gs.getD i ((0,0,[],()):Gate)).2.1]) fun s hs=>by
  obtain ⟨j,hj,h3,hs⟩:=down hV (k+1) k (Nat.lt_succ_self k) hk s hs
  have h4':((List.getD gs j ((0,0,[],()):Gate))).1≠4:=fun e=>by
   have:j∈kindL gs is4:=kindL_mem.2 ⟨hj,by rw [e];rfl⟩
   have:=List.length_pos_of_mem this
   omega
  rcases leaf_mem hV hj h3 h4' hs with e|⟨i,hi,e⟩
  · rw [e];exact List.mem_cons_self
  · rw [e];exact List.mem_cons_of_mem _ (List.mem_map.2 ⟨i,hi,rfl⟩)
 rw [List.length_cons,List.length_map] at this
 have h2:=List.length_filter_le (fun j=>is2 ((List.getD gs j ((0,0,[],()):Gate))).1) (List.range gs.length)
 rw [List.length_range] at h2
 have:(kindL gs is2).length≤16:=Nat.le_trans h2 hl
 omega
def chain3 (x y z:Bool):Nat:=if x=true then (if y=true then 0 else if z=true then 2 else 0) else if y=true then (if z=true then 1 else 1) else if z=true then 2 else 0
theorem chain3_cmp:∀ x y z x' y' z':Bool,chain3 x y z=chain3 x' y' z'→((x=true→x'=true)∧(y=true→y'=true)∧(z=true→z'=true))∨((x'=true→x=true)∧(y'=true→y=true)∧(z'=true→z=true)):=by decide
theorem chain3_lt:∀ x y z:Bool,chain3 x y z<3:=by decide
theorem few_vars {L:List Is} {W:Is} (hL:Can L) (hs:∀ s∈L,∀ x∈s,x∈W) (hw:W.length≤10):L.length≤400:=by
 have small:W.length≤8→L.length≤400:=fun h8=>by
  have h1:=nodup_len (a:=L.map fun s=>W.filter fun x=>decide (x∈s)) (b:=subsK W 8) (by
   refine List.pairwise_map.2 (hL.ord.imp_of_mem fun {a b} ha hb hab e=>?_)
   have:a=b:=sub_anti (hL.inc a ha) (hL.inc b hb) (fun x hx=>by
    have:=(List.mem_filter (p:=fun x=>decide (x∈a))).2 ⟨hs a ha x hx,decide_eq_true hx⟩
    rw [e] at this
    exact of_decide_eq_true (List.mem_filter.1 this).2) (fun x hx=>by
    have:=(List.mem_filter (p:=fun x=>decide (x∈b))).2 ⟨hs b hb x hx,decide_eq_true hx⟩
    rw [← e] at this
    exact of_decide_eq_true (List.mem_filter.1 this).2)
   exact bef_irr b (this ▸ hab)) fun r hr=>by
    obtain ⟨s,_,rfl⟩:=List.mem_map.1 hr
    exact subsK_mem List.filter_sublist (Nat.le_trans (List.length_filter_le _ _) h8)
  rw [List.length_map,subsK_len] at h1
  have:=cntK_mono (n:=8) h8
  have e:cntK 8 8=256:=by decide
  omega
 match W,hs,hw,small with
 |[],_,_,small=>exact small (by simp)
 |[_],_,_,small=>exact small (by simp)
 |[_,_],_,_,small=>exact small (by simp)
 |a::b::c::R,hs,hw,_=>
  simp only [List.length_cons] at hw
  let code:Is→Nat × Is:=fun s=>(chain3 (decide (a∈s)) (decide (b∈s)) (decide (c∈s)),R.filter fun x=>decide (x∈s))
  have h1:=nodup_len (a:=L.map code) (b:=(List.range 3).flatMap fun i=>(subsK R 7).map fun r=>(i,r)) (by
   refine List.pairwise_map.2 (hL.ord.imp_of_mem fun {s t} hs1 ht hst e=>?_)
   have e1:chain3 (decide (a∈s)) (decide (b∈s)) (decide (c∈s))=chain3 (decide (a∈t)) (decide (b∈t)) (decide (c∈t)):=congrArg Prod.fst e
   have e2:(R.filter fun x=>decide (x∈s))=R.filter fun x=>decide (x∈t):=congrArg Prod.snd e
   have hR:∀ x∈R,x∈s↔x∈t:=fun x hx=>⟨fun q=>by
    have:=(List.mem_filter (p:=fun x=>decide (x∈s))).2 ⟨hx,decide_eq_true q⟩
    rw [e2] at this
    exact of_decide_eq_true (List.mem_filter.1 this).2,fun q=>by
    have:=(List.mem_filter (p:=fun x=>decide (x∈t))).2 ⟨hx,decide_eq_true q⟩
    rw [← e2] at this
    exact of_decide_eq_true (List.mem_filter.1 this).2⟩
   have go:∀ {s t:Is},s∈L→(∀ x∈R,x∈s↔x∈t)→(decide (a∈s)=true→decide (a∈t)=true)∧(decide (b∈s)=true→decide (b∈t)=true)∧(decide (c∈s)=true→decide (c∈t)=true)→sub s t:=fun {s t} hsl hR ⟨q1,q2,q3⟩ x hx=>by
    rcases List.mem_cons.1 (hs s hsl x hx) with rfl|h
    · exact of_decide_eq_true (q1 (decide_eq_true hx))
    · rcases List.mem_cons.1 h with rfl|h
      · exact of_decide_eq_true (q2 (decide_eq_true hx))
      · rcases List.mem_cons.1 h with rfl|h
        · exact of_decide_eq_true (q3 (decide_eq_true hx))
        · exact (hR x h).1 hx
   rcases chain3_cmp _ _ _ _ _ _ e1 with q|q
   · have:=hL.anti s hs1 t ht (go hs1 hR q)
     exact bef_irr t (this ▸ hst)
   · have:=hL.anti t ht s hs1 (go ht (fun x hx=>(hR x hx).symm) q)
     exact bef_irr t (this ▸ hst)) fun r hr=>by
     obtain ⟨s,_,rfl⟩:=List.mem_map.1 hr
     exact List.mem_flatMap.2 ⟨_,List.mem_range.2 (chain3_lt _ _ _),List.mem_map.2 ⟨_,subsK_mem List.filter_sublist (Nat.le_trans (List.length_filter_le _ _) (by omega)),rfl⟩⟩
  have h2:=flatMap_len (f:=fun i=>(subsK R 7).map fun r=>(i,r)) (m:=cntK R.length 7) (List.range 3) fun i _=>by rw [List.length_map,subsK_len];exact Nat.le_refl _
  rw [List.length_map] at h1
  rw [List.length_range] at h2
  have h3:=cntK_mono (n:=7) (show R.length≤7 by omega)
  have e:cntK 7 7=128:=by decide
  rw [e] at h3
  have h4:3 * cntK R.length 7≤3 * 128:=Nat.mul_le_mul_left 3 h3
  exact Nat.le_trans h1 (Nat.le_trans h2 (by omega))
end Go.Gv
