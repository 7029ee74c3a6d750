/- The plain law of reasons: sixteen gates have at most 400 reasons. -/
import Derived.Test.YtoangeemlcbjlaaGreatDoorQ17d
set_option linter.all false
namespace Go.Gv
open Go Go.Proofs Go.Proofs.YtoangeemlcbjlaaGreatDoor
set_option maxRecDepth 100000
set_option maxHeartbeats 4000000
theorem four_le {a b c d:Nat} (h:a+b+c+d≤11):a * b * c * d≤56:=by
 have key:∀ x y:Nat,4 * (x * y)≤(x+y) * (x+y):=fun x y=>by
  rcases Nat.le_total x y with h|h
  · obtain ⟨e,rfl⟩:=Nat.exists_eq_add_of_le h
    simp only [Nat.mul_add,Nat.add_mul,Nat.mul_comm e x];omega
  · obtain ⟨e,rfl⟩:=Nat.exists_eq_add_of_le h
    simp only [Nat.mul_add,Nat.add_mul,Nat.mul_comm e y];omega
 have h1:=key a b
 have h2:=key c d
 have h3:=key (a+b) (c+d)
 have h4:(a+b+(c+d)) * (a+b+(c+d))≤11 * 11:=Nat.mul_le_mul (by omega) (by omega)
 have h5:(a+b) * (c+d)≤30:=by omega
 have h6:4 * (a * b) * (4 * (c * d))≤(a+b) * (a+b) * ((c+d) * (c+d)):=Nat.mul_le_mul h1 h2
 have h7:(a+b) * (a+b) * ((c+d) * (c+d))=((a+b) * (c+d)) * ((a+b) * (c+d)):=by
  rw [Nat.mul_mul_mul_comm]
 have h8:((a+b) * (c+d)) * ((a+b) * (c+d))≤30 * 30:=Nat.mul_le_mul h5 h5
 have h9:4 * (a * b) * (4 * (c * d))=16 * (a * b * c * d):=by
  rw [Nat.mul_mul_mul_comm,← Nat.mul_assoc (a * b) c d]
 omega
def alone (gs:List Gate) (p:Nat):List Nat:=(kindL gs is2).filter fun v=>decide ((v:Int)∈((List.getD gs p ((0,0,[],()):Gate))).2.2.1) && (kindL gs is3).all fun q=>decide (q=p)||decide ((v:Int) ∉ (gs.getD q ((0,0,[],()):Gate)).2.2.1)
theorem alone_mem {gs:List Gate} {p v:Nat}:v∈alone gs p↔v∈kindL gs is2∧(v:Int)∈((List.getD gs p ((0,0,[],()):Gate))).2.2.1∧∀ q∈kindL gs is3,q≠p→(v:Int) ∉ (gs.getD q ((0,0,[],()):Gate)).2.2.1:=by
 unfold alone
 rw [List.mem_filter,Bool.and_eq_true,decide_eq_true_eq,List.all_eq_true]
 constructor
 · rintro ⟨a,b,d⟩
   refine ⟨a,b,fun q hq hne=>?_⟩
   have:=d q hq
   rw [Bool.or_eq_true,decide_eq_true_eq,decide_eq_true_eq] at this
   exact this.resolve_left hne
 · rintro ⟨a,b,d⟩
   refine ⟨a,b,fun q hq=>?_⟩
   rw [Bool.or_eq_true,decide_eq_true_eq,decide_eq_true_eq]
   by_cases e:q=p
   · exact .inl e
   · exact .inr (d q hq e)
def quads (A B C D:List Nat):List (List Nat):=A.flatMap fun a=>B.flatMap fun b=>C.flatMap fun c=>D.map fun d=>[a,b,c,d]
theorem quads_mem {A B C D:List Nat} {a b c d:Nat} (ha:a∈A) (hb:b∈B) (hc:c∈C) (hd:d∈D):[a,b,c,d]∈quads A B C D:=
 List.mem_flatMap.2 ⟨a,ha,List.mem_flatMap.2 ⟨b,hb,List.mem_flatMap.2 ⟨c,hc,List.mem_map.2 ⟨d,hd,rfl⟩⟩⟩⟩
theorem quads_len {A B C D:List Nat}:(quads A B C D).length≤A.length * B.length * C.length * D.length:=by
 have h1:=flatMap_len (f:=fun a=>B.flatMap fun b=>C.flatMap fun c=>D.map fun d=>[a,b,c,d]) (m:=B.length * (C.length * D.length)) A fun a _=>
  flatMap_len (f:=fun b=>C.flatMap fun c=>D.map fun d=>[a,b,c,d]) (m:=C.length * D.length) B fun b _=>
   flatMap_len (f:=fun c=>D.map fun d=>[a,b,c,d]) (m:=D.length) C fun c _=>by rw [List.length_map];exact Nat.le_refl _
 unfold quads
 rw [Nat.mul_assoc (A.length * B.length),Nat.mul_assoc A.length]
 exact h1
theorem one_times {h:List Bool} {gs:List Gate} {k p1 p2 p3 p4:Nat} (hV:ValidC gs) (hk:k<gs.length) (hn:(kindL gs is2).length≤11) (h4:∀ j,((List.getD gs j ((0,0,[],()):Gate))).1=4→j=k) (hp:kindL gs is3=[p1,p2,p3,p4]) (hk4:((List.getD gs k ((0,0,[],()):Gate))).1=4):(valR h gs k).length≤288:=by
 have hnd:[p1,p2,p3,p4].Nodup:=hp ▸ kindL_nodup gs is3
 have hsum:(alone gs p1).length+(alone gs p2).length+(alone gs p3).length+(alone gs p4).length≤11:=by
  have:((alone gs p1++alone gs p2)++(alone gs p3++alone gs p4)).length≤(kindL gs is2).length:=by
   refine nodup_len ?_ fun x hx=>by
    rcases List.mem_append.1 hx with hx|hx<;>rcases List.mem_append.1 hx with hx|hx<;>exact (alone_mem.1 hx).1
   have nd:∀ p,(alone gs p).Nodup:=fun p=>List.Pairwise.filter _ (kindL_nodup gs is2)
   have dj:∀ {p q v},v∈alone gs p→v∈alone gs q→p∈kindL gs is3→p=q:=fun {p q v} hv hw hm=>by
    have a:=alone_mem.1 hv
    have b:=alone_mem.1 hw
    by_cases e:p=q
    · exact e
    · exact absurd a.2.1 (b.2.2 p hm e)
   have m1:p1∈kindL gs is3:=by rw [hp];simp
   have m2:p2∈kindL gs is3:=by rw [hp];simp
   have m3:p3∈kindL gs is3:=by rw [hp];simp
   simp only [List.nodup_cons,List.mem_cons,List.not_mem_nil,not_or,or_false,not_false_eq_true,and_true,List.nodup_nil] at hnd
   refine List.nodup_append.2 ⟨List.nodup_append.2 ⟨nd _,nd _,fun a ha b hb e=>?_⟩,List.nodup_append.2 ⟨nd _,nd _,fun a ha b hb e=>?_⟩,fun a ha b hb e=>?_⟩
   · exact hnd.1.1 (dj ha (e ▸ hb) m1)
   · exact hnd.2.2 (dj ha (e ▸ hb) m3)
   · subst e
     rcases List.mem_append.1 ha with ha|ha<;>rcases List.mem_append.1 hb with hb|hb
     · exact hnd.1.2.1 (dj ha hb m1)
     · exact hnd.1.2.2 (dj ha hb m1)
     · exact hnd.2.1.1 (dj ha hb m2)
     · exact hnd.2.1.2 (dj ha hb m2)
  simp only [List.length_append] at this
  omega
 have hq:=quads_len (A:=alone gs p1) (B:=alone gs p2) (C:=alone gs p3) (D:=alone gs p4)
 have hq2:=four_le hsum
 have hc:=can_codes (valR_Can (h:=h) hV hk) (subsK (kindL gs is2) 3++quads (alone gs p1) (alone gs p2) (alone gs p3) (alone gs p4)) (decY h gs k) fun s hs=>by
  obtain ⟨c,hc⟩:=cho_ex (h:=h) hV hk ⟨s,hs,sub_refl s⟩
  have H:=cho_of hV hk ⟨s,hs,sub_refl s⟩ c hc
  -- targets are variables
  have tv:∀ {c},Cho h gs k s c→∀ j∈tgts gs c k,((List.getD gs j ((0,0,[],()):Gate))).1=2:=fun {c} H j hj=>by
   obtain ⟨⟨hjl,hj2⟩,p,hp,h3,e⟩:=tgts_mem.1 hj
   rcases hj2 with q|q
   · exact q
   · exfalso
     have:=h4 j q
     have h5:=hp.le hV hk H.kid
     have hpl:p<gs.length:=kind_lt h3 (by decide)
     have:=kid_in hV hpl (H.kid p hp h3)
     omega
  have tsub:∀ {c},Cho h gs k s c→tgts gs c k=(kindL gs is2).filter fun j=>boolOf (Tgt gs c k j):=fun {c} H=>by
   refine pw_uniq (R:=fun a b:Nat=>a<b) (fun a b h k=>by omega) (List.Pairwise.filter _ (List.Pairwise.filter _ List.pairwise_lt_range)) (List.Pairwise.filter _ (List.Pairwise.filter _ List.pairwise_lt_range)) fun j=>?_
   rw [List.mem_filter,boolOf_true,kindL_mem]
   constructor
   · intro hj
     have h2:=tv H j hj
     exact ⟨⟨(tgts_mem.1 hj).1.1,by rw [h2];rfl⟩,(tgts_mem.1 hj).2⟩
   · rintro ⟨⟨a,b⟩,d⟩
     exact tgts_mem.2 ⟨⟨a, .inl (by simpa [is2] using b)⟩,d⟩
  have small:∀ {c},Cho h gs k s c→(tgts gs c k).length≤3→∃ Y∈subsK (kindL gs is2) 3++quads (alone gs p1) (alone gs p2) (alone gs p3) (alone gs p4),s=decY h gs k Y:=fun {c} H hl=>by
   refine ⟨tgts gs c k,List.mem_append_left _ (subsK_mem ?_ hl),cho_dec hV hk hs H⟩
   rw [tsub H]
   exact List.filter_sublist
  by_cases hl:(tgts gs c k).length≤3
  · exact small H hl
  · have hsub:∀ j∈tgts gs c k,j∈[p1,p2,p3,p4].map fun p=>(c p).toNat:=fun j hj=>by
     obtain ⟨_,p,hp',h3,e⟩:=tgts_mem.1 hj
     exact List.mem_map.2 ⟨p,hp ▸ is3L h3,e⟩
    have hfull:=nodup_full (tgts_nodup gs c k) hsub (by simp;omega)
    -- all four sums are used
    have used:∀ p∈kindL gs is3,Mk gs c k p∧(c p).toNat∈tgts gs c k:=fun p hp'=>by
     have hm:(c p).toNat∈tgts gs c k:=hfull _ (List.mem_map.2 ⟨p,hp ▸ hp',rfl⟩)
     by_cases hu:Mk gs c k p
     · exact ⟨hu,hm⟩
     · exfalso
       have:=nodup_len (tgts_nodup gs c k) (b:=([p1,p2,p3,p4].erase p).map fun p=>(c p).toNat) fun j hj=>by
        obtain ⟨_,q,hq',h3,e⟩:=tgts_mem.1 hj
        have hne:q≠p:=fun e=>hu (e ▸ hq')
        exact List.mem_map.2 ⟨q,(List.mem_erase_of_ne hne).2 (hp ▸ is3L h3),e⟩
       rw [List.length_map,List.length_erase_of_mem (hp ▸ hp')] at this
       simp at this;omega
    by_cases hpr:∃ p∈kindL gs is3,∃ q∈kindL gs is3,q≠p∧c p∈(gs.getD q ((0,0,[],()):Gate)).2.2.1
    · -- another choice with three targets
      obtain ⟨p,hpm,q,hqm,hne,hin⟩:=hpr
      have hd:∀ j,j<gs.length→up (valR h gs j) s→((List.getD gs j ((0,0,[],()):Gate))).1=3→(if j=q then c p else c j)∈((List.getD gs j ((0,0,[],()):Gate))).2.2.1∧up (valR h gs (if j=q then c p else c j).toNat) s:=fun j hj hu h3=>by
       by_cases e:j=q
       · subst e
         rw [if_pos rfl]
         have hp3:((List.getD gs p ((0,0,[],()):Gate))).1=3:=by have:=(kindL_mem.1 hpm).2;simpa [is3] using this
         exact ⟨hin,H.tru _ (.plus (used p hpm).1 hp3)⟩
       · rw [if_neg e];exact hc j hj hu h3
      have H2:=cho_of hV hk ⟨s,hs,sub_refl s⟩ (fun j=>if j=q then c p else c j) hd
      refine small H2 ?_
      have:=nodup_len (tgts_nodup gs (fun j=>if j=q then c p else c j) k) (b:=([p1,p2,p3,p4].erase q).map fun p=>(c p).toNat) fun j hj=>by
       obtain ⟨_,r,hr',h3,e⟩:=tgts_mem.1 hj
       dsimp only at e
       by_cases er:r=q
       · rw [if_pos er] at e
         exact List.mem_map.2 ⟨p,(List.mem_erase_of_ne (fun e=>hne e.symm)).2 (hp ▸ hpm),e⟩
       · rw [if_neg er] at e
         exact List.mem_map.2 ⟨r,(List.mem_erase_of_ne er).2 (hp ▸ is3L h3),e⟩
      rw [List.length_map,List.length_erase_of_mem (hp ▸ hqm)] at this
      simpa using this
    · have al:∀ p∈kindL gs is3,(c p).toNat∈alone gs p:=fun p hpm=>by
       have hp3:((List.getD gs p ((0,0,[],()):Gate))).1=3:=by have:=(kindL_mem.1 hpm).2;simpa [is3] using this
       have hci:=H.kid p (used p hpm).1 hp3
       have h0:=kid_in hV (kind_lt hp3 (by decide)) hci
       have e:((c p).toNat:Int)=c p:=by omega
       have h2:=tv H _ (used p hpm).2
       refine alone_mem.2 ⟨kindL_mem.2 ⟨kind_lt h2 (by decide),by rw [h2];rfl⟩,by rw [e];exact hci,fun q hq hne=>?_⟩
       rw [e]
       exact fun hin=>hpr ⟨p,hpm,q,hq,hne,hin⟩
      refine ⟨[(c p1).toNat,(c p2).toNat,(c p3).toNat,(c p4).toNat],List.mem_append_right _ (quads_mem (al p1 (by rw [hp];simp)) (al p2 (by rw [hp];simp)) (al p3 (by rw [hp];simp)) (al p4 (by rw [hp];simp))),?_⟩
      rw [cho_dec hV hk hs H]
      refine decY_congr fun j=>⟨fun hj=>by simpa using hsub j hj,fun hj=>hfull j (by simpa using hj)⟩
 rw [List.length_append,subsK_len] at hc
 have:=cntK_mono (n:=3) hn
 have e:cntK 11 3=232:=by decide
 omega
theorem var_in {h:List Bool} {gs:List Gate} {k:Nat} (hV:ValidC gs) (hk:k<gs.length) {s:Is} (hs:s∈valR h gs k) {v:Int} (hv:v∈s):v∈compI (sortI ((gs.filter fun g=>is2 g.1).map fun g=>g.2.1)):=by
 obtain ⟨c,hc⟩:=cho_ex (h:=h) hV hk ⟨s,hs,sub_refl s⟩
 have H:=cho_of hV hk ⟨s,hs,sub_refl s⟩ c hc
 obtain ⟨g,hg,h2,e⟩:=used_gate ((cho_vars hV hk hs H v).1 hv)
 rw [compI_mem,sortI_mem]
 exact List.mem_map.2 ⟨g,List.mem_filter.2 ⟨hg,by rw [h2];rfl⟩,e⟩
theorem kindL_map {q:Int→Bool}:∀ (gs:List Gate),(gs.filter fun g=>q g.1).length=(kindL gs q).length:=by
 intro gs
 have:gs=(List.range gs.length).map fun j=>(List.getD gs j ((0,0,[],()):Gate)):=by
  apply List.ext_getElem
  · simp
  · intro i h1 h2
    simp [List.getD_eq_getElem?_getD,List.getElem?_eq_getElem h1]
 conv=>lhs;rw [this]
 rw [List.filter_map,List.length_map]
 rfl
theorem few_reasons {h:List Bool} {gs:List Gate} {k:Nat} (hV:ValidC gs) (hl:gs.length≤16) (hk:k<gs.length):(valR h gs k).length≤400:=by
 have ht:=three_le (f:=fun j=>((List.getD gs j ((0,0,[],()):Gate))).1) (List.range gs.length)
 rw [List.length_range] at ht
 have ht:(kindL gs is2).length+(kindL gs is3).length+(kindL gs is4).length≤16:=Nat.le_trans ht hl
 rcases Nat.lt_or_ge (kindL gs is3).length 3 with hp|hp
 · have h1:=few_plus (h:=h) hV hk hl
   have h2:16 ^ (kindL gs is3).length≤16 ^ 2:=Nat.pow_le_pow_right (by decide) (by omega)
   omega
 rcases Nat.lt_or_ge (kindL gs is3).length 4 with hp3|hp4
 · have h1:=few_tgt (h:=h) hV hk
   rw [show (kindL gs is3).length=3 by omega] at h1
   have h2:=cntK_mono (n:=3) (show (kindL gs is2).length+(kindL gs is4).length≤13 by omega)
   have e:cntK 13 3=378:=by decide
   omega
 rcases Nat.eq_zero_or_pos (kindL gs is4).length with h0|h4
 · have:=no_times (h:=h) hV hk hl h0;omega
 rcases Nat.lt_or_ge (kindL gs is2).length 11 with hn|hn
 · refine few_vars (valR_Can hV hk) (W:=compI (sortI ((gs.filter fun g=>is2 g.1).map fun g=>g.2.1))) (fun s hs v hv=>var_in hV hk hs hv) ?_
   have:=compI_len (sortI ((gs.filter fun g=>is2 g.1).map fun g=>g.2.1))
   rw [sortI_len,List.length_map,kindL_map] at this
   omega
 -- eleven variables, four sums, one product
 have e3:(kindL gs is3).length=4:=by omega
 have e4:(kindL gs is4).length=1:=by omega
 obtain ⟨t,et⟩:=List.length_eq_one_iff.1 e4
 have tk:∀ j,((List.getD gs j ((0,0,[],()):Gate))).1=4→j=t:=fun j hj=>by
  have:j∈kindL gs is4:=kindL_mem.2 ⟨kind_lt hj (by decide),by rw [hj];rfl⟩
  rw [et] at this
  exact List.mem_singleton.1 this
 have htm:t∈kindL gs is4:=by rw [et];simp
 have htl:=(kindL_mem.1 htm).1
 have ht4:(gs.getD t ((0,0,[],()):Gate)).1=4:=by have:=(kindL_mem.1 htm).2;simpa [is4] using this
 have hT:(valR h gs t).length≤288:=by
  match hq:kindL gs is3,e3 with
  |[p1,p2,p3,p4],_=>exact one_times hV htl (by omega) tk hq ht4
 have:=nodup_len (can_nodup (valR_Can (h:=h) hV hk)) (b:=valR h gs t++([]::(kindL gs is2).map fun i=>[(gs.getD i ((0,0,[],()):Gate)).2.1])) fun s hs=>by
  obtain ⟨j,hj,h3,hs⟩:=down hV (k+1) k (Nat.lt_succ_self k) hk s hs
  by_cases hj4:((List.getD gs j ((0,0,[],()):Gate))).1=4
  · rw [tk j hj4] at hs;exact List.mem_append_left _ hs
  · refine List.mem_append_right _ ?_
    rcases leaf_mem hV hj h3 hj4 hs with e|⟨i,hi,e⟩
    · rw [e];exact List.mem_cons_self
    · rw [e];exact List.mem_cons_of_mem _ (List.mem_map.2 ⟨i,hi,rfl⟩)
 rw [List.length_append,List.length_cons,List.length_map] at this
 omega
end Go.Gv
