/- The plain law of reasons: which lists of variables make a gate hold. -/
import Derived.Test.YtoangeemlcbjlaaGreatDoorC17f
import Derived.Test.YtoangeemlcbjlaaGreatDoorQ17g
set_option linter.all false
namespace Go.Gv
open Go Go.Proofs Go.Proofs.YtoangeemlcbjlaaGreatDoor
set_option maxRecDepth 100000
set_option maxHeartbeats 4000000
theorem hadB_iff {h:List Bool} {v:Int}:hadB h v=true↔0≤v∧v<(h.length:Int)∧h.getD v.toNat false=true:=by unfold hadB;exact decide_eq_true_iff
theorem hadB_nil {v:Int}:¬ hadB [] v=true:=fun h=>by have h1:=(hadB_iff.1 h).1;have h2:=(hadB_iff.1 h).2.1;simp at h2;omega
theorem hadB_none {n:Nat} {v:Int}:¬ hadB (List.replicate n false) v=true:=fun h=>by
 have h2:=(hadB_iff.1 h).2.2
 rw [List.getD_eq_getElem?_getD,List.getElem?_replicate] at h2
 split at h2<;>cases h2
def withL (T:Is):List Bool:=(List.range 4000).map fun v:Nat=>decide ((v:Int)∈T)
theorem withL_len (T:Is):(withL T).length=4000:=by unfold withL;rw [List.length_map,List.length_range]
theorem withL_at {T:Is} {v:Nat} (h:v<4000):(withL T).getD v false=decide ((v:Int)∈T):=by
 unfold withL
 rw [getD_ok false (by rw [List.length_map,List.length_range];exact h),List.getElem_map,List.getElem_range]
theorem withL_had {T:Is} {v:Int} (h0:0≤v) (h1:v<4000):hadB (withL T) v=true↔v∈T:=by
 rw [hadB_iff,withL_len,withL_at (by omega),decide_eq_true_eq,Int.toNat_of_nonneg h0]
 exact ⟨fun h=>h.2.2,fun h=>⟨h0,h1,h⟩⟩
theorem withL_nil:withL []=List.replicate 4000 false:=by
 refine List.ext_getElem (by rw [withL_len,List.length_replicate]) fun v h1 h2=>?_
 rw [withL_len] at h1
 have:=withL_at (T:=[]) h1
 rw [getD_ok false (by rw [withL_len];exact h1)] at this
 rw [this,List.getElem_replicate];rfl
theorem withL_no {T:Is} {x:Int} (h:¬ (0≤x∧x<4000)):withL (T++[x])=withL T:=by
 unfold withL
 refine List.map_congr_left fun v hv=>decide_eq_decide.2 ?_
 have:=List.mem_range.1 hv
 rw [List.mem_append,List.mem_singleton]
 exact ⟨fun q=>q.resolve_right fun e=>h (by omega), .inl⟩
theorem withL_set {T:Is} {x:Int} (h:0≤x):withL (T++[x])=(withL T).set x.toNat true:=by
 refine List.ext_getElem (by rw [List.length_set,withL_len,withL_len]) fun v h1 h2=>?_
 rw [withL_len] at h1
 have e1:=withL_at (T:=T++[x]) h1
 have e2:=withL_at (T:=T) h1
 rw [getD_ok false (by rw [withL_len];exact h1)] at e1 e2
 rw [e1,List.getElem_set,e2]
 by_cases q:x.toNat=v
 · rw [if_pos q]
   exact decide_eq_true (List.mem_append_right _ (List.mem_singleton.2 (by omega)))
 · rw [if_neg q]
   refine decide_eq_decide.2 ?_
   rw [List.mem_append,List.mem_singleton]
   exact ⟨fun z=>z.resolve_right fun e=>q (by omega), .inl⟩
theorem agr_with {T:Is} {h:List Bool} (hh:∀ v,¬ hadB h v=true):Agr (withL T) T h:=fun v h0 h1=>by
 rw [withL_had h0 h1];exact ⟨.inl,fun q=>q.resolve_right (hh v)⟩
def ownL (h:List Bool):Is:=((List.range h.length).filter fun v=>h.getD v false).map fun v:Nat=>(v:Int)
theorem ownL_mem {h:List Bool} {v:Int}:v∈ownL h↔hadB h v=true:=by
 unfold ownL
 rw [List.mem_map,hadB_iff]
 constructor
 · rintro ⟨n,hn,rfl⟩
   have hn:=List.mem_filter.1 hn
   have:=List.mem_range.1 hn.1
   exact ⟨by omega,by omega,by rw [Int.toNat_natCast];exact hn.2⟩
 · rintro ⟨h0,h1,h2⟩
   exact ⟨v.toNat,List.mem_filter.2 ⟨List.mem_range.2 (by omega),h2⟩,by omega⟩
theorem ownL_inc (h:List Bool):Inc (ownL h):=List.pairwise_map.2 (((List.pairwise_lt_range).filter _).imp fun h=>by omega)
theorem agr_own (h:List Bool):Agr h (ownL h) []:=fun v h0 h1=>by rw [ownL_mem];exact ⟨.inl,fun q=>q.resolve_right hadB_nil⟩
theorem agr_self (h:List Bool):Agr h [] h:=fun v _ _=>⟨.inr,fun q=>q.resolve_left (by simp)⟩
theorem agr_both (h:List Bool) (s:Is):Agr (withL (ownL h++s)) s h:=fun v h0 h1=>by
 rw [withL_had h0 h1,List.mem_append,ownL_mem];exact Or.comm
section
variable {gs:List Gate} {i:Int}
theorem GoodI.nat (hg:GoodI gs i):i.toNat<gs.length:=by have:=hg.lo;have:=hg.hi;omega
theorem up_is (hg:GoodI gs i) {H T h} (ha:Agr H T h):up (valR h gs i.toNat) T↔holdsV gs i H=true:=by
 rw [holdsV_good hg];exact valR_Hold hg.v ha hg.nat
theorem can_is (hg:GoodI gs i) {h:List Bool}:Can (valR h gs i.toNat):=valR_Can hg.v hg.nat
theorem whyR_few {h:List Bool} (hg:GoodI gs i) (hl:gs.length≤16):whyR h gs i=(valR h gs i.toNat,0):=
 whyR_ok hg fun q hq=>few_reasons hg.v hl (Nat.lt_of_le_of_lt (hq.le hg.v hg.nat) hg.nat)
theorem whyR_can {h:List Bool} (hl:gs.length≤16):Can (whyR h gs i).1:=by
 by_cases hg:GoodI gs i
 · rw [whyR_few hg hl];exact can_is hg
 · rw [whyR_bad hg];exact can_nil
theorem whyR_err {h:List Bool} (hl:gs.length≤16):(whyR h gs i).2=if GoodI gs i then 0 else 1:=by
 by_cases hg:GoodI gs i
 · rw [whyR_few hg hl,if_pos hg]
 · rw [whyR_bad hg,if_neg hg]
theorem InV.iff {rem:List Int} {v:Int}:InV gs rem v↔InV gs [] v∧v ∉ rem:=
 ⟨fun ⟨g,hg,h1,h2,h3⟩=>⟨⟨g,hg,h1,h2,by simp⟩,h3⟩,fun ⟨⟨g,hg,h1,h2,_⟩,h3⟩=>⟨g,hg,h1,h2,h3⟩⟩
theorem reason_in (hg:GoodI gs i) {h:List Bool} {s:Is} (hs:s∈valR h gs i.toNat) {v:Int} (hv:v∈s):InV gs [] v:=by
 obtain ⟨g,hg,h1,h2⟩:=varW_mem.1 (var_in hg.v hg.nat hs hv)
 exact ⟨g,hg,h1,h2,by simp⟩
theorem reason_rng (hg:GoodI gs i) {h:List Bool} {s:Is} (hs:s∈valR h gs i.toNat) {v:Int} (hv:v∈s):0≤v∧v<4000:=inv_rng hg.v (reason_in hg hs hv)
theorem whyR_bs {h:List Bool} (hl:gs.length≤16):BS gs (whyR h gs i).1:=by
 by_cases hg:GoodI gs i
 · rw [whyR_few hg hl]
   refine ⟨fun s hs=>⟨(can_is hg).inc s hs,fun x hx=>?_⟩,Nat.le_trans (few_reasons hg.v hl hg.nat) (by decide)⟩
   obtain ⟨g,hg,h1,h2,_⟩:=reason_in hg hs hx
   exact varW_mem.2 ⟨g,hg,h1,h2⟩
 · rw [whyR_bad hg];exact BS.nil gs
theorem holds_of (hg:GoodI gs i) {H:List Bool} {P:Int→Prop} (hp:∀ v,InV gs [] v→(hadB H v=true↔P v)):holdsV gs i H=true↔∃ s∈valR [] gs i.toNat,∀ v∈s,P v:=by
 rw [← up_is hg (agr_own H)]
 refine exists_congr fun s=>and_congr_right fun hs=>?_
 exact ⟨fun h v hv=>(hp v (reason_in hg hs hv)).1 (ownL_mem.1 (h v hv)),fun h v hv=>ownL_mem.2 ((hp v (reason_in hg hs hv)).2 (h v hv))⟩
theorem varsV_had (hV:ValidC gs) {rem:List Int} {v:Int}:hadB (varsV gs rem) v=true↔InV gs rem v:=by
 rw [hadB_iff,varsV_len]
 constructor
 · rintro ⟨h0,h1,h2⟩
   rw [varsV_at (by omega),Int.toNat_of_nonneg h0] at h2
   exact boolOf_true.1 h2
 · intro h
   have hr:=inv_rng hV (InV.iff.1 h|>fun q=>q.1)
   refine ⟨hr.1,hr.2,?_⟩
   rw [varsV_at (by omega),Int.toNat_of_nonneg hr.1]
   exact boolOf_true.2 h
theorem holds_vars (hg:GoodI gs i) {rem:List Int}:holdsV gs i (varsV gs rem)=true↔∃ s∈valR [] gs i.toNat,∀ v∈s,v ∉ rem:=
 holds_of hg fun v hv=>by rw [varsV_had hg.v,InV.iff];exact ⟨fun h=>h.2,fun h=>⟨hv,h⟩⟩
theorem holds_all (hg:GoodI gs i):holdsV gs i (varsV gs [])=true↔valR [] gs i.toNat≠[]:=by
 rw [holds_vars hg]
 constructor
 · rintro ⟨s,hs,_⟩ e;rw [e] at hs;cases hs
 · intro h
   obtain ⟨s,hs⟩:=List.exists_mem_of_ne_nil _ h
   exact ⟨s,hs,by simp⟩
theorem needL_mem (hg:GoodI gs i) {v:Int}:v∈needL gs i (varsI gs)↔InV gs [] v∧∀ s∈valR [] gs i.toNat,v∈s:=by
 unfold needL
 rw [List.mem_filter,varsI_mem hg.v]
 refine and_congr_right fun _=>?_
 rw [Bool.not_eq_true',← Bool.not_eq_true,holds_vars hg]
 simp only [not_exists,not_and,List.mem_singleton,Classical.not_forall,Classical.not_not]
 exact forall_congr' fun s=>forall_congr' fun hs=>⟨fun ⟨x,hx,e⟩=>e ▸ hx,fun h=>⟨v,h,rfl⟩⟩
theorem needV_bad (hg:¬ GoodI gs i):needV gs i=[]:=by
 unfold needV
 rw [if_neg fun h=>?_]
 rw [holdsV_bad hg] at h
 exact absurd (boolOf_true.1 h).2 (by simp)
theorem needV_mem (hg:GoodI gs i) {v:Int}:v∈needV gs i↔valR [] gs i.toNat≠[]∧∀ s∈valR [] gs i.toNat,v∈s:=by
 unfold needV
 by_cases hn:valR [] gs i.toNat=[]
 · rw [if_neg (fun h=>((holds_all hg).1 (boolOf_true.1 h).2) hn)]
   simp [hn]
 · rw [if_pos (boolOf_true.2 ⟨hg.v,(holds_all hg).2 hn⟩),needL_mem hg]
   refine ⟨fun h=>⟨hn,h.2⟩,fun h=>⟨?_,h.2⟩⟩
   obtain ⟨s,hs⟩:=List.exists_mem_of_ne_nil _ hn
   exact reason_in hg hs (h.2 s hs)
theorem needL_inc (gs:List Gate) (i:Int):Inc (needL gs i (varsI gs)):=(varsI_inc gs).filter _
theorem needV_inc (gs:List Gate) (i:Int):Inc (needV gs i):=by
 unfold needV
 split
 · exact needL_inc gs i
 · exact inc_nil
theorem effB_iff (hg:GoodI gs i) {rem:List Int}:effB gs rem i=true↔valR [] gs i.toNat≠[]∧∀ s∈valR [] gs i.toNat,∃ v∈s,v∈rem:=by
 unfold effB
 rw [Bool.and_eq_true,Bool.not_eq_true',← Bool.not_eq_true,holds_all hg,holds_vars hg]
 refine and_congr_right fun _=>?_
 simp only [not_exists,not_and,Classical.not_forall,Classical.not_not]
 exact forall_congr' fun s=>forall_congr' fun hs=>⟨fun ⟨v,h1,h2⟩=>⟨v,h1,h2⟩,fun ⟨v,h1,h2⟩=>⟨v,h1,h2⟩⟩
end
theorem effL_mem {gs:List Gate} {rem l:List Int} {k:Int}:k∈effL gs rem l↔∃ n:Nat,k=(n:Int)∧n<l.length∧effB gs rem (l.getD n 0)=true:=by
 unfold effL
 rw [List.mem_map]
 constructor
 · rintro ⟨n,hn,rfl⟩
   have hn:=List.mem_filter.1 hn
   exact ⟨n,rfl,List.mem_range.1 hn.1,hn.2⟩
 · rintro ⟨n,rfl,h1,h2⟩
   exact ⟨n,List.mem_filter.2 ⟨List.mem_range.2 h1,h2⟩,rfl⟩
theorem effL_inc (gs:List Gate) (rem l:List Int):Inc (effL gs rem l):=List.pairwise_map.2 (((List.pairwise_lt_range).filter _).imp fun h=>by omega)
theorem effV_inc (gs:List Gate) (l rem:List Int):Inc (effV gs l rem):=by
 unfold effV
 split
 · exact effL_inc _ _ _
 · exact inc_nil
theorem valR_had {gs:List Gate} {i:Int} (hg:GoodI gs i) {h h':List Bool} (e:∀ v,hadB h v=true↔hadB h' v=true):valR h gs i.toNat=valR h' gs i.toNat:=
 (can_is hg).uniq (can_is hg) fun T _=>by
  rw [up_is hg (agr_both h T),up_is (h:=h') hg (H:=withL (ownL h++T)) fun v h0 h1=>by rw [agr_both h T v h0 h1,e v]]
theorem holds_empty {gs:List Gate} {i:Int} (hg:GoodI gs i) {h:List Bool}:holdsV gs i h=true↔valR h gs i.toNat=[[]]:=by
 rw [← up_is hg (agr_self h)]
 constructor
 · rintro ⟨s,hs,h1⟩
   have e:s=[]:=List.eq_nil_iff_forall_not_mem.2 fun x hx=>by have:=h1 x hx;cases this
   subst e
   have hC:=can_is hg (h:=h)
   refine hC.uniq (can_one inc_nil) fun T _=>⟨fun _=>⟨[],List.mem_singleton.2 rfl,fun x hx=>by cases hx⟩,fun _=>⟨[],hs,fun x hx=>by cases hx⟩⟩
 · intro e
   rw [e];exact ⟨[],List.mem_singleton.2 rfl,sub_refl _⟩
theorem holds_with {gs:List Gate} {i:Int} (hg:GoodI gs i) {h:List Bool} {s:Is} (hs:s∈valR h gs i.toNat):holdsV gs i (withL (ownL h++s))=true:=(up_is hg (agr_both h s)).1 ⟨s,hs,sub_refl s⟩
theorem reason_free {gs:List Gate} {i:Int} (hg:GoodI gs i) {h:List Bool} {s:Is} (hs:s∈valR h gs i.toNat) {v:Int} (hv:v∈s):¬ hadB h v=true:=fun hh=>by
 have h1:=holds_with hg hs
 have h2:up (valR h gs i.toNat) (s.filter fun x=>!hadB h x):=by
  refine (up_is hg (H:=withL (ownL h++s)) fun v h0 h1=>?_).2 h1
  rw [withL_had h0 h1,List.mem_append,ownL_mem,List.mem_filter]
  constructor
  · rintro (q|q)
    · exact .inr q
    · by_cases c:hadB h v=true
      · exact .inr c
      · exact .inl ⟨q,by simpa using c⟩
  · rintro (q|q)
    · exact .inr q.1
    · exact .inl q
 obtain ⟨t,ht,h3⟩:=h2
 have e:=(can_is hg).anti t ht s hs fun x hx=>(List.mem_filter.1 (h3 x hx)).1
 subst e
 have:=(List.mem_filter.1 (h3 v hv)).2
 rw [hh] at this
 cases this
def restH (h:List Bool) (s:Is):Is:=s.filter fun v=>!hadB h v
theorem restH_inc {h:List Bool} {s:Is} (hs:Inc s):Inc (restH h s):=hs.filter _
theorem rests_is {gs:List Gate} {i:Int} (hg:GoodI gs i) {h:List Bool}:valR h gs i.toNat=mins ((valR [] gs i.toNat).map (restH h)):=by
 have hi:∀ s∈(valR [] gs i.toNat).map (restH h),Inc s:=fun s hs=>by
  obtain ⟨t,ht,rfl⟩:=List.mem_map.1 hs
  exact restH_inc ((can_is hg).inc t ht)
 refine (can_is hg).uniq (mins_can hi) fun T _=>?_
 rw [mins_up hi,up_is hg (agr_both h T),← up_is hg (agr_with (T:=ownL h++T) fun v=>hadB_nil)]
 unfold up
 constructor
 · rintro ⟨s,hs,h1⟩
   refine ⟨restH h s,List.mem_map.2 ⟨s,hs,rfl⟩,fun x hx=>?_⟩
   have hx:=List.mem_filter.1 hx
   refine (List.mem_append.1 (h1 x hx.1)).resolve_left fun q=>?_
   rw [ownL_mem.1 q] at hx
   cases hx.2
 · rintro ⟨s,hs,h1⟩
   obtain ⟨t,ht,rfl⟩:=List.mem_map.1 hs
   refine ⟨t,ht,fun x hx=>?_⟩
   by_cases c:hadB h x=true
   · exact List.mem_append_left _ (ownL_mem.2 c)
   · exact List.mem_append_right _ (h1 x (List.mem_filter.2 ⟨hx,by simpa using c⟩))
theorem holds_less {gs:List Gate} {i:Int} (hg:GoodI gs i) {s s':Is} (hs:s∈valR [] gs i.toNat) (h1:sub s' s) {x:Int} (hx:x∈s) (hn:x ∉ s'):¬ holdsV gs i (withL s')=true:=fun h=>by
 obtain ⟨t,ht,h2⟩:=(up_is hg (agr_with (T:=s') fun v=>hadB_nil)).2 h
 have e:=(can_is hg).anti t ht s hs (sub_trans h2 h1)
 subst e
 exact hn (h2 x hx)
theorem valsE_ext {T:Type} {S:GE T} {gs:List Gate} {x:Gate}:∀ n,n≤gs.length→valsE S (gs++[x]) n=valsE S gs n
 |0,_=>rfl
 |n+1,h=>by
  unfold valsE
  rw [valsE_ext n (by omega),app_at (by omega)]
theorem vl_ext {T:Type} {S:GE T} {gs:List Gate} {x:Gate} {k:Nat} (hk:k<gs.length):vlE S (gs++[x]) k=vlE S gs k:=by
 unfold vlE
 rw [valsE_ext k (by omega),app_at hk]
theorem PutR.old {gs ds:List Gate} {g:Gate} {p:Int} (h:PutR gs g ds p) {H:List Bool} {j:Nat} (hj:j<gs.length):holdB H ds j=holdB H gs j:=by
 unfold holdB
 rcases h.ext with e|e
 · rw [e]
 · rw [e,vl_ext hj]
theorem kind0_hold {gs:List Gate} {H:List Bool} {j:Int} (h:kindAt gs j=0):holdB H gs j.toNat=false:=by
 have h:(gs.getD j.toNat ((0,0,[],()):Gate)).1=0:=h
 rw [holdB_leaf (by rw [h];unfold inner;omega),h]
 exact leaf_zero
theorem kind1_hold {gs:List Gate} {H:List Bool} {j:Int} (h:kindAt gs j=1):holdB H gs j.toNat=true:=by
 have h:(gs.getD j.toNat ((0,0,[],()):Gate)).1=1:=h
 rw [holdB_leaf (by rw [h];unfold inner;omega),h]
 exact leaf_one
theorem kept_or {gs:List Gate} {g:Gate} {H:List Bool} (h3:g.1=3):(∃ j∈g.2.2.1,holdB H gs j.toNat=true)↔∃ j∈keptK gs g,holdB H gs j.toNat=true:=by
 constructor
 · rintro ⟨j,hj,h⟩
   exact ⟨j,keptK_mem.2 ⟨hj,(fun z=>by rw [kind0_hold z] at h;cases h), .inr h3⟩,h⟩
 · rintro ⟨j,hj,h⟩
   exact ⟨j,(keptK_mem.1 hj).1,h⟩
theorem kept_and {gs:List Gate} {g:Gate} {H:List Bool} (h4:g.1=4) (hz:¬ zeroK gs g):(∀ j∈g.2.2.1,holdB H gs j.toNat=true)↔∀ j∈keptK gs g,holdB H gs j.toNat=true:=by
 constructor
 · exact fun h j hj=>h j (keptK_mem.1 hj).1
 · intro h j hj
   by_cases c:kindAt gs j=1
   · exact kind1_hold c
   · exact h j (keptK_mem.2 ⟨hj,fun z=>hz ⟨h4,j,hj,z⟩, .inl c⟩)
theorem PutR.plus {gs ds:List Gate} {g:Gate} {p:Int} (h:PutR gs g ds p) (h3:g.1=3) {H:List Bool}:holdB H ds p.toNat=true↔∃ j∈g.2.2.1,holdB H gs j.toNat=true:=by
 have hr:=h.ok.f.1
 rw [kept_or h3]
 rcases h.is with ⟨q,e1,e2⟩|⟨q,e⟩
 · have hk:=q.l
   obtain ⟨a,ha⟩:=List.length_eq_one_iff.1 hk
   rw [ha] at e2 ⊢
   have e2:p=a:=e2
   rw [e1,e2];simp
 · have hp:p.toNat<ds.length:=by have:=h.lo;have:=h.hi;omega
   have hz:¬ zeroK gs g:=fun z=>by have:=z.1;omega
   unfold nrmG at e
   rw [if_pos (.inl h3)] at e
   by_cases c:(keptK gs g).length=0
   · rw [if_pos (.inr ⟨h3,c⟩)] at e
     rw [holdB_leaf (by rw [e];unfold inner;simp),e,List.length_eq_zero_iff.1 c]
     simp [leaf_zero]
   · rw [if_neg (fun z=>z.elim hz fun z=>c z.2),if_neg c] at e
     rw [holdB_plus h.dv hp (by rw [e];exact h3),e]
     refine exists_congr fun j=>and_congr_right fun hj=>?_
     have:=hr j (keptK_mem.1 hj).1
     rw [h.old (by omega)]
theorem PutR.times {gs ds:List Gate} {g:Gate} {p:Int} (h:PutR gs g ds p) (h4:g.1=4) {H:List Bool}:holdB H ds p.toNat=true↔∀ j∈g.2.2.1,holdB H gs j.toNat=true:=by
 have hr:=h.ok.f.1
 rcases h.is with ⟨q,e1,e2⟩|⟨q,e⟩
 · have hk:=q.l
   rw [kept_and h4 q.z]
   obtain ⟨a,ha⟩:=List.length_eq_one_iff.1 hk
   rw [ha] at e2 ⊢
   have e2:p=a:=e2
   rw [e1,e2];simp
 · have hp:p.toNat<ds.length:=by have:=h.lo;have:=h.hi;omega
   unfold nrmG at e
   rw [if_pos (.inr h4)] at e
   by_cases hz:zeroK gs g
   · rw [if_pos (.inl hz)] at e
     rw [holdB_leaf (by rw [e];unfold inner;simp),e]
     obtain ⟨_,j,hj,h0⟩:=hz
     constructor
     · intro q;rw [show leafB H 0 0=false from leaf_zero] at q;cases q
     · intro q;have:=q j hj;rw [kind0_hold h0] at this;cases this
   · rw [kept_and h4 hz]
     rw [if_neg (fun z=>z.elim hz fun z=>by have:=z.1;omega)] at e
     by_cases c:(keptK gs g).length=0
     · rw [if_pos c] at e
       rw [holdB_leaf (by rw [e];unfold inner;simp),e,List.length_eq_zero_iff.1 c]
       simp [leaf_one]
     · rw [if_neg c] at e
       rw [holdB_times h.dv hp (by rw [e];exact h4),e]
       refine forall_congr' fun j=>forall_congr' fun hj=>?_
       have:=hr j (keptK_mem.1 hj).1
       rw [h.old (by omega)]
section
variable {gs ds:List Gate} {i k p:Int}
theorem up_nil_had (hV:ValidC gs) {j:Nat} (hj:j<gs.length) (T:Is):up (valR [] gs j) T↔holdB (withL T) gs j=true:=valR_Hold hV (agr_with fun v=>hadB_nil) hj
theorem PutR.good {g:Gate} (h:PutR gs g ds p):GoodI ds p:=⟨h.lo,h.hi,h.dv⟩
theorem sum_is (h:PutR gs (3,0,[i,k],()) ds p):valR [] ds p.toNat=mins (valR [] gs i.toNat++valR [] gs k.toNat):=by
 have hr:=h.ok.f.1
 have h1:=hr i (by simp)
 have h2:=hr k (by simp)
 have hi:∀ s∈valR [] gs i.toNat++valR [] gs k.toNat,Inc s:=fun s hs=>(List.mem_append.1 hs).elim ((valR_Can h.ok.v (by omega)).inc s) ((valR_Can h.ok.v (by omega)).inc s)
 refine (can_is h.good).uniq (mins_can hi) fun T _=>?_
 rw [mins_up hi,up_append,up_nil_had h.dv h.good.nat,h.plus rfl,up_nil_had h.ok.v (by omega),up_nil_had h.ok.v (by omega)]
 simp
theorem product_is (h:PutR gs (4,0,[k,i],()) ds p):valR [] ds p.toNat=mins (pairsU (valR [] gs i.toNat) (valR [] gs k.toNat)):=by
 have hr:=h.ok.f.1
 have h1:=hr i (by simp)
 have h2:=hr k (by simp)
 refine (can_is h.good).uniq (mins_can pairsU_inc) fun T _=>?_
 rw [mins_up pairsU_inc,pairsU_up,up_nil_had h.dv h.good.nat,h.times rfl,up_nil_had h.ok.v (by omega),up_nil_had h.ok.v (by omega)]
 simp [and_comm]
end
def maxV (gs:List Gate):Int:=gs.foldl (fun n g=>max n (g.2.1+1)) 0
def allB (gs:List Gate) (w:List Int):List Bool:=(List.range (maxV gs).toNat).map fun v:Nat=>decide ((v:Int) ∉ w)
noncomputable def needR (gs:List Gate) (i:Int) (n:Nat):Is:=((List.range n).filter fun v:Nat=>boolOf (InV gs [] (v:Int)) && !holdsV gs i (varsV gs [(v:Int)])).map fun v:Nat=>(v:Int)
noncomputable instance (gs:List Gate) (i n:Int):Decidable (InV gs [] n∧holdsV gs i (varsV gs [n])=false):=Classical.propDecidable _
theorem InV.take {gs:List Gate} {k:Nat} {v:Int} (hk:k<gs.length):InV (gs.take (k+1)) [] v↔InV (gs.take k) [] v∨(((List.getD gs k ((0,0,[],()):Gate))).1=2∧((List.getD gs k ((0,0,[],()):Gate))).2.1=v):=InV.snoc hk
end Go.Gv
