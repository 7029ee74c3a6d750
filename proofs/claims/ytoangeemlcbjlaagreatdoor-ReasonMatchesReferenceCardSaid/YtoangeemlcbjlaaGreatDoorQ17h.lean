/- The plain law of reasons: which lists of variables make a gate hold. -/
import Derived.Test.YtoangeemlcbjlaaGreatDoorC17f
import Derived.Test.YtoangeemlcbjlaaGreatDoorQ17g
set_option linter.all false
namespace Go.Gv
open Go Go.Proofs Go.Proofs.YtoangeemlcbjlaaGreatDoor
set_option maxRecDepth 100000
set_option maxHeartbeats 4000000
theorem hadB_iff {h:List Bool} {v:Int}:hadB h v=true↔0≤v∧v<(h.length:Int)∧h.getD v.toNat false=true:=by unfold hadB;exact decide_eq_true_iff
theorem hadB_nil {v:Int}:¬ hadB [] v=true:=fun h=>by have h1:=(hadB_iff.1 h).1;have h2:=(hadB_iff.1 h).2.1;simp at h2;omega
def withL (T:Is):List Bool:=(List.range 4000).map fun v:Nat=>decide ((v:Int)∈T)
def ownL (h:List Bool):Is:=((List.range h.length).filter fun v=>h.getD v false).map fun v:Nat=>(v:Int)
theorem ownL_mem {h:List Bool} {v:Int}:v∈ownL h↔hadB h v=true:=by
 unfold ownL
 rw [List.mem_map,hadB_iff]
 constructor
 · rintro ⟨n,hn,rfl⟩
   have hn:=List.mem_filter.1 hn
   have:=List.mem_range.1 hn.1
   exact ⟨by omega,by omega,by rw [Int.toNat_natCast];exact hn.2⟩
 · rintro ⟨h0,h1,h2⟩
   exact ⟨v.toNat,List.mem_filter.2 ⟨List.mem_range.2 (by omega),h2⟩,by omega⟩
theorem ownL_inc (h:List Bool):Inc (ownL h):=List.pairwise_map.2 (((List.pairwise_lt_range).filter _).imp fun h=>by omega)
theorem agr_own (h:List Bool):Agr h (ownL h) []:=fun v h0 h1=>by rw [ownL_mem];exact ⟨.inl,fun q=>q.resolve_right hadB_nil⟩
section
variable {gs:List Gate} {i:Int}
theorem GoodI.nat (hg:GoodI gs i):i.toNat<gs.length:=by have:=hg.lo;have:=hg.hi;omega
theorem up_is (hg:GoodI gs i) {H T h} (ha:Agr H T h):up (valR h gs i.toNat) T↔holdsV gs i H=true:=by
 rw [holdsV_good hg];exact valR_Hold hg.v ha hg.nat
theorem can_is (hg:GoodI gs i) {h:List Bool}:Can (valR h gs i.toNat):=valR_Can hg.v hg.nat
theorem whyR_few {h:List Bool} (hg:GoodI gs i) (hl:gs.length≤16):whyR h gs i=(valR h gs i.toNat,0):=
 whyR_ok hg fun q hq=>few_reasons hg.v hl (Nat.lt_of_le_of_lt (hq.le hg.v hg.nat) hg.nat)
theorem whyR_can {h:List Bool} (hl:gs.length≤16):Can (whyR h gs i).1:=by
 by_cases hg:GoodI gs i
 · rw [whyR_few hg hl];exact can_is hg
 · rw [whyR_bad hg];exact can_nil
theorem InV.iff {rem:List Int} {v:Int}:InV gs rem v↔InV gs [] v∧v ∉ rem:=
 ⟨fun ⟨g,hg,h1,h2,h3⟩=>⟨⟨g,hg,h1,h2,by simp⟩,h3⟩,fun ⟨⟨g,hg,h1,h2,_⟩,h3⟩=>⟨g,hg,h1,h2,h3⟩⟩
theorem reason_in (hg:GoodI gs i) {h:List Bool} {s:Is} (hs:s∈valR h gs i.toNat) {v:Int} (hv:v∈s):InV gs [] v:=by
 obtain ⟨g,hg,h1,h2⟩:=varW_mem.1 (var_in hg.v hg.nat hs hv)
 exact ⟨g,hg,h1,h2,by simp⟩
theorem holds_of (hg:GoodI gs i) {H:List Bool} {P:Int→Prop} (hp:∀ v,InV gs [] v→(hadB H v=true↔P v)):holdsV gs i H=true↔∃ s∈valR [] gs i.toNat,∀ v∈s,P v:=by
 rw [← up_is hg (agr_own H)]
 refine exists_congr fun s=>and_congr_right fun hs=>?_
 exact ⟨fun h v hv=>(hp v (reason_in hg hs hv)).1 (ownL_mem.1 (h v hv)),fun h v hv=>ownL_mem.2 ((hp v (reason_in hg hs hv)).2 (h v hv))⟩
theorem varsV_had (hV:ValidC gs) {rem:List Int} {v:Int}:hadB (varsV gs rem) v=true↔InV gs rem v:=by
 rw [hadB_iff,varsV_len]
 constructor
 · rintro ⟨h0,h1,h2⟩
   rw [varsV_at (by omega),Int.toNat_of_nonneg h0] at h2
   exact boolOf_true.1 h2
 · intro h
   have hr:=inv_rng hV (InV.iff.1 h|>fun q=>q.1)
   refine ⟨hr.1,hr.2,?_⟩
   rw [varsV_at (by omega),Int.toNat_of_nonneg hr.1]
   exact boolOf_true.2 h
theorem holds_vars (hg:GoodI gs i) {rem:List Int}:holdsV gs i (varsV gs rem)=true↔∃ s∈valR [] gs i.toNat,∀ v∈s,v ∉ rem:=
 holds_of hg fun v hv=>by rw [varsV_had hg.v,InV.iff];exact ⟨fun h=>h.2,fun h=>⟨hv,h⟩⟩
theorem holds_all (hg:GoodI gs i):holdsV gs i (varsV gs [])=true↔valR [] gs i.toNat≠[]:=by
 rw [holds_vars hg]
 constructor
 · rintro ⟨s,hs,_⟩ e;rw [e] at hs;cases hs
 · intro h
   obtain ⟨s,hs⟩:=List.exists_mem_of_ne_nil _ h
   exact ⟨s,hs,by simp⟩
theorem needL_mem (hg:GoodI gs i) {v:Int}:v∈needL gs i (varsI gs)↔InV gs [] v∧∀ s∈valR [] gs i.toNat,v∈s:=by
 unfold needL
 rw [List.mem_filter,varsI_mem hg.v]
 refine and_congr_right fun _=>?_
 rw [Bool.not_eq_true',← Bool.not_eq_true,holds_vars hg]
 simp only [not_exists,not_and,List.mem_singleton,Classical.not_forall,Classical.not_not]
 exact forall_congr' fun s=>forall_congr' fun hs=>⟨fun ⟨x,hx,e⟩=>e ▸ hx,fun h=>⟨v,h,rfl⟩⟩
theorem needV_bad (hg:¬ GoodI gs i):needV gs i=[]:=by
 unfold needV
 rw [if_neg fun h=>?_]
 rw [holdsV_bad hg] at h
 exact absurd (boolOf_true.1 h).2 (by simp)
theorem needV_mem (hg:GoodI gs i) {v:Int}:v∈needV gs i↔valR [] gs i.toNat≠[]∧∀ s∈valR [] gs i.toNat,v∈s:=by
 unfold needV
 by_cases hn:valR [] gs i.toNat=[]
 · rw [if_neg (fun h=>((holds_all hg).1 (boolOf_true.1 h).2) hn)]
   simp [hn]
 · rw [if_pos (boolOf_true.2 ⟨hg.v,(holds_all hg).2 hn⟩),needL_mem hg]
   refine ⟨fun h=>⟨hn,h.2⟩,fun h=>⟨?_,h.2⟩⟩
   obtain ⟨s,hs⟩:=List.exists_mem_of_ne_nil _ hn
   exact reason_in hg hs (h.2 s hs)
theorem needL_inc (gs:List Gate) (i:Int):Inc (needL gs i (varsI gs)):=(varsI_inc gs).filter _
theorem needV_inc (gs:List Gate) (i:Int):Inc (needV gs i):=by
 unfold needV
 split
 · exact needL_inc gs i
 · exact inc_nil
theorem effB_iff (hg:GoodI gs i) {rem:List Int}:effB gs rem i=true↔valR [] gs i.toNat≠[]∧∀ s∈valR [] gs i.toNat,∃ v∈s,v∈rem:=by
 unfold effB
 rw [Bool.and_eq_true,Bool.not_eq_true',← Bool.not_eq_true,holds_all hg,holds_vars hg]
 refine and_congr_right fun _=>?_
 simp only [not_exists,not_and,Classical.not_forall,Classical.not_not]
 exact forall_congr' fun s=>forall_congr' fun hs=>⟨fun ⟨v,h1,h2⟩=>⟨v,h1,h2⟩,fun ⟨v,h1,h2⟩=>⟨v,h1,h2⟩⟩
end
def restH (h:List Bool) (s:Is):Is:=s.filter fun v=>!hadB h v
theorem valsE_ext {T:Type} {S:GE T} {gs:List Gate} {x:Gate}:∀ n,n≤gs.length→valsE S (gs++[x]) n=valsE S gs n
 |0,_=>rfl
 |n+1,h=>by
  unfold valsE
  rw [valsE_ext n (by omega),app_at (by omega)]
theorem vl_ext {T:Type} {S:GE T} {gs:List Gate} {x:Gate} {k:Nat} (hk:k<gs.length):vlE S (gs++[x]) k=vlE S gs k:=by
 unfold vlE
 rw [valsE_ext k (by omega),app_at hk]
theorem PutR.old {gs ds:List Gate} {g:Gate} {p:Int} (h:PutR gs g ds p) {H:List Bool} {j:Nat} (hj:j<gs.length):holdB H ds j=holdB H gs j:=by
 unfold holdB
 rcases h.ext with e|e
 · rw [e]
 · rw [e,vl_ext hj]
theorem kind0_hold {gs:List Gate} {H:List Bool} {j:Int} (h:kindAt gs j=0):holdB H gs j.toNat=false:=by
 have h:(gs.getD j.toNat ((0,0,[],()):Gate)).1=0:=h
 rw [holdB_leaf (by rw [h];unfold inner;omega),h]
 exact leaf_zero
theorem kind1_hold {gs:List Gate} {H:List Bool} {j:Int} (h:kindAt gs j=1):holdB H gs j.toNat=true:=by
 have h:(gs.getD j.toNat ((0,0,[],()):Gate)).1=1:=h
 rw [holdB_leaf (by rw [h];unfold inner;omega),h]
 exact leaf_one
theorem kept_or {gs:List Gate} {g:Gate} {H:List Bool} (h3:g.1=3):(∃ j∈g.2.2.1,holdB H gs j.toNat=true)↔∃ j∈keptK gs g,holdB H gs j.toNat=true:=by
 constructor
 · rintro ⟨j,hj,h⟩
   exact ⟨j,keptK_mem.2 ⟨hj,(fun z=>by rw [kind0_hold z] at h;cases h), .inr h3⟩,h⟩
 · rintro ⟨j,hj,h⟩
   exact ⟨j,(keptK_mem.1 hj).1,h⟩
theorem kept_and {gs:List Gate} {g:Gate} {H:List Bool} (h4:g.1=4) (hz:¬ zeroK gs g):(∀ j∈g.2.2.1,holdB H gs j.toNat=true)↔∀ j∈keptK gs g,holdB H gs j.toNat=true:=by
 constructor
 · exact fun h j hj=>h j (keptK_mem.1 hj).1
 · intro h j hj
   by_cases c:kindAt gs j=1
   · exact kind1_hold c
   · exact h j (keptK_mem.2 ⟨hj,fun z=>hz ⟨h4,j,hj,z⟩, .inl c⟩)
theorem PutR.plus {gs ds:List Gate} {g:Gate} {p:Int} (h:PutR gs g ds p) (h3:g.1=3) {H:List Bool}:holdB H ds p.toNat=true↔∃ j∈g.2.2.1,holdB H gs j.toNat=true:=by
 have hr:=h.ok.f.1
 rw [kept_or h3]
 rcases h.is with ⟨q,e1,e2⟩|⟨q,e⟩
 · have hk:=q.l
   obtain ⟨a,ha⟩:=List.length_eq_one_iff.1 hk
   rw [ha] at e2 ⊢
   have e2:p=a:=e2
   rw [e1,e2];simp
 · have hp:p.toNat<ds.length:=by have:=h.lo;have:=h.hi;omega
   have hz:¬ zeroK gs g:=fun z=>by have:=z.1;omega
   unfold nrmG at e
   rw [if_pos (.inl h3)] at e
   by_cases c:(keptK gs g).length=0
   · rw [if_pos (.inr ⟨h3,c⟩)] at e
     rw [holdB_leaf (by rw [e];unfold inner;simp),e,List.length_eq_zero_iff.1 c]
     simp [leaf_zero]
   · rw [if_neg (fun z=>z.elim hz fun z=>c z.2),if_neg c] at e
     rw [holdB_plus h.dv hp (by rw [e];exact h3),e]
     refine exists_congr fun j=>and_congr_right fun hj=>?_
     have:=hr j (keptK_mem.1 hj).1
     rw [h.old (by omega)]
theorem PutR.times {gs ds:List Gate} {g:Gate} {p:Int} (h:PutR gs g ds p) (h4:g.1=4) {H:List Bool}:holdB H ds p.toNat=true↔∀ j∈g.2.2.1,holdB H gs j.toNat=true:=by
 have hr:=h.ok.f.1
 rcases h.is with ⟨q,e1,e2⟩|⟨q,e⟩
 · have hk:=q.l
   rw [kept_and h4 q.z]
   obtain ⟨a,ha⟩:=List.length_eq_one_iff.1 hk
   rw [ha] at e2 ⊢
   have e2:p=a:=e2
   rw [e1,e2];simp
 · have hp:p.toNat<ds.length:=by have:=h.lo;have:=h.hi;omega
   unfold nrmG at e
   rw [if_pos (.inr h4)] at e
   by_cases hz:zeroK gs g
   · rw [if_pos (.inl hz)] at e
     rw [holdB_leaf (by rw [e];unfold inner;simp),e]
     obtain ⟨_,j,hj,h0⟩:=hz
     constructor
     · intro q;rw [show leafB H 0 0=false from leaf_zero] at q;cases q
     · intro q;have:=q j hj;rw [kind0_hold h0] at this;cases this
   · rw [kept_and h4 hz]
     rw [if_neg (fun z=>z.elim hz fun z=>by have:=z.1;omega)] at e
     by_cases c:(keptK gs g).length=0
     · rw [if_pos c] at e
       rw [holdB_leaf (by rw [e];unfold inner;simp),e,List.length_eq_zero_iff.1 c]
       simp [leaf_one]
     · rw [if_neg c] at e
       rw [holdB_times h.dv hp (by rw [e];exact h4),e]
       refine forall_congr' fun j=>forall_congr' fun hj=>?_
       have:=hr j (keptK_mem.1 hj).1
       rw [h.old (by omega)]
section
variable {gs ds:List Gate} {i k p:Int}
theorem PutR.good {g:Gate} (h:PutR gs g ds p):GoodI ds p:=⟨h.lo,h.hi,h.dv⟩
end
def maxV (gs:List Gate):Int:=gs.foldl (fun n g=>max n (g.2.1+1)) 0
theorem maxV_snoc {gs:List Gate} {k:Nat} (hk:k<gs.length):maxV (gs.take (k+1))=max (maxV (gs.take k)) (((List.getD gs k ((0,0,[],()):Gate))).2.1+1):=by
 unfold maxV
 rw [List.take_succ_eq_append_getElem hk,List.foldl_append,← getD_ok ((0,0,[],()):Gate) hk];rfl
theorem maxG:∀ (gs:List Gate) (n:Int),n≤gs.foldl (fun n g=>max n (g.2.1+1)) n∧(∀ g∈gs,g.2.1<gs.foldl (fun n g=>max n (g.2.1+1)) n)∧∀ m,n≤m→(∀ g∈gs,g.2.1<m)→gs.foldl (fun n g=>max n (g.2.1+1)) n≤m
 |[],n=>⟨Int.le_refl n,(fun g hg=>by cases hg),fun m h _=>h⟩
 |x::gs,n=>by
  obtain ⟨h1,h2,h3⟩:=maxG gs (max n (x.2.1+1))
  refine ⟨Int.le_trans (by omega) h1,fun g hg=>?_,fun m hm hg=>h3 m ?_ fun g h=>hg g (List.mem_cons_of_mem _ h)⟩
  · rcases List.mem_cons.1 hg with e|e
    · rw [e];exact Int.lt_of_lt_of_le (by omega) h1
    · exact h2 g e
  · have:=hg x List.mem_cons_self
    omega
theorem maxV_nn (gs:List Gate):0≤maxV gs:=(maxG gs 0).1
theorem maxV_ub {gs:List Gate} {g:Gate} (h:g∈gs):g.2.1<maxV gs:=(maxG gs 0).2.1 g h
theorem valid_var {gs:List Gate} (hV:ValidC gs) {k:Nat} (hk:k<gs.length):0≤((List.getD gs k ((0,0,[],()):Gate))).2.1∧((List.getD gs k ((0,0,[],()):Gate))).2.1<4000:=by
 rcases (hV.2 k hk).1.2 with ⟨_,_,q⟩|⟨_,_,q⟩|⟨_,q⟩
 · exact q
 · rw [q];decide
 · rw [q];decide
theorem maxV_le {gs:List Gate} (hV:ValidC gs) (k:Nat):maxV (gs.take k)≤4000:=(maxG (gs.take k) 0).2.2 4000 (by decide) fun g hg=>by
 obtain ⟨j,hj,e⟩:=List.getElem_of_mem (List.mem_of_mem_take hg)
 have:=(valid_var hV hj).2
 rw [getD_ok ((0,0,[],()):Gate) hj,e] at this
 exact this
def allB (gs:List Gate) (w:List Int):List Bool:=(List.range (maxV gs).toNat).map fun v:Nat=>decide ((v:Int) ∉ w)
theorem allB_len (gs:List Gate) (w:List Int):(allB gs w).length=(maxV gs).toNat:=by unfold allB;rw [List.length_map,List.length_range]
theorem allB_at {gs:List Gate} {w:List Int} {v:Nat} (h:v<(maxV gs).toNat):(allB gs w).getD v false=decide ((v:Int) ∉ w):=by
 unfold allB
 rw [getD_ok false (by rw [List.length_map,List.length_range];exact h),List.getElem_map,List.getElem_range]
theorem allB_nil (gs:List Gate):allB gs []=List.replicate (maxV gs).toNat true:=by
 refine List.ext_getElem (by rw [allB_len,List.length_replicate]) fun v h1 h2=>?_
 rw [allB_len] at h1
 have:=allB_at (w:=[]) h1
 rw [getD_ok false (by rw [allB_len];exact h1)] at this
 rw [this,List.getElem_replicate];simp
theorem allB_no {gs:List Gate} {w:List Int} {x:Int} (h:¬ (0≤x∧x<maxV gs)):allB gs (w++[x])=allB gs w:=by
 unfold allB
 refine List.map_congr_left fun v hv=>decide_eq_decide.2 (not_congr ?_)
 have:=List.mem_range.1 hv
 rw [List.mem_append,List.mem_singleton]
 exact ⟨fun q=>q.resolve_right fun e=>h (by omega), .inl⟩
theorem allB_set {gs:List Gate} {w:List Int} {x:Int} (h:0≤x):allB gs (w++[x])=(allB gs w).set x.toNat false:=by
 refine List.ext_getElem (by rw [List.length_set,allB_len,allB_len]) fun v h1 h2=>?_
 rw [allB_len] at h1
 have e1:=allB_at (w:=w++[x]) h1
 have e2:=allB_at (w:=w) h1
 rw [getD_ok false (by rw [allB_len];exact h1)] at e1 e2
 rw [e1,List.getElem_set,e2]
 by_cases q:x.toNat=v
 · rw [if_pos q]
   exact decide_eq_false (fun z=>z (List.mem_append_right _ (List.mem_singleton.2 (by omega))))
 · rw [if_neg q]
   refine decide_eq_decide.2 (not_congr ?_)
   rw [List.mem_append,List.mem_singleton]
   exact ⟨fun z=>z.resolve_right fun e=>q (by omega), .inl⟩
theorem allB_had {gs:List Gate} {w:List Int} (hV:ValidC gs) {v:Int} (h:InV gs [] v):hadB (allB gs w) v=true↔v ∉ w:=by
 have hr:=inv_rng hV h
 obtain ⟨g,hg,h1,h2,_⟩:=h
 have hu:=maxV_ub hg
 rw [h2] at hu
 rw [hadB_iff,allB_len,allB_at (by omega),decide_eq_true_eq,Int.toNat_of_nonneg hr.1]
 exact ⟨fun q=>q.2.2,fun q=>⟨hr.1,by omega,q⟩⟩
theorem holds_allB (gs:List Gate) (i:Int) (w:List Int):holdsV gs i (allB gs w)=holdsV gs i (varsV gs w):=by
 by_cases hg:GoodI gs i
 · rw [Bool.eq_iff_iff,holds_vars hg]
   exact holds_of hg fun v hv=>allB_had hg.v hv
 · rw [holdsV_bad hg,holdsV_bad hg]
noncomputable def needR (gs:List Gate) (i:Int) (n:Nat):Is:=((List.range n).filter fun v:Nat=>boolOf (InV gs [] (v:Int)) && !holdsV gs i (varsV gs [(v:Int)])).map fun v:Nat=>(v:Int)
noncomputable instance (gs:List Gate) (i n:Int):Decidable (InV gs [] n∧holdsV gs i (varsV gs [n])=false):=Classical.propDecidable _
theorem needR_snoc (gs:List Gate) (i:Int) (n:Nat):needR gs i (n+1)=needR gs i n++if InV gs [] (n:Int)∧holdsV gs i (varsV gs [(n:Int)])=false then [(n:Int)] else []:=by
 unfold needR
 rw [List.range_succ,List.filter_append,List.map_append]
 congr 1
 by_cases q:InV gs [] (n:Int)∧holdsV gs i (varsV gs [(n:Int)])=false
 · rw [if_pos q,List.filter_cons_of_pos (by rw [boolOf_true.2 q.1,q.2];rfl)];rfl
 · rw [if_neg q,List.filter_cons_of_neg ?_]
   · rfl
   · intro z
     rw [Bool.and_eq_true,boolOf_true,Bool.not_eq_true'] at z
     exact q z
theorem needR_is {gs:List Gate} {i:Int} (hV:ValidC gs):needR gs i (maxV gs).toNat=needL gs i (varsI gs):=by
 refine inc_ext (List.pairwise_map.2 (((List.pairwise_lt_range).filter _).imp fun h=>by omega)) (needL_inc gs i) fun v=>?_
 unfold needR needL
 rw [List.mem_map,List.mem_filter,varsI_mem hV]
 constructor
 · rintro ⟨n,hn,rfl⟩
   have hn:=(List.mem_filter.1 hn).2
   rw [Bool.and_eq_true,boolOf_true] at hn
   exact hn
 · rintro ⟨h1,h2⟩
   have hr:=inv_rng hV h1
   have hu:v<maxV gs:=by
    obtain ⟨g,hg,_,e,_⟩:=h1
    rw [← e];exact maxV_ub hg
   refine ⟨v.toNat,List.mem_filter.2 ⟨List.mem_range.2 (by omega),?_⟩,by omega⟩
   rw [Int.toNat_of_nonneg hr.1,Bool.and_eq_true,boolOf_true]
   exact ⟨h1,h2⟩
theorem InV.take {gs:List Gate} {k:Nat} {v:Int} (hk:k<gs.length):InV (gs.take (k+1)) [] v↔InV (gs.take k) [] v∨(((List.getD gs k ((0,0,[],()):Gate))).1=2∧((List.getD gs k ((0,0,[],()):Gate))).2.1=v):=InV.snoc hk
theorem needV_yes {gs:List Gate} {i:Int} (hV:ValidC gs) (h:holdsV gs i (varsV gs [])=true):needV gs i=needL gs i (varsI gs):=if_pos (boolOf_true.2 ⟨hV,h⟩)
theorem needV_no {gs:List Gate} {i:Int} (h:¬ (ValidC gs∧holdsV gs i (varsV gs [])=true)):needV gs i=[]:=if_neg fun z=>h (boolOf_true.1 z)
end Go.Gv
