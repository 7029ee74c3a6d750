/- The plain law of polynomials: sums collected in a map and sorted are the sums kept sorted. -/
import Derived.Test.YtibnojoffhlekaaGreatDoorC15h
import Derived.Test.YtibnojoffhlekaaGreatDoorC15k
import Derived.Test.YtibnojoffhlekaaGreatDoorP15b
set_option linter.all false
namespace Go.Gv
open Go Go.Proofs Go.Proofs.YtibnojoffhlekaaGreatDoor
set_option maxRecDepth 100000
set_option maxHeartbeats 4000000
def ltM (a b:Mo):Bool:=decide (cmpP a.2.1 b.2.1≤0)
def sortM (l:List Mo):List Mo:=l.mergeSort ltM
def DistP (l:List Mo):Prop:=l.Pairwise fun a b=>a.2.1≠b.2.1
theorem cmpP_le {a b:List Pw}:¬ cmpP b a<0↔cmpP a b≤0:=by
 constructor
 · intro h
   rcases Int.lt_trichotomy (cmpP a b) 0 with h1|h1|h1
   · omega
   · omega
   · exact absurd (cmpP_swap.1 h1) h
 · intro h h1
   rcases Int.lt_or_eq_of_le h with h2|h2
   · have:=cmpP_trans h1 h2
     rw [cmpP_same] at this;omega
   · rw [cmpP_eq] at h2;subst h2
     rw [cmpP_same] at h1;omega
theorem cmpP_letr {a b c:List Pw} (h1:cmpP a b≤0) (h2:cmpP b c≤0):cmpP a c≤0:=by
 rcases Int.lt_or_eq_of_le h1 with h1|h1
 · rcases Int.lt_or_eq_of_le h2 with h2|h2
   · exact Int.le_of_lt (cmpP_trans h1 h2)
   · rw [cmpP_eq] at h2;subst h2;omega
 · rw [cmpP_eq] at h1;subst h1;exact h2
theorem cmpP_total (a b:List Pw):cmpP a b≤0∨cmpP b a≤0:=by
 rcases Int.lt_or_le 0 (cmpP a b) with h|h
 · exact .inr (Int.le_of_lt (cmpP_swap.1 h))
 · exact .inl h
theorem dist_inj:∀ {l:List Mo} {a b:Mo},DistP l→a∈l→b∈l→a.2.1=b.2.1→a=b
 |[],_,_,_,h,_,_=>by cases h
 |x::l,a,b,h,ha,hb,e=>by
  obtain ⟨h1,h2⟩:=List.pairwise_cons.1 h
  rcases List.mem_cons.1 ha with ha|ha<;>rcases List.mem_cons.1 hb with hb|hb
  · rw [ha,hb]
  · subst ha;exact absurd e (h1 b (by assumption))
  · subst hb;exact absurd e.symm (h1 a (by assumption))
  · exact dist_inj h2 ha hb e
theorem sort_uniq {xs ys:List Mo} (hd:DistP xs) (hp:ys.Perm xs) (hs:ys.Pairwise fun a b=>¬ cmpP b.2.1 a.2.1<0):ys=sortM xs:=by
 have hp2:(sortM xs).Perm xs:=List.mergeSort_perm xs ltM
 have hs2:=List.pairwise_mergeSort (le:=ltM) (fun a b c h1 h2=>by
  simp only [ltM,decide_eq_true_eq] at *
  exact cmpP_letr h1 h2) (fun a b=>by
  simp only [ltM,Bool.or_eq_true,decide_eq_true_eq]
  exact cmpP_total _ _) xs
 refine List.Perm.eq_of_pairwise (le:=fun a b=>cmpP a.2.1 b.2.1≤0) (fun a b ha hb h1 h2=>?_) (hs.imp fun h=>cmpP_le.1 h) (hs2.imp fun h=>by simpa [ltM] using h) (hp.trans hp2.symm)
 have ha:a∈xs:=hp.mem_iff.1 ha
 have hb:b∈xs:=hp2.mem_iff.1 hb
 have he:a.2.1=b.2.1:=by
  rcases Int.lt_or_eq_of_le h1 with h|h
  · exact absurd h (cmpP_le.2 h2)
  · exact cmpP_eq.1 h
 exact dist_inj hd ha hb he
theorem srt_dist {l:List Mo} (h:srtM l):DistP l:=h.imp fun h e=>by rw [cmpP_eq.2 e] at h;omega
theorem dist_perm {l m:List Mo} (h:l.Perm m) (hd:DistP l):DistP m:=hd.perm h fun h e=>h e.symm
theorem sort_eq {l m:List Mo} (h:l.Perm m) (hs:srtM l):sortM m=l:=
 (sort_uniq (dist_perm h (srt_dist hs)) h (hs.imp fun {a b} hab=>cmpP_le.2 (Int.le_of_lt hab))).symm
def repM (m x:Mo):Mo:=if x.2.1=m.2.1 then (min (x.1+m.1) 1000000001,x.2.1,()) else x
theorem insP_rep:∀ {l:List Mo} {m:Mo},srtM l→(∃ x∈l,x.2.1=m.2.1)→insP l m=l.map (repM m)
 |[],m,_,h=>by obtain ⟨x,hx,_⟩:=h;cases hx
 |y::l,m,hs,h=>by
  obtain ⟨h1,h2⟩:=List.pairwise_cons.1 hs
  unfold insP
  by_cases hc:cmpP y.2.1 m.2.1<0
  · rw [if_pos hc]
    have hne:y.2.1≠m.2.1:=fun e=>by rw [cmpP_eq.2 e] at hc;omega
    obtain ⟨x,hx,hxe⟩:=h
    rcases List.mem_cons.1 hx with rfl|hx
    · exact absurd hxe hne
    · rw [insP_rep h2 ⟨x,hx,hxe⟩,List.map_cons,repM,if_neg hne]
  · rw [if_neg hc]
    by_cases he:cmpP y.2.1 m.2.1=0
    · rw [if_pos he]
      have he':=cmpP_eq.1 he
      rw [List.map_cons,repM,if_pos he']
      congr 1
      refine (List.map_id _).symm.trans (List.map_congr_left fun x hx=>?_)
      have:=h1 x hx
      have hxn:x.2.1≠m.2.1:=fun e=>by rw [he',← e,cmpP_same] at this;omega
      rw [repM,if_neg hxn];rfl
    · exfalso
      obtain ⟨x,hx,hxe⟩:=h
      rcases List.mem_cons.1 hx with rfl|hx
      · exact he (cmpP_eq.2 hxe)
      · have:=h1 x hx
        rw [hxe] at this
        omega
theorem insP_new:∀ {l:List Mo} {m:Mo},(∀ x∈l,x.2.1≠m.2.1)→(insP l m).Perm (l++[m])
 |[],m,_=>List.Perm.refl _
 |y::l,m,h=>by
  unfold insP
  split
  · exact (insP_new fun x hx=>h x (List.mem_cons_of_mem _ hx)).cons y
  · split
    · rename_i he
      exact absurd (cmpP_eq.1 he) (h y List.mem_cons_self)
    · have:(m::y::l).Perm ((y::l)++[m]):=by
       have:=List.perm_append_comm (l₁:=[m]) (l₂:=y::l)
       exact this
      exact this
theorem mput_rep:∀ {s:SumM} {k:List UInt8} {v:Mo},(s.map (·.1)).Nodup→k∈s.map (·.1)→(@mput (Dat .str) (Dat tMo) (instDecidableEqDat .str) s k v)=s.map fun e=>if e.1=k then (k,v) else e
 |[],_,_,_,h=>by cases h
 |(a,b)::s,k,v,hn,h=>by
  rw [List.map_cons,List.nodup_cons] at hn
  unfold mput
  by_cases e:a=k
  · subst e
    rw [if_pos rfl,List.map_cons,if_pos rfl]
    congr 1
    refine (List.map_id _).symm.trans (List.map_congr_left fun x hx=>?_)
    have:x.1≠a:=fun e=>hn.1 (e ▸ List.mem_map.2 ⟨x,hx,rfl⟩)
    rw [if_neg this];rfl
  · rw [if_neg e,List.map_cons,if_neg e,mput_rep hn.2]
    rw [List.map_cons,List.mem_cons] at h
    exact h.resolve_left (fun h=>e h.symm)
theorem mput_new:∀ {s:SumM} {k:List UInt8} {v:Mo},k ∉ s.map (·.1)→(@mput (Dat .str) (Dat tMo) (instDecidableEqDat .str) s k v)=s++[(k,v)]
 |[],_,_,_=>rfl
 |(a,b)::s,k,v,h=>by
  rw [List.map_cons,List.mem_cons,not_or] at h
  unfold mput
  rw [if_neg (fun e=>h.1 e.symm),mput_new h.2];rfl
theorem sget_some:∀ {s:SumM} {k:List UInt8} {v:Mo},(s.map (·.1)).Nodup→(k,v)∈s→(@mget (Dat .str) (Dat tMo) (instDecidableEqDat .str) s k)=some v
 |[],_,_,_,h=>by cases h
 |(a,b)::s,k,v,hn,h=>by
  rw [List.map_cons,List.nodup_cons] at hn
  unfold mget
  rcases List.mem_cons.1 h with h|h
  · cases h;rw [if_pos rfl]
  · have:a≠k:=fun e=>hn.1 (e ▸ List.mem_map.2 ⟨(k,v),h,rfl⟩)
    rw [if_neg this,sget_some hn.2 h]
theorem sget_none:∀ {s:SumM} {k:List UInt8},k ∉ s.map (·.1)→(@mget (Dat .str) (Dat tMo) (instDecidableEqDat .str) s k)=none
 |[],_,_=>rfl
 |(a,b)::s,k,h=>by
  rw [List.map_cons,List.mem_cons,not_or] at h
  unfold mget
  rw [if_neg (fun e=>h.1 e.symm),sget_none h.2]
structure SumIs (s:SumM) (l:List Mo):Prop where
 key:∀ e∈s,e.1=facT e.2.2.1
 nd:(s.map (·.1)).Nodup
 wk:∀ x∈l,wkP x.2.1
 ok:sumOK l
 perm:(s.map (·.2)).Perm l
theorem SumIs.nil:SumIs [] []:=⟨by simp,by simp,by simp,sumOK_nil,List.Perm.refl _⟩
theorem SumIs.len {s:SumM} {l:List Mo} (h:SumIs s l):s.length=l.length:=by have:=h.perm.length_eq;simpa using this
theorem SumIs.co {s:SumM} {l:List Mo} (h:SumIs s l):coOK s:=fun k=>by
 unfold getSum
 by_cases hk:k∈s.map (·.1)
 · obtain ⟨⟨a,b⟩,he,rfl⟩:=List.mem_map.1 hk
   rw [sget_some h.nd he]
   exact h.ok.2 b (h.perm.mem_iff.1 (List.mem_map.2 ⟨_,he,rfl⟩))
 · rw [sget_none hk];decide
theorem SumIs.put {s:SumM} {l:List Mo} (h:SumIs s l) {m:Mo} (hw:wkP m.2.1) (hc:coM m):SumIs (putSum s m) (insP l m):=by
 have hok:sumOK (insP l m):=⟨insP_srt h.ok.1,insP_co h.ok.2 hc⟩
 have hwk:∀ x∈insP l m,wkP x.2.1:=fun x hx=>by
  rcases insP_pw hx with ⟨y,hy,e⟩|e
  · rw [← e];exact h.wk y hy
  · rw [← e];exact hw
 unfold putSum getSum
 by_cases hk:facT m.2.1∈s.map (·.1)
 · obtain ⟨⟨a,b⟩,he,hae⟩:=List.mem_map.1 hk
   dsimp only at hae
   subst hae
   have hb:b∈l:=h.perm.mem_iff.1 (List.mem_map.2 ⟨_,he,rfl⟩)
   have hbe:b.2.1=m.2.1:=facT_inj (h.key _ he).symm
   rw [sget_some h.nd he,mput_rep h.nd hk,insP_rep h.ok.1 ⟨b,hb,hbe⟩] at *
   refine ⟨fun e hem=>?_,?_,hwk,hok,?_⟩
   · obtain ⟨f,hf,rfl⟩:=List.mem_map.1 hem
     split
     · rfl
     · exact h.key f hf
   · rw [List.map_map]
     have:s.map ((fun x=>x.1) ∘ fun e=>if e.1=facT m.2.1 then (facT m.2.1,(min (m.1+((some b).getD ((0,[],()):Mo)).1) 1000000001,m.2.1,())) else e)=s.map (·.1):=by
      refine List.map_congr_left fun e _=>?_
      simp only [Function.comp]
      split
      · rename_i e1;rw [e1]
      · rfl
     rw [this];exact h.nd
   · rw [List.map_map]
     have:s.map ((fun x=>x.2) ∘ fun e=>if e.1=facT m.2.1 then (facT m.2.1,(min (m.1+((some b).getD ((0,[],()):Mo)).1) 1000000001,m.2.1,())) else e)=(s.map (·.2)).map (repM m):=by
      rw [List.map_map]
      refine List.map_congr_left fun e hes=>?_
      simp only [Function.comp]
      have hel:e.2∈l:=h.perm.mem_iff.1 (List.mem_map.2 ⟨_,hes,rfl⟩)
      by_cases e1:e.1=facT m.2.1
      · have e2:e.2.2.1=m.2.1:=facT_inj ((h.key _ hes).symm.trans e1)
        have e3:e.2=b:=by
         have g1:=sget_some h.nd (show (e.1,e.2)∈s from hes)
         rw [e1,sget_some h.nd he] at g1
         exact (Option.some.inj g1).symm
        rw [if_pos e1,repM,if_pos e2,e2,e3,Int.add_comm];rfl
      · have e2:e.2.2.1≠m.2.1:=fun e2=>e1 ((h.key _ hes).trans (by rw [e2]))
        rw [if_neg e1,repM,if_neg e2]
     rw [this]
     exact h.perm.map _
 · have hne:∀ x∈l,x.2.1≠m.2.1:=fun x hx e=>hk (by
    obtain ⟨y,hy,rfl⟩:=List.mem_map.1 (h.perm.mem_iff.2 hx)
    exact List.mem_map.2 ⟨y,hy,(h.key y hy).trans (by rw [e])⟩)
   have hmm:(min (m.1+((none:Option Mo).getD ((0,[],()):Mo)).1) 1000000001,m.2.1,())=m:=by
    obtain ⟨m1,m2,⟨⟩⟩:=m
    unfold coM at hc
    dsimp only at hc
    have:min (m1+0) 1000000001=m1:=by omega
    simpa using this
   rw [sget_none hk,hmm,mput_new hk]
   refine ⟨fun e hem=>?_,?_,hwk,hok,?_⟩
   · rcases List.mem_append.1 hem with he|he
     · exact h.key e he
     · rw [List.mem_singleton] at he;subst he;rfl
   · rw [List.map_append,List.nodup_append]
     refine ⟨h.nd,by simp,fun a ha b hb e=>?_⟩
     simp only [List.map_cons,List.map_nil,List.mem_singleton] at hb
     subst hb;subst e
     exact hk ha
   · rw [List.map_append]
     exact (h.perm.append_right [m]).trans (insP_new hne).symm
def addS (s:SumM) (q:List Mo):SumM:=q.foldl putSum s
def okMs (q:List Mo):Prop:=∀ m∈q,wkP m.2.1∧coM m
theorem addS_is:∀ {q:List Mo} {s:SumM} {l:List Mo},SumIs s l→okMs q→SumIs (addS s q) (addL l q)
 |[],_,_,h,_=>h
 |m::q,s,l,h,hq=>by
  have h1:=h.put (hq m List.mem_cons_self).1 (hq m List.mem_cons_self).2
  exact addS_is (q:=q) h1 fun x hx=>hq x (List.mem_cons_of_mem _ hx)
theorem addS_sort {q:List Mo} (h:okMs q):sortM ((addS [] q).map (·.2))=addL [] q:=sort_eq (addS_is SumIs.nil h).perm.symm (addS_is SumIs.nil h).ok.1
theorem insP_end:∀ {l:List Mo} {m:Mo},(∀ x∈l,cmpP x.2.1 m.2.1<0)→insP l m=l++[m]
 |[],_,_=>rfl
 |y::l,m,h=>by
  unfold insP
  rw [if_pos (h y List.mem_cons_self),insP_end fun x hx=>h x (List.mem_cons_of_mem _ hx)];rfl
theorem addL_srt:∀ {q l:List Mo},srtM (l++q)→addL l q=l++q
 |[],l,_=>by simp [addL]
 |m::q,l,h=>by
  have h1:∀ x∈l,cmpP x.2.1 m.2.1<0:=fun x hx=>(List.pairwise_append.1 h).2.2 x hx m List.mem_cons_self
  have h2:srtM ((l++[m])++q):=by rw [List.append_assoc];exact h
  have:=addL_srt h2
  unfold addL at this ⊢
  rw [List.foldl_cons,insP_end h1,this,List.append_assoc];rfl
theorem addL_two {p q:List Mo} (h:srtM p):addL [] (p++q)=addL p q:=by rw [addL_app,addL_srt (l:=[]) h];rfl
end Go.Gv
