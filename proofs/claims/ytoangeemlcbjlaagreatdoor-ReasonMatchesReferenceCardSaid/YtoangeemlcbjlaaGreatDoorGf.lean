/- A verified generator of conditions over the code of the model. Part 6. -/
import Derived.Test.YtoangeemlcbjlaaGreatDoorGe
import Derived.RangeFuncOwn
set_option linter.all false

/- A region whose operations run in the order of the text, where the outcomes of some are settled only when they run. -/
namespace Go.Gv
open Go
theorem filter_stamp {e:MapEntry}:∀ {l:List MapEntry} {j:Nat},(l.map (·.born)).Nodup→l[j]?=some e→l.filter (fun x=>x.born !=e.born)=l.eraseIdx j
 |[],j,_,h=>by simp at h
 |x::l,0,hn,h=>by
  simp only [List.getElem?_cons_zero,Option.some.injEq] at h;subst h
  have hn':x.born ∉ l.map (·.born):=(List.nodup_cons.1 hn).1
  rw [List.filter_cons_of_neg (by simp),List.eraseIdx_cons_zero]
  apply List.filter_eq_self.2
  intro y hy
  simp only [bne_iff_ne,ne_eq]
  exact fun e=>hn' (List.mem_map.2 ⟨y,hy,e⟩)
 |x::l,j+1,hn,h=>by
  simp only [List.getElem?_cons_succ] at h
  obtain ⟨hn1,hn2⟩:=List.nodup_cons.1 hn
  have hx:x.born≠e.born:=fun he=>hn1 (List.mem_map.2 ⟨e,List.mem_of_getElem? h,he.symm⟩)
  rw [List.filter_cons_of_pos (by simpa using hx),List.eraseIdx_cons_succ,filter_stamp hn2 h]
theorem rep_erase {k v:Ty} {m:List (Dat k × Dat v)} {G:GW} {es:Array MapEntry} (h:MapRep k v m G es) {fs:Array MapEntry} {j:Nat} (hj:j<m.length) (hf:fs.toList=es.toList.eraseIdx j):MapRep k v (m.eraseIdx j) G fs:=by
 have h1:es.toList.length=m.length:=by simpa using h.1
 refine ⟨?_,fun i e he=>?_⟩
 · rw [← Array.length_toList,hf,List.length_eraseIdx,List.length_eraseIdx,h1]
 · rw [← Array.getElem?_toList,hf,List.getElem?_eraseIdx] at he
   rw [List.getElem?_eraseIdx]
   by_cases hi:i<j
   · rw [if_pos hi] at he ⊢
     exact h.2 i e (by rw [← Array.getElem?_toList];exact he)
   · rw [if_neg hi] at he ⊢
     exact h.2 (i+1) e (by rw [← Array.getElem?_toList];exact he)
theorem noCells {w:World} {b o:Nat} {ob:Obj} (h:w.heap[b]?=some ob) (hc:ob.isCells=false):w.cell? ⟨b,o,none⟩=none∧w.frozen? ⟨b,o,none⟩=false:=by
 simp only [World.cell?,World.frozen?,h]
 cases ob<;>first|exact ⟨rfl,rfl⟩|(simp [Obj.isCells] at hc)
theorem setOb_step {hp:Nat→HObj} {β:Asg} {G:GW} (H:HeapOK hp β G) {h r:Nat} {v:Value} (hv:β h=some v) (hc:∀ o,fpc (hp h) v r o) (ho:fpo (hp h) v r) {ob ob':Obj} (hob:G.w.heap[r]?=some ob) (hcell:ob.isCells=false) (hcell':ob'.isCells=false) (d:Nat) (hd:G.w.drawn≤d):
    Step (fpc (hp h) v) (fpo (hp h) v) G { G with w:={ G.w with heap:=G.w.heap.setIfInBounds r ob',drawn:=d}}:=by
 have hne:∀ b,b≠r→(G.w.heap.setIfInBounds r ob')[b]?=G.w.heap[b]?:=fun b hb=>by
  rw [Array.getElem?_setIfInBounds_ne (fun e=>hb e.symm)]
 have hcells:∀ b o,({ G.w with heap:=G.w.heap.setIfInBounds r ob',drawn:=d}:World).cell? ⟨b,o,none⟩=G.w.cell? ⟨b,o,none⟩∧({ G.w with heap:=G.w.heap.setIfInBounds r ob',drawn:=d}:World).frozen? ⟨b,o,none⟩=G.w.frozen? ⟨b,o,none⟩:=fun b o=>by
  by_cases e:b=r
  · subst e
    have hlt:b<G.w.heap.size:=(Array.getElem?_eq_some_iff.1 hob).1
    have h1:(G.w.heap.setIfInBounds b ob')[b]?=some ob':=by rw [Array.getElem?_setIfInBounds_self_of_lt hlt]
    have k1:=noCells (w:={ G.w with heap:=G.w.heap.setIfInBounds b ob',drawn:=d}) (o:=o) h1 hcell'
    have k2:=noCells (w:=G.w) (o:=o) hob hcell
    exact ⟨k1.1.trans k2.1.symm,k1.2.trans k2.2.symm⟩
  · simp only [World.cell?,World.frozen?,hne b e]
    exact ⟨trivial,trivial⟩
 exact {
  os:=rfl
  tape:=rfl
  output:=rfl
  size:=by simp
  cell:=fun b o _ _=>hcells b o
  blk:=fun b _ hn _=>hne b (fun e=>hn 0 (by subst e;exact hc 0))
  obj:=fun b es0 c0 hno he=>(hne b (fun e=>hno (by subst e;exact ho))).trans he
  le:=⟨fun b o hi=>⟨hi,(hcells b o).1⟩,fun b hi=>⟨hi,hne b (fun e=>(H.imo h _ hv b (by subst e;exact ho)).1 hi)⟩⟩
  new:=fun _ _ hi=> .inl hi
  newo:=fun _ hi=> .inl hi
  drawn:= .inl hd
  nz:=rfl}
theorem next_run {P:Program} {C:Ctx} {hp:Nat→HObj} {β:Asg} {G:GW} (H:HInv C hp β G) {h:Nat} {k v:Ty} {y:ObDat (.mit k v)} (hh:hp h= .ob (.mit k v) y) {u:Value} (hu:β h=some u) (T:TypeId):
    ∃ i:Nat,(y.1≠[]→i<y.1.length)∧∃ w G',(Instr.next u false T).run P G.w= .ok w G'.w∧HInv C (hset hp [(h, .ob (.mit k v) (y.1.eraseIdx i,y.1.getD i (dflt k,dflt v),y.1≠[]))]) β G'∧G.le G'∧
     (y.1≠[]→∃ a b,w= .tuple #[.bool true,a,b])∧(¬ y.1≠[]→w= .tuple #[.bool false]):=by
 obtain ⟨left,x,q⟩:=y
 obtain ⟨u',hu',hsat⟩:=H.heap.sat h (by rw [hh];simp)
 rw [hu] at hu';cases hu'
 rw [hh] at hsat
 obtain ⟨r,rfl,hsat⟩:=hsat
 have hfc:∀ o,fpc (hp h) (.pointer (some ⟨r,0,none⟩)) r o:=fun o=>by rw [hh];rfl
 have hfo:fpo (hp h) (.pointer (some ⟨r,0,none⟩)) r:=by rw [hh];rfl
 dsimp only
 have stay:left=[]→obSat (.mit k v) (left.eraseIdx 0,left.getD 0 (dflt k,dflt v),left≠[]) (.pointer (some ⟨r,0,none⟩)) G→(Instr.next (.pointer (some ⟨r,0,none⟩)) false T).run P G.w= .ok (.tuple #[.bool false]) G.w→
     ∃ i:Nat,(left≠[]→i<left.length)∧∃ w G',(Instr.next (.pointer (some ⟨r,0,none⟩)) false T).run P G.w= .ok w G'.w∧HInv C (hset hp [(h, .ob (.mit k v) (left.eraseIdx i,left.getD i (dflt k,dflt v),left≠[]))]) β G'∧G.le G'∧
     (left≠[]→∃ a b,w= .tuple #[.bool true,a,b])∧(¬ left≠[]→w= .tuple #[.bool false]):=fun hl hs hr=>
  ⟨0,fun hn=>(hn hl).elim,_,G,hr,H.write h _ _ hu (by simp) rfl rfl (Step.refl _ _ G) hs (fun b i hf=>by rw [hh];exact hf) (fun b hf=>by rw [hh];exact hf),G.le_refl,fun hn=>(hn hl).elim,fun _=>rfl⟩
 rcases hsat with ⟨h1,h2,a,s,l,h3⟩|⟨b,es,c,seen,h1,h2,h3,h4,h5,h6⟩
 · subst h1
   refine stay rfl ⟨r,rfl, .inl ⟨rfl,fun hn=>hn rfl,a,s,l,h3⟩⟩ ?_
   have g1:(getObj r).run P G.w= .ok (.mapIter none a s l) G.w:=by simp [getObj,Sem.run,h3]
   simp [Instr.next,g1,Result.andThen]
 · have g1:(getObj r).run P G.w= .ok (.mapIter (some b) c seen c) G.w:=by simp [getObj,Sem.run,h1]
   have g2:(getObj b).run P G.w= .ok (.map es c) G.w:=by simp [getObj,Sem.run,h3]
   have htest:(!seen.isEmpty && !es.isEmpty && es.all (fun e=>decide (e.born≥c)))=false:=by
    cases hes:es.isEmpty with
    |true=>simp
    |false=>
     have:es.all (fun e=>decide (e.born≥c))=false:=by
      rw [Array.all_eq_false]
      have hpos:0<es.size:=by
       rcases Nat.eq_zero_or_pos es.size with h0|h0
       · have:es=#[]:=Array.eq_empty_of_size_eq_zero h0
         rw [this] at hes;cases hes
       · exact h0
      refine ⟨0,hpos,?_⟩
      have:=h4.1 es[0] (by simp)
      simp;omega
     rw [this];simp
   obtain ⟨L,hL⟩:∃ L,L=es.filter (fun e=>!seen.contains e.born):=⟨_,rfl⟩
   rw [← hL] at h5
   have hmem:∀ x∈L.toList,x.born<c:=fun x hx=>h4.1 x (by rw [hL] at hx;simp at hx ⊢;exact hx.1)
   have e1:L.filter (fun x=>decide (x.born<c))=L:=Array.filter_eq_self.2 (fun x hx=>by simpa using hmem x (by simpa using hx))
   have e2:L.filter (fun x=>decide (x.born≥c))=#[]:=by
    rw [Array.filter_eq_empty_iff]
    intro x hx
    have:=hmem x (by simpa using hx)
    simp;omega
   have hsz:L.size=left.length:=h5.1
   by_cases h0:left=[]
   · have hL0:L=#[]:=Array.eq_empty_of_size_eq_zero (by rw [hsz,h0];rfl)
     subst h0
     refine stay rfl ⟨r,rfl, .inr ⟨b,es,c,seen,h1,h2,h3,h4,by rw [← hL];exact h5,fun hn=>(hn rfl).elim⟩⟩ ?_
     simp only [Instr.next,Sem.run_bind,g1,g2,Result.andThen,htest,Bool.false_eq_true,if_false,← hL,e1,e2,Array.append_empty]
     rw [hL0]
     simp [choose,Sem.run,Question.forced]
   · have hne:L.isEmpty=false:=by
      have:L.size≠0:=by rw [hsz];exact fun e=>h0 (List.eq_nil_of_length_eq_zero e)
      simp [Array.isEmpty,this]
     have hpos:0<L.size:=by rw [hsz];exact List.length_pos_iff.2 h0
     obtain ⟨j,d,hj,hdd,hch⟩:∃ (j d:Nat),j<L.size∧G.w.drawn≤d∧(choose (Question.mapNext L.size)).run P G.w= .ok j { G.w with drawn:=d}:=by
      by_cases hf:L.size≤1
      · exact ⟨0,G.w.drawn,by omega,Nat.le_refl _,by simp [choose,Sem.run,Question.forced,hf]⟩
      · exact ⟨_,G.w.drawn+1,Nat.mod_lt _ (by omega),Nat.le_succ _,by
         simp only [choose,Sem.run,Question.forced,decide_eq_true_eq,hf,if_false,Question.cut]
         rfl⟩
     have hjl:j<left.length:=by rw [← hsz];exact hj
     have hst:=setOb_step H.heap hu hfc hfo h1 rfl (ob':= .mapIter (some b) c (seen.push L[j].born) c) rfl d hdd
     have hLl:L.toList=es.toList.filter (fun e=>!seen.contains e.born):=by rw [hL,Array.toList_filter]
     have hLn:(L.toList.map (·.born)).Nodup:=by
      rw [hLl]
      exact List.Sublist.nodup (List.Sublist.map _ List.filter_sublist) h4.2
     obtain ⟨e0,he0⟩:∃ e0,e0=L[j]:=⟨_,rfl⟩
     rw [← he0] at hst
     have hLj:L.toList[j]?=some e0:=by rw [he0];simp [hj]
     have hLe:e0∈es.toList:=by
      have:=List.mem_of_getElem? hLj
      rw [hLl] at this
      exact (List.mem_filter.1 this).1
     have hfil:(es.filter (fun e=>!(seen.push e0.born).contains e.born)).toList=L.toList.eraseIdx j:=by
      rw [← filter_stamp hLn hLj,hLl,Array.toList_filter,List.filter_filter]
      congr 1
      funext e
      simp only [Array.contains_push,Bool.not_or]
      cases seen.contains e.born<;>cases hq:(e.born==e0.born)<;>simp_all [bne]
     obtain ⟨y,hy,r1,r2⟩:=h5.2 j e0 (by rw [← Array.getElem?_toList];exact hLj)
     have hyd:left.getD j (dflt k,dflt v)=y:=by rw [List.getD_eq_getElem?_getD,hy];rfl
     have hbr:b≠r:=fun e=>by subst e;rw [h1] at h3;cases h3
     have hob':({ G.w with heap:=G.w.heap.setIfInBounds r (.mapIter (some b) c (seen.push e0.born) c),drawn:=d}:World).heap[b]?=some (.map es c):=by
      show (G.w.heap.setIfInBounds r _)[b]?=_
      rw [Array.getElem?_setIfInBounds_ne (fun e=>hbr e.symm)];exact h3
     refine ⟨j,fun _=>hjl, .tuple #[.bool true,e0.key,e0.val],{ G with w:={ G.w with heap:=G.w.heap.setIfInBounds r (.mapIter (some b) c (seen.push e0.born) c),drawn:=d}},?_,?_,hst.le,fun _=>⟨_,_,rfl⟩,fun hn=>(hn h0).elim⟩
     · have hset:(setObj r (.mapIter (some b) c (seen.push e0.born) c)).run P { G.w with drawn:=d}= .ok () { G.w with heap:=G.w.heap.setIfInBounds r (.mapIter (some b) c (seen.push e0.born) c),drawn:=d}:=by
        simp [setObj,Sem.run,h1]
       simp only [Instr.next,Sem.run_bind,g1,g2,Result.andThen,htest,Bool.false_eq_true,if_false,← hL,e1,e2,Array.append_empty,hne,Array.empty_append,Array.size_map,hch,Array.getElem?_map,(show L[j]?=some e0 from by rw [← Array.getElem?_toList];exact hLj),Option.map_some,hset]
       rfl
     · refine H.write h _ _ hu (by simp) rfl rfl hst ?_ (fun b i hf=>by rw [hh];exact hf) (fun b hf=>by rw [hh];exact hf)
       refine ⟨r,rfl, .inr ⟨b,es,c,seen.push e0.born,?_,h2,hob',h4,(rep_erase h5 hjl hfil).mono hst.le,fun _=>⟨e0,hLe,by simp,?_,?_⟩⟩⟩
       · have hlt:r<G.w.heap.size:=(Array.getElem?_eq_some_iff.1 h1).1
         show (G.w.heap.setIfInBounds r _)[r]?=_
         rw [Array.getElem?_setIfInBounds_self_of_lt hlt]
       · rw [hyd];exact r1.mono hst.le
       · rw [hyd];exact r2.mono hst.le
theorem gam_app {E M:List TE} {k:Nat} (h:k<E.length):gam (E++M) k=gam E k:=by
 unfold gam
 rw [List.getElem?_append_left h]
theorem atD_app {A:Type}:∀ (ws vs:List (Nat→Option A)) (D:Nat→Bool) (i:Nat) (f:Nat→A),(∀ j,i+ws.length≤j→D j=false)→atD (ws++vs) D i f=atD ws D i f
 |[],vs,D,i,f,h=>by
  induction vs generalizing i with
  |nil=>rfl
  |cons w r ih=>
   have h0:D i=false:=h i (by simp)
   simp only [List.nil_append,atD,h0] at ih ⊢
   exact ih (i+1) (fun j hj=>h j (by simp at hj ⊢;omega))
 |w::ws,vs,D,i,f,h=>by
  simp only [List.cons_append,atD]
  exact atD_app ws vs D (i+1) _ (fun j hj=>h j (by simp at hj ⊢;omega))
theorem WSof_app {L:List Oper} {E M:List TE} (h:E.length≤L.length):WSof L (E++M)=WSof L E++List.zipWith slW (L.drop E.length) M:=by
 unfold WSof
 have hl:(L.take E.length).length=E.length:=by rw [List.length_take];omega
 have h1:List.zipWith slW L (E++M)=List.zipWith slW (L.take E.length++L.drop E.length) (E++M):=by rw [List.take_append_drop]
 have h2:List.zipWith slW L E=List.zipWith slW (L.take E.length++L.drop E.length) (E++[]):=by rw [List.take_append_drop,List.append_nil]
 rw [h1,h2,List.zipWith_append hl,List.zipWith_append hl]
 simp
theorem AtI.app {c:Cf} {L:List Oper} {E:List TE} {sl0:Nat→PA} {hp0:Nat→HObj} {i:Nat} {rs:RS} (h:AtI c L E sl0 hp0 i rs) (hE:i=E.length) (hl:E.length≤L.length) (M:List TE):AtI c L (E++M) sl0 hp0 i rs:={
 slf:=by
  rw [h.slf,WSof_app hl,atD_app _ _ _ _ _ (fun j hj=>by
   have:(WSof L E).length=E.length:=by unfold WSof;rw [List.length_zipWith];omega
   rw [this] at hj
   simp [lex];omega)]
 hpf:=by
  rw [h.hpf]
  show _=atD (List.map hpW (E++M)) _ _ _
  rw [List.map_append,atD_app _ _ _ _ _ (fun j hj=>by
   rw [List.length_map] at hj
   simp [lex];omega)]
  rfl
 fresh:=h.fresh
 gd:=⟨fun k p pp hl'=>by
  obtain ⟨h1,⟨o,e,d,g1,g2,g3,g4,g5⟩,h3⟩:=h.gd.all k p pp hl'
  exact ⟨h1,⟨o,e,d,g1,by rw [List.getElem?_append_left (by omega)];exact g2,g3,g4,g5⟩,h3⟩⟩
 pth:=h.pth}
theorem AtI.gam {c:Cf} {L:List Oper} {E:List TE} {sl0:Nat→PA} {hp0:Nat→HObj} {i:Nat} {rs:RS} (h:AtI c L E sl0 hp0 i rs) (hE:i=E.length) (M:List TE) {path:Path} (hp:∀ x∈path,∃ q,lookN rs.gd x.1=some q):pathOK (Gv.gam (E++M)) path↔pathOK (Gv.gam E) path:=by
 have key:∀ x∈path,Gv.gam (E++M) x.1=Gv.gam E x.1:=fun x hx=>by
  obtain ⟨⟨p,pp⟩,hq⟩:=hp x hx
  exact gam_app (by have:=(h.gd.all x.1 p pp hq).1;omega)
 exact ⟨fun hk x hx=>by rw [← key x hx];exact hk x hx,fun hk x hx=>by rw [key x hx];exact hk x hx⟩
theorem Holds.app {c:Cf} {L:List Oper} {E:List TE} {sl0:Nat→PA} {hp0:Nat→HObj} {i:Nat} {rs:RS} (h:AtI c L E sl0 hp0 i rs) (hE:i=E.length) (M:List TE) {C:Ctx} {β:Asg} {a:Act} {G:GW} (H:Holds C (Gv.gam E) ⟨rs.slf,rs.hpf⟩ β a G):Holds C (Gv.gam (E++M)) ⟨rs.slf,rs.hpf⟩ β a G:=
 ⟨fun s=>by
  have hs:=H.slots s
  have hk:=h.gam hE M (path:=(rs.slf s).path) (h.pth s)
  exact ⟨fun hp=>hs.1 (hk.1 hp),fun hp=>hs.2 (fun hq=>hp (hk.2 hq))⟩,H.size,H.defers,H.inv⟩
theorem want_seq {c:Cf} {L:List Oper} {E:List TE} {sl0:Nat→PA} {hp0:Nat→HObj} {i:Nat} {rs:RS} {ops:Array Oper} (hops:ops.toList=L) (hgd:gdB L L=true) {C:Ctx} (hN:C.N=c.N) (hrs:AtI c L E sl0 hp0 i rs) (hdsts:∀ j o,j<i→L[j]?=some o→dstOK o.dst c.N=true)
    {o:Oper} (ho:L[i]?=some o) {path:Path} (hpa:pathOf rs.gd o=some path) {β:Asg} {a:Act} {G:GW} (hI:Holds C (Gv.gam E) ⟨rs.slf,rs.hpf⟩ β a G):
    (Region.wanted o (yielded ops a.tmps)=true∧pathOK (Gv.gam E) path)∨(Region.wanted o (yielded ops a.tmps)=false∧¬ pathOK (Gv.gam E) path):=by
 unfold pathOf at hpa
 split at hpa
 · rename_i hno
   simp only [Option.some.injEq] at hpa
   refine .inl ⟨by unfold Region.wanted;rw [hno],?_⟩
   rw [← hpa];intro x hx;cases hx
 · rename_i g w hgw
   split at hpa
   · rename_i p pp hl
     simp only [Option.some.injEq] at hpa
     obtain ⟨g1,⟨og,eg,d,g2,g3,g4,g5,g6⟩,_⟩:=hrs.gd.all g p pp hl
     have hone:=gdB_spec hgd o (List.mem_of_getElem? ho)
     have hu:uniqB d g L 0=true:=by
      unfold gdOne at hone
      rw [Bool.and_eq_true] at hone
      have h1':=hone.1
      rw [hgw] at h1'
      dsimp only at h1'
      rw [g2] at h1'
      dsimp only at h1'
      rw [g6] at h1'
      exact h1'
     have hcont:=uniq_content (sl0:=sl0) g2 g3 g6 (fun j' o' h1 h2=>by have:=uniqB_spec hu j' o' h1 h2;omega) g1
     have hslot:=hI.slots d
     have hsd:rs.slf d=⟨pp,eg.ap⟩:=by rw [hrs.slf,hcont,g4]
     dsimp only at hslot
     rw [hsd] at hslot
     have hog:ops[g]?=some og:=by rw [← Array.getElem?_toList,hops];exact g2
     have hdg:=hdsts g og g1 g2
     have hdlt:d<a.tmps.size:=by
      rw [hI.size,hN]
      rw [g6] at hdg
      exact Nat.le_of_ble_eq_true hdg
     have hty:a.tmps[d]?=some (a.tmps.getD d undef):=by
      rw [Array.getD_eq_getD_getElem?,Array.getElem?_eq_getElem hdlt];rfl
     have hgam:=hrs.gd.gam hl
     by_cases hpok:pathOK (Gv.gam E) pp
     · obtain ⟨bb,hbb,hiff⟩:=prop_val (propOf_sat g5 (hslot.1 hpok))
       have hγ:Gv.gam E g=bb:=by
        have:Gv.gam E g=true↔bb=true:=by rw [hgam,hiff]
        cases h1:Gv.gam E g<;>cases h2:bb<;>simp_all
       have hyl:yielded ops a.tmps g=some bb:=by
        unfold yielded
        rw [hog]
        show (match (og.dst).bind (a.tmps[·]?) with|some (.bool b)=>some b|_=>none)=some bb
        rw [g6]
        show (match a.tmps[d]? with|some (.bool b)=>some b|_=>none)=some bb
        rw [hty,hbb]
       unfold Region.wanted
       rw [hgw]
       dsimp only
       rw [hyl,← hpa]
       by_cases hbw:bb=w
       · refine .inl ⟨by simp [hbw],fun x hx=>?_⟩
         rcases List.mem_cons.1 hx with rfl|hx
         · exact hγ.trans hbw
         · exact hpok x hx
       · refine .inr ⟨by simp [hbw],fun h=>hbw ?_⟩
         have:=h (g,w) List.mem_cons_self
         exact hγ.symm.trans this
     · have hv:=hslot.2 hpok
       have hyl:yielded ops a.tmps g=none:=by
        unfold yielded
        rw [hog]
        show (match (og.dst).bind (a.tmps[·]?) with|some (.bool b)=>some b|_=>none)=none
        rw [g6]
        show (match a.tmps[d]? with|some (.bool b)=>some b|_=>none)=none
        rw [hty,hv];rfl
       unfold Region.wanted
       rw [hgw]
       dsimp only
       rw [hyl,← hpa]
       exact .inr ⟨by simp,fun h=>hpok (fun x hx=>h x (List.mem_cons_of_mem _ hx))⟩
   · cases hpa
theorem Holds.nextP {C:Ctx} {γ:Nat→Bool} {rs:RS} {β β':Asg} {a:Act} {G G':GW} (H:Holds C γ ⟨rs.slf,rs.hpf⟩ β a G) (i:Nat) (o:Oper) (e:TE) (vc:List Prop) (v:Value) (hd:dstOK o.dst C.N=true) (hb:β.le β') (hg:G.le G') (hv:satP γ ⟨e.path,e.ap⟩ β' G' v) (hi:HInv C (hset rs.hpf e.hw) β' G'):
    Holds C γ ⟨(Gv.nextP i o.dst e.path e.ap e.hw e.k e.ns vc rs).slf,(Gv.nextP i o.dst e.path e.ap e.hw e.k e.ns vc rs).hpf⟩ β' (a.put o.dst v) G':=by
 have hst:(St.hset (St.put ⟨rs.slf,rs.hpf⟩ o.dst ⟨e.path,e.ap⟩) e.hw)=⟨(Gv.nextP i o.dst e.path e.ap e.hw e.k e.ns vc rs).slf,(Gv.nextP i o.dst e.path e.ap e.hw e.k e.ns vc rs).hpf⟩:=by
  unfold St.put St.hset
  dsimp only
  congr 1
  · funext s
    rw [nextP_slf]
    unfold slW
    cases o.dst with
    |none=>rfl
    |some d=>
     dsimp only
     by_cases h:s=d
     · rw [if_pos h,if_pos h];rfl
     · rw [if_neg h,if_neg h];rfl
  · funext h
    rw [nextP_hpf,hset_look];rfl
 rw [← hst]
 exact H.next o.dst v ⟨e.path,e.ap⟩ e.hw hd hb hg hv hi
theorem yield_exec {P:Program} {o:Oper} {f:Operand} (ho:calleeOf o.op=some f) {ρ:Operand→Value} {l:Nat} (hρ:ρ f= .func (.yield l) #[] #[]) {w:World} {n:Next} (hy:(Instr.yield l ((opnds o.op).map ρ).toArray).run P w= .ok n w):
    (execOp ρ o).run P w= .ok n w:=by
 obtain ⟨dst,op,type,pos,after,guard⟩:=o
 dsimp only at ho ⊢
 unfold calleeOf at ho
 split at ho
 · rename_i f' args ats
   simp only [Option.some.injEq] at ho;subst ho
   have e:(args.toList.map ρ).toArray=args.map ρ:=by
    apply Array.ext'
    simp only [Array.toList_map]
   have e2:((opnds (Op.call { callee:= .value f',args:=args,argTypes:=ats})).map ρ).toArray=args.map ρ:=e
   rw [e2] at hy
   simp [execOp,resolve,Deferred.ofValue,hρ,invoke,hy]
 · cases ho
theorem argsT_satD {hp:Nat→HObj} {β:Asg} {G:GW} (H:HeapSat hp β G):∀ {ts:List Ty} {args:List AP} {y:TDat ts} {vals:List Value},argsT hp ts args=some y→satT (listA args) β G vals→satD ts y G vals
 |[],[],y,vals,h,hs=>by unfold listA satT at hs;exact hs
 |[],_::_,y,vals,h,hs=>by simp [argsT] at h
 |_::_,[],y,vals,h,hs=>by simp [argsT] at h
 |t::r,X::l,y,vals,h,hs=>by
  unfold argsT at h
  split at h
  · rename_i x hx
    split at h
    · rename_i z hz
      simp only [Option.some.injEq] at h;subst h
      unfold listA satT at hs
      obtain ⟨v,l',rfl,h1,h2⟩:=hs
      exact ⟨v,l',rfl,toDat_rep H hx h1,argsT_satD H hz h2⟩
    · cases h
  · cases h
theorem HInv.fed {C:Ctx} {hp:Nat→HObj} {β:Asg} {G G':GW} (H:HInv C hp β G) {h:Nat} {v:Value} {ts:List Ty} {ys ys':List (TDat ts)} {E E':Eater} {D:Eater→Prop} (hh:hp h= .ob (.log ts) (ys,E,D)) (hv:β h=some v)
    (hs:Step E.F E.Fo G G') (ho:OldOK G') (hj:E'.J v G') (hF:∀ b o,E'.F b o→(E.F b o∨G.w.heap.size≤b)∧¬ G'.im b o∧b<G'.w.heap.size) (hFo:∀ b,E'.Fo b→(E.Fo b∨G.w.heap.size≤b)∧¬ G'.imo b∧b<G'.w.heap.size):
    HInv C (hset hp [(h, .ob (.log ts) (ys',E',D))]) β G':=by
 have e1:∀ b o,fpc (hp h) v b o↔E.F b o:=fun b o=>by rw [hh];exact Iff.rfl
 have e2:∀ b,fpo (hp h) v b↔E.Fo b:=fun b=>by rw [hh];exact Iff.rfl
 refine ⟨H.heap.gen (fun n=>n=h) hs (Asg.le_refl β) (fun n hne=>⟨by simp [hset,hne],rfl⟩) (fun b o hf=>⟨h,v,rfl,hv,(e1 b o).2 hf⟩) (fun b hf=>⟨h,v,rfl,hv,(e2 b).2 hf⟩)
     (fun n e hno=>(by subst e;simp [hset] at hno)) (fun n e _=>(by subst e;refine ⟨v,hv,?_⟩;simp only [hset,if_true];exact hj)) ?_ ?_
     (fun n n' _ _ e e' hne=>(hne (e.trans e'.symm)).elim) (fun n n' _ _ e e' hne=>(hne (e.trans e'.symm)).elim) ho.old ho.oldo,?_,?_,?_,?_⟩
 · intro n u e hu b i hf
   subst e
   rw [hv] at hu;cases hu
   simp only [hset,if_true] at hf
   obtain ⟨k1,k2,k3⟩:=hF b i hf
   exact ⟨k1.elim (fun k=> .inl ⟨n,v,rfl,hv,(e1 b i).2 k⟩) .inr,k2,k3⟩
 · intro n u e hu b hf
   subst e
   rw [hv] at hu;cases hu
   simp only [hset,if_true] at hf
   obtain ⟨k1,k2,k3⟩:=hFo b hf
   exact ⟨k1.elim (fun k=> .inl ⟨n,v,rfl,hv,(e2 b).2 k⟩) .inr,k2,k3⟩
 · exact H.step.trans hs (fun b o hf=>H.own h v hv b o ((e1 b o).2 hf)) (fun b hf=>H.owno h v hv b ((e2 b).2 hf))
 · intro n u hu b i hf
   by_cases e:n=h
   · subst e
     rw [hv] at hu;cases hu
     simp only [hset,if_true] at hf
     rcases (hF b i hf).1 with k|k
     · exact H.own n v hv b i ((e1 b i).2 k)
     · exact .inr (Nat.le_trans H.step.size k)
   · simp [hset,e] at hf
     exact H.own n u hu b i hf
 · intro n u hu b hf
   by_cases e:n=h
   · subst e
     rw [hv] at hu;cases hu
     simp only [hset,if_true] at hf
     rcases (hFo b hf).1 with k|k
     · exact H.owno n v hv b ((e2 b).2 k)
     · exact .inr (Nat.le_trans H.step.size k)
   · simp [hset,e] at hf
     exact H.owno n u hu b hf
 · exact fun g t x hx=>(H.glob g t x hx).mono hs.le
theorem dyn_good {P:Program} {c:Cf} (hL:LateOK P c) {C:Ctx} (hg:GlobIs C c) {r:Option Nat} {γ:Nat→Bool} {rs:RS} (hfr:∀ n,rs.nx≤n→rs.hpf n= .none) {path:Path} {o:Oper} {D:Dyn} (hD:dynA c rs.slf rs.hpf rs.nx path o=some D) {β:Asg} {a:Act} {G:GW} (hI:Holds C γ ⟨rs.slf,rs.hpf⟩ β a G) (hp:pathOK γ path) (hvc:∀ p∈D.vc,p) {Q:Exit→Act→World→Prop} {K:Act→World→Prop}
    (hK:∀ x,D.ok x→∀ v β' G',HInv C (hset rs.hpf (D.W x).hw) β' G'→β.le β'→G.le G'→sat (D.W x).ap β' G' v→K (a.put o.dst v) G'.w):o.wpIn (WF r) 0 P a G.w K Q:=by
 unfold dynA at hD
 have hargs:satT (listA ((opnds o.op).map (opA c.gl rs.slf path))) β G ((opnds o.op).map a.eval):=satT_map _ fun x hx=>opA_sat hg.eq hI hp x fun _ _=>rfl
 split at hD
 · rename_i f hcal
   have hsf:=opA_sat hg.eq hI hp f (fun _ _=>rfl)
   split at hD
   · rename_i g caps hop
     rw [hop] at hsf
     unfold sat at hsf
     obtain ⟨cv,hcv,hcs⟩:=hsf
     split at hD
     · rename_i l S Ss hl hSs
       obtain ⟨hSg,hSn⟩:=hL.L g S (by rw [hSs];exact List.mem_cons_self)
       obtain ⟨fn,hf,hb,hnm⟩:=hSg.1
       have hargs2:satT (listA ((opnds o.op).map (opA c.gl rs.slf path)++l)) β G ((opnds o.op).map a.eval++cv):=satT_append hargs (by rw [unlistA_spec hl];exact hcs)
       have hcalls:=callL_run hSg hD hvc hI.inv hfr hg.eq (fun h=>hg.nz (hSn h)) hargs2
       refine ⟨fun _ _=>trivial,?_⟩
       rw [semAt_nd (fun c hc=>by rw [hc] at hcal;cases hcal),call_exec hf hb hnm hcal hcv]
       have e:((opnds o.op).map a.eval).toArray++cv.toArray=((opnds o.op).map a.eval++cv).toArray:=by simp
       rw [e]
       refine ⟨fun h=>(by cases h),CallsIn.mono (callsIn_wide.2 hcalls:CallsIn Fence.wide 0 P g _ G.w _) fun en w' hr=>?_⟩
       cases en with
       |panicked _=>exact hr.elim
       |outgrown=>exact hr.elim
       |returned v=>
        obtain ⟨x,hx,β1,G1,rfl,H1,hb1,hg1,hs1⟩:=hr
        exact hK x hx v β1 G1 H1 hb1 hg1 hs1
     · cases hD
   · rename_i h hop
     rw [hop] at hsf
     unfold sat at hsf
     unfold feedA at hD
     split at hD
     · rename_i ts ys E Dn hh
       split at hD
       · rename_i y hy
         simp only [Option.some.injEq] at hD;subst hD
         obtain ⟨hhd,heat⟩:=hvc _ (List.mem_singleton.2 rfl)
         have heq:=hL.eat _ _ _ _ heat
         obtain ⟨r',hr'⟩:∃ r',ys=y::r':=by
          cases ys with
          |nil=>cases hhd
          |cons a l=>simp at hhd;subst hhd;exact ⟨l,rfl⟩
         subst hr'
         rw [heq] at heat
         obtain ⟨u,hu,hj⟩:=hI.inv.heap.sat h (by show rs.hpf h≠ .none;rw [hh];simp)
         rw [hsf.1] at hu;cases hu
         have hj:satH (rs.hpf h) (a.eval f) β G:=hj
         rw [hh] at hj
         have hj:E.J (a.eval f) G:=hj
         obtain ⟨L,fn,tmps,assign,body,hv,hrun,hround⟩:=heat (a.eval f) G _ hj hI.inv.heap.o (argsT_satD hI.inv.hs hy hargs)
         refine ⟨fun _ _=>trivial,?_⟩
         rw [semAt_nd (fun c hc=>by rw [hc] at hcal;cases hcal),yield_exec hcal hv hrun]
         rw [Oper.uponIn_round]
         refine ⟨fun h=>(by cases h),RoundIn.mono (show RoundIn (WF r) 0 P L fn tmps assign body G.w _ from hround) fun e w' hr=>?_⟩
         obtain ⟨q,E',G',rfl,rfl,hst,hold,hj',hF,hFo,hq⟩:=hr
         refine hK (q,E') ?_ (.bool q) β G' ?_ (Asg.le_refl β) hst.le ?_
         · show c.eat ts Dn (if q=true then r' else []) E'
           rw [heq]
           cases q with
           |true=>exact hq
           |false=>exact hq
         · exact hI.inv.fed hh hsf.1 hst hold hj' hF hFo
         · unfold sat
           cases q with
           |true=>exact ⟨fun _=>rfl,fun h=>(h rfl).elim⟩
           |false=>exact ⟨fun h=>(by cases h),fun _=>rfl⟩
       · cases hD
     · cases hD
   · cases hD
 · split at hD
   · rename_i x hopn
     split at hD
     · rename_i h hop
       split at hD
       · rename_i k v y hh
         simp only [Option.some.injEq] at hD;subst hD
         have hs:=opA_sat hg.eq hI hp x (fun _ _=>rfl)
         rw [hop] at hs
         unfold sat at hs
         obtain ⟨i,hi,w,G',h1,h2,h3,h4,h5⟩:=next_run (P:=P) hI.inv hh hs.1 o.type
         refine ⟨fun _ _=>trivial,?_⟩
         rw [semAt_nd (fun c hc=>by rw [hopn] at hc;cases hc)]
         have hrun:(execOp a.eval o).run P G.w= .ok (.value w) G'.w:=by
          obtain ⟨dst,op,type,pos,after,guard⟩:=o
          dsimp only at hopn h1
          subst hopn
          show (do Pure.pure (Next.value (← Instr.next (a.eval x) false type)):Sem Next).run P G.w=_
          simp [h1]
         rw [hrun]
         exact hK i hi w β G' h2 (Asg.le_refl β) h3 (by unfold sat;exact ⟨h4,h5⟩)
       · cases hD
     · cases hD
   · cases hD
theorem region_seq {P:Program} {c:Cf} (hE:c.E.ok P=true) (hS:SpecsOK P c.gl c.F c.nz) (hL:LateOK P c) {C:Ctx} (hg:GlobIs C c) (hN:C.N=c.N) {ρ:Option Nat} {Q:Exit→Act→World→Prop} {L:List Oper} {sl0:Nat→PA} {hp0:Nat→HObj} {ops:Array Oper} (hops:ops.toList=L) (hgd:gdB L L=true) {y:Bool}
    {K:RS→Prop} (hKv:∀ rsE,K rsE→∀ p∈rsE.vc,p) {rs0:RS} {a0:Act} {β0:Asg} {G0:GW}
    (hQ:∀ rsE E,K rsE→AtI c L E sl0 hp0 L.length rsE→E.length=L.length→rs0.nx≤rsE.nx→(∀ h,(h∈rs0.wr∨∃ e∈E,h∈keysH e.hw)→h∈rsE.wr)→∀ a' β' G',Holds C (gam E) ⟨rsE.slf,rsE.hpf⟩ β' a' G'→β0.le β'→G0.le G'→SameO L a0 a'→Q .normal a' G'.w):
    ∀ (r:List Oper) (i:Nat) (rs:RS) (E:List TE),runOps c y L r i rs K→r=L.drop i→i=E.length→i≤L.length→AtI c L E sl0 hp0 i rs→(∀ j o,j<i→L[j]?=some o→dstOK o.dst c.N=true)→rs0.nx≤rs.nx→(∀ h,(h∈rs0.wr∨∃ e∈E,h∈keysH e.hw)→h∈rs.wr)→
     ∀ (a:Act) (β:Asg) (G:GW),β0.le β→G0.le G→SameO L a0 a→Holds C (gam E) ⟨rs.slf,rs.hpf⟩ β a G→wpOpsIn (WF ρ) 0 P ops Q (List.range' i r.length) a G.w
 |[],i,rs,E,h,hr,hi,hil,hat,hdst,hnx,hwr,a,β,G,hb,hgl,hsm,hI=>by
  have hlen:i=L.length:=by have:=congrArg List.length hr;simp at this;omega
  subst hlen
  exact hQ rs E h hat hi.symm hnx hwr a β G hI hb hgl hsm
 |o::r,i,rs,E,h,hr,hi,hil,hat,hdst,hnx,hwr,a,β,G,hb,hgl,hsm,hI=>by
  obtain ⟨ho,hr'⟩:=drop_cons hr
  have hlt:i<L.length:=(List.getElem?_eq_some_iff.1 ho).1
  obtain ⟨path,hpa,hd,hcase⟩:=runOps_step hS h hKv
  have hdC:dstOK o.dst C.N=true:=by rw [hN];exact hd
  have hoi:ops[i]?=some o:=by rw [← Array.getElem?_toList,hops];exact ho
  have hwant:=want_seq hops hgd hN hat hdst ho hpa hI
  have hdst':∀ j o',j<i+1→L[j]?=some o'→dstOK o'.dst c.N=true:=fun j o' hj hjo=>by
   by_cases e:j=i
   · subst e;rw [ho] at hjo;cases hjo;exact hd
   · exact hdst j o' (by omega) hjo
  -- the state behind the operation e, and on
  have go:∀ (e:TE) (vc:List Prop),e.path=path→(∀ h∈keysH e.hw,h<rs.nx+e.k)→runOps c y L r (i+1) (nextP i o.dst e.path e.ap e.hw e.k e.ns vc rs) K→
      ∀ v β' G',HInv C (hset rs.hpf e.hw) β' G'→β.le β'→G.le G'→satP (gam (E++[e])) ⟨e.path,e.ap⟩ β' G' v→wpOpsIn (WF ρ) 0 P ops Q (List.range' (i+1) r.length) (a.put o.dst v) G'.w:=fun e vc he hk hgo v β' G' h1 h2 h3 h4=>by
   have hat':=(hat.app hi (by omega) [e]).next ho (by rw [hi];simp) (by rw [he];exact hpa) hk vc
   refine region_seq hE hS hL hg hN hops hgd hKv hQ r (i+1) _ (E++[e]) hgo hr' (by simp [hi]) hlt hat' hdst' ?_ ?_ _ β' G' (Asg.le_trans hb h2) (GW.le_trans hgl h3) (hsm.trans (SameO.put (List.mem_of_getElem? ho) a v (fun d hd'=>by
       rw [hI.size];rw [hd'] at hdC;exact Nat.le_of_ble_eq_true hdC))) ?_
   · exact Nat.le_trans hnx (Nat.le_add_right _ _)
   · intro h hh
     rw [show (nextP i o.dst e.path e.ap e.hw e.k e.ns vc rs).wr=keysR e.hw rs.wr from rfl,keysR_eq,List.mem_append]
     rcases hh with hh|⟨e',he',hh⟩
     · exact .inr (hwr h (.inl hh))
     · rcases List.mem_append.1 he' with he'|he'
       · exact .inr (hwr h (.inr ⟨e',he',hh⟩))
       · rw [List.mem_singleton] at he';subst he';exact .inl hh
   · exact (hI.app hat hi [e]).nextP i o e vc v hdC h2 h3 h4 h1
  rw [List.length_cons,List.range'_succ,wpOpsIn_cons]
  unfold wpOpIn
  rw [hoi]
  dsimp only
  rcases hcase with ⟨e,vc,he,hw,hgo⟩|⟨D,hD,hp1,hp2⟩
  · subst he
    have hop:OpAt c L (E++[e]) sl0 hp0 i o e:=⟨rs,hat.app hi (by omega) [e],hpa,hd,hw⟩
    obtain ⟨hgood,hnil⟩:=opAt_good hE hS hg (Q:=Q) hgd ho hop
    have hatE:=hat.app hi (by omega) [e]
    rw [← hatE.slf,← hatE.hpf] at hgood
    have hpk:=hat.gam hi [e] (pathOf_in hat.gd hpa)
    rcases hwant with ⟨hw1,hpok⟩|⟨hw1,hpok⟩
    · rw [if_pos hw1]
      exact hgood ρ a β G _ _ (fun _ _=>rfl) (fun _ _=>rfl) (hI.app hat hi [e]) (hpk.2 hpok) _ fun v β' G' h1 h2 h3 h4=>go e vc rfl (went_keys hw) hgo v β' G' h1 h2 h3 ⟨fun _=>h4,fun h=>(h (hpk.2 hpok)).elim⟩
    · rw [hw1]
      simp only [Bool.false_eq_true,if_false]
      have hn:=hnil (fun h=>hpok (hpk.1 h))
      exact ⟨fun _ _=>trivial,go e vc rfl (went_keys hw) hgo undef β G (by rw [hn];exact hI.inv) (Asg.le_refl β) G.le_refl ⟨fun h=>(hpok (hpk.1 h)).elim,fun _=>rfl⟩⟩
  · have hpp:=hat.gd.path path (pathOf_in hat.gd hpa)
    rcases hwant with ⟨hw1,hpok⟩|⟨hw1,hpok⟩
    · rw [if_pos hw1]
      obtain ⟨hvc,hx⟩:=hp1 (hpp.2 hpok)
      have hD':dynA c rs.slf rs.hpf rs.nx path o=some D:=by
       unfold dynB at hD
       cases y with
       |true=>exact hD
       |false=>cases hD
      have hwp:=dyn_good (P:=P) hL hg (r:=ρ) hat.fresh hD' hI hpok hvc (Q:=Q) (K:=fun a' w'=>wpOpsIn (WF ρ) 0 P ops Q (List.range' (i+1) r.length) a' w') (fun x hok v β' G' h1 h2 h3 h4=>by
       obtain ⟨hk,hgo⟩:=hx x hok
       have hpk:=hat.gam hi [⟨path,(D.W x).ap,(D.W x).hw,D.ns,(D.W x).k⟩] (pathOf_in hat.gd hpa)
       exact go ⟨path,(D.W x).ap,(D.W x).hw,D.ns,(D.W x).k⟩ [] rfl (fun h hm=>(keysOK_spec hk h hm).1) hgo v β' G' h1 h2 h3 ⟨fun _=>h4,fun h=>(h (hpk.2 hpok)).elim⟩)
      exact hwp
    · rw [hw1]
      simp only [Bool.false_eq_true,if_false]
      have hpk:=hat.gam hi [⟨path, .any,[],D.ns,0⟩] (pathOf_in hat.gd hpa)
      exact ⟨fun _ _=>trivial,go ⟨path, .any,[],D.ns,0⟩ [] rfl (fun h hm=>by cases hm) (hp2 (fun h=>hpok (hpp.1 h))) undef β G hI.inv (Asg.le_refl β) G.le_refl ⟨fun h=>(hpok (hpk.1 h)).elim,fun _=>rfl⟩⟩
end Go.Gv

/- A region, from the generator's state to the generator's state. -/
namespace Go.Gv
open Go
structure Sim (C:Ctx) (rs:RS) (β:Asg) (a:Act) (G:GW):Prop where
 holds:∀ γ,Holds C γ ⟨rs.slf,rs.hpf⟩ β a G
 flat:∀ s,(rs.slf s).path=[]
 fresh:∀ n,rs.nx≤n→rs.hpf n= .none
 gd:rs.gd=[]
 vc:rs.vc=[]
 tr:rs.tr=[]
structure Ext (rs rs':RS):Prop where
 wr:∀ h∈rs.wr,h∈rs'.wr
 hpf:∀ h,h<rs.nx→h ∉ rs'.wr→rs'.hpf h=rs.hpf h
 nx:rs.nx≤rs'.nx
theorem Ext.refl (rs:RS):Ext rs rs:=⟨fun _ h=>h,fun _ _ _=>rfl,Nat.le_refl _⟩
theorem Ext.trans {a b c:RS} (h:Ext a b) (k:Ext b c):Ext a c:=
 ⟨fun x hx=>k.wr x (h.wr x hx),fun x hx hn=>(k.hpf x (Nat.lt_of_lt_of_le hx h.nx) hn).trans (h.hpf x hx (fun hm=>hn (k.wr x hm))),Nat.le_trans h.nx k.nx⟩
theorem atD_false {A:Type}:∀ (r:List (Nat→Option A)) (i:Nat) (f:Nat→A),atD r (fun _=>false) i f=f
 |[],_,_=>rfl
 |_::r,i,f=>atD_false r (i+1) f
theorem lookN_cons {α:Type} (k:Nat) (v:α) (r:List (Nat × α)) (n:Nat):lookN ((k,v)::r) n=if n=k then some v else lookN r n:=by
 simp only [lookN]
 by_cases h:n=k
 · subst h;simp
 · have:Nat.beq k n=false:=by
    cases hb:Nat.beq k n with
    |false=>rfl
    |true=>exact (h (Nat.eq_of_beq_eq_true hb).symm).elim
   rw [this,if_neg h]
theorem memN_false {l:List Nat} {n:Nat} (h:memN l n=false):n ∉ l:=fun hm=>by rw [memN_iff.2 hm] at h;cases h
theorem cleanF_spec {keep:List Nat}:∀ (l:List (Nat × PA)) (seen:List Nat) (K:List (Nat × PA)→Prop),cleanF keep seen l K→∃ l',K l'∧∀ s p,lookN l' s=some p→s ∉ seen∧s∈keep∧p.path=[]∧lookN l s=some p
 |[],seen,K,h=>⟨[],h,fun s p h=>by cases h⟩
 |(s0,⟨pa,ap⟩)::r,seen,K,h=>by
  unfold cleanF at h
  cases h1:memN seen s0 with
  |true=>
   rw [h1] at h
   obtain ⟨l',hK,hl⟩:=cleanF_spec r seen K h
   refine ⟨l',hK,fun s p hs=>?_⟩
   obtain ⟨g1,g2,g3,g4⟩:=hl s p hs
   have hne:¬ s=s0:=fun e=>g1 (e ▸ memN_iff.1 h1)
   exact ⟨g1,g2,g3,by rw [lookN_cons,if_neg hne];exact g4⟩
  |false=>
   cases h2:memN keep s0 with
   |false=>
    rw [h1,h2] at h
    obtain ⟨l',hK,hl⟩:=cleanF_spec r seen K h
    refine ⟨l',hK,fun s p hs=>?_⟩
    obtain ⟨g1,g2,g3,g4⟩:=hl s p hs
    have hne:¬ s=s0:=fun e=>memN_false h2 (e ▸ g2)
    exact ⟨g1,g2,g3,by rw [lookN_cons,if_neg hne];exact g4⟩
   |true=>
    rw [h1,h2] at h
    cases pa with
    |nil=>
     dsimp only at h
     rw [forceA_eq] at h
     obtain ⟨l',hK,hl⟩:=cleanF_spec r (s0::seen) _ h
     refine ⟨_,hK,fun s p hs=>?_⟩
     rw [lookN_cons] at hs ⊢
     by_cases hss:s=s0
     · subst hss
       rw [if_pos rfl] at hs ⊢
       simp only [Option.some.injEq] at hs;subst hs
       exact ⟨memN_false h1,memN_iff.1 h2,rfl,rfl⟩
     · rw [if_neg hss] at hs ⊢
       obtain ⟨g1,g2,g3,g4⟩:=hl s p hs
       exact ⟨fun hm=>g1 (List.mem_cons_of_mem _ hm),g2,g3,g4⟩
    |cons x y=>
     dsimp only at h
     obtain ⟨l',hK,hl⟩:=cleanF_spec r (s0::seen) K h
     refine ⟨l',hK,fun s p hs=>?_⟩
     obtain ⟨g1,g2,g3,g4⟩:=hl s p hs
     have hne:¬ s=s0:=fun e=>g1 (e ▸ List.mem_cons_self)
     exact ⟨fun hm=>g1 (List.mem_cons_of_mem _ hm),g2,g3,by rw [lookN_cons,if_neg hne];exact g4⟩
theorem cleanH_spec:∀ (l:List (Nat × HObj)) (seen:List Nat) (K:List (Nat × HObj)→Prop),cleanH seen l K→∃ l',K l'∧∀ s,s ∉ seen→lookN l' s=lookN l s
 |[],seen,K,h=>⟨[],h,fun s _=>rfl⟩
 |(h0,o)::r,seen,K,h=>by
  unfold cleanH at h
  cases h1:memN seen h0 with
  |false=>
   rw [h1] at h
   dsimp only at h
   rw [forceN_eq,forceO_eq] at h
   obtain ⟨l',hK,hl⟩:=cleanH_spec r (h0::seen) _ h
   refine ⟨_,hK,fun s hs=>?_⟩
   rw [lookN_cons,lookN_cons]
   by_cases hss:s=h0
   · rw [if_pos hss,if_pos hss]
   · rw [if_neg hss,if_neg hss]
     exact hl s (fun hm=>(List.mem_cons.1 hm).elim hss hs)
  |true=>
   rw [h1] at h
   obtain ⟨l',hK,hl⟩:=cleanH_spec r seen K h
   refine ⟨l',hK,fun s hs=>?_⟩
   have hne:¬ s=h0:=fun e=>hs (e ▸ memN_iff.1 h1)
   rw [lookN_cons,if_neg hne]
   exact hl s hs
theorem dedupN_spec:∀ (l acc:List Nat) (K:List Nat→Prop),dedupN acc l K→∃ l',K l'∧∀ h,h∈acc∨h∈l→h∈l'
 |[],acc,K,h=>⟨acc,h,fun x hx=>hx.elim id (fun h=>by cases h)⟩
 |a::r,acc,K,h=>by
  unfold dedupN at h
  cases h1:memN acc a with
  |true=>
   rw [h1] at h
   obtain ⟨l',hK,hl⟩:=dedupN_spec r acc K h
   refine ⟨l',hK,fun x hx=>?_⟩
   rcases hx with hx|hx
   · exact hl x (.inl hx)
   · rcases List.mem_cons.1 hx with rfl|hx
     · exact hl x (.inl (memN_iff.1 h1))
     · exact hl x (.inr hx)
  |false=>
   rw [h1] at h
   dsimp only at h
   rw [forceN_eq] at h
   obtain ⟨l',hK,hl⟩:=dedupN_spec r (a::acc) K h
   refine ⟨l',hK,fun x hx=>?_⟩
   rcases hx with hx|hx
   · exact hl x (.inl (List.mem_cons_of_mem _ hx))
   · rcases List.mem_cons.1 hx with rfl|hx
     · exact hl x (.inl List.mem_cons_self)
     · exact hl x (.inr hx)
theorem emit_spec {keep:List Nat} {draw:Bool} {L:List Oper} {rsE:RS} {K:RS→Prop} (h:emit keep draw L rsE K):(draw=true→ordB L rsE.tr=true)∧(∀ p∈rsE.vc,p)∧
    ∃ rs',K rs'∧(∀ s,((rs'.slf s).path=[]∧rs'.slf s=rsE.slf s)∨rs'.slf s=⟨[], .any⟩)∧(∀ h,rs'.hpf h=rsE.hpf h)∧rs'.nx=rsE.nx∧rs'.gd=[]∧rs'.vc=[]∧rs'.tr=[]∧∀ h∈rsE.wr,h∈rs'.wr:=by
 cases rsE with
 |mk sl hp nx gd vc tr wr=>
  unfold emit at h
  dsimp only at h
  split at h
  · rename_i h2
    obtain ⟨sl',h,hsl⟩:=cleanF_spec _ _ _ h
    obtain ⟨hp',h,hhp⟩:=cleanH_spec _ _ _ h
    obtain ⟨wr',h,hwr⟩:=dedupN_spec _ _ _ h
    have fin:(∀ p∈vc,p)∧K ⟨sl',hp',nx,[],[],[],wr'⟩:=by
     cases vc with
     |nil=>exact ⟨fun p hp=>by (cases hp),h⟩
     |cons p r=>exact ⟨allP_spec h.1,h.2.out⟩
    refine ⟨fun hd=>?_,fin.1,_,fin.2,fun s=>?_,fun n=>?_,rfl,rfl,rfl,rfl,fun n hn=>hwr n (.inr hn)⟩
    · subst hd;exact h2
    · unfold RS.slf
      dsimp only
      cases hl:lookN sl' s with
      |none=>exact .inr rfl
      |some p=>
       obtain ⟨_,_,g3,g4⟩:=hsl s p hl
       rw [g4]
       exact .inl ⟨g3,rfl⟩
    · unfold RS.hpf
      dsimp only
      rw [hhp n (fun h=>by cases h)]
  · exact h.elim
theorem Holds.congr {C:Ctx} {γ:Nat→Bool} {sl sl':Nat→PA} {hp hp':Nat→HObj} {β:Asg} {a:Act} {G:GW} (H:Holds C γ ⟨sl,hp⟩ β a G) (hs:∀ s,((sl' s).path=[]∧sl' s=sl s)∨sl' s=⟨[], .any⟩) (hh:∀ h,hp' h=hp h):∀ γ',Holds C γ' ⟨sl',hp'⟩ β a G:=fun γ'=>
 { slots:=fun s=>by
    show satP γ' (sl' s) β G _
    rcases hs s with ⟨h1,h2⟩|h
    · have:=H.slots s
      refine ⟨fun _=>?_,fun hn=>(hn (fun e he=>by rw [h1] at he;cases he)).elim⟩
      rw [h2]
      exact this.1 (fun e he=>by
       have h3:(sl s).path=[]:=by rw [← h2];exact h1
       have he':e∈(sl s).path:=he
       rw [h3] at he';cases he')
    · rw [h]
      exact ⟨fun _=>by unfold sat;trivial,fun hn=>(hn (fun e he=>by cases he)).elim⟩
   size:=H.size
   defers:=H.defers
   inv:=by
    have:hp'=hp:=funext hh
    show HInv C hp' β G
    rw [this];exact H.inv}
section
variable {P:Program} {c:Cf} (hE:c.E.ok P=true) (hS:SpecsOK P c.gl c.F c.nz) (hL:LateOK P c) (hmix:P.follows .mixedOrders=true) {C:Ctx} (hg:GlobIs C c) (hN:C.N=c.N)
include hE hS hL hmix hg hN
theorem region_wp {r:Option Nat} {id:Nat} {ops:Array Oper} {draw:Bool} {rs:RS} {K:RS→Prop} {Q:Exit→Act→World→Prop} {β:Asg} {a:Act} {G:GW} (h:regA c ops.toList draw rs K) (hsim:Sim C rs β a G)
    (hQ:∀ rs' β' a' G',K rs'→Sim C rs' β' a' G'→β.le β'→G.le G'→Ext rs rs'→SameO ops.toList a a'→Q .normal a' G'.w):(Code.region id ops draw).wpIn (WF r) 0 P Q a G.w:=by
 unfold regA at h
 split at h
 rotate_left
 · exact h.elim
 rename_i hgd
 have hat0:∀ E,AtI c ops.toList E rs.slf rs.hpf 0 rs:=fun E=>
  { slf:=by
     funext s
     exact (atD_congr (WSof ops.toList E) (fun _=>false) (lex 0) 0 rs.slf rs.slf s (fun j w _ _=>by simp [lex]) rfl).symm.trans (by rw [atD_false])|>.symm
    hpf:=by
     funext s
     exact (atD_congr (WHof E) (fun _=>false) (lex 0) 0 rs.hpf rs.hpf s (fun j w _ _=>by simp [lex]) rfl).symm.trans (by rw [atD_false])|>.symm
    fresh:=hsim.fresh
    gd:=⟨fun k p pp hl=>by rw [hsim.gd] at hl;cases hl⟩
    pth:=fun s x hx=>by rw [hsim.flat s] at hx;cases hx}
 have hfin:∀ (E:List TE) (rsE rs':RS),K rs'→AtI c ops.toList E rs.slf rs.hpf ops.toList.length rsE→rs.nx≤rsE.nx→(∀ h,(h∈rs.wr∨∃ e∈E,h∈keysH e.hw)→h∈rs'.wr)→
     (∀ s,((rs'.slf s).path=[]∧rs'.slf s=rsE.slf s)∨rs'.slf s=⟨[], .any⟩)→(∀ h,rs'.hpf h=rsE.hpf h)→rs'.nx=rsE.nx→rs'.gd=[]→rs'.vc=[]→rs'.tr=[]→∀ (β0:Asg) (G0:GW),β.le β0→G.le G0→
     ∀ a' β' G',Holds C (gam E) ⟨rsE.slf,rsE.hpf⟩ β' a' G'→β0.le β'→G0.le G'→SameO ops.toList a a'→Q .normal a' G'.w:=by
  intro E rsE rs' hK hend hnxle hwr hsl hhp hnx hgd' hvc' htr' β0 G0 hb0 hg0 a' β' G' hh hb hgl hsm
  refine hQ rs' β' a' G' hK ⟨hh.congr hsl hhp,fun s=>?_,fun n hn=>?_,hgd',hvc',htr'⟩ (Asg.le_trans hb0 hb) (GW.le_trans hg0 hgl) ⟨fun n hn=>hwr n (.inl hn),fun n hn hnw=>?_,by rw [hnx];exact hnxle⟩ hsm
  · rcases hsl s with ⟨h1,_⟩|h
    · exact h1
    · rw [h]
  · rw [hhp];exact hend.fresh n (by rw [← hnx];exact hn)
  · rw [hhp,hend.hpf]
    have hnk:∀ e∈E,n ∉ keysH e.hw:=fun e he hk=>hnw (hwr n (.inr ⟨e,he,hk⟩))
    exact (atD_congr (WHof E) (lex ops.toList.length) (fun _=>false) 0 rs.hpf rs.hpf n (fun j w hj hs=>by
     obtain ⟨e,h2,rfl⟩:=WHof_inv hj
     exact (hnk e (List.mem_of_getElem? h2) (lookH_some.1 hs)).elim) rfl).trans (by rw [atD_false])
 cases draw with
 |false=>
  refine wpIn_region ?_
  have hI0:Holds C (gam []) ⟨rs.slf,rs.hpf⟩ β a G:=hsim.holds _
  have:=region_seq (ρ:=r) hE hS hL hg hN (Q:=Q) (ops:=ops) (y:=true) rfl hgd (K:=fun rs'=>emit c.keep false ops.toList rs' K) (fun rsE hK=>(emit_spec hK).2.1) (sl0:=rs.slf) (hp0:=rs.hpf) (rs0:=rs) (a0:=a) (β0:=β) (G0:=G)
   (fun rsE E hemit hend hlen hnxle hwr a' β' G' hh hb hgl hsm=>by
    obtain ⟨_,_,rs',hK,hsl,hhp,hnx,hgd',hvc',htr',hwr'⟩:=emit_spec hemit
    exact hfin E rsE rs' hK hend hnxle (fun h hh=>hwr' h (hwr h hh)) hsl hhp hnx hgd' hvc' htr' β G (Asg.le_refl β) G.le_refl a' β' G' hh hb hgl hsm)
   ops.toList 0 rs [] h rfl rfl (Nat.zero_le _) (hat0 []) (fun j o hj=>by omega) (Nat.le_refl _) (fun h hh=>by
    rcases hh with hh|⟨e,he,_⟩
    · exact hh
    · cases he) a β G (Asg.le_refl β) G.le_refl (SameO.refl _ _) hI0
  rw [List.range_eq_range']
  simpa using this
 |true=>
  obtain ⟨E,rsE,hemit,hwalk⟩:=runOps_walk hS _ _ _ _ h
  obtain ⟨hord,hvc,rs',hK,hsl,hhp,hnx,hgd',hvc',htr',hwr⟩:=emit_spec hemit
  obtain ⟨hw,_⟩:=hwalk hvc
  obtain ⟨hall,hend,hlen,hnxle⟩:=walk_states hw (by simp) (by simp) (hat0 E)
  obtain ⟨htrE,hwrE⟩:=walk_tr hw
  have hall':∀ (j:Nat) (o:Oper),ops.toList[j]?=some o→∃ e,E[j]?=some e∧OpAt c ops.toList E rs.slf rs.hpf j o e:=fun j o hj=>hall j o (Nat.zero_le _) hj
  rw [Nat.zero_add] at hend
  have hwr2:∀ h,(h∈rs.wr∨∃ e∈E,h∈keysH e.hw)→h∈rs'.wr:=fun n hn=>hwr n (by
   rw [hwrE]
   rcases hn with hn|⟨e,he,hk⟩
   · exact List.mem_append_right _ hn
   · exact List.mem_append_left _ (List.mem_flatMap.2 ⟨e,List.mem_reverse.2 he,hk⟩))
  have hfin':∀ (β0:Asg) (G0:GW),β.le β0→G.le G0→∀ a' β' G',Holds C (gam E) ⟨atD (WSof ops.toList E) (lex ops.toList.length) 0 rs.slf,atD (WHof E) (lex ops.toList.length) 0 rs.hpf⟩ β' a' G'→β0.le β'→G0.le G'→SameO ops.toList a a'→Q .normal a' G'.w:=fun β0 G0 hb0 hg0 a' β' G' hh hb hgl hsm=>by
   rw [← hend.slf,← hend.hpf] at hh
   exact hfin E rsE rs' hK hend hnxle hwr2 hsl hhp hnx hgd' hvc' htr' β0 G0 hb0 hg0 a' β' G' hh hb hgl hsm
  have hat:Holds C (gam E) ⟨atD (WSof ops.toList E) (lex 0) 0 rs.slf,atD (WHof E) (lex 0) 0 rs.hpf⟩ β a G:=by
   rw [← (hat0 E).slf,← (hat0 E).hpf];exact hsim.holds _
  refine wpIn_region_any hmix ?_
  obtain ⟨hback,hordd⟩:=ordB_spec hlen (by rw [htrE,hsim.tr,List.append_nil]) (hord rfl)
  have hsz:(Array.replicate ops.size false).size=ops.toList.length:=by simp
  have hf:∀ i,(Array.replicate ops.size false).getD i false=false:=fun i=>by
   rw [Array.getD_eq_getD_getElem?,Array.getElem?_replicate]
   split<;>rfl
  have hlx:(fun i=>(Array.replicate ops.size false).getD i false)=lex 0:=by
   funext i;rw [hf];simp [lex]
  have hat':Holds C (gam E) ⟨atD (WSof ops.toList E) (lex 0) 0 rs.slf,atD (WHof E) (lex 0) 0 rs.hpf⟩ β a { G with w:=G.w.drew}:=by
   refine ⟨fun s=>(hat.slots s).mono (Asg.le_refl β) (GW.le_drew G),hat.size,hat.defers.mono (GW.le_drew G),hat.inv.drew⟩
  have:=region_any (r:=r) hE hS hg (Q:=Q) (ops:=ops) rfl hgd hN hlen hall' hback hordd (hfin' β { G with w:=G.w.drew} (Asg.le_refl β) (GW.le_drew G)) ops.size (Array.replicate ops.size false) hsz (by
   have:(List.range ops.toList.length).filter (fun i=>!(Array.replicate ops.size false).getD i false)=List.range ops.toList.length:=by
    apply List.filter_eq_self.2
    intro i _
    rw [hf];rfl
   rw [this];simp) (fun i hi=>by dsimp only at hi;rw [hf] at hi;cases hi) a β { G with w:=G.w.drew} (Asg.le_refl β) (GW.le_refl _) (SameO.refl _ _) (by rw [hlx];exact hat')
  exact this
end
end Go.Gv

/- The head of a loop: own memory under fixed names. -/
namespace Go.Gv
open Go
mutual
theorem sat_on:∀ (X:AP) {β β':Asg} {G:GW} {v:Value} {l:List Nat},(∀ h∈namesA X l,β' h=β h)→sat X β G v→sat X β' G v
 | .any,_,_,_,_,_,_,h=>h
 | .dat t x,_,_,_,_,_,_,h=>by unfold sat at h ⊢;exact h
 | .blit b,_,_,_,_,_,_,h=>by unfold sat at h ⊢;exact h
 | .val u,_,_,_,_,_,_,h=>by unfold sat at h ⊢;exact h
 | .agg cs,_,_,_,_,_,hn,h=>by unfold sat at h ⊢;obtain ⟨l,e,h⟩:=h;exact ⟨l,e,satL_on cs hn h⟩
 | .nil,_,_,_,_,_,_,h=>by unfold sat at h;exact h.elim
 | .cons _ _,_,_,_,_,_,_,h=>by unfold sat at h;exact h.elim
 | .tup vs,_,_,_,_,_,hn,h=>by unfold sat at h ⊢;obtain ⟨l,e,h⟩:=h;exact ⟨l,e,satT_on vs hn h⟩
 | .ptr t x,_,_,_,_,_,_,h=>by unfold sat at h ⊢;exact h
 | .ref h,_,_,_,_,_,hn,hs=>by unfold sat at hs ⊢;rw [hn h (addN_mem.2 (.inl rfl))];exact hs
 | .loc h off,_,_,_,_,_,hn,hs=>by unfold sat at hs ⊢;rw [hn h (addN_mem.2 (.inl rfl))];exact hs
 | .rloc h i sz off,_,_,_,_,_,hn,hs=>by unfold sat at hs ⊢;rw [hn h (addN_mem.2 (.inl rfl))];exact hs
 | .dec p,_,_,_,_,_,_,h=>by unfold sat at h ⊢;exact h
 | .nxt p,_,_,_,_,_,_,h=>by unfold sat at h ⊢;exact h
 | .sl h t xs,_,_,_,_,_,hn,hs=>by unfold sat at hs ⊢;rw [hn h (addN_mem.2 (.inl rfl))];exact hs
 | .clos f caps,_,_,_,_,_,hn,h=>by unfold sat at h ⊢;obtain ⟨l,e,h⟩:=h;exact ⟨l,e,satT_on caps hn h⟩
theorem satL_on:∀ (X:AP) {β β':Asg} {G:GW} {vs:List Value} {l:List Nat},(∀ h∈namesA X l,β' h=β h)→satL X β G vs→satL X β' G vs
 | .nil,_,_,_,_,_,_,h=>by unfold satL at h ⊢;exact h
 | .cons a b,_,_,_,_,_,hn,hs=>by
  unfold satL at hs ⊢
  obtain ⟨v,l',e,o,h1,h2⟩:=hs
  exact ⟨v,l',e,o,sat_on a hn h1,satL_on b (fun h hm=>hn h (namesA_mono a hm)) h2⟩
 | .any,_,_,_,_,_,_,h=>by unfold satL at h;exact h.elim
 | .dat _ _,_,_,_,_,_,_,h=>by unfold satL at h;exact h.elim
 | .blit _,_,_,_,_,_,_,h=>by unfold satL at h;exact h.elim
 | .val _,_,_,_,_,_,_,h=>by unfold satL at h;exact h.elim
 | .agg _,_,_,_,_,_,_,h=>by unfold satL at h;exact h.elim
 | .tup _,_,_,_,_,_,_,h=>by unfold satL at h;exact h.elim
 | .ptr _ _,_,_,_,_,_,_,h=>by unfold satL at h;exact h.elim
 | .ref _,_,_,_,_,_,_,h=>by unfold satL at h;exact h.elim
 | .loc _ _,_,_,_,_,_,_,h=>by unfold satL at h;exact h.elim
 | .rloc _ _ _ _,_,_,_,_,_,_,h=>by unfold satL at h;exact h.elim
 | .dec _,_,_,_,_,_,_,h=>by unfold satL at h;exact h.elim
 | .nxt _,_,_,_,_,_,_,h=>by unfold satL at h;exact h.elim
 | .sl _ _ _,_,_,_,_,_,_,h=>by unfold satL at h;exact h.elim
 | .clos _ _,_,_,_,_,_,_,h=>by unfold satL at h;exact h.elim
theorem satT_on:∀ (X:AP) {β β':Asg} {G:GW} {vs:List Value} {l:List Nat},(∀ h∈namesA X l,β' h=β h)→satT X β G vs→satT X β' G vs
 | .nil,_,_,_,_,_,_,h=>by unfold satT at h ⊢;exact h
 | .cons a b,_,_,_,_,_,hn,hs=>by
  unfold satT at hs ⊢
  obtain ⟨v,l',e,h1,h2⟩:=hs
  exact ⟨v,l',e,sat_on a hn h1,satT_on b (fun h hm=>hn h (namesA_mono a hm)) h2⟩
 | .any,_,_,_,_,_,_,h=>by unfold satT at h;exact h.elim
 | .dat _ _,_,_,_,_,_,_,h=>by unfold satT at h;exact h.elim
 | .blit _,_,_,_,_,_,_,h=>by unfold satT at h;exact h.elim
 | .val _,_,_,_,_,_,_,h=>by unfold satT at h;exact h.elim
 | .agg _,_,_,_,_,_,_,h=>by unfold satT at h;exact h.elim
 | .tup _,_,_,_,_,_,_,h=>by unfold satT at h;exact h.elim
 | .ptr _ _,_,_,_,_,_,_,h=>by unfold satT at h;exact h.elim
 | .ref _,_,_,_,_,_,_,h=>by unfold satT at h;exact h.elim
 | .loc _ _,_,_,_,_,_,_,h=>by unfold satT at h;exact h.elim
 | .rloc _ _ _ _,_,_,_,_,_,_,h=>by unfold satT at h;exact h.elim
 | .dec _,_,_,_,_,_,_,h=>by unfold satT at h;exact h.elim
 | .nxt _,_,_,_,_,_,_,h=>by unfold satT at h;exact h.elim
 | .sl _ _ _,_,_,_,_,_,_,h=>by unfold satT at h;exact h.elim
 | .clos _ _,_,_,_,_,_,_,h=>by unfold satT at h;exact h.elim
end
mutual
theorem sat_nm:∀ (X:AP) {β:Asg} {G:GW} {v:Value} {l:List Nat},sat X β G v→∀ h∈namesA X l,h∈l∨(β h).isSome=true
 | .any,_,_,_,_,_,_,hm=> .inl hm
 | .dat t x,_,_,_,_,_,_,hm=> .inl hm
 | .blit b,_,_,_,_,_,_,hm=> .inl hm
 | .val u,_,_,_,_,_,_,hm=> .inl hm
 | .agg cs,_,_,_,_,hs,h,hm=>by unfold sat at hs;obtain ⟨l,e,hs⟩:=hs;exact satL_nm cs hs h hm
 | .nil,_,_,_,_,hs,_,_=>by unfold sat at hs;exact hs.elim
 | .cons _ _,_,_,_,_,hs,_,_=>by unfold sat at hs;exact hs.elim
 | .tup vs,_,_,_,_,hs,h,hm=>by unfold sat at hs;obtain ⟨l,e,hs⟩:=hs;exact satT_nm vs hs h hm
 | .ptr t x,_,_,_,_,_,_,hm=> .inl hm
 | .ref n,_,_,_,_,hs,h,hm=>by
  unfold sat at hs
  exact (addN_mem.1 hm).elim (fun e=> .inr (by rw [e,hs.1];rfl)) .inl
 | .loc n off,_,_,_,_,hs,h,hm=>by
  unfold sat at hs
  obtain ⟨b,hb,_⟩:=hs
  exact (addN_mem.1 hm).elim (fun e=> .inr (by rw [e,hb];rfl)) .inl
 | .rloc n i sz off,_,_,_,_,hs,h,hm=>by
  unfold sat at hs
  obtain ⟨a,len,cap,hb,_⟩:=hs
  exact (addN_mem.1 hm).elim (fun e=> .inr (by rw [e,hb];rfl)) .inl
 | .dec p,_,_,_,_,_,_,hm=> .inl hm
 | .nxt p,_,_,_,_,_,_,hm=> .inl hm
 | .sl n t xs,_,_,_,_,hs,h,hm=>by
  unfold sat at hs
  exact (addN_mem.1 hm).elim (fun e=> .inr (by rw [e,hs.1];rfl)) .inl
 | .clos f caps,_,_,_,_,hs,h,hm=>by unfold sat at hs;obtain ⟨l,e,hs⟩:=hs;exact satT_nm caps hs h hm
theorem satL_nm:∀ (X:AP) {β:Asg} {G:GW} {vs:List Value} {l:List Nat},satL X β G vs→∀ h∈namesA X l,h∈l∨(β h).isSome=true
 | .nil,_,_,_,_,_,_,hm=> .inl hm
 | .cons a b,_,_,_,l,hs,h,hm=>by
  unfold satL at hs
  obtain ⟨v,l',e,o,h1,h2⟩:=hs
  rcases sat_nm a (l:=namesA b l) h1 h hm with hm|hm
  · exact satL_nm b h2 h hm
  · exact .inr hm
 | .any,_,_,_,_,h,_,_=>by unfold satL at h;exact h.elim
 | .dat _ _,_,_,_,_,h,_,_=>by unfold satL at h;exact h.elim
 | .blit _,_,_,_,_,h,_,_=>by unfold satL at h;exact h.elim
 | .val _,_,_,_,_,h,_,_=>by unfold satL at h;exact h.elim
 | .agg _,_,_,_,_,h,_,_=>by unfold satL at h;exact h.elim
 | .tup _,_,_,_,_,h,_,_=>by unfold satL at h;exact h.elim
 | .ptr _ _,_,_,_,_,h,_,_=>by unfold satL at h;exact h.elim
 | .ref _,_,_,_,_,h,_,_=>by unfold satL at h;exact h.elim
 | .loc _ _,_,_,_,_,h,_,_=>by unfold satL at h;exact h.elim
 | .rloc _ _ _ _,_,_,_,_,h,_,_=>by unfold satL at h;exact h.elim
 | .dec _,_,_,_,_,h,_,_=>by unfold satL at h;exact h.elim
 | .nxt _,_,_,_,_,h,_,_=>by unfold satL at h;exact h.elim
 | .sl _ _ _,_,_,_,_,h,_,_=>by unfold satL at h;exact h.elim
 | .clos _ _,_,_,_,_,h,_,_=>by unfold satL at h;exact h.elim
theorem satT_nm:∀ (X:AP) {β:Asg} {G:GW} {vs:List Value} {l:List Nat},satT X β G vs→∀ h∈namesA X l,h∈l∨(β h).isSome=true
 | .nil,_,_,_,_,_,_,hm=> .inl hm
 | .cons a b,_,_,_,l,hs,h,hm=>by
  unfold satT at hs
  obtain ⟨v,l',e,h1,h2⟩:=hs
  rcases sat_nm a (l:=namesA b l) h1 h hm with hm|hm
  · exact satT_nm b h2 h hm
  · exact .inr hm
 | .any,_,_,_,_,h,_,_=>by unfold satT at h;exact h.elim
 | .dat _ _,_,_,_,_,h,_,_=>by unfold satT at h;exact h.elim
 | .blit _,_,_,_,_,h,_,_=>by unfold satT at h;exact h.elim
 | .val _,_,_,_,_,h,_,_=>by unfold satT at h;exact h.elim
 | .agg _,_,_,_,_,h,_,_=>by unfold satT at h;exact h.elim
 | .tup _,_,_,_,_,h,_,_=>by unfold satT at h;exact h.elim
 | .ptr _ _,_,_,_,_,h,_,_=>by unfold satT at h;exact h.elim
 | .ref _,_,_,_,_,h,_,_=>by unfold satT at h;exact h.elim
 | .loc _ _,_,_,_,_,h,_,_=>by unfold satT at h;exact h.elim
 | .rloc _ _ _ _,_,_,_,_,h,_,_=>by unfold satT at h;exact h.elim
 | .dec _,_,_,_,_,h,_,_=>by unfold satT at h;exact h.elim
 | .nxt _,_,_,_,_,h,_,_=>by unfold satT at h;exact h.elim
 | .sl _ _ _,_,_,_,_,h,_,_=>by unfold satT at h;exact h.elim
 | .clos _ _,_,_,_,_,h,_,_=>by unfold satT at h;exact h.elim
end
theorem rootsB_len:∀ (B:List (Nat × Sh)),(rootsB B).length=nn (shB B)
 |[]=>rfl
 |(h,s)::r=>by simp [rootsB,nn,rootsB_len r];omega
theorem rootsL_len (S B:List (Nat × Sh)):(rootsL S B).length=nn (shL S B):=by simp [rootsL,nn,rootsB_len]
theorem locB_roots {hp:Nat→HObj}:∀ (B:List (Nat × Sh)) (nx:Nat) (x:SDat (shB B)) (ns:List Nat) (ex:List (Nat × HObj)) (nx':Nat),fromA hp (shB B) (locB B) nx=some ⟨x,ns,ex,nx'⟩→
    (∀ (k h:Nat),(rootsB B)[k]?=some (some h)→ns[k]?=some h∧h∈keysS B∧hp h≠ .none)∧∀ h∈keysS B,h∈ns∧hp h≠ .none
 |[],nx,x,ns,ex,nx',h=>⟨fun k h hk=>by simp [rootsB] at hk,fun h hm=>by cases hm⟩
 |(h0,s)::r,nx,x,ns,ex,nx',h=>by
  change fromA hp (.cons (.box s) (shB r)) (.cons (.loc h0 0) (locB r)) nx=some ⟨x,ns,ex,nx'⟩ at h
  unfold fromA at h
  dsimp only at h
  split at h
  · rename_i y ys ey nx1 hy
    split at h
    · rename_i z zs ez nx2 hz
      simp only [Option.some.injEq,Fr.mk.injEq] at h;obtain ⟨rfl,rfl,rfl,rfl⟩:=h
      have hys:∃ l,ys=h0::l∧hp h0≠ .none:=by
       unfold fromA at hy
       split at hy
       · rename_i heq
         cases heq
         split at hy
         · rename_i hbox
           split at hy
           · simp only [Option.some.injEq,Fr.mk.injEq] at hy;obtain ⟨rfl,rfl,rfl,rfl⟩:=hy
             exact ⟨_,rfl,by rw [hbox];simp⟩
           · cases hy
         · cases hy
       · cases hy
      have hlen:ys.length=nn s+1:=fromA_len hp _ _ _ _ _ _ _ hy
      obtain ⟨l,rfl,hne⟩:=hys
      obtain ⟨i1,i2⟩:=locB_roots r nx1 z zs ez _ hz
      have hl:l.length=nn s:=by simpa using hlen
      refine ⟨fun k h hk=>?_,fun h hm=>?_⟩
      · cases k with
        |zero=>simp [rootsB] at hk;subst hk;exact ⟨rfl,List.mem_cons_self,hne⟩
        |succ k=>
         simp only [rootsB,List.getElem?_cons_succ] at hk
         by_cases hlt:k<nn s
         · rw [List.getElem?_append_left (by simpa using hlt),List.getElem?_replicate,if_pos hlt] at hk;cases hk
         · rw [List.getElem?_append_right (by simp;omega),List.length_replicate] at hk
           obtain ⟨g1,g2,g3⟩:=i1 _ h hk
           refine ⟨?_,List.mem_cons_of_mem _ g2,g3⟩
           show ((h0::l)++zs)[k+1]?=some h
           rw [List.cons_append,List.getElem?_cons_succ,List.getElem?_append_right (by omega),hl];exact g1
      · rcases List.mem_cons.1 hm with rfl|hm
        · exact ⟨List.mem_append_left _ List.mem_cons_self,hne⟩
        · exact ⟨List.mem_append_right _ (i2 h hm).1,(i2 h hm).2⟩
    · cases h
  · cases h
theorem nmL_root {R:List (Option Nat)} {nx k h:Nat} (hr:R[k]?=some (some h)):nmL R nx k=h:=by
 unfold nmL;rw [List.getD_eq_getElem?_getD,hr];rfl
theorem nmL_new {R:List (Option Nat)} {nx k:Nat} (hr:∀ h,R[k]?≠some (some h)):nmL R nx k=nx+k:=by
 unfold nmL
 rw [List.getD_eq_getElem?_getD]
 cases h:R[k]? with
 |none=>rfl
 |some o=>
  cases o with
  |none=>rfl
  |some x=>exact (hr x h).elim
noncomputable def βL (βx:Asg) (R:List (Option Nat)) (N:List Nat) (nx:Nat):Asg:=fun h=>
 if h<nx then βx h
 else match R.getD (h - nx) none with
  |some _=>none
  |none=>(N[h - nx]?).bind βx
theorem loop_rebind {C:Ctx} {hpx:Nat→HObj} {βx βo:Asg} {G:GW} (Hx:HInv C hpx βx G) {T:Sh} {X:AP} {x:SDat T} {N:List Nat} (car:Carried hpx βx βo G T X x N) (hnd:N.Nodup) (hN:∀ h∈N,hpx h≠ .none) {R:List (Option Nat)} {nx:Nat} (hR:R.length=nn T)
    (hroot:∀ (k h:Nat),R[k]?=some (some h)→N[k]?=some h∧h<nx) (hpr:Nat→HObj) (r1:∀ h,nx≤h→hpr h= .none) (r2:∀ h,h<nx→(hpr h= .dead∧∃ v,βx h=some v)∨(hpr h=hpx h∧h ∉ N∧∀ cs,hpx h= .box cs→∀ n∈namesA cs [],n<nx)):
    HInv C (hset hpr (intoH (nmL R nx) T x 0 [])) (βL βx R N nx) G∧(∀ h,h<nx→βL βx R N nx h=βx h)∧(∀ (k m:Nat),N[k]?=some m→βL βx R N nx (nmL R nx (0+k))=βx m)∧
     ∀ h,nx+nn T≤h→hset hpr (intoH (nmL R nx) T x 0 []) h= .none:=by
 have hlt:∀ h,h<nx→βL βx R N nx h=βx h:=fun h hh=>by unfold βL;rw [if_pos hh]
 have ag:∀ (k m:Nat),N[k]?=some m→βL βx R N nx (nmL R nx (0+k))=βx m:=fun k m hm=>by
  rw [Nat.zero_add]
  by_cases hr:∃ h,R[k]?=some (some h)
  · obtain ⟨h,hr⟩:=hr
    obtain ⟨h1,h2⟩:=hroot k h hr
    rw [hm] at h1;cases h1
    rw [nmL_root hr,hlt _ h2]
  · have hr':∀ h,R[k]?≠some (some h):=fun h e=>hr ⟨h,e⟩
    rw [nmL_new hr']
    unfold βL
    rw [if_neg (by omega),show nx+k - nx=k by omega]
    have:R.getD k none=none:=by
     rw [List.getD_eq_getElem?_getD]
     cases hrk:R[k]? with
     |none=>rfl
     |some o=>
      cases o with
      |none=>rfl
      |some y=>exact (hr' y hrk).elim
    rw [this,hm];rfl
 obtain ⟨_,_,_,c4⟩:=car.go (nmL R nx) 0 (βL βx R N nx) ag
 have hlB:=objsA_len (nmL R nx) T x 0
 have hview:∀ h,(∃ k m v,N[k]?=some m∧h=nmL R nx k∧βx m=some v∧ObjOK (βL βx R N nx) G hpx v m (hset hpr (intoH (nmL R nx) T x 0 []) h)∧βL βx R N nx h=some v)∨
     ((∀ k,k<nn T→h≠nmL R nx k)∧hset hpr (intoH (nmL R nx) T x 0 []) h=hpr h):=fun h=>by
  rw [intoH_eq]
  rcases hset_zipN_cases (nmL R nx) hpr (objsA (nmL R nx) T x 0) 0 [] h with ⟨k,o,h1,h2,h3⟩|⟨h1,h2⟩
  · rw [Nat.zero_add] at h2
    have hk:k<N.length:=by rw [car.len,← hlB];exact (List.getElem?_eq_some_iff.1 h1).1
    have hm:=getD_at hk
    obtain ⟨v,hv,ho⟩:=c4 k _ o hm h1
    refine .inl ⟨k,_,v,hm,h2,hv,?_,?_⟩
    · rw [h3];exact ho
    · have:=ag k _ hm
      rw [Nat.zero_add] at this
      rw [h2,this];exact hv
  · refine .inr ⟨fun k hk=>?_,h2⟩
    have:=h1 k (by rw [hlB];exact hk)
    rwa [Nat.zero_add] at this
 refine ⟨Hx.rebind _ _ (fun h m=>(∃ k,h=nmL R nx k∧N[k]?=some m)∨(h=m∧h<nx∧h ∉ N)) (fun h hn=>?_) (fun h hn=>?_) (fun h v hv ho=>?_) (fun h h' m hs hs'=>?_),hlt,ag,fun h hh=>?_⟩
 · rcases hview h with ⟨k,m,v,_,_,_,hok,_⟩|⟨h1,h2⟩
   · exact (hok.ne hn).elim
   · rw [h2] at hn
     by_cases hlx:h<nx
     · rw [hlt h hlx]
       rcases r2 h hlx with ⟨e,_⟩|⟨e,_⟩
       · rw [hn] at e;cases e
       · exact Hx.heap.no h (e.symm.trans hn)
     · unfold βL
       rw [if_neg hlx]
       cases hr:R.getD (h - nx) none with
       |some y=>rfl
       |none=>
        dsimp only
        have:N[h - nx]?=none:=by
         rw [List.getElem?_eq_none]
         rcases Nat.lt_or_ge (h - nx) N.length with e|e
         · exfalso
           refine h1 (h - nx) (by rw [← car.len];exact e) ?_
           rw [nmL_new (fun y e=>by rw [List.getD_eq_getElem?_getD,e] at hr;cases hr)];omega
         · exact e
        rw [this];rfl
 · rcases hview h with ⟨k,m,v,_,_,_,hok,hb⟩|⟨h1,h2⟩
   · exact ⟨v,hb,hok.sat⟩
   · rw [h2] at hn ⊢
     by_cases hlx:h<nx
     · rw [hlt h hlx]
       rcases r2 h hlx with ⟨e,v,hv⟩|⟨e,_,hbx⟩
       · exact ⟨v,hv,by rw [e];trivial⟩
       · rw [e] at hn ⊢
         obtain ⟨v,hv,hs⟩:=Hx.heap.sat h hn
         refine ⟨v,hv,?_⟩
         cases ho:hpx h with
         |box cs=>
          rw [ho] at hs
          obtain ⟨b,l,e1,h3,h4⟩:=hs
          exact ⟨b,l,e1,satL_on cs (l:=[]) (fun n hn=>hlt n (hbx cs ho n hn)) h3,h4⟩
         |_=>rw [ho] at hs;exact hs
     · exact (hn (r1 h (by omega))).elim
 · rcases hview h with ⟨k,m,v',hm,e,hv',hok,hb⟩|⟨h1,h2⟩
   · rw [hv] at hb;cases hb
     exact ⟨m, .inl ⟨k,e,hm⟩,hv',hok.fc,hok.fo⟩
   · rw [h2] at ho ⊢
     by_cases hlx:h<nx
     · rcases r2 h hlx with ⟨e,_⟩|⟨e,hnn,_⟩
       · rw [e] at ho
         rcases ho with ⟨b,i,hf⟩|⟨b,hf⟩<;>cases v<;>cases hf
       · rw [e]
         rw [hlt h hlx] at hv
         exact ⟨h, .inr ⟨rfl,hlx,hnn⟩,hv,fun b i hf=>hf,fun b hf=>hf⟩
     · rw [r1 h (by omega)] at ho
       rcases ho with ⟨b,i,hf⟩|⟨b,hf⟩<;>cases v<;>cases hf
 · rcases hs with ⟨k,e,hm⟩|⟨e,_,hnn⟩<;>rcases hs' with ⟨k',e',hm'⟩|⟨e',_,hnn'⟩
   · have:k=k':=nodup_at hnd hm hm'
     rw [e,e',this]
   · exact (hnn' (e' ▸ List.mem_of_getElem? hm)).elim
   · exact (hnn (e ▸ List.mem_of_getElem? hm')).elim
   · rw [e,e']
 · rcases hview h with ⟨k,m,v,hm,e,_⟩|⟨_,h2⟩
   · exfalso
     have hk:k<nn T:=by rw [← car.len];exact (List.getElem?_eq_some_iff.1 hm).1
     by_cases hr:∃ y,R[k]?=some (some y)
     · obtain ⟨y,hr⟩:=hr
       have:=(hroot k y hr).2
       rw [nmL_root hr] at e;omega
     · rw [nmL_new (fun y e=>hr ⟨y,e⟩)] at e;omega
   · rw [h2];exact r1 h (by omega)
end Go.Gv

/- The state at the head of a loop: at the entry and behind each round. -/
namespace Go.Gv
open Go
theorem ltN_mem {nx h:Nat}:∀ {l:List Nat},h∈ltN nx l↔h∈l∧h<nx
 |[]=>by simp [ltN]
 |a::r=>by
  unfold ltN
  split
  · rename_i hb
    have hb:a<nx:=Nat.le_of_ble_eq_true hb
    rw [List.mem_cons,List.mem_cons,ltN_mem]
    constructor
    · rintro (rfl|⟨h1,h2⟩)
      · exact ⟨.inl rfl,hb⟩
      · exact ⟨.inr h1,h2⟩
    · rintro ⟨rfl|h1,h2⟩
      · exact .inl rfl
      · exact .inr ⟨h1,h2⟩
  · rename_i hb
    have hb:¬ a<nx:=fun hlt=>by
     have:Nat.blt a nx=true:=Nat.ble_eq_true_of_le hlt
     rw [this] at hb;cases hb
    rw [List.mem_cons,ltN_mem]
    constructor
    · rintro ⟨h1,h2⟩;exact ⟨.inr h1,h2⟩
    · rintro ⟨rfl|h1,h2⟩
      · exact (hb h2).elim
      · exact ⟨h1,h2⟩
theorem hpf_hset (rs:RS) (h:Nat):rs.hpf h=hset (fun _=> .none) rs.hp h:=by
 unfold RS.hpf
 generalize rs.hp=l
 induction l with
 |nil=>rfl
 |cons e r ih=>
  obtain ⟨k,o⟩:=e
  rw [lookN_cons]
  simp only [hset]
  by_cases hk:h=k
  · rw [if_pos hk,if_pos hk]
  · rw [if_neg hk,if_neg hk];exact ih
theorem dropS_spec {ds:List Nat}:∀ {l:List (Nat × PA)} {s:Nat} {p:PA},lookN (dropS ds l) s=some p→s ∉ ds∧lookN l s=some p
 |[],s,p,h=>by cases h
 |(k,q)::r,s,p,h=>by
  unfold dropS at h
  split at h
  · rename_i hm
    obtain ⟨h1,h2⟩:=dropS_spec h
    have hne:¬ s=k:=fun e=>h1 (e ▸ memN_iff.1 hm)
    exact ⟨h1,by rw [lookN_cons,if_neg hne];exact h2⟩
  · rename_i hm
    rw [lookN_cons] at h ⊢
    by_cases hk:s=k
    · rw [if_pos hk] at h ⊢
      exact ⟨by rw [hk];exact memN_false hm,h⟩
    · rw [if_neg hk] at h ⊢
      exact dropS_spec h
theorem putS_spec {nm:Nat→Nat} {β:Asg} {G:GW} {a:Act}:∀ (S:List (Nat × Sh)) (x:SDat (shS S)) (n:Nat) (r:List (Nat × PA)),satT (intoA nm (shS S) x n) β G (S.map (fun p=>a.tmps.getD p.1 undef))→
    ∀ s p,lookN (putS nm S x n r) s=some p→(p.path=[]∧sat p.ap β G (a.tmps.getD s undef))∨lookN r s=some p
 |[],x,n,r,h,s,p,hp=> .inr hp
 |(k,sh)::l,x,n,r,h,s,p,hp=>by
  change satT (.cons (intoA nm sh x.1 n) (intoA nm (shS l) x.2 (n+nn sh))) β G (a.tmps.getD k undef::l.map (fun p=>a.tmps.getD p.1 undef)) at h
  unfold satT at h
  obtain ⟨v,l',e,h1,h2⟩:=h
  cases e
  unfold putS at hp
  rw [lookN_cons] at hp
  by_cases hk:s=k
  · rw [if_pos hk] at hp
    simp only [Option.some.injEq] at hp;subst hp
    exact .inl ⟨rfl,by rw [hk];exact h1⟩
  · rw [if_neg hk] at hp
    exact putS_spec l x.2 (n+nn sh) r h2 s p hp
theorem getS_sat {C:Ctx} {rs:RS} {β:Asg} {a:Act} {G:GW} (S0:Sim C rs β a G):∀ (S:List (Nat × Sh)),satT (getS rs.slf S) β G (S.map (fun p=>a.tmps.getD p.1 undef))
 |[]=>by unfold getS satT;rfl
 |(k,sh)::l=>by
  show satT (.cons (rs.slf k).ap (getS rs.slf l)) β G (a.tmps.getD k undef::l.map (fun p=>a.tmps.getD p.1 undef))
  unfold satT
  refine ⟨_,_,rfl,((S0.holds (fun _=>false)).slots k).1 (fun e he=>?_),getS_sat S0 l⟩
  have:=S0.flat k
  have he':e∈(rs.slf k).path:=he
  rw [this] at he';cases he'
theorem Sim.inv {C:Ctx} {rs:RS} {β:Asg} {a:Act} {G:GW} (S0:Sim C rs β a G):HInv C rs.hpf β G:=(S0.holds (fun _=>false)).inv
theorem Sim.lt {C:Ctx} {rs:RS} {β:Asg} {a:Act} {G:GW} (S0:Sim C rs β a G) {h:Nat} {v:Value} (e:β h=some v):h<rs.nx:=by
 rcases Nat.lt_or_ge h rs.nx with hl|hl
 · exact hl
 · rw [S0.inv.heap.no h (S0.fresh h hl)] at e;cases e
theorem loopIn_spec {S B:List (Nat × Sh)} {rs:RS} {x:SDat (shL S B)} {ns:List Nat} {ex:List (Nat × HObj)} {nx:Nat} (h:loopIn S B rs=some ⟨x,ns,ex,nx⟩):fromA rs.hpf (shL S B) (.cons (getS rs.slf S) (locB B)) rs.nx=some ⟨x,ns,ex,nx⟩∧ns.Nodup∧
    ∃ N1 N2 ex1 ex2 nx1,fromA rs.hpf (shS S) (getS rs.slf S) rs.nx=some ⟨x.1,N1,ex1,nx1⟩∧fromA rs.hpf (shB B) (locB B) nx1=some ⟨x.2,N2,ex2,nx⟩∧ns=N1++N2∧ex=ex1++ex2:=by
 unfold loopIn at h
 split at h
 · rename_i fr hfr
   split at h
   · rename_i hnd
     simp only [Option.some.injEq] at h;subst h
     refine ⟨hfr,nodupN_iff.1 hnd,?_⟩
     have hfr':=hfr
     change fromA rs.hpf (.cons (shS S) (shB B)) (.cons (getS rs.slf S) (locB B)) rs.nx=_ at hfr'
     unfold fromA at hfr'
     dsimp only at hfr'
     split at hfr'
     · rename_i y ys ey nx1 hy
       split at hfr'
       · rename_i z zs ez nx2 hz
         simp only [Option.some.injEq,Fr.mk.injEq] at hfr'
         obtain ⟨rfl,rfl,rfl,rfl⟩:=hfr'
         exact ⟨ys,zs,ey,ez,nx1,hy,hz,rfl,rfl⟩
       · cases hfr'
     · cases hfr'
   · cases h
 · cases h
theorem loop_stateW {C0 C:Ctx} {rs:RS} {β0:Asg} {a0:Act} {G0:GW} (S0:Sim C0 rs β0 a0 G0) {S B:List (Nat × Sh)} {x0:SDat (shL S B)} {ns0:List Nat} {ex0:List (Nat × HObj)} {n0:Nat} (h0:loopIn S B rs=some ⟨x0,ns0,ex0,n0⟩)
    {rs':RS} {β':Asg} {a':Act} {G':GW} (S1:Sim C rs' β' a' G') (hb:β0.le β') (hgl:G0.leW G') {x':SDat (shL S B)} {ns':List Nat} {ex':List (Nat × HObj)} {n':Nat} (h1:loopIn S B rs'=some ⟨x',ns',ex',n'⟩) (hnx:rs.nx≤rs'.nx)
    (hh:∀ h,h<rs.nx→h ∉ ns0→rs'.hpf h=rs.hpf h) (hn:∀ h∈ns',h<rs.nx→h∈ns0) (ds:List Nat) (hs:∀ s,s ∉ ds→a'.tmps.getD s undef=a0.tmps.getD s undef):
    ∃ β'',Sim C (loopHead S B ds rs ns0 x') β'' a' G'∧β0.le β'':=by
 obtain ⟨f0,nd0,_,M2,_,_,_,_,fB0,e0,_⟩:=loopIn_spec h0
 obtain ⟨f1,nd1,N1,N2,ex1,ex2,nx1,fS1,fB1,e1,ee1⟩:=loopIn_spec h1
 obtain ⟨βx,Hx,lx,car,_,hns,hfx,_,hlen,hold,hexs⟩:=take_in S1.inv S1.fresh f1
 have car1:=fromA_trans S1.inv.hs hold (shS S) (getS rs'.slf S) rs'.nx x'.1 N1 ex1 nx1 fS1 (fun h o hm=>hexs h o (by rw [ee1];exact List.mem_append_left _ hm))
 obtain ⟨k1,k2⟩:=locB_roots B _ _ _ _ _ fB0
 obtain ⟨m1,m2⟩:=locB_roots B _ _ _ _ _ fB1
 have hBlt:∀ h∈keysS B,h<rs.nx:=fun h hm=>by
  rcases Nat.lt_or_ge h rs.nx with hl|hl
  · exact hl
  · exact ((k2 h hm).2 (S0.fresh h hl)).elim
 have hroot:∀ (k h:Nat),(rootsL S B)[k]?=some (some h)→ns'[k]?=some h∧h<rs.nx:=fun k h hk=>by
  unfold rootsL at hk
  by_cases hlt:k<nn (shS S)
  · rw [List.getElem?_append_left (by simpa using hlt),List.getElem?_replicate,if_pos hlt] at hk;cases hk
  · rw [List.getElem?_append_right (by simp;omega),List.length_replicate] at hk
    obtain ⟨g1,g2,_⟩:=m1 _ h hk
    refine ⟨?_,hBlt h g2⟩
    rw [e1,List.getElem?_append_right (by rw [car1.len];omega),car1.len];exact g1
 have hex_ge:∀ h∈keysH ex',rs'.nx≤h:=fun h hk=>by
  obtain ⟨o,hm⟩:=mem_keys hk
  exact ((fromA_ex _ _ _ _ _ _ _ f1).2.2.1 h o hm).1
 have hns0:∀ h∈ns0,h<rs.nx→∃ v,β0 h=some v:=fun h hm hl=>by
  rcases (fromA_ex _ _ _ _ _ _ _ f0).2.2.2 h hm with hne|hk
  · obtain ⟨v,hv,_⟩:=S0.inv.heap.sat h hne;exact ⟨v,hv⟩
  · obtain ⟨o,hm'⟩:=mem_keys hk
    have:=((fromA_ex _ _ _ _ _ _ _ f0).2.2.1 h o hm').1
    omega
 let hpr:Nat→HObj:=fun h=>if h∈ltN rs.nx ns0 then .dead else rs.hpf h
 obtain ⟨q1,q2,q3,q4⟩:=loop_rebind Hx car nd1 (fun h hm=>(hns h hm).2) (R:=rootsL S B) (nx:=rs.nx) (rootsL_len S B) hroot hpr (fun h hge=>by
     show (if h∈ltN rs.nx ns0 then HObj.dead else rs.hpf h)= .none
     rw [if_neg (fun hm=>by have:=(ltN_mem.1 hm).2;omega)]
     exact S0.fresh h hge) (fun h hl=>by
     by_cases hm:h∈ns0
     · refine .inl ⟨if_pos (ltN_mem.2 ⟨hm,hl⟩),?_⟩
       obtain ⟨v,hv⟩:=hns0 h hm hl
       exact ⟨v,lx h v (hb h v hv)⟩
     · have hpe:hpr h=rs.hpf h:=if_neg (fun hm'=>hm (ltN_mem.1 hm').1)
       have hke:h ∉ keysH ex':=fun hk=>by have:=hex_ge h hk;omega
       have hxe:hset rs'.hpf ex' h=rs.hpf h:=by rw [hset_not hke];exact hh h hl hm
       refine .inr ⟨hpe.trans hxe.symm,fun hm'=>hm (hn h hm' hl),fun cs hcs n hnm=>?_⟩
       rw [hxe] at hcs
       obtain ⟨v,_,hsat⟩:=S0.inv.heap.sat h (by rw [hcs];simp)
       rw [hcs] at hsat
       obtain ⟨b,l,_,hl',_⟩:=hsat
       rcases satL_nm cs (l:=[]) hl' n hnm with hc|hc
       · cases hc
       · obtain ⟨u,hu⟩:=Option.isSome_iff_exists.1 hc
         exact S0.lt hu)
 have hhp:∀ h,(loopHead S B ds rs ns0 x').hpf h=hset hpr (intoH (nmL (rootsL S B) rs.nx) (shL S B) x' 0 []) h:=fun h=>by
  rw [hpf_hset]
  show hset (fun _=>HObj.none) (intoH (nmL (rootsL S B) rs.nx) (shL S B) x' 0 (deadL (ltN rs.nx ns0) rs.hp)) h=_
  rw [intoH_eq,intoH_eq,hset_zipN]
  refine hset_zip_congr _ _ (fun n=>?_) _ _
  rw [hset_deadL]
  show (if n∈ltN rs.nx ns0 then HObj.dead else hset (fun _=>HObj.none) rs.hp n)=(if n∈ltN rs.nx ns0 then HObj.dead else rs.hpf n)
  rw [hpf_hset]
 have hle0:β0.le (βL βx (rootsL S B) ns' rs.nx):=fun h v e=>by
  rw [q2 h (S0.lt e)]
  exact lx h v (hb h v e)
 obtain ⟨_,_,c3,_⟩:=car1.go (nmL (rootsL S B) rs.nx) 0 (βL βx (rootsL S B) ns' rs.nx) (fun k m hk=>q3 k m (by rw [e1,List.getElem?_append_left (List.getElem?_eq_some_iff.1 hk).1];exact hk))
 have hslots:=putS_spec (a:=a') S x'.1 0 (dropS ds rs.sl) (c3 _ (getS_sat S1 S))
 have hsl:∀ s,((loopHead S B ds rs ns0 x').slf s).path=[]∧sat ((loopHead S B ds rs ns0 x').slf s).ap (βL βx (rootsL S B) ns' rs.nx) G' (a'.tmps.getD s undef):=fun s=>by
  show (match lookN (putS (nmL (rootsL S B) rs.nx) S x'.1 0 (dropS ds rs.sl)) s with|some p=>p|none=>(⟨[], .any⟩:PA)).path=[]∧sat (match lookN (putS (nmL (rootsL S B) rs.nx) S x'.1 0 (dropS ds rs.sl)) s with|some p=>p|none=>(⟨[], .any⟩:PA)).ap _ G' _
  cases hl:lookN (putS (nmL (rootsL S B) rs.nx) S x'.1 0 (dropS ds rs.sl)) s with
  |none=>exact ⟨rfl,by unfold sat;trivial⟩
  |some p=>
   dsimp only
   rcases hslots s p hl with hp|hp
   · exact hp
   · obtain ⟨hd,hp⟩:=dropS_spec hp
     have hps:rs.slf s=p:=by unfold RS.slf;rw [hp]
     have hfl:=S0.flat s
     rw [hps] at hfl
     refine ⟨hfl,?_⟩
     rw [hs s hd]
     have:=((S0.holds (fun _=>false)).slots s).1
     dsimp only at this
     rw [hps] at this
     exact sat.monoW _ (this (fun e he=>by rw [hfl] at he;cases he)) hle0 hgl
 refine ⟨βL βx (rootsL S B) ns' rs.nx,⟨fun γ=>⟨fun s=>⟨fun _=>(hsl s).2,fun hn=>(hn (fun e he=>?_)).elim⟩,(S1.holds γ).size,(S1.holds γ).defers,?_⟩,fun s=>(hsl s).1,fun n hn=>?_,rfl,rfl,rfl⟩,hle0⟩
 · have:=(hsl s).1
   have he':e∈((loopHead S B ds rs ns0 x').slf s).path:=he
   rw [this] at he';cases he'
 · show HInv C (loopHead S B ds rs ns0 x').hpf _ G'
   rw [funext hhp];exact q1
 · rw [hhp];exact q4 n hn
theorem loop_state {C0 C:Ctx} {rs:RS} {β0:Asg} {a0:Act} {G0:GW} (S0:Sim C0 rs β0 a0 G0) {S B:List (Nat × Sh)} {x0:SDat (shL S B)} {ns0:List Nat} {ex0:List (Nat × HObj)} {n0:Nat} (h0:loopIn S B rs=some ⟨x0,ns0,ex0,n0⟩)
    {rs':RS} {β':Asg} {a':Act} {G':GW} (S1:Sim C rs' β' a' G') (hb:β0.le β') (hgl:G0.le G') {x':SDat (shL S B)} {ns':List Nat} {ex':List (Nat × HObj)} {n':Nat} (h1:loopIn S B rs'=some ⟨x',ns',ex',n'⟩) (hnx:rs.nx≤rs'.nx)
    (hh:∀ h,h<rs.nx→h ∉ ns0→rs'.hpf h=rs.hpf h) (hn:∀ h∈ns',h<rs.nx→h∈ns0) (ds:List Nat) (hs:∀ s,s ∉ ds→a'.tmps.getD s undef=a0.tmps.getD s undef):
    ∃ β'',Sim C (loopHead S B ds rs ns0 x') β'' a' G'∧β0.le β'':=loop_stateW S0 h0 S1 hb hgl.w h1 hnx hh hn ds hs
end Go.Gv

/- A RANGE OVER A FUNCTION: the consumer as it waits, one round. -/
namespace Go.Gv
open Go
def toExit:Ex→Exit
 | .normal=> .normal
 | .exit id=> .exit id
 | .ret=> .ret
def WpSound (P:Program) (c:Cf) (code:Code):Prop:=
 ∀ (C:Ctx),GlobIs C c→C.N=c.N→C.m≤C.G0.w.heap.size→∀ (r:Option Nat),(r=none∨noRF code=true)→∀ (rs:RS) (K:Ex→RS→Prop) (β:Asg) (a:Act) (G:GW) (Q:Exit→Act→World→Prop),wpA c code rs K→Sim C rs β a G→
  (∀ e rs' β' a' G',K e rs'→Sim C rs' β' a' G'→β.le β'→G.le G'→Ext rs rs'→(∀ s,s ∉ dsts code []→a'.tmps.getD s undef=a.tmps.getD s undef)→Q (toExit e) a' G'.w)→code.wpIn (WF r) 0 P Q a G.w
theorem globOK.monoW {t:Ty} {x:Dat t} {G G':GW} {g:Nat} (h:globOK t x G g) (hg:G.leW G'):globOK t x G' g:=by
 obtain ⟨⟨cells,h1,h2⟩,h3,h4⟩:=h
 exact ⟨⟨cells,h1.monoW hg,h2.monoW t hg⟩,(hg.1 g _ h3).1,(hg.1 g _ h3).2.trans h4⟩
def ctxSelf (hp:Nat→HObj) (β:Asg) (G:GW) (gl:Glob) (N:Nat):Ctx:=
 { G0:=G,F0:=fun b o=>∃ h v,β h=some v∧fpc (hp h) v b o,Fo0:=fun b=>∃ h v,β h=some v∧fpo (hp h) v b,glob:=gl,N:=N}
theorem HInv.self {hp:Nat→HObj} {β:Asg} {G:GW} {gl:Glob} (N:Nat) (H:HeapOK hp β G) (hgl:∀ g t x,gl g=some ⟨t,x⟩→globOK t x G g):HInv (ctxSelf hp β G gl N) hp β G:=
 ⟨H,Step.refl _ _ _,fun h v hv _ _ hf=> .inl ⟨h,v,hv,hf⟩,fun h v hv _ hf=> .inl ⟨h,v,hv,hf⟩,hgl⟩
structure Apart (hp:Nat→HObj) (β:Asg) (G:GW) (L:Nat):Prop where
 im:∀ o,¬ G.im L o
 imo:¬ G.imo L
 lt:L<G.w.heap.size
 dis:∀ h v,β h=some v→∀ o,¬ fpc (hp h) v L o
 diso:∀ h v,β h=some v→¬ fpo (hp h) v L
def GW.lrec (G:GW) (L:Nat) (r:Loop):GW:={ G with w:=G.w.putObj L (.loop r)}
theorem rec_step {G:GW} {L:Nat} {r r':Loop} (h:G.w.heap[L]?=some (.loop r)) (hi:¬ G.imo L):Step (fun b _=>b=L) (fun b=>b=L) G (G.lrec L r'):=by
 have hne:∀ b,b≠L→(G.lrec L r').w.heap[b]?=G.w.heap[b]?:=fun b hb=>World.putObj_heap_other hb
 have hcells:∀ b o,(G.lrec L r').w.cell? ⟨b,o,none⟩=G.w.cell? ⟨b,o,none⟩∧(G.lrec L r').w.frozen? ⟨b,o,none⟩=G.w.frozen? ⟨b,o,none⟩:=fun b o=>by
  by_cases e:b=L
  · subst e
    have h1:(G.lrec b r').w.heap[b]?=some (.loop r'):=World.putObj_heap_same (Array.getElem?_eq_some_iff.1 h).1
    have k1:(G.lrec b r').w.cell? ⟨b,o,none⟩=none∧(G.lrec b r').w.frozen? ⟨b,o,none⟩=false:=by
     simp [World.cell?,World.frozen?,h1]
    have k2:G.w.cell? ⟨b,o,none⟩=none∧G.w.frozen? ⟨b,o,none⟩=false:=by
     simp [World.cell?,World.frozen?,h]
    exact ⟨k1.1.trans k2.1.symm,k1.2.trans k2.2.symm⟩
  · simp only [World.cell?,World.frozen?,hne b e]
    exact ⟨trivial,trivial⟩
 exact {
  os:=rfl
  tape:=rfl
  output:=rfl
  size:=by show _≤(G.w.putObj L _).heap.size;simp
  cell:=fun b o _ _=>hcells b o
  blk:=fun b _ hn _=>hne b (hn 0)
  obj:=fun b es0 c0 hno he=>(hne b hno).trans he
  le:=⟨fun b o hi=>⟨hi,(hcells b o).1⟩,fun b hb=>⟨hb,hne b (fun e=>hi (e ▸ hb))⟩⟩
  new:=fun _ _ hi=> .inl hi
  newo:=fun _ hi=> .inl hi
  drawn:= .inl (Nat.le_refl _)
  nz:=rfl}
theorem OldOK.lrec {G:GW} {L:Nat} {r r':Loop} (O:OldOK G) (h:G.w.heap[L]?=some (.loop r)) (hi:¬ G.imo L):OldOK (G.lrec L r'):=
 ⟨fun b o hb=>Nat.lt_of_lt_of_le (O.old b o hb) (rec_step (r':=r') h hi).size,fun b hb=>by
  obtain ⟨o,e,k⟩:=O.oldo b hb
  exact ⟨o,((rec_step (r':=r') h hi).le.2 b hb).2.trans e,k⟩⟩
theorem HeapJ.lrec {hp:Nat→HObj} {β:Asg} {G:GW} {L:Nat} {r r':Loop} (H:HeapJ hp β G) (A:Apart hp β G L) (h:G.w.heap[L]?=some (.loop r)):HeapJ hp β (G.lrec L r'):=
 H.keep (rec_step h A.imo).w (fun n v hv b o hf e=>by subst e;exact A.dis n v hv o hf) (fun n v hv b hf e=>by subst e;exact A.diso n v hv hf)
theorem Apart.lrec {hp:Nat→HObj} {β:Asg} {G:GW} {L:Nat} {r':Loop} (A:Apart hp β G L):Apart hp β (G.lrec L r') L:=
 ⟨A.im,A.imo,by show L<(G.w.putObj L _).heap.size;simpa using A.lt,A.dis,A.diso⟩
theorem Apart.run {hp0:Nat→HObj} {β0:Asg} {G0:GW} {gl:Glob} {N L:Nat} (A:Apart hp0 β0 G0 L) {hp:Nat→HObj} {β:Asg} {G:GW} (H:HInv (ctxSelf hp0 β0 G0 gl N) hp β G):Apart hp β G L∧G.w.heap[L]?=G0.w.heap[L]?:=by
 have hF:∀ o,¬ (ctxSelf hp0 β0 G0 gl N).F0 L o:=fun o ⟨h,v,hv,hf⟩=>A.dis h v hv o hf
 have hFo:¬ (ctxSelf hp0 β0 G0 gl N).Fo0 L:=fun ⟨h,v,hv,hf⟩=>A.diso h v hv hf
 have hlt:L<(ctxSelf hp0 β0 G0 gl N).G0.w.heap.size:=A.lt
 refine ⟨⟨fun o hi=>?_,fun hi=>?_,Nat.lt_of_lt_of_le A.lt H.step.size,fun h v hv o hf=>?_,fun h v hv hf=>?_⟩,H.step.blk L A.lt hF hFo⟩
 · rcases H.step.new L o hi with k|k|k
   · exact A.im o k
   · exact hF o k
   · omega
 · rcases H.step.newo L hi with k|k|k
   · exact A.imo k
   · exact hFo k
   · omega
 · rcases H.own h v hv L o hf with k|k
   · exact hF o k
   · omega
 · rcases H.owno h v hv L hf with k|k
   · exact hFo k
   · omega
theorem Sim.lrec {C:Ctx} {rs:RS} {β:Asg} {a:Act} {G:GW} (S:Sim C rs β a G) {L:Nat} {r:Loop} (r':Loop) (A:Apart rs.hpf β G L) (h:G.w.heap[L]?=some (.loop r)):Sim (ctxSelf rs.hpf β (G.lrec L r') C.glob C.N) rs β a (G.lrec L r'):=by
 have hs:=rec_step (r':=r') h A.imo
 have H1:HeapOK rs.hpf β (G.lrec L r'):=(S.inv.heap.j.lrec A h).ok (S.inv.heap.o.lrec h A.imo)
 refine ⟨fun γ=>⟨fun s=>((S.holds γ).slots s).mono (Asg.le_refl β) hs.le,(S.holds γ).size,?_,HInv.self _ H1 (fun g t x hx=>(S.inv.glob g t x hx).mono hs.le)⟩,S.flat,S.fresh,S.gd,S.vc,S.tr⟩
 exact ((S.holds γ).defers.mono hs.le).zero
def mkEater (gl:Glob) (nz:Bool) (L:Nat) (rec:Loop) (G0:GW) (hp:Nat→HObj) (β:Asg):Eater where
 F:=fun b o=>b=L∨∃ h v,β h=some v∧fpc (hp h) v b o
 Fo:=fun b=>b=L∨∃ h v,β h=some v∧fpo (hp h) v b
 J:=fun v G=>v= .func (.yield L) #[] #[]∧G.w.heap[L]?=some (.loop rec)∧Apart hp β G L∧HeapJ hp β G∧(∀ g t x,gl g=some ⟨t,x⟩→globOK t x G g)∧(nz=true→G.nz)∧G0.leW G
 stab:=fun v G G' F' Fo' ⟨h1,h2,A,h3,h4,h5,h6⟩ hs hF hFo=>by
  have k1:=hF L 0 (.inl rfl)
  have k2:∀ o,¬ F' L o:=fun o=>(hF L o (.inl rfl)).1
  have k3:¬ Fo' L:=(hFo L (.inl rfl)).1
  refine ⟨h1,(hs.blk L A.lt k2 k3).trans h2,⟨fun o hi=>?_,fun hi=>?_,Nat.lt_of_lt_of_le A.lt hs.size,A.dis,A.diso⟩,h3.keep hs (fun n v hv b o hf=>(hF b o (.inr ⟨n,v,hv,hf⟩)).1) (fun n v hv b hf=>(hFo b (.inr ⟨n,v,hv,hf⟩)).1),
   fun g t x hx=>(h4 g t x hx).monoW hs.le,fun hn=>by rw [hs.nz];exact h5 hn,GW.leW_trans h6 hs.le⟩
  · rcases hs.new L o hi with k|k|k
    · exact A.im o k
    · exact k2 o k
    · have:=A.lt;omega
  · rcases hs.newo L hi with k|k|k
    · exact A.imo k
    · exact k3 k
    · have:=A.lt;omega
theorem satD_len:∀ {ts:List Ty} {y:TDat ts} {G:GW} {vs:List Value},satD ts y G vs→vs.length=ts.length
 |[],_,_,_,h=>by unfold satD at h;rw [h];rfl
 |_::_,_,_,_,⟨_,_,e,_,h⟩=>by rw [e];simp [satD_len h]
theorem psOK_len {N:Nat}:∀ {ps:List Nat} {ts:List Ty},psOK N ps ts=true→ps.length=ts.length
 |[],[],_=>rfl
 |[],_::_,h=>by simp [psOK] at h
 |_::_,[],h=>by simp [psOK] at h
 |s::l,t::r,h=>by
  unfold psOK at h
  split at h
  · simp [psOK_len h]
  · cases h
theorem fold_size (l:List (Nat × Value)):∀ (tmps:Array Value),(l.foldl (fun (tmps:Array Value) (p:Nat × Value)=>tmps.setIfInBounds p.1 p.2) tmps).size=tmps.size:=by
 induction l with
 |nil=>intro tmps;rfl
 |cons e r ih=>intro tmps;rw [List.foldl_cons,ih];simp
theorem fold_not (l:List (Nat × Value)):∀ (tmps:Array Value) (s:Nat),(∀ e∈l,e.1≠s)→(l.foldl (fun (tmps:Array Value) (p:Nat × Value)=>tmps.setIfInBounds p.1 p.2) tmps).getD s undef=tmps.getD s undef:=by
 induction l with
 |nil=>intro tmps s _;rfl
 |cons e r ih=>
  intro tmps s h
  rw [List.foldl_cons,ih _ s (fun e' he=>h e' (List.mem_cons_of_mem _ he))]
  have:=h e List.mem_cons_self
  simp only [Array.getD_eq_getD_getElem?,Array.getElem?_setIfInBounds_ne this]
theorem putT_spec {N:Nat} {β:Asg} {G:GW}:∀ {ps:List Nat} {ts:List Ty} {y:TDat ts} {vs:List Value} {tmps:Array Value} (k:List (Nat × PA)),psOK N ps ts=true→satD ts y G vs→tmps.size=N→
    ∀ s p,lookN (putT ps ts y k) s=some p→(p.path=[]∧sat p.ap β G (((ps.zip vs).foldl (fun (tmps:Array Value) (p:Nat × Value)=>tmps.setIfInBounds p.1 p.2) tmps).getD s undef))∨
     (((ps.zip vs).foldl (fun (tmps:Array Value) (p:Nat × Value)=>tmps.setIfInBounds p.1 p.2) tmps).getD s undef=tmps.getD s undef∧lookN k s=some p)
 |[],[],y,vs,tmps,k,_,_,_,s,p,h=> .inr ⟨by rw [List.zip_nil_left];rfl,by simpa [putT] using h⟩
 |[],_::_,_,_,_,_,h,_,_,_,_,_=>by simp [psOK] at h
 |_::_,[],_,_,_,_,h,_,_,_,_,_=>by simp [psOK] at h
 |q::l,t::r,y,vs,tmps,k,hp,hs,hN,s,p,h=>by
  unfold psOK at hp
  split at hp
  · rename_i hlt hnm
    obtain ⟨v,vs',rfl,hv,hs⟩:=hs
    have hlt:q<N:=Nat.le_of_ble_eq_true hlt
    unfold putT at h
    rw [lookN_cons] at h
    rw [List.zip_cons_cons,List.foldl_cons]
    by_cases e:s=q
    · rw [if_pos e] at h
      simp only [Option.some.injEq] at h;subst h
      refine .inl ⟨rfl,?_⟩
      subst e
      rw [fold_not _ _ s (fun e' he hq=>by
       have h1:=(List.of_mem_zip (show (e'.1,e'.2)∈l.zip vs' from he)).1
       rw [hq] at h1
       rw [memN_iff.2 h1] at hnm;cases hnm)]
      unfold sat
      simp only [Array.getD_eq_getD_getElem?,Array.getElem?_setIfInBounds_self_of_lt (show s<tmps.size by omega)]
      exact hv
    · rw [if_neg e] at h
      rcases putT_spec (tmps:=tmps.setIfInBounds q v) k hp hs (by simp [hN]) s p h with h1|⟨h1,h2⟩
      · exact .inl h1
      · refine .inr ⟨h1.trans ?_,h2⟩
        have hne:q≠s:=fun h=>e h.symm
        simp only [Array.getD_eq_getD_getElem?,Array.getElem?_setIfInBounds_ne hne]
  · cases hp
theorem dropS_nil:∀ (l:List (Nat × PA)),dropS [] l=l
 |[]=>rfl
 |(s,p)::r=>by simp only [dropS,memN,dropS_nil r]
theorem head_sl {B:List (Nat × Sh)} {rs:RS} {ns:List Nat} {x:SDat (shL [] B)}:(loopHead [] B [] rs ns x).sl=rs.sl:=by
 unfold loopHead putS
 exact dropS_nil _
theorem round_sl {ts:List Ty} {B:List (Nat × Sh)} {ps:List Nat} {rs:RS} {ns:List Nat} {y:TDat ts} {x:SDat (shL [] B)}:(roundHead ts B ps rs ns y x).sl=putT ps ts y rs.sl:=by
 show putT ps ts y (loopHead [] B [] rs ns x).sl=_
 rw [head_sl]
end Go.Gv

/- A RANGE OVER A FUNCTION: one round, all rounds. -/
namespace Go.Gv
open Go
@[reducible] def recOf (fn:FuncId) (tmps:Array Value) (ps:Array Tmp) (asg b:Code) (D:Nat) (st:LoopState) (pe:Option Code):Loop:=
 { state:=st,pending:=pe,fn:=fn,tmps:=tmps,params:=ps,assign:=asg,body:=b,defers:=D}
def exCode:Ex→Option Code
 | .normal=>none
 | .exit id=>some (.exit id)
 | .ret=>some .ret
structure RF where
 c:Cf
 ts:List Ty
 B:List (Nat × Sh)
 ps:Array Tmp
 asg:Code
 b:Code
 rs:RS
 ns:List Nat
 β:Asg
 G:GW
 tmps:Array Value
 fn:FuncId
 D:Nat
 L:Nat
 inv:List (TDat ts)→SDat (shB B)→Prop
 K:Ex→RS→Prop
namespace RF
variable (f:RF)
def head (x:SDat (shB f.B)):RS:=loopHead [] f.B [] f.rs f.ns ((),x)
def E (x:SDat (shB f.B)) (βx:Asg):Eater:=mkEater f.c.gl f.c.nz f.L (recOf f.fn f.tmps f.ps f.asg f.b f.D .ready none) f.G (f.head x).hpf βx
def EJ (e:Ex) (rs':RS) (β':Asg):Eater:=mkEater f.c.gl f.c.nz f.L (recOf f.fn f.tmps f.ps f.asg f.b f.D .done (exCode e)) f.G rs'.hpf β'
def Ready (x:SDat (shB f.B)) (βx:Asg):Prop:=(∃ C G,Sim C (f.head x) βx { tmps:=f.tmps,defers:=[]} G)∧f.β.le βx∧Ext f.rs (addWr (keysS f.B++f.ns++f.rs.wr) (f.head x))
def out (rs':RS):RS:=addWr (keysS f.B++f.ns++f.rs.wr) (withSl f.rs.sl rs')
def Done (E':Eater):Prop:=(∃ x βx,f.inv [] x∧f.Ready x βx∧E'=f.E x βx)∨
 ∃ e rs' β',e≠ .normal∧f.K e (f.out rs')∧(∃ C a G,Sim C rs' β' a G)∧f.β.le β'∧Ext f.rs (f.out rs')∧E'=f.EJ e rs' β'
def round (y:TDat f.ts) (r:List (TDat f.ts)) (x:SDat (shB f.B)):Prop:=wpA f.c f.asg (roundHead f.ts f.B f.ps.toList f.rs f.ns y ((),x)) (rfA (fun rs1=>wpA f.c f.b rs1 (rfK f.B f.rs f.ns (f.inv r) f.K)))
end RF
theorem slf_look (rs:RS) (s:Nat):rs.slf s=(match lookN rs.sl s with|some p=>p|none=>⟨[], .any⟩):=rfl
theorem head_hpf0 {C:Ctx} {rs:RS} {β:Asg} {a:Act} {G:GW} (_hs:Sim C rs β a G) {S B:List (Nat × Sh)} {x0:SDat (shL S B)} {ns0:List Nat} {ex0:List (Nat × HObj)} {n0:Nat} (hin:loopIn S B rs=some ⟨x0,ns0,ex0,n0⟩) {x:SDat (shL S B)} {ds:List Nat} {n:Nat} (hn:n<rs.nx) (hnn:n ∉ ns0):
    (loopHead S B ds rs ns0 x).hpf n=rs.hpf n:=by
 obtain ⟨f0,_,_,_,_,_,_,_,fB0,e0,_⟩:=loopIn_spec hin
 rw [hpf_hset]
 show hset (fun _=>HObj.none) (intoH (nmL (rootsL S B) rs.nx) (shL S B) x 0 (deadL (ltN rs.nx ns0) rs.hp)) n=_
 rw [intoH_eq]
 rcases hset_zipN_cases (nmL (rootsL S B) rs.nx) (fun _=>HObj.none) (objsA (nmL (rootsL S B) rs.nx) (shL S B) x 0) 0 (deadL (ltN rs.nx ns0) rs.hp) n with ⟨k,o,h1,h2,h3⟩|⟨h1,h2⟩
 · exfalso
   rw [Nat.zero_add] at h2
   by_cases hr:∃ y,(rootsL S B)[k]?=some (some y)
   · obtain ⟨y,hr⟩:=hr
     rw [nmL_root hr] at h2
     subst h2
     obtain ⟨k1,_⟩:=locB_roots B _ _ _ _ _ fB0
     unfold rootsL at hr
     by_cases hlt:k<nn (shS S)
     · rw [List.getElem?_append_left (by simpa using hlt),List.getElem?_replicate,if_pos hlt] at hr;cases hr
     · rw [List.getElem?_append_right (by simp;omega),List.length_replicate] at hr
       exact hnn (by rw [e0];exact List.mem_append_right _ (List.mem_of_getElem? (k1 _ _ hr).1))
   · rw [nmL_new (fun y e=>hr ⟨y,e⟩)] at h2;omega
 · rw [h2,hset_deadL,if_neg (fun hm=>hnn (ltN_mem.1 hm).1),← hpf_hset]
theorem wrOK_spec' {B:List Nat} {nx:Nat}:∀ {l:List Nat},wrOK B nx l=true→∀ h∈l,h∈B∨nx≤h
 |[],_,h,hm=>by cases hm
 |a::r,hw,h,hm=>by
  unfold wrOK at hw
  have hr:(a∈B∨nx≤a)∧wrOK B nx r=true:=by
   split at hw
   · cases hw
   · rename_i hne
     refine ⟨?_,hw⟩
     cases h1:memN B a with
     |true=>exact .inl (memN_iff.1 h1)
     |false=>
      cases h2:Nat.ble nx a with
      |true=>exact .inr (Nat.le_of_ble_eq_true h2)
      |false=>exact (hne h1 h2).elim
  rcases List.mem_cons.1 hm with rfl|hm
  · exact hr.1
  · exact wrOK_spec' hr.2 h hm
theorem out_ext {f:RF} {hd rs':RS} (hext:Ext hd rs') (hh:∀ n,n<f.rs.nx→n ∉ f.ns→hd.hpf n=f.rs.hpf n) (hle:f.rs.nx≤hd.nx):Ext f.rs (f.out rs'):=by
 cases rs' with
 |mk sl hp nx gd vc tr wr=>
  refine ⟨fun n hn=>List.mem_append_right _ (List.mem_append_right _ hn),fun n hn hnw=>?_,Nat.le_trans hle hext.nx⟩
  have h1:n ∉ wr:=fun h=>hnw (List.mem_append_left _ h)
  have h2:n ∉ f.ns:=fun h=>hnw (List.mem_append_right _ (List.mem_append_left _ (List.mem_append_right _ h)))
  exact (hext.hpf n (Nat.lt_of_lt_of_le hn hle) h1).trans (hh n hn h2)
theorem withSl_sim {C:Ctx} {rs:RS} {β:Asg} {a:Act} {G:GW} (S:Sim C rs β a G) (tmps:Array Value) (h:tmps.size=C.N):Sim C (withSl [] rs) β { tmps:=tmps,defers:=[]} G:=by
 cases rs with
 |mk sl hp nx gd vc tr wr=>
  exact ⟨fun γ=>⟨fun s=>⟨fun _=>by show sat AP.any _ _ _;unfold sat;trivial,fun hn=>(hn (fun e he=>by cases he)).elim⟩,h,Marks.nil _ _,S.inv⟩,fun s=>rfl,S.fresh,S.gd,S.vc,S.tr⟩
theorem withSl_in {B:List (Nat × Sh)} (rs:RS) (sl:List (Nat × PA)):loopIn [] B (withSl sl rs)=loopIn [] B rs:=by cases rs;rfl
section
variable {P:Program} {f:RF} (iha:WpSound P f.c f.asg) (ihb:WpSound P f.c f.b) (hna:noRF f.asg=true) (hnb:noRF f.b=true)
 {C:Ctx} (hN:C.N=f.c.N) {a:Act} (S0:Sim C f.rs f.β a f.G) (ha:a.tmps=f.tmps) {x0:SDat (shL [] f.B)} {ex0:List (Nat × HObj)} {n0:Nat} (hin:loopIn [] f.B f.rs=some ⟨x0,f.ns,ex0,n0⟩)
 (hps:psOK f.c.N f.ps.toList f.ts=true)
include iha ihb hna hnb hN S0 ha hin hps
theorem round_bite {y:TDat f.ts} {r:List (TDat f.ts)} {x:SDat (shB f.B)} {βx:Asg} (hR:f.Ready x βx) (hgoal:f.round y r x):
    Bite P f.ts y (f.E x βx) (fun q E'=>if q=true then ∃ x' βx',f.inv r x'∧f.Ready x' βx'∧E'=f.E x' βx' else f.Done E'):=by
 intro v Gi vals hj hold hsat
 obtain ⟨hv,hrec,A,HJ,hgl,hnz,hsl⟩:=hj
 obtain ⟨⟨C',G',SR⟩,hle,hextR⟩:=hR
 have htN:f.tmps.size=f.c.N:=by rw [← ha,← hN];exact (S0.holds (fun _=>false)).size
 obtain ⟨tm,htm⟩:∃ tm:Array Value,tm=(f.ps.toList.zip vals).foldl (fun (tmps:Array Value) (p:Nat × Value)=>tmps.setIfInBounds p.1 p.2) f.tmps:=⟨_,rfl⟩
 have hlen:vals.toArray.size=f.ps.size:=by
  have h1:=satD_len hsat
  have h2:=psOK_len hps
  simp at h2 ⊢;omega
 have hy:(Instr.yield f.L vals.toArray).run P Gi.w= .ok (.round f.L f.fn tm f.asg f.b) Gi.w:=by
  have:=run_yield (P:=P) (args:=vals.toArray) hrec hlen
  rw [← Array.foldl_toList,Array.toList_zip] at this
  rw [htm];exact this
 refine ⟨f.L,f.fn,tm,f.asg,f.b,hv,hy,roundIn_of_wpIn (F:=Fence.wide) trivial ?_⟩
 have hsl0:∀ s,sat (f.rs.slf s).ap f.β f.G (f.tmps.getD s undef):=fun s=>by
  rw [← ha]
  exact ((S0.holds (fun _=>false)).slots s).1 (fun e he=>by
   have he':e∈(f.rs.slf s).path:=he
   rw [S0.flat s] at he';cases he')
 have S1:Sim (ctxSelf (f.head x).hpf βx Gi f.c.gl f.c.N) (roundHead f.ts f.B f.ps.toList f.rs f.ns y ((),x)) βx { tmps:=tm,defers:=[]} Gi:=by
  have hslot:∀ s,((roundHead f.ts f.B f.ps.toList f.rs f.ns y ((),x)).slf s).path=[]∧sat ((roundHead f.ts f.B f.ps.toList f.rs f.ns y ((),x)).slf s).ap βx Gi (tm.getD s undef):=fun s=>by
   rw [slf_look,round_sl]
   cases hl:lookN (putT f.ps.toList f.ts y f.rs.sl) s with
   |none=>exact ⟨rfl,by unfold sat;trivial⟩
   |some p=>
    dsimp only
    rcases putT_spec (β:=βx) f.rs.sl hps hsat htN s p hl with h1|⟨h1,h2⟩
    · rw [htm];exact h1
    · have hp:f.rs.slf s=p:=by rw [slf_look,h2]
      refine ⟨by rw [← hp];exact S0.flat s,?_⟩
      rw [htm,h1,← hp]
      exact sat.monoW _ (hsl0 s) hle hsl
  refine ⟨fun γ=>⟨fun s=>⟨fun _=>(hslot s).2,fun hn=>(hn (fun e he=>?_)).elim⟩,?_,Marks.nil _ _,HInv.self _ (HJ.ok hold) hgl⟩,fun s=>(hslot s).1,SR.fresh,SR.gd,SR.vc,SR.tr⟩
  · have he':e∈((roundHead f.ts f.B f.ps.toList f.rs f.ns y ((),x)).slf s).path:=he
    rw [(hslot s).1] at he';cases he'
  · show tm.size=f.c.N
    rw [htm,fold_size];exact htN
 refine iha (ctxSelf (f.head x).hpf βx Gi f.c.gl f.c.N) ⟨rfl,hnz⟩ rfl (Nat.zero_le _) (some f.L) (.inr hna) _ _ βx { tmps:=tm,defers:=[]} Gi _ hgoal S1 fun e rs1 β1 a1 G1 hK1 hs1 hb1 hg1 hext1 _=>?_
 cases e with
 |exit i=>exact hK1.elim
 |ret=>exact hK1.elim
 |normal=>
  have S1a:=hs1
  obtain ⟨A1,hrec1⟩:=A.run hs1.inv
  rw [hrec] at hrec1
  have hst1:=hs1.inv.step
  -- the record is busy
  refine ⟨_,run_beginRound hrec1 rfl,?_⟩
  let rB:Loop:={ recOf f.fn f.tmps f.ps f.asg f.b f.D .ready none with state:= .busy}
  have S2:=hs1.lrec rB A1 hrec1
  have hst2:=rec_step (r':=rB) hrec1 A1.imo
  have hrecB:(G1.lrec f.L rB).w.heap[f.L]?=some (.loop rB):=World.putObj_heap_same A1.lt
  refine ihb (ctxSelf rs1.hpf β1 (G1.lrec f.L rB) f.c.gl f.c.N) ⟨rfl,fun h=>by
   show G1.nz
   rw [hst1.nz];exact hnz h⟩ rfl (Nat.zero_le _) (some f.L) (.inr hnb) rs1 _ β1 a1 (G1.lrec f.L rB) _ hK1 S2 fun e rs2 β2 a2 G2 hK2 hs2 hb2 hg2 hext2 _=>?_
  obtain ⟨A2,hrec2⟩:=(A1.lrec (r':=rB)).run hs2.inv
  rw [hrecB] at hrec2
  have hst3:=hs2.inv.step
  -- the round's end
  obtain ⟨rE,hrE⟩:∃ rE:Loop,rE=recOf f.fn f.tmps f.ps f.asg f.b f.D (if (exCode e).isNone then .ready else .done) (exCode e):=⟨_,rfl⟩
  have hend:(Instr.endRound f.L (exCode e)).run P G2.w= .ok (.bool (exCode e).isNone) (G2.lrec f.L rE).w:=by
   rw [hrE];exact run_endRound _ hrec2
  have hst4:=rec_step (r':=rE) hrec2 A2.imo
  have hrecE:(G2.lrec f.L rE).w.heap[f.L]?=some (.loop rE):=World.putObj_heap_same A2.lt
  -- the whole step
  have w1:Step (f.E x βx).F (f.E x βx).Fo Gi G1:=(Step.refl _ _ Gi).trans hst1 (fun b o hf=> .inl (.inr hf)) (fun b hf=> .inl (.inr hf))
  have w2:Step (f.E x βx).F (f.E x βx).Fo Gi (G1.lrec f.L rB):=w1.trans hst2 (fun b o hf=> .inl (.inl hf)) (fun b hf=> .inl (.inl hf))
  have own1:∀ b o,(∃ h v,β1 h=some v∧fpc (rs1.hpf h) v b o)→(f.E x βx).F b o∨Gi.w.heap.size≤b:=fun b o ⟨h,v,hv,hf⟩=>(hs1.inv.own h v hv b o hf).imp .inr id
  have own1o:∀ b,(∃ h v,β1 h=some v∧fpo (rs1.hpf h) v b)→(f.E x βx).Fo b∨Gi.w.heap.size≤b:=fun b ⟨h,v,hv,hf⟩=>(hs1.inv.owno h v hv b hf).imp .inr id
  have w3:Step (f.E x βx).F (f.E x βx).Fo Gi G2:=w2.trans hst3 own1 own1o
  have w4:Step (f.E x βx).F (f.E x βx).Fo Gi (G2.lrec f.L rE):=w3.trans hst4 (fun b o hf=> .inl (.inl hf)) (fun b hf=> .inl (.inl hf))
  have hO:OldOK (G2.lrec f.L rE):=hs2.inv.heap.o.lrec hrec2 A2.imo
  -- whatever is owned in the end
  have fin:∀ (hp':Nat→HObj) (β':Asg),HInv (ctxSelf rs1.hpf β1 (G1.lrec f.L rB) f.c.gl f.c.N) hp' β' G2→f.β.le β'→
      (mkEater f.c.gl f.c.nz f.L rE f.G hp' β').J v (G2.lrec f.L rE)∧
      (∀ b o,(mkEater f.c.gl f.c.nz f.L rE f.G hp' β').F b o→((f.E x βx).F b o∨Gi.w.heap.size≤b)∧¬ (G2.lrec f.L rE).im b o∧b<(G2.lrec f.L rE).w.heap.size)∧
      (∀ b,(mkEater f.c.gl f.c.nz f.L rE f.G hp' β').Fo b→((f.E x βx).Fo b∨Gi.w.heap.size≤b)∧¬ (G2.lrec f.L rE).imo b∧b<(G2.lrec f.L rE).w.heap.size):=fun hp' β' H' hle'=>by
   obtain ⟨A',_⟩:=(A1.lrec (r':=rB)).run H'
   have hsz:Gi.w.heap.size≤(G1.lrec f.L rB).w.heap.size:=w2.size
   have J':=H'.heap.j.lrec (r':=rE) A' hrec2
   refine ⟨⟨hv,hrecE,A'.lrec,J',fun g t x hx=>(H'.glob g t x hx).mono hst4.le,fun h=>?_,GW.leW_trans hsl w4.le.w⟩,fun b o hf=>?_,fun b hf=>?_⟩
   · rw [w4.nz];exact hnz h
   · rcases hf with rfl|⟨h,u,hu,hf⟩
     · exact ⟨.inl (.inl rfl),A'.im o,A'.lrec.lt⟩
     · refine ⟨?_,J'.im h u hu b o hf⟩
       rcases H'.own h u hu b o hf with k|k
       · exact own1 b o k
       · exact .inr (Nat.le_trans hsz k)
   · rcases hf with rfl|⟨h,u,hu,hf⟩
     · exact ⟨.inl (.inl rfl),A'.imo,A'.lrec.lt⟩
     · refine ⟨?_,J'.imo h u hu b hf⟩
       rcases H'.owno h u hu b hf with k|k
       · exact own1o b k
       · exact .inr (Nat.le_trans hsz k)
  have hleF:f.β.le β2:=Asg.le_trans hle (Asg.le_trans hb1 hb2)
  have hheadx:∀ n,n<f.rs.nx→n ∉ f.ns→(roundHead f.ts f.B f.ps.toList f.rs f.ns y ((),x)).hpf n=f.rs.hpf n:=fun n hn hnn=>head_hpf0 (ds:=[]) S0 hin hn hnn
  have hext:=hext1.trans hext2
  have hnx:f.rs.nx≤(roundHead f.ts f.B f.ps.toList f.rs f.ns y ((),x)).nx:=Nat.le_add_right _ _
  obtain ⟨_,_,_,_,_,_,_,_,fB0,e0,_⟩:=loopIn_spec hin
  have hB:∀ n∈keysS f.B,n∈f.ns:=fun n hn=>by rw [e0];exact List.mem_append_right _ ((locB_roots f.B _ _ _ _ _ fB0).2 n hn).1
  cases e with
  |normal=>
   rw [rfK] at hK2
   split at hK2
   · rename_i x' ns' ex' n' hin' hwr
     split at hK2
     · rename_i hwr'
       have hw:=wrOK_spec' hwr
       have hw':=wrOK_spec' hwr'
       obtain ⟨β3,S3,hb3⟩:=loop_stateW S0 hin (withSl_sim hs2 f.tmps htN) hleF (GW.leW_trans hsl w3.le.w) ((withSl_in rs2 []).trans hin') (by
           have:(withSl [] rs2).nx=rs2.nx:=by cases rs2;rfl
           rw [this];exact Nat.le_trans hnx hext.nx) (fun n hn hnn=>by
           have:(withSl [] rs2).hpf n=rs2.hpf n:=by cases rs2;rfl
           rw [this,hext.hpf n (Nat.lt_of_lt_of_le hn hnx) (fun hm=>(hw n hm).elim (fun h=>hnn (hB n h)) (fun h=>by omega))]
           exact hheadx n hn hnn) (fun n hn hlt=>(hw' n hn).elim (hB n) (fun h=>by omega)) [] (fun s _=>by rw [ha])
       obtain ⟨q1,q2,q3⟩:=fin _ β3 S3.inv hb3
       have hE:f.E x'.2 β3=mkEater f.c.gl f.c.nz f.L rE f.G (loopHead [] f.B [] f.rs f.ns x').hpf β3:=by rw [hrE];rfl
       refine ⟨.bool true,(G2.lrec f.L rE).w,hend,true,f.E x'.2 β3,G2.lrec f.L rE,rfl,rfl,w4,hO,?_,?_,?_,?_⟩
       · rw [hE];exact q1
       · rw [hE];exact q2
       · rw [hE];exact q3
       · show if true=true then _ else _
         rw [if_pos rfl]
         refine ⟨x'.2,β3,hK2,⟨⟨_,_,S3⟩,hb3,?_⟩,rfl⟩
         refine ⟨fun n hn=>List.mem_append_right _ (List.mem_append_right _ hn),fun n hn hnw=>?_,Nat.le_add_right _ _⟩
         have h2:n ∉ f.ns:=fun h=>hnw (List.mem_append_right _ (List.mem_append_left _ (List.mem_append_right _ h)))
         exact head_hpf0 (ds:=[]) S0 hin hn h2
     · exact hK2.elim
   · exact hK2.elim
  |exit i=>
   obtain ⟨q1,q2,q3⟩:=fin _ β2 hs2.inv hleF
   have hE:f.EJ (.exit i) rs2 β2=mkEater f.c.gl f.c.nz f.L rE f.G rs2.hpf β2:=by rw [hrE];rfl
   refine ⟨.bool false,(G2.lrec f.L rE).w,hend,false,f.EJ (.exit i) rs2 β2,G2.lrec f.L rE,rfl,rfl,w4,hO,?_,?_,?_,?_⟩
   · rw [hE];exact q1
   · rw [hE];exact q2
   · rw [hE];exact q3
   · show if false=true then _ else f.Done _
     rw [if_neg (by simp)]
     exact .inr ⟨.exit i,rs2,β2,by simp,hK2,⟨_,_,_,hs2⟩,hleF,out_ext hext hheadx hnx,rfl⟩
  |ret=>
   obtain ⟨q1,q2,q3⟩:=fin _ β2 hs2.inv hleF
   have hE:f.EJ .ret rs2 β2=mkEater f.c.gl f.c.nz f.L rE f.G rs2.hpf β2:=by rw [hrE];rfl
   refine ⟨.bool false,(G2.lrec f.L rE).w,hend,false,f.EJ .ret rs2 β2,G2.lrec f.L rE,rfl,rfl,w4,hO,?_,?_,?_,?_⟩
   · rw [hE];exact q1
   · rw [hE];exact q2
   · rw [hE];exact q3
   · show if false=true then _ else f.Done _
     rw [if_neg (by simp)]
     exact .inr ⟨.ret,rs2,β2,by simp,hK2,⟨_,_,_,hs2⟩,hleF,out_ext hext hheadx hnx,rfl⟩
theorem rounds_ok (hround:∀ y r x,f.inv (y::r) x→f.round y r x):∀ (l:List (TDat f.ts)) (x:SDat (shB f.B)) (βx:Asg),f.inv l x→f.Ready x βx→eatsL P f.ts f.Done l (f.E x βx)
 |[],x,βx,hi,hR=> .inl ⟨x,βx,hi,hR,rfl⟩
 |y::r,x,βx,hi,hR=>by
  have hb:=round_bite iha ihb hna hnb hN S0 ha hin hps hR (hround y r x hi)
  intro v G vals hj ho hs
  obtain ⟨L,fn,tmps,asg,b,h1,h2,h3⟩:=hb v G vals hj ho hs
  refine ⟨L,fn,tmps,asg,b,h1,h2,h3.mono fun e w' hr=>?_⟩
  obtain ⟨q,E',G',k1,k2,k3,k4,k5,k6,k7,k8⟩:=hr
  refine ⟨q,E',G',k1,k2,k3,k4,k5,k6,k7,?_⟩
  cases q with
  |true=>
   rw [if_pos rfl] at k8 ⊢
   obtain ⟨x',βx',hi',hR',rfl⟩:=k8
   exact rounds_ok hround r x' βx' hi' hR'
  |false=>
   rw [if_neg (by simp)] at k8 ⊢
   exact k8
end
end Go.Gv

/- A RANGE OVER A FUNCTION: the statement. -/
namespace Go.Gv
open Go
theorem canon_log {ts:List Ty} {caps:Sh} (x:SDat (.cons (.ob (.log ts)) caps)) (hn:nn caps=0) (h:Nat):canon (.cons (.ob (.log ts)) caps) x h=if h=0 then .ob (.log ts) x.1 else .none:=by
 have:intoH (fun k=>k) caps x.2 1 []=[]:=by
  rw [intoH_eq]
  have:=objsA_len (fun k=>k) caps x.2 1
  rw [hn] at this
  rw [List.eq_nil_of_length_eq_zero this];rfl
 show hset (fun _=> .none) ((0, .ob (.log ts) x.1)::intoH (fun k=>k) caps x.2 1 []) h=_
 rw [this]
 rfl
theorem log_inv {ts:List Ty} {caps:Sh} {x:SDat (.cons (.ob (.log ts)) caps)} (hn:nn caps=0) {v:Value} {G:GW} {gl:Glob} {N:Nat} (O:OldOK G) (hj:x.1.2.1.J v G) (hF:∀ b o,x.1.2.1.F b o→¬ G.im b o∧b<G.w.heap.size) (hFo:∀ b,x.1.2.1.Fo b→¬ G.imo b∧b<G.w.heap.size)
    (hgl:∀ g t y,gl g=some ⟨t,y⟩→globOK t y G g):HInv { G0:=G,F0:=x.1.2.1.F,Fo0:=x.1.2.1.Fo,glob:=gl,N:=N} (canon (.cons (.ob (.log ts)) caps) x) (fun n=>if n=0 then some v else none) G:=by
 have hc:=canon_log x hn
 have h0:∀ h u,(if h=0 then some v else none)=some u→h=0∧u=v:=fun h u e=>by
  by_cases hh:h=0
  · rw [if_pos hh] at e;cases e;exact ⟨hh,rfl⟩
  · rw [if_neg hh] at e;cases e
 refine ⟨⟨fun h e=>?_,fun h e=>?_,fun h u hu b o hf=>?_,fun h u hu b hf=>?_,fun h h' u u' hne hu hu'=>?_,fun h h' u u' hne hu hu'=>?_,O.old,O.oldo⟩,Step.refl _ _ _,fun h u hu b o hf=>?_,fun h u hu b hf=>?_,hgl⟩
 · rw [hc] at e
   by_cases hh:h=0
   · rw [if_pos hh] at e;cases e
   · exact if_neg hh
 · rw [hc] at e ⊢
   by_cases hh:h=0
   · subst hh;exact ⟨v,rfl,hj⟩
   · rw [if_neg hh] at e;exact (e rfl).elim
 · obtain ⟨rfl,rfl⟩:=h0 h u hu
   rw [hc,if_pos rfl] at hf
   exact hF b o hf
 · obtain ⟨rfl,rfl⟩:=h0 h u hu
   rw [hc,if_pos rfl] at hf
   exact hFo b hf
 · obtain ⟨rfl,rfl⟩:=h0 h u hu
   obtain ⟨rfl,rfl⟩:=h0 h' u' hu'
   exact (hne rfl).elim
 · obtain ⟨rfl,rfl⟩:=h0 h u hu
   obtain ⟨rfl,rfl⟩:=h0 h' u' hu'
   exact (hne rfl).elim
 · obtain ⟨rfl,rfl⟩:=h0 h u hu
   rw [hc,if_pos rfl] at hf
   exact .inl hf
 · obtain ⟨rfl,rfl⟩:=h0 h u hu
   rw [hc,if_pos rfl] at hf
   exact .inl hf
theorem Marks.add {m:Nat} {G G':GW} {ds:List Deferred} (h:Marks m G ds) (O:OldOK G) (hm:m≤G.w.heap.size) (hg:G.le G') (hi:G'.imo G.w.heap.size) (hh:G'.w.heap[G.w.heap.size]?=some (.deferred (some []))):Marks m G' ({ target:= .collected G.w.heap.size,args:=#[]}::ds):=by
 obtain ⟨l,e,hn,h⟩:=h
 refine ⟨G.w.heap.size::l,by rw [e];rfl,List.nodup_cons.2 ⟨fun hm'=>?_,hn⟩,fun D hD=>?_⟩
 · obtain ⟨o,ho,_⟩:=O.oldo _ (h _ hm').2.1
   have:=(Array.getElem?_eq_some_iff.1 ho).1
   omega
 · rcases List.mem_cons.1 hD with rfl|hD
   · exact ⟨hm,hi,hh⟩
   · exact ⟨(h D hD).1,(hg.2 D (h D hD).2.1).1,(hg.2 D (h D hD).2.1).2.trans (h D hD).2.2⟩
theorem rf_sound {P:Program} {c:Cf} (hL:LateOK P c) {g:Operand} {ps:Array Tmp} {asg b:Code} (iha:WpSound P c asg) (ihb:WpSound P c b) {C:Ctx} (hg:GlobIs C c) (hN:C.N=c.N) (hm:C.m≤C.G0.w.heap.size)
    {rs:RS} {K:Ex→RS→Prop} {β:Asg} {a:Act} {G:GW} {Q:Exit→Act→World→Prop} (h:wpA c (.rangeFunc g ps asg b) rs K) (S0:Sim C rs β a G)
    (hQ:∀ e rs' β' a' G',K e rs'→Sim C rs' β' a' G'→β.le β'→G.le G'→Ext rs rs'→(∀ s,a'.tmps.getD s undef=a.tmps.getD s undef)→Q (toExit e) a' G'.w):(Code.rangeFunc g ps asg b).wpIn (WF none) 0 P Q a G.w:=by
 simp only [wpA] at h
 split at h
 · rename_i fid caps hop
   split at h
   · rename_i l I Is hl hI
     split at h
     · rename_i z nxz hfa hps hna hnb
       obtain ⟨hpre,B,inv,h⟩:=h
       split at h
       · rename_i x0 ns ex0 n0 hin
         obtain ⟨hinv0,hround,hend⟩:=h
         refine wpIn_rangeFunc ?_
         intro fn _
         let f:RF:={ c:=c,ts:=I.ts,B:=B,ps:=ps,asg:=asg,b:=b,rs:=rs,ns:=ns,β:=β,G:=G,tmps:=a.tmps,fn:=fn,D:=G.w.heap.size,L:=G.w.heap.size+1,inv:=inv,K:=K}
         let rec0:Loop:=recOf fn a.tmps ps asg b G.w.heap.size .ready none
         let Ga:GW:=G.alloc (.deferred (some [])) (fun _=>False) True
         let G1:GW:=Ga.alloc (.loop rec0) (fun _=>False) False
         have hsz1:G1.w.heap.size=G.w.heap.size+2:=by
          show ((G.w.alloc _).alloc _).heap.size=_
          rw [World.size_alloc,World.size_alloc]
         have hGasz:Ga.w.heap.size=G.w.heap.size+1:=World.size_alloc _ _
         have hD1:G1.w.heap[G.w.heap.size]?=some (.deferred (some [])):=by
          show ((G.w.alloc _).alloc _).heap[_]?=_
          rw [heap_alloc_lt _ _ _ (by rw [World.size_alloc];omega)]
          exact World.alloc_heap_new _ _
         have hL1:G1.w.heap[G.w.heap.size+1]?=some (.loop rec0):=by
          have:=World.alloc_heap_new Ga.w (.loop rec0)
          rw [hGasz] at this;exact this
         have up:∀ {hp:Nat→HObj} {βx:Asg},HInv C hp βx G→HInv C hp βx G1:=fun H=>(H.alloc_im (.deferred (some [])) (fun _=>False) True (fun _=> .inr rfl)).alloc_im (.loop rec0) (fun _=>False) False (fun h=>h.elim)
         have hle1:G.le G1:=GW.le_trans (GW.alloc_step S0.inv.heap _ _ _).le (GW.alloc_step (S0.inv.alloc_im (.deferred (some [])) (fun _=>False) True (fun _=> .inr rfl)).heap _ _ _).le
         have hst01:Step (fun _ _=>False) (fun _=>False) G G1:=(GW.alloc_step S0.inv.heap _ _ _).trans (GW.alloc_step (S0.inv.alloc_im (.deferred (some [])) (fun _=>False) True (fun _=> .inr rfl)).heap _ _ _) (fun _ _ h=>h.elim) (fun _ h=>h.elim)
         -- the consumer at the start
         obtain ⟨β1,S2,hb1⟩:=loop_state S0 hin (withSl_sim S0 a.tmps (S0.holds (fun _=>false)).size) (Asg.le_refl β) G.le_refl ((withSl_in rs []).trans hin) (by cases rs;exact Nat.le_refl _) (fun n _ _=>by cases rs;rfl) (fun _ h _=>h) [] (fun _ _=>rfl)
         have hready:∀ {x:SDat (shB B)} {βx:Asg} {C':Ctx} {G':GW},Sim C' (f.head x) βx { tmps:=a.tmps,defers:=[]} G'→β.le βx→f.Ready x βx:=fun {x} {βx} {C'} {G'} S hb=>by
          refine ⟨⟨_,_,S⟩,hb,⟨fun n hn=>List.mem_append_right _ (List.mem_append_right _ hn),fun n hn hnw=>?_,Nat.le_add_right _ _⟩⟩
          have h2:n ∉ ns:=fun h=>hnw (List.mem_append_right _ (List.mem_append_left _ (List.mem_append_right _ h)))
          exact head_hpf0 (ds:=[]) S0 hin hn h2
         have hR0:f.Ready x0.2 β1:=hready S2 hb1
         have heats:eatsL P f.ts f.Done (I.seq z) (f.E x0.2 β1):=rounds_ok (f:=f) iha ihb hna hnb hN S0 rfl hin hps (fun y r x hi=>by
          have:=(hround y r x hi).out
          rw [forceRS_eq] at this
          exact this) (I.seq z) x0.2 β1 hinv0 hR0
         have H2:HInv C (f.head x0.2).hpf β1 G1:=up S2.inv
         have A0:Apart (f.head x0.2).hpf β1 G1 (G.w.heap.size+1):=by
          refine ⟨fun o hi=>?_,fun hi=>?_,by omega,fun h v hv o hf=>?_,fun h v hv hf=>?_⟩
          · rcases hi with (hi|⟨_,hi⟩)|⟨_,hi⟩
            · have:=S0.inv.heap.old _ _ hi;omega
            · exact hi
            · exact hi
          · rcases hi with (hi|⟨hi,_⟩)|⟨_,hi⟩
            · have:=S0.inv.heap.oldo_lt hi;omega
            · omega
            · exact hi
          · have:=(S2.inv.heap.im h v hv _ o hf).2;omega
          · have:=(S2.inv.heap.imo h v hv _ hf).2;omega
         have hnz1:c.nz=true→G1.nz:=fun hn=>by rw [H2.step.nz];exact hg.nz hn
         have hJ0:(f.E x0.2 β1).J (.func (.yield (G.w.heap.size+1)) #[] #[]) G1:=
          ⟨rfl,hL1,A0,H2.heap.j,fun g t x hx=>H2.glob g t x (by rw [hg.eq];exact hx),hnz1,hle1.w⟩
         have hEF:∀ b o,(f.E x0.2 β1).F b o→¬ G1.im b o∧b<G1.w.heap.size:=fun b o hf=>by
          rcases hf with rfl|⟨h,v,hv,hf⟩
          · exact ⟨A0.im o,A0.lt⟩
          · exact H2.heap.im h v hv b o hf
         have hEFo:∀ b,(f.E x0.2 β1).Fo b→¬ G1.imo b∧b<G1.w.heap.size:=fun b hf=>by
          rcases hf with rfl|⟨h,v,hv,hf⟩
          · exact ⟨A0.imo,A0.lt⟩
          · exact H2.heap.imo h v hv b hf
         -- the iterator
         obtain ⟨_,_,_,car,_,_,_,_,hnn,_,_⟩:=take_in S0.inv S0.fresh hfa
         have hn0:nn I.caps=0:=hnn.symm
         have hsg:sat (opA c.gl rs.slf [] g) β G (a.eval g):=opA_sat hg.eq (S0.holds (fun _=>false)) (fun e he=>by cases he) g (fun _ _=>rfl)
         rw [hop] at hsg
         unfold sat at hsg
         obtain ⟨cv,hcv,hcs⟩:=hsg
         have hI':I∈c.I fid:=by rw [hI];exact List.mem_cons_self
         obtain ⟨⟨⟨fnn,hfn,hbn,hnmn⟩,hcall⟩,hnoisy⟩:=hL.I fid I hI'
         have hargs:satT (intoA (fun k=>k) I.caps z 1) (fun n=>if n=0 then some (.func (.yield (G.w.heap.size+1)) #[] #[]) else none) G1 cv:=by
          obtain ⟨_,_,c3,_⟩:=car.go (fun k=>k) 1 (fun n=>if n=0 then some (.func (.yield (G.w.heap.size+1)) #[] #[]) else none) (fun k h hk=>by simp at hk)
          exact satT.mono _ (c3 cv (by rw [unlistA_spec hl];exact hcs)) (Asg.le_refl _) hle1
         have hc:=hcall ((I.seq z,f.E x0.2 β1,f.Done),z) hpre rfl heats { G0:=G1,F0:=(f.E x0.2 β1).F,Fo0:=(f.E x0.2 β1).Fo,glob:=c.gl,N:=c.N} _ G1 (.func (.yield (G.w.heap.size+1)) #[] #[]::cv) rfl (fun h=>hnz1 (hnoisy h))
          (log_inv (x:=((I.seq z,f.E x0.2 β1,f.Done),z)) hn0 H2.heap.o hJ0 hEF hEFo (fun g t x hx=>H2.glob g t x (by rw [hg.eq];exact hx)))
          (by
           show satT (.cons (.ref 0) (intoA (fun k=>k) I.caps z (0+1))) _ _ _
           unfold satT
           exact ⟨_,_,rfl,by unfold sat;exact ⟨rfl,rfl⟩,hargs⟩)
         refine ⟨G.w.heap.size+1,[{ target:= .collected G.w.heap.size,args:=#[]}],G1.w,{ target:= .fn (.func fid) cv.toArray,args:=#[.func (.yield (G.w.heap.size+1)) #[] #[]]},G1.w,fid,#[.func (.yield (G.w.heap.size+1)) #[] #[]]++cv.toArray,G1.w,
          run_enterLoop_outer _ _ _ _ _,?_,fun _ _=>trivial,?_,fun h=>(by cases h),?_⟩
         · simp only [resolve,hcv]
           simp [go_sem]
         · have hnm' : fnn.name ≠ "runtime.NumGoroutine" := by simpa using hnmn
           have hb':fnn.body≠none:=by intro e;rw [e] at hbn;cases hbn
           simp [invoke,callFunc,hfn,hb',hnm']
         · have e:#[Value.func (.yield (G.w.heap.size+1)) #[] #[]]++cv.toArray=(Value.func (.yield (G.w.heap.size+1)) #[] #[]::cv).toArray:=by simp
           rw [e]
           refine CallsIn.mono (callsIn_wide.2 hc:CallsIn Fence.wide 0 P fid _ G1.w _) fun en w' hr=>?_
           cases en with
           |panicked _=>exact hr.elim
           |outgrown=>exact hr.elim
           |returned v=>
            obtain ⟨hp',β2,G2,n,E',rfl,H3,lg,hob,hD⟩:=hr
            obtain ⟨u,hβ2,hj⟩:=H3.heap.sat n (by rw [hob];simp)
            rw [hob] at hj
            have hj:E'.J u G2:=hj
            have hown:∀ b o,E'.F b o→C.F0 b o∨C.G0.w.heap.size≤b:=fun b o hf=>by
             rcases H3.own n _ hβ2 b o (by rw [hob];exact hf) with k|k
             · rcases k with rfl|⟨h,v,hv,hf⟩
               · exact .inr (by show C.G0.w.heap.size≤G.w.heap.size+1;have:=S0.inv.step.size;omega)
               · exact H2.own h v hv b o hf
             · exact .inr (by have:=S0.inv.step.size;have k:G1.w.heap.size≤b:=k;omega)
            have howno:∀ b,E'.Fo b→C.Fo0 b∨C.G0.w.heap.size≤b:=fun b hf=>by
             rcases H3.owno n _ hβ2 b (by rw [hob];exact hf) with k|k
             · rcases k with rfl|⟨h,v,hv,hf⟩
               · exact .inr (by show C.G0.w.heap.size≤G.w.heap.size+1;have:=S0.inv.step.size;omega)
               · exact H2.owno h v hv b hf
             · exact .inr (by have:=S0.inv.step.size;have k:G1.w.heap.size≤b:=k;omega)
            have hstC:Step C.F0 C.Fo0 C.G0 G2:=H2.step.trans H3.step (fun b o k=>by
                rcases k with rfl|⟨h,v,hv,hf⟩
                · exact .inr (by show C.G0.w.heap.size≤G.w.heap.size+1;have:=S0.inv.step.size;omega)
                · exact H2.own h v hv b o hf) (fun b k=>by
                rcases k with rfl|⟨h,v,hv,hf⟩
                · exact .inr (by show C.G0.w.heap.size≤G.w.heap.size+1;have:=S0.inv.step.size;omega)
                · exact H2.owno h v hv b hf)
            -- behind the statement
            have fin:∀ (rs':RS) (βx:Asg) (st:LoopState) (pe:Option Code) (e:Ex) (C':Ctx) (a':Act) (G':GW),Sim C' rs' βx a' G'→β.le βx→E'=mkEater c.gl c.nz (G.w.heap.size+1) (recOf fn a.tmps ps asg b G.w.heap.size st pe) G rs'.hpf βx→
                ∃ G4:GW,(Instr.endLoop (G.w.heap.size+1)).run P G2.w=(if st= .busy then (Instr.endLoop (G.w.heap.size+1)).run P G2.w else .ok pe G4.w)∧G.le G4∧Sim C (f.out rs') βx { a with defers:=[{ target:= .collected G.w.heap.size,args:=#[]}]++a.defers} G4:=fun rs' βx st pe e C' a' G' S hb hE=>by
             rw [hE] at hj
             obtain ⟨_,hrec,A,HJ,hgl,_,_⟩:=hj
             let rX:Loop:={ recOf fn a.tmps ps asg b G.w.heap.size st pe with state:= .exhausted}
             have hst4:=rec_step (r':=rX) hrec A.imo
             have hle4:G.le (G2.lrec (G.w.heap.size+1) rX):=GW.le_trans hle1 (GW.le_trans lg hst4.le)
             have H4:HInv C rs'.hpf βx (G2.lrec (G.w.heap.size+1) rX):=
              ⟨(HJ.lrec A hrec).ok (H3.heap.o.lrec hrec A.imo),hstC.trans hst4 (fun b o k=> .inr (by subst k;have:=S0.inv.step.size;omega)) (fun b k=> .inr (by subst k;have:=S0.inv.step.size;omega)),
               fun h v hv b o hf=>hown b o (by rw [hE];exact .inr ⟨h,v,hv,hf⟩),fun h v hv b hf=>howno b (by rw [hE];exact .inr ⟨h,v,hv,hf⟩),
               fun g t x hx=>(hgl g t x (by rw [← hg.eq];exact hx)).mono hst4.le⟩
             refine ⟨G2.lrec (G.w.heap.size+1) rX,?_,hle4,?_⟩
             · split
               · rfl
               · rename_i hb'
                 exact run_endLoop hrec hb'
             · have hsl:∀ s,(f.out rs').slf s=rs.slf s:=fun s=>by cases rs';rfl
               have hhp:(f.out rs').hpf=rs'.hpf:=by cases rs';rfl
               have hnx:(f.out rs').nx=rs'.nx:=by cases rs';rfl
               refine ⟨fun γ=>⟨fun s=>?_,(S0.holds γ).size,?_,?_⟩,fun s=>by rw [hsl];exact S0.flat s,fun n hn=>?_,?_,?_,?_⟩
               · show satP γ ((f.out rs').slf s) βx _ _
                 rw [hsl]
                 exact ((S0.holds γ).slots s).mono hb hle4
               · refine Marks.add (S0.holds γ).defers S0.inv.heap.o (Nat.le_trans hm S0.inv.step.size) hle4 ?_ ?_
                 · exact (hst4.le.2 _ (lg.2 _ (.inl (.inr ⟨rfl,trivial⟩))).1).1
                 · have k1:=lg.2 G.w.heap.size (.inl (.inr ⟨rfl,trivial⟩))
                   exact ((hst4.le.2 _ k1.1).2.trans k1.2).trans hD1
               · show HInv C (f.out rs').hpf βx _
                 rw [hhp];exact H4
               · rw [hhp];exact S.fresh n (by rw [← hnx];exact hn)
               · have:=S.gd;cases rs';exact this
               · have:=S.vc;cases rs';exact this
               · have:=S.tr;cases rs';exact this
            rcases hD with ⟨x,βx,hix,hRx,hE⟩|⟨e,rs',βx,hne,hK,⟨C',a',G',S⟩,hbx,hext,hE⟩
            · obtain ⟨⟨C',G',S⟩,hbx,hext⟩:=hRx
              obtain ⟨G4,hrun,hle4,S4⟩:=fin (f.head x) βx .ready none .normal C' _ G' S hbx hE
              refine ⟨none,G4.w,by rw [hrun];rfl,?_⟩
              have hout:f.out (f.head x)=addWr (keysS B++ns++rs.wr) (f.head x):=by
               have:withSl rs.sl (f.head x)=f.head x:=by
                have:=head_sl (B:=B) (rs:=rs) (ns:=ns) (x:=((),x))
                show withSl rs.sl (loopHead [] B [] rs ns ((),x))=loopHead [] B [] rs ns ((),x)
                rw [← this];rfl
               show addWr (keysS B++ns++rs.wr) (withSl rs.sl (f.head x))=_
               rw [this]
              have hK:=(hend x hix).out
              rw [forceRS_eq] at hK
              rw [hout] at S4
              exact hQ .normal _ βx _ G4 hK S4 hbx hle4 hext (fun _=>rfl)
            · cases e with
              |normal=>exact (hne rfl).elim
              |exit id=>
               obtain ⟨G4,hrun,hle4,S4⟩:=fin rs' βx .done (some (.exit id)) (.exit id) C' a' G' S hbx hE
               exact ⟨some (.exit id),G4.w,by rw [hrun];rfl,wpIn_exit (hQ (.exit id) _ βx _ G4 hK S4 hbx hle4 hext (fun _=>rfl))⟩
              |ret=>
               obtain ⟨G4,hrun,hle4,S4⟩:=fin rs' βx .done (some .ret) .ret C' a' G' S hbx hE
               exact ⟨some .ret,G4.w,by rw [hrun];rfl,wpIn_ret (hQ .ret _ βx _ G4 hK S4 hbx hle4 hext (fun _=>rfl))⟩
       · exact h.elim
     · exact h.elim
   · exact h.elim
 · exact h.elim
end Go.Gv

/- A BODY: what the generator asks for is enough. -/
namespace Go.Gv
open Go
theorem wp_loop_x {P:Program} {F:Fence} {n:Nat} {Q:Exit→Act→World→Prop} {c:Code} {X:Type} (I:X→Act→World→Prop) (μ:X→Nat) {a:Act} {w:World} {x0:X} (h0:I x0 a w)
    (round:∀ x a w,I x a w→c.wpIn F n P (Exit.then (fun a' w'=>∃ x',I x' a' w'∧μ x'<μ x) Q) a w):(Code.loop c).wpIn F n P Q a w:=by
 intro b k cs hro hb hr
 have key:∀ j x a w,μ x=j→I x a w→∃ e a' w',Q e a' w'∧ArrivesIn (Machine.fenced P F) P (lone (b.atR a (.code c:: .inLoop c::k)) cs w) b k cs e a' w':=by
  intro j
  induction j using Nat.strongRecOn with
  |_ j ih=>
   intro x a w hn hI
   obtain ⟨e,a₁,w₁,hq,harr⟩:=round x a w hI b (.inLoop c::k) cs hro hb hr
   cases e with
   |normal=>
    obtain ⟨x',hI₁,hlt⟩:=hq
    obtain ⟨e₂,a₂,w₂,hq₂,harr₂⟩:=ih (μ x') (hn ▸ hlt) x' a₁ w₁ rfl hI₁
    exact ⟨e₂,a₂,w₂,hq₂, .of_steps (StepsIn.trans harr (.one (fenced_calm hb hr rfl) stepR_inLoop)) harr₂⟩
   |exit id=>exact ⟨_,a₁,w₁,hq, .pass (x:= .inLoop c) rfl (fun _ _=> .inl (by simp)) harr⟩
   |goto l=>exact ⟨_,a₁,w₁,hq, .pass (x:= .inLoop c) rfl (fun _ _=> .inl (by simp)) harr⟩
   |ret=>exact ⟨_,a₁,w₁,hq, .pass (x:= .inLoop c) rfl (fun _ _=> .inl (by simp)) harr⟩
   |panic ch=>exact ⟨_,a₁,w₁,hq, .pass (x:= .inLoop c) rfl (fun _ _=> .inl (by simp)) harr⟩
   |outgrown=>exact ⟨_,a₁,w₁,hq, .pass (x:= .inLoop c) rfl (fun _ _=> .inl (by simp)) harr⟩
 obtain ⟨e,a',w',hq,harr⟩:=key _ x0 a w rfl h0
 exact ⟨e,a',w',hq, .of_steps (.one (fenced_calm hb hr rfl) stepR_loop) harr⟩
theorem dstsO_mem:∀ (L:List Oper) (l:List Nat) (s:Nat),s∈dstsO L l↔(∃ o∈L,o.dst=some s)∨s∈l
 |[],l,s=>by simp [dstsO]
 |o::r,l,s=>by
  unfold dstsO
  rw [dstsO_mem r]
  cases hd:o.dst with
  |none=>
   constructor
   · rintro (⟨o',h1,h2⟩|h)
     · exact .inl ⟨o',List.mem_cons_of_mem _ h1,h2⟩
     · exact .inr h
   · rintro (⟨o',h1,h2⟩|h)
     · rcases List.mem_cons.1 h1 with rfl|h1
       · rw [hd] at h2;cases h2
       · exact .inl ⟨o',h1,h2⟩
     · exact .inr h
  |some d=>
   constructor
   · rintro (⟨o',h1,h2⟩|h)
     · exact .inl ⟨o',List.mem_cons_of_mem _ h1,h2⟩
     · rcases List.mem_cons.1 h with rfl|h
       · exact .inl ⟨o,List.mem_cons_self,hd⟩
       · exact .inr h
   · rintro (⟨o',h1,h2⟩|h)
     · rcases List.mem_cons.1 h1 with rfl|h1
       · rw [hd] at h2;cases h2;exact .inr List.mem_cons_self
       · exact .inl ⟨o',h1,h2⟩
     · exact .inr (List.mem_cons_of_mem _ h)
theorem dsts_mem (c:Code):∀ (l:List Nat) (s:Nat),s∈dsts c l↔s∈dsts c []∨s∈l:=by
 induction c with
 |region id ops d=>intro l s;simp only [dsts];rw [dstsO_mem,dstsO_mem];simp
 |seq a b iha ihb=>intro l s;simp only [dsts];rw [iha,ihb,iha (dsts b [])];constructor
                   · rintro (h|h|h)
                     · exact .inl (.inl h)
                     · exact .inl (.inr h)
                     · exact .inr h
                   · rintro ((h|h)|h)
                     · exact .inl h
                     · exact .inr (.inl h)
                     · exact .inr (.inr h)
 |cond x a b iha ihb=>intro l s;simp only [dsts];rw [iha,ihb,iha (dsts b [])];constructor
                      · rintro (h|h|h)
                        · exact .inl (.inl h)
                        · exact .inl (.inr h)
                        · exact .inr h
                      · rintro ((h|h)|h)
                        · exact .inl h
                        · exact .inr (.inl h)
                        · exact .inr (.inr h)
 |block id b ih=>intro l s;simp only [dsts];exact ih l s
 |loop b ih=>intro l s;simp only [dsts];exact ih l s
 |scope b ih=>intro l s;simp only [dsts];exact ih l s
 |_=>intro l s;simp [dsts]
theorem wrOK_spec {B:List Nat} {nx:Nat}:∀ {l:List Nat},wrOK B nx l=true→∀ h∈l,h∈B∨nx≤h
 |[],_,h,hm=>by cases hm
 |a::r,hw,h,hm=>by
  unfold wrOK at hw
  have hr:(a∈B∨nx≤a)∧wrOK B nx r=true:=by
   split at hw
   · cases hw
   · rename_i hne
     refine ⟨?_,hw⟩
     cases h1:memN B a with
     |true=>exact .inl (memN_iff.1 h1)
     |false=>
      cases h2:Nat.ble nx a with
      |true=>exact .inr (Nat.le_of_ble_eq_true h2)
      |false=>exact (hne h1 h2).elim
  rcases List.mem_cons.1 hm with rfl|hm
  · exact hr.1
  · exact wrOK_spec hr.2 h hm
theorem noRF_seq {a b:Code} (h:noRF (.seq a b)=true):noRF a=true∧noRF b=true:=by
 unfold noRF at h
 split at h
 · rename_i ha;exact ⟨ha,h⟩
 · cases h
theorem noRF_cond {x:Operand} {a b:Code} (h:noRF (.cond x a b)=true):noRF a=true∧noRF b=true:=by
 unfold noRF at h
 split at h
 · rename_i ha;exact ⟨ha,h⟩
 · cases h
theorem addWr_sim {C:Ctx} {rs:RS} {l:List Nat} {β:Asg} {a:Act} {G:GW} (h:Sim C rs β a G):Sim C (addWr l rs) β a G:=by
 cases rs;exact ⟨h.holds,h.flat,h.fresh,h.gd,h.vc,h.tr⟩
section
variable {P:Program} {c:Cf} (hE:c.E.ok P=true) (hS:SpecsOK P c.gl c.F c.nz) (hL:LateOK P c) (hmix:P.follows .mixedOrders=true)
include hE hS hL hmix
theorem wpA_sound:∀ (code:Code),WpSound P c code:=by
 intro code
 induction code with
 |skip=>exact fun C hg hN hm r hr rs K β a G Q h hs hQ=>wpIn_skip (hQ .normal rs β a G h hs (Asg.le_refl β) G.le_refl (Ext.refl rs) (fun _ _=>rfl))
 |region id ops draw=>
  intro C hg hN hm r hr rs K β a G Q h hs hQ
  refine region_wp hE hS hL hmix hg hN h hs fun rs' β' a' G' hK hs' hb hgl hext hsm=>hQ .normal rs' β' a' G' hK hs' hb hgl hext fun s hsn=>hsm s fun o ho hd=>hsn ?_
  simp only [dsts]
  exact (dstsO_mem _ _ _).2 (.inl ⟨o,ho,hd⟩)
 |seq x y ihx ihy=>
  intro C hg hN hm r hr rs K β a G Q h hs hQ
  have hd:∀ s,s ∉ dsts (x.seq y) []→s ∉ dsts x []∧s ∉ dsts y []:=fun s hn=>by
   simp only [dsts] at hn
   rw [dsts_mem] at hn
   exact ⟨fun h=>hn (.inl h),fun h=>hn (.inr h)⟩
  refine wpIn_seq (ihx C hg hN hm r (hr.imp _root_.id fun h=>(noRF_seq h).1) rs _ β a G _ h hs fun e rs' β' a' G' hK hs' hb hgl hext hsm=>?_)
  cases e with
  |normal=>
   exact ihy C hg hN hm r (hr.imp _root_.id fun h=>(noRF_seq h).2) rs' K β' a' G' Q hK hs' fun e' rs'' β'' a'' G'' hK' hs'' hb' hgl' hext' hsm'=>
    hQ e' rs'' β'' a'' G'' hK' hs'' (Asg.le_trans hb hb') (GW.le_trans hgl hgl') (hext.trans hext') fun s hn=>(hsm' s (hd s hn).2).trans (hsm s (hd s hn).1)
  |exit i=>exact hQ (.exit i) rs' β' a' G' hK hs' hb hgl hext fun s hn=>hsm s (hd s hn).1
  |ret=>exact hQ .ret rs' β' a' G' hK hs' hb hgl hext fun s hn=>hsm s (hd s hn).1
 |cond x t e iht ihe=>
  intro C hg hN hm r hr rs K β a G Q h hs hQ
  have hd:∀ s,s ∉ dsts (Code.cond x t e) []→s ∉ dsts t []∧s ∉ dsts e []:=fun s hn=>by
   simp only [dsts] at hn
   rw [dsts_mem] at hn
   exact ⟨fun h=>hn (.inl h),fun h=>hn (.inr h)⟩
  have hx:sat (opA c.gl rs.slf [] x) β G (a.eval x):=opA_sat hg.eq (hs.holds (fun _=>false)) (fun e he=>by cases he) x (fun _ _=>rfl)
  have ht:wpA c t rs K→t.wpIn (WF r) 0 P Q a G.w:=fun h=>iht C hg hN hm r (hr.imp _root_.id fun h=>(noRF_cond h).1) rs K β a G Q h hs fun e rs' β' a' G' hK hs' hb hgl hext hsm=>hQ e rs' β' a' G' hK hs' hb hgl hext fun s hn=>hsm s (hd s hn).1
  have he:wpA c e rs K→e.wpIn (WF r) 0 P Q a G.w:=fun h=>ihe C hg hN hm r (hr.imp _root_.id fun h=>(noRF_cond h).2) rs K β a G Q h hs fun e rs' β' a' G' hK hs' hb hgl hext hsm=>hQ e rs' β' a' G' hK hs' hb hgl hext fun s hn=>hsm s (hd s hn).2
  simp only [wpA] at h
  split at h
  · rename_i heq
    rw [heq] at hx;unfold sat at hx
    exact wpIn_cond_true hx (ht h)
  · rename_i heq
    rw [heq] at hx;unfold sat at hx
    exact wpIn_cond_false hx (he h)
  · split at h
    · rename_i p hp
      obtain ⟨b,hb,hiff⟩:=prop_val (propOf_sat hp hx)
      refine wpIn_cond_split hb (fun h1=>ht (h.1 (hiff.1 h1)).out) (fun h1=>he (h.2 fun hpp=>?_).out)
      rw [hiff.2 hpp] at h1;cases h1
    · exact h.elim
 |block id b ih=>
  intro C hg hN hm r hr rs K β a G Q h hs hQ
  refine wpIn_block (ih C hg hN hm r (hr.imp _root_.id fun h=>(by simpa only [noRF] using h)) rs _ β a G _ h hs fun e rs' β' a' G' hK hs' hb hgl hext hsm=>?_)
  have hsm':∀ s,s ∉ dsts (Code.block id b) []→a'.tmps.getD s undef=a.tmps.getD s undef:=fun s hn=>hsm s (by simpa only [dsts] using hn)
  cases e with
  |normal=>exact hQ .normal rs' β' a' G' hK hs' hb hgl hext hsm'
  |ret=>exact hQ .ret rs' β' a' G' hK hs' hb hgl hext hsm'
  |exit i=>
   show (if i=id then Q .normal a' G'.w else Q (.exit i) a' G'.w)
   dsimp only at hK
   split at hK
   · rename_i hbq
     rw [if_pos (Nat.eq_of_beq_eq_true hbq)]
     exact hQ .normal rs' β' a' G' hK hs' hb hgl hext hsm'
   · rename_i hbq
     rw [if_neg (fun e=>by subst e;simp at hbq)]
     exact hQ (.exit i) rs' β' a' G' hK hs' hb hgl hext hsm'
 |loop b ih=>
  intro C hg hN hm r hr rs K β a G Q h hs hQ
  simp only [wpA] at h
  obtain ⟨S,B,inv,μ,h⟩:=h
  split at h
  · rename_i x0 ns0 ex0 n0 hin
    obtain ⟨hinv0,hround⟩:=h
    obtain ⟨_,_,_,_,_,_,_,_,fB0,e0,_⟩:=loopIn_spec hin
    obtain ⟨_,k2⟩:=locB_roots B _ _ _ _ _ fB0
    have hB:∀ n∈keysS B,n∈ns0:=fun n hn=>by rw [e0];exact List.mem_append_right _ (k2 n hn).1
    obtain ⟨β1,S1,hb1⟩:=loop_state hs hin hs (Asg.le_refl β) G.le_refl hin (Nat.le_refl _) (fun _ _ _=>rfl) (fun _ h _=>h) (dsts b []) (fun _ _=>rfl)
    refine wp_loop_x (fun x a' w'=>inv x∧∃ β' G',G'.w=w'∧Sim C (loopHead S B (dsts b []) rs ns0 x) β' a' G'∧β.le β'∧G.le G'∧∀ s,s ∉ dsts b []→a'.tmps.getD s undef=a.tmps.getD s undef) μ (x0:=x0) ⟨hinv0,β1,G,rfl,S1,hb1,G.le_refl,fun _ _=>rfl⟩ ?_
    rintro x a2 w2 ⟨hinv,β2,G2,rfl,S2,hb2,hg2,hsm2⟩
    have hheadhp:∀ n,n<rs.nx→n ∉ ns0→(loopHead S B (dsts b []) rs ns0 x).hpf n=rs.hpf n:=fun n hn hnn=>head_hpf hs hin hn hnn
    refine ih C hg hN hm r (hr.imp _root_.id fun h=>(by simpa only [noRF] using h)) _ _ β2 a2 G2 _ (by have:=(hround x hinv).out;rw [forceRS_eq] at this;exact this) S2 fun e rs' β' a' G' hK hs' hb hgl hext hsm=>?_
    have hnxle:rs.nx≤rs'.nx:=Nat.le_trans (Nat.le_add_right _ _) hext.nx
    cases e with
    |normal=>
     dsimp only at hK
     split at hK
     · rename_i x' ns' ex' n' hin' hwr
       split at hK
       · rename_i hwr'
         obtain ⟨hinv',hμ⟩:=hK
         have hw:=wrOK_spec hwr
         have hw':=wrOK_spec hwr'
         have hsm3:∀ s,s ∉ dsts b []→a'.tmps.getD s undef=a.tmps.getD s undef:=fun s hn=>(hsm s hn).trans (hsm2 s hn)
         obtain ⟨β3,S3,hb3⟩:=loop_state hs hin hs' (Asg.le_trans hb2 hb) (GW.le_trans hg2 hgl) hin' hnxle (fun n hn hnn=>by
             rw [hext.hpf n (Nat.lt_of_lt_of_le hn (Nat.le_add_right _ _)) (fun hm=>(hw n hm).elim (fun h=>hnn (hB n h)) (fun h=>by omega))]
             exact hheadhp n hn hnn) (fun n hn hlt=>(hw' n hn).elim (hB n) (fun h=>by omega)) (dsts b []) hsm3
         exact ⟨x',⟨hinv',β3,G',rfl,S3,hb3,GW.le_trans hg2 hgl,hsm3⟩,hμ⟩
       · exact hK.elim
     · exact hK.elim
    |exit i=>
     refine hQ (.exit i) _ β' a' G' hK (addWr_sim hs') (Asg.le_trans hb2 hb) (GW.le_trans hg2 hgl) (exit_ext hext hnxle hB hheadhp (Nat.le_add_right _ _)) fun s hn=>?_
     have hn':s ∉ dsts b []:=by simpa only [dsts] using hn
     exact (hsm s hn').trans (hsm2 s hn')
    |ret=>
     refine hQ .ret _ β' a' G' hK (addWr_sim hs') (Asg.le_trans hb2 hb) (GW.le_trans hg2 hgl) (exit_ext hext hnxle hB hheadhp (Nat.le_add_right _ _)) fun s hn=>?_
     have hn':s ∉ dsts b []:=by simpa only [dsts] using hn
     exact (hsm s hn').trans (hsm2 s hn')
  · exact h.elim
 |exit id=>exact fun C hg hN hm r hr rs K β a G Q h hs hQ=>wpIn_exit (hQ (.exit id) rs β a G h hs (Asg.le_refl β) G.le_refl (Ext.refl rs) (fun _ _=>rfl))
 |ret=>exact fun C hg hN hm r hr rs K β a G Q h hs hQ=>wpIn_ret (hQ .ret rs β a G h hs (Asg.le_refl β) G.le_refl (Ext.refl rs) (fun _ _=>rfl))
 |label l=>exact fun C hg hN hm r hr rs K β a G Q h hs hQ=>wpIn_label (hQ .normal rs β a G h hs (Asg.le_refl β) G.le_refl (Ext.refl rs) (fun _ _=>rfl))
 |rangeFunc g ps asg b iha ihb=>
  intro C hg hN hm r hr rs K β a G Q h hs hQ
  rcases hr with rfl|hr
  · exact rf_sound hL iha ihb hg hN hm h hs fun e rs' β' a' G' hK hs' hb hgl hext hsm=>hQ e rs' β' a' G' hK hs' hb hgl hext (fun s _=>hsm s)
  · simp [noRF] at hr
 |_=>intro C hg hN hm r hr rs K β a G Q h hs hQ;simp only [wpA] at h
where
 exit_ext {rs hd rs':RS} {ns B:List Nat} (hext:Ext hd rs') (hnx:rs.nx≤rs'.nx) (hB:∀ n∈B,n∈ns) (hh:∀ n,n<rs.nx→n ∉ ns→hd.hpf n=rs.hpf n) (hle:rs.nx≤hd.nx):Ext rs (addWr (B++ns++rs.wr) rs'):=by
  cases rs' with
  |mk sl hp nx gd vc tr wr=>
   refine ⟨fun n hn=>List.mem_append_right _ (List.mem_append_right _ hn),fun n hn hnw=>?_,hnx⟩
   have h1:n ∉ wr:=fun h=>hnw (List.mem_append_left _ h)
   have h2:n ∉ ns:=fun h=>hnw (List.mem_append_right _ (List.mem_append_left _ (List.mem_append_right _ h)))
   exact (hext.hpf n (Nat.lt_of_lt_of_le hn hle) h1).trans (hh n hn h2)
 head_hpf {C:Ctx} {rs:RS} {β:Asg} {a:Act} {G:GW} (hs:Sim C rs β a G) {S B:List (Nat × Sh)} {x0:SDat (shL S B)} {ns0:List Nat} {ex0:List (Nat × HObj)} {n0:Nat} (hin:loopIn S B rs=some ⟨x0,ns0,ex0,n0⟩) {x:SDat (shL S B)} {ds:List Nat} {n:Nat} (hn:n<rs.nx) (hnn:n ∉ ns0):
     (loopHead S B ds rs ns0 x).hpf n=rs.hpf n:=by
  obtain ⟨f0,_,_,_,_,_,_,_,fB0,e0,_⟩:=loopIn_spec hin
  rw [hpf_hset]
  show hset (fun _=>HObj.none) (intoH (nmL (rootsL S B) rs.nx) (shL S B) x 0 (deadL (ltN rs.nx ns0) rs.hp)) n=_
  rw [intoH_eq]
  rcases hset_zipN_cases (nmL (rootsL S B) rs.nx) (fun _=>HObj.none) (objsA (nmL (rootsL S B) rs.nx) (shL S B) x 0) 0 (deadL (ltN rs.nx ns0) rs.hp) n with ⟨k,o,h1,h2,h3⟩|⟨h1,h2⟩
  · exfalso
    rw [Nat.zero_add] at h2
    by_cases hr:∃ y,(rootsL S B)[k]?=some (some y)
    · obtain ⟨y,hr⟩:=hr
      rw [nmL_root hr] at h2
      subst h2
      obtain ⟨k1,_⟩:=locB_roots B _ _ _ _ _ fB0
      unfold rootsL at hr
      by_cases hlt:k<nn (shS S)
      · rw [List.getElem?_append_left (by simpa using hlt),List.getElem?_replicate,if_pos hlt] at hr;cases hr
      · rw [List.getElem?_append_right (by simp;omega),List.length_replicate] at hr
        exact hnn (by rw [e0];exact List.mem_append_right _ (List.mem_of_getElem? (k1 _ _ hr).1))
    · rw [nmL_new (fun y e=>hr ⟨y,e⟩)] at h2;omega
  · rw [h2,hset_deadL,if_neg (fun hm=>hnn (ltN_mem.1 hm).1),← hpf_hset]
end
end Go.Gv

/- What is known of data that lie in memory: numbers in their ranges, lists of bounded length. -/
namespace Go.Gv
open Go
def inRng (k:IntKind) (n:Int):Prop:=lo k≤n∧n≤hi k
def datOK:(t:Ty)→Dat t→Prop
 | .int k,n=>inRng k n
 | .bool,_=>True
 | .str,s=>s.length≤maxLen
 | .sl t,xs=>List.length xs≤maxLen∧∀ x∈xs,datOK t x
 | .nl,_=>True
 | .cs t r,x=>datOK t x.1∧datOK r x.2
 | .st fs,x=>datOK fs x
 | .arr n t,xs=>List.length xs=n∧∀ x∈xs,datOK t x
 | .mp _ _,_=>True
 | .pt t,x=>∀ y,x=some y→datOK t y
 | .ot _,_=>True
 | .fn,_=>True
theorem rep_ok:∀ (t:Ty) {x:Dat t} {G:GW} {vs:List Value},Rep t x G vs→datOK t x
 | .int _,_,_,_,h=>has_iff.1 h.2
 | .bool,_,_,_,_=>trivial
 | .str,_,_,_,h=>h.2
 | .sl t,xs,G,vs,h=>by
  obtain ⟨base,cap,_,h1,h2,h3,h4⟩:=h
  refine ⟨Nat.le_trans h1 h2,fun x hx=>?_⟩
  obtain ⟨i,hi,rfl⟩:=List.getElem_of_mem hx
  cases base with
  |none=>have:=h3 rfl;omega
  |some a=>
   obtain ⟨cells,_,hr⟩:=(h4 a rfl).2 i _ (List.getElem?_eq_getElem hi)
   exact rep_ok t hr
 | .nl,_,_,_,_=>trivial
 | .cs t r,_,_,_,h=>by
  obtain ⟨v1,v2,_,h1,h2⟩:=h
  exact ⟨rep_ok t h1,rep_ok r h2⟩
 | .st fs,_,_,_,h=>by unfold Rep at h;exact rep_ok fs h
 | .arr n t,xs,G,vs,h=>by
  obtain ⟨h1,_,h2⟩:=h
  refine ⟨h1,fun x hx=>?_⟩
  obtain ⟨i,hi,rfl⟩:=List.getElem_of_mem hx
  exact rep_ok t (h2 i _ (List.getElem?_eq_getElem hi))
 | .mp _ _,_,_,_,_=>trivial
 | .pt t,none,_,_,_=>fun y h=>by cases h
 | .pt t,some x,_,_,h=>by
  obtain ⟨_,_,_,_,_,hr⟩:=h
  intro y hy
  cases hy
  exact rep_ok t hr
 | .ot _,_,_,_,_=>trivial
 | .fn,_,_,_,_=>trivial
def obOK:(κ:Kind)→ObDat κ→Prop
 | .mit k v,x=>∀ e∈x.1,datOK k e.1∧datOK v e.2
 | .fm k v,m=>∀ e∈m,datOK k e.1∧datOK v e.2
 | .kb k v,m=>∀ e∈m,datOK k e.1∧datOK v e.2
 | .log _,_=>True
def shOK:(s:Sh)→SDat s→Prop
 | .d t,x=>datOK t x
 | .row t,xs=>datOK (.sl t) xs
 | .take t,xs=>datOK (.sl t) xs
 | .spare t,xs=>datOK (.sl t) xs
 | .map k v,m=>∀ e∈m,datOK k e.1∧datOK v e.2
 | .ob κ,x=>obOK κ x
 | .box cs,x=>shOK cs x
 | .clos _ cs,x=>shOK cs x
 | .agg cs,x=>shOK cs x
 | .self _ cs,x=>match lstS cs with
  |true=>shOK cs x
  |false=>True
 | .nilp,_=>True
 | .nils,_=>True
 | .nil,_=>True
 | .cons a b,x=>shOK a x.1∧shOK b x.2
theorem row_ok {t:Ty} {xs:List (Dat t)} {v:Value} {β:Asg} {G:GW} (h:satH (.row t xs) v β G):datOK (.sl t) xs:=by
 obtain ⟨base,cap,rfl,h1,h2,h3,h4⟩:=h
 refine ⟨Nat.le_trans h1 h2,fun x hx=>?_⟩
 obtain ⟨i,hi,rfl⟩:=List.getElem_of_mem hx
 cases base with
 |none=>have:=h3 rfl;omega
 |some a=>
  obtain ⟨cells,_,hr⟩:=(h4 a rfl).2.2 i _ (List.getElem?_eq_getElem hi)
  exact rep_ok t hr
theorem objsA_ne (nm:Nat→Nat):∀ (s:Sh) (x:SDat s) (n:Nat),∀ o∈objsA nm s x n,o≠HObj.none
 | .d _,_,_,o,h=>by cases h
 | .row _,_,_,o,h=>by simp [objsA] at h;subst h;simp
 | .take _,_,_,o,h=>by simp [objsA] at h;subst h;simp
 | .spare _,_,_,o,h=>by simp [objsA] at h;subst h;simp
 | .map _ _,_,_,o,h=>by simp [objsA] at h;subst h;simp
 | .ob _,_,_,o,h=>by simp [objsA] at h;subst h;simp
 | .box cs,x,n,o,h=>by
  rcases List.mem_cons.1 h with rfl|h
  · simp
  · exact objsA_ne nm cs x (n+1) o h
 | .clos _ cs,x,n,o,h=>objsA_ne nm cs x n o h
 | .agg cs,x,n,o,h=>objsA_ne nm cs x n o h
 | .self f cs,x,n,o,h=>by
  rcases List.mem_cons.1 h with rfl|h
  · simp
  · exact objsA_ne nm cs x (n+1) o h
 | .nilp,_,_,o,h=>by cases h
 | .nils,_,_,o,h=>by cases h
 | .nil,_,_,o,h=>by cases h
 | .cons a b,x,n,o,h=>by
  rcases List.mem_append.1 h with h|h
  · exact objsA_ne nm a x.1 n o h
  · exact objsA_ne nm b x.2 (n+nn a) o h
theorem mapRep_ok {k v:Ty} {m:List (Dat k × Dat v)} {G:GW} {es:Array MapEntry} (h:MapRep k v m G es):∀ e∈m,datOK k e.1∧datOK v e.2:=by
 obtain ⟨h1,h2⟩:=h
 intro e he
 obtain ⟨i,hi,rfl⟩:=List.getElem_of_mem he
 have hlt:i<es.size:=by rw [h1];exact hi
 obtain ⟨y,hy,r1,r2⟩:=h2 i _ (Array.getElem?_eq_getElem hlt)
 rw [List.getElem?_eq_getElem hi] at hy
 cases hy
 exact ⟨rep_ok k r1.2,rep_ok v r2.2⟩
theorem shOK_of {nm:Nat→Nat} {β:Asg} {G:GW}:∀ (s:Sh) (x:SDat s) (n:Nat),(∀ (k:Nat) (o:HObj),(objsA nm s x n)[k]?=some o→∃ v,satH o v β G)→
    ((∃ v,sat (intoA nm s x n) β G v)∨(∃ l,satL (intoA nm s x n) β G l)∨∃ l,satT (intoA nm s x n) β G l)→shOK s x
 | .d t,x,n,ho,hs=>by
  rcases hs with ⟨v,h⟩|⟨l,h⟩|⟨l,h⟩
  · unfold intoA sat at h;exact rep_ok t h.2
  · unfold intoA satL at h;exact h.elim
  · unfold intoA satT at h;exact h.elim
 | .row t,xs,n,ho,hs=>by
  obtain ⟨v,h⟩:=ho 0 _ rfl
  exact row_ok h
 | .take t,xs,n,ho,hs=>by
  obtain ⟨v,h⟩:=ho 0 _ rfl
  exact row_ok h
 | .spare t,xs,n,ho,hs=>by
  rcases hs with ⟨v,h⟩|⟨l,h⟩|⟨l,h⟩
  · unfold intoA sat at h;exact rep_ok (.sl t) h.2.2
  · unfold intoA satL at h;exact h.elim
  · unfold intoA satT at h;exact h.elim
 | .map k v,m,n,ho,hs=>by
  obtain ⟨u,h⟩:=ho 0 _ rfl
  obtain ⟨b,es,c,_,_,h1,_⟩:=h
  exact mapRep_ok h1
 | .ob κ,x,n,ho,hs=>by
  obtain ⟨u,h⟩:=ho 0 _ rfl
  cases κ with
  |mit k v=>
   obtain ⟨left,y,q⟩:=x
   obtain ⟨r,_,h⟩:=h
   rcases h with ⟨h1,_⟩|⟨b,es,c,seen,_,_,_,_,h1,_⟩
   · intro e he
     have he:e∈left:=he
     rw [h1] at he;cases he
   · exact mapRep_ok h1
  |kb k v=>
   obtain ⟨r,b,es,c,_,_,_,_,_,h1⟩:=h
   exact mapRep_ok h1
  |fm k v=>
   obtain ⟨b,es,c,_,_,_,_,h1⟩:=h
   exact mapRep_ok h1
  |log t=>exact trivial
 | .box cs,x,n,ho,hs=>by
  obtain ⟨v,h⟩:=ho 0 _ rfl
  obtain ⟨b,l,_,hl,_⟩:=h
  exact shOK_of cs x (n+1) (fun k o hk=>ho (k+1) o (by simpa [objsA] using hk)) (.inr (.inl ⟨l,hl⟩))
 | .clos f cs,x,n,ho,hs=>by
  rcases hs with ⟨v,h⟩|⟨l,h⟩|⟨l,h⟩
  · unfold intoA sat at h
    obtain ⟨l,_,h⟩:=h
    exact shOK_of cs x n ho (.inr (.inr ⟨l,h⟩))
  · unfold intoA satL at h;exact h.elim
  · unfold intoA satT at h;exact h.elim
 | .agg cs,x,n,ho,hs=>by
  rcases hs with ⟨v,h⟩|⟨l,h⟩|⟨l,h⟩
  · unfold intoA sat at h
    obtain ⟨l,_,h⟩:=h
    exact shOK_of cs x n ho (.inr (.inl ⟨l,h⟩))
  · unfold intoA satL at h;exact h.elim
  · unfold intoA satT at h;exact h.elim
 | .self f cs,x,n,ho,hs=>by
  unfold shOK
  split
  · rename_i hl
    obtain ⟨v,h⟩:=ho 0 _ rfl
    obtain ⟨b,l,_,h,_⟩:=h
    unfold satL at h
    obtain ⟨u,l',_,_,h1,_⟩:=h
    unfold sat at h1
    obtain ⟨l2,_,h2⟩:=h1
    obtain ⟨l3,w,_,h3,_⟩:=(satT_snoc (isL_into nm cs hl x (n+1))).1 h2
    exact shOK_of cs x (n+1) (fun k o hk=>ho (k+1) o (by simpa [objsA] using hk)) (.inr (.inr ⟨l3,h3⟩))
  · trivial
 | .nilp,_,_,_,_=>trivial
 | .nils,_,_,_,_=>trivial
 | .nil,_,_,_,_=>trivial
 | .cons a b,x,n,ho,hs=>by
  have hoa:∀ (k:Nat) (o:HObj),(objsA nm a x.1 n)[k]?=some o→∃ v,satH o v β G:=fun k o hk=>ho k o (by
   simp only [objsA]
   rw [List.getElem?_append_left (List.getElem?_eq_some_iff.1 hk).1];exact hk)
  have hob:∀ (k:Nat) (o:HObj),(objsA nm b x.2 (n+nn a))[k]?=some o→∃ v,satH o v β G:=fun k o hk=>ho ((objsA nm a x.1 n).length+k) o (by
   simp only [objsA]
   rw [List.getElem?_append_right (Nat.le_add_right _ _),Nat.add_sub_cancel_left];exact hk)
  rcases hs with ⟨v,h⟩|⟨l,h⟩|⟨l,h⟩
  · unfold intoA sat at h;exact h.elim
  · unfold intoA satL at h
    obtain ⟨v,l',_,_,h1,h2⟩:=h
    exact ⟨shOK_of a x.1 n hoa (.inl ⟨v,h1⟩),shOK_of b x.2 (n+nn a) hob (.inr (.inl ⟨l',h2⟩))⟩
  · unfold intoA satT at h
    obtain ⟨v,l',_,h1,h2⟩:=h
    exact ⟨shOK_of a x.1 n hoa (.inl ⟨v,h1⟩),shOK_of b x.2 (n+nn a) hob (.inr (.inr ⟨l',h2⟩))⟩
end Go.Gv
