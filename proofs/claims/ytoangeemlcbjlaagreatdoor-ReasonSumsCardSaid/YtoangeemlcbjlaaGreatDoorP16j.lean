/- The plain law of circuits: a gate is put into a circuit. -/
import Derived.Test.YtoangeemlcbjlaaGreatDoorP16i
set_option linter.all false
namespace Go.Gv
open Go Go.Proofs Go.Proofs.YtoangeemlcbjlaaGreatDoor
set_option maxRecDepth 100000
set_option maxHeartbeats 4000000
def leI (a b:Int):Bool:=decide (a≤b)
def sortI (l:List Int):List Int:=l.mergeSort leI
theorem sortI_perm (l:List Int):(sortI l).Perm l:=List.mergeSort_perm l leI
theorem sortI_sorted (l:List Int):(sortI l).Pairwise fun a b=>a≤b:=by
 have:=List.pairwise_mergeSort (le:=leI) (fun a b c h1 h2=>by
  simp only [leI,decide_eq_true_eq] at *
  omega) (fun a b=>by
  simp only [leI,Bool.or_eq_true,decide_eq_true_eq]
  omega) l
 exact this.imp fun h=>by simpa [leI] using h
theorem sortI_uniq {l m:List Int} (hp:m.Perm l) (hs:m.Pairwise fun a b=>a≤b):m=sortI l:=
 List.Perm.eq_of_pairwise (le:=fun a b:Int=>a≤b) (fun a b _ _ h1 h2=>by omega) hs (sortI_sorted l) (hp.trans (sortI_perm l).symm)
theorem sortI_mem {l:List Int} {k:Int}:k∈sortI l↔k∈l:=(sortI_perm l).mem_iff
theorem sortI_len (l:List Int):(sortI l).length=l.length:=(sortI_perm l).length_eq
def keptB (a b:Int):Bool:=decide (b≠0∧(b≠1∨a=3))
def keptK (gs:List Gate) (g:Gate):List Int:=(sortI g.2.2.1).filter fun k=>keptB g.1 (kindAt gs k)
def zeroK (gs:List Gate) (g:Gate):Prop:=g.1=4∧∃ k∈g.2.2.1,kindAt gs k=0
noncomputable instance (gs:List Gate) (g:Gate):Decidable (zeroK gs g):=Classical.propDecidable _
noncomputable def nrmG (gs:List Gate) (g:Gate):Gate:=if inner g.1 then (if zeroK gs g∨(g.1=3∧(keptK gs g).length=0) then (0,0,[],()) else if (keptK gs g).length=0 then (1,0,[],()) else (g.1,g.2.1,keptK gs g,())) else g
structure PutOK (gs:List Gate) (g:Gate):Prop where
 v:ValidC gs
 f:formed g gs.length
noncomputable instance (gs:List Gate) (g:Gate):Decidable (PutOK gs g):=Classical.propDecidable _
structure OneK (gs:List Gate) (g:Gate):Prop where
 i:inner g.1
 z:¬ zeroK gs g
 l:(keptK gs g).length=1
noncomputable instance (gs:List Gate) (g:Gate):Decidable (OneK gs g):=Classical.propDecidable _
noncomputable def idxG (gs:List Gate) (g:Gate):Nat:=gs.findIdx fun x=>decide (x=g)
noncomputable def putC (gs:List Gate) (g:Gate):List Gate × Int × Int:=
 if PutOK gs g then (if OneK gs g then (gs,(keptK gs g).getD 0 0,0) else if nrmG gs g∈gs then (gs,(idxG gs (nrmG gs g):Int),0) else if gs.length=100000 then ([],0,3) else (gs++[nrmG gs g],(gs.length:Int),0)) else ([],0,1)
theorem put_bad {gs:List Gate} {g:Gate} (h:¬ PutOK gs g):putC gs g=([],0,1):=by unfold putC;rw [if_neg h]
theorem put_one {gs:List Gate} {g:Gate} (h:PutOK gs g) (k:OneK gs g):putC gs g=(gs,(keptK gs g).getD 0 0,0):=by unfold putC;rw [if_pos h,if_pos k]
theorem put_hit {gs:List Gate} {g:Gate} (h:PutOK gs g) (k:¬ OneK gs g) (m:nrmG gs g∈gs):putC gs g=(gs,(idxG gs (nrmG gs g):Int),0):=by unfold putC;rw [if_pos h,if_neg k,if_pos m]
theorem put_full {gs:List Gate} {g:Gate} (h:PutOK gs g) (k:¬ OneK gs g) (m:nrmG gs g ∉ gs) (l:gs.length=100000):putC gs g=([],0,3):=by unfold putC;rw [if_pos h,if_neg k,if_neg m,if_pos l]
theorem put_new {gs:List Gate} {g:Gate} (h:PutOK gs g) (k:¬ OneK gs g) (m:nrmG gs g ∉ gs) (l:gs.length≠100000):putC gs g=(gs++[nrmG gs g],(gs.length:Int),0):=by unfold putC;rw [if_pos h,if_neg k,if_neg m,if_neg l]
theorem idxG_at {gs:List Gate} {g:Gate} (h:g∈gs):idxG gs g<gs.length∧gs.getD (idxG gs g) ((0,0,[],()):Gate)=g:=by
 have hl:idxG gs g<gs.length:=List.findIdx_lt_length_of_exists ⟨g,h,by simp⟩
 refine ⟨hl,?_⟩
 have:=List.findIdx_getElem (xs:=gs) (p:=fun x=>decide (x=g)) (w:=hl)
 rw [getD_ok ((0,0,[],()):Gate) hl]
 exact of_decide_eq_true this
theorem gate_uniq {gs:List Gate} (hV:ValidC gs) {a b:Nat} (ha:a<gs.length) (hb:b<gs.length) (h:gs.getD a ((0,0,[],()):Gate)=gs.getD b ((0,0,[],()):Gate)):a=b:=by
 rcases Nat.lt_trichotomy a b with k|k|k
 · exact absurd h ((hV.2 b hb).2.2.2 a k)
 · exact k
 · exact absurd h.symm ((hV.2 a ha).2.2.2 b k)
theorem idxG_is {gs:List Gate} (hV:ValidC gs) {k:Nat} (hk:k<gs.length) {g:Gate} (h:(List.getD gs k ((0,0,[],()):Gate))=g):g∈gs∧idxG gs g=k:=by
 have hm:g∈gs:=by rw [← h];exact getD_mem hk
 have hi:=idxG_at hm
 exact ⟨hm,gate_uniq hV hi.1 hk (hi.2.trans h.symm)⟩
theorem keptK_mem {gs:List Gate} {g:Gate} {k:Int}:k∈keptK gs g↔k∈g.2.2.1∧kindAt gs k≠0∧(kindAt gs k≠1∨g.1=3):=by
 unfold keptK keptB
 rw [List.mem_filter,sortI_mem,decide_eq_true_eq]
theorem keptK_sorted (gs:List Gate) (g:Gate):(keptK gs g).Pairwise fun a b=>a≤b:=(sortI_sorted _).filter _
theorem kindAt_app {gs:List Gate} {h:Gate} {k:Int} (h0:k.toNat<gs.length):kindAt (gs++[h]) k=kindAt gs k:=by
 unfold kindAt
 rw [List.getD_eq_getElem?_getD,List.getElem?_append_left h0,← List.getD_eq_getElem?_getD]
theorem app_at {gs:List Gate} {h:Gate} {k:Nat} (h0:k<gs.length):(gs++[h]).getD k ((0,0,[],()):Gate)=(List.getD gs k ((0,0,[],()):Gate)):=by
 rw [List.getD_eq_getElem?_getD,List.getElem?_append_left h0,← List.getD_eq_getElem?_getD]
theorem app_end (gs:List Gate) (h:Gate):(gs++[h]).getD gs.length ((0,0,[],()):Gate)=h:=by
 rw [List.getD_eq_getElem?_getD,List.getElem?_append_right (Nat.le_refl _)]
 simp
theorem nrm_formed {gs:List Gate} {g:Gate} (h:PutOK gs g) (k:¬ OneK gs g):formed (nrmG gs g) gs.length∧(inner (nrmG gs g).1→2≤(nrmG gs g).2.2.1.length)∧∀ j,j<(nrmG gs g).2.2.1.length→KidOK gs (nrmG gs g) j:=by
 have hf:=h.f
 unfold nrmG
 by_cases hi:inner g.1
 · rw [if_pos hi]
   split
   · refine ⟨⟨fun k hk=>(by cases hk), .inr (.inl ⟨.inl rfl,rfl,rfl⟩)⟩,fun q=>?_,fun j hj=>by simp at hj⟩
     rcases q with q|q<;>cases q
   · rename_i hz
     split
     · refine ⟨⟨fun k hk=>(by cases hk), .inr (.inl ⟨.inr rfl,rfl,rfl⟩)⟩,fun q=>?_,fun j hj=>by simp at hj⟩
       rcases q with q|q<;>cases q
     · rename_i hl
       have hz':=not_or.1 hz
       have h2:2≤(keptK gs g).length:=by
        have:(keptK gs g).length≠1:=fun e=>k ⟨hi,hz'.1,e⟩
        omega
       have hv:g.2.1=0:=by
        unfold inner at hi
        rcases hf.2 with q|q|q
        · omega
        · omega
        · exact q.2
       refine ⟨⟨fun k hk=>hf.1 k (keptK_mem.1 hk).1, .inr (.inr ⟨hi,hv⟩)⟩,fun _=>h2,fun j hj=>?_⟩
       have hj:j<(keptK gs g).length:=hj
       have hm:=keptK_mem.1 (getD_mem (d:=(0:Int)) hj)
       refine ⟨fun h0=>?_,hm.2.1,fun q=>?_⟩
       · show (keptK gs g).getD (j - 1) 0≤(keptK gs g).getD j 0
         rw [getD_ok 0 (by omega),getD_ok 0 hj]
         exact List.pairwise_iff_getElem.1 (keptK_sorted gs g) (j - 1) j (by omega) hj (by omega)
       · have q1:g.1=4:=q.1
         rcases hm.2.2 with e|e
         · exact e q.2
         · omega
 · rw [if_neg hi]
   refine ⟨hf,fun q=>absurd q hi,fun j hj=>?_⟩
   rcases hf.2 with q|q|q
   · rw [q.2.1] at hj;simp at hj
   · rw [q.2.1] at hj;simp at hj
   · exact absurd q.1 hi
theorem good_app {gs:List Gate} {x:Gate} {m:Nat} (hm:m≤gs.length) {g:Gate} (h:formed g m∧(inner g.1→2≤g.2.2.1.length)∧(∀ j,j<g.2.2.1.length→KidOK gs g j)∧∀ k,k<m→(List.getD gs k ((0,0,[],()):Gate))≠g):GoodAt (gs++[x]) m g:=by
 obtain ⟨h1,h2,h3,h4⟩:=h
 refine ⟨h1,h2,fun j hj=>?_,fun k hk=>by rw [app_at (by omega)];exact h4 k hk⟩
 have hr:=h1.1 _ (getD_mem (d:=(0:Int)) hj)
 obtain ⟨a1,a2,a3⟩:=h3 j hj
 unfold KidOK
 rw [kindAt_app (by omega)]
 exact ⟨a1,a2,a3⟩
theorem put_valid {gs:List Gate} {g:Gate} (h:PutOK gs g) (k:¬ OneK gs g) (m:nrmG gs g ∉ gs) (l:gs.length≠100000):ValidC (gs++[nrmG gs g]):=by
 have hV:=h.v
 obtain ⟨n1,n2,n3⟩:=nrm_formed h k
 refine ⟨by have:=hV.1;rw [List.length_append];simp;omega,fun i hi=>?_⟩
 rw [List.length_append] at hi
 have hi:i<gs.length+1:=hi
 by_cases e:i<gs.length
 · rw [app_at e]
   exact good_app (Nat.le_of_lt e) (hV.2 i e)
 · have e:i=gs.length:=by omega
   subst e
   rw [app_end]
   exact good_app (Nat.le_refl _) ⟨n1,n2,n3,fun k hk e=>m (by rw [← e];exact getD_mem hk)⟩
structure PutR (gs:List Gate) (g:Gate) (ds:List Gate) (i:Int):Prop where
 ok:PutOK gs g
 dv:ValidC ds
 ext:ds=gs∨ds=gs++[nrmG gs g]
 lo:0≤i
 hi:i<ds.length
 is:(OneK gs g∧ds=gs∧i=(keptK gs g).getD 0 0)∨(¬ OneK gs g∧ds.getD i.toNat ((0,0,[],()):Gate)=nrmG gs g)
theorem put_r {gs:List Gate} {g:Gate} (he:(putC gs g).2.2=0):PutR gs g (putC gs g).1 (putC gs g).2.1:=by
 by_cases h:PutOK gs g
 · by_cases k:OneK gs g
   · rw [put_one h k]
     have hm:=h.f.1 _ (keptK_mem.1 (getD_mem (d:=(0:Int)) (show 0<(keptK gs g).length by rw [k.l];decide))).1
     exact ⟨h,h.v, .inl rfl,hm.1,hm.2, .inl ⟨k,rfl,rfl⟩⟩
   · by_cases m:nrmG gs g∈gs
     · rw [put_hit h k m]
       have hi:=idxG_at m
       exact ⟨h,h.v, .inl rfl,Int.natCast_nonneg _,Int.ofNat_lt.2 hi.1, .inr ⟨k,by show gs.getD (Int.toNat ((idxG gs (nrmG gs g):Nat):Int)) ((0,0,[],()):Gate)=_;rw [Int.toNat_natCast];exact hi.2⟩⟩
     · by_cases l:gs.length=100000
       · rw [put_full h k m l] at he;cases he
       · rw [put_new h k m l]
         exact ⟨h,put_valid h k m l, .inr rfl,Int.natCast_nonneg _,by show ((gs.length:Nat):Int)<((gs++[nrmG gs g]).length:Int);rw [List.length_append];simp;omega, .inr ⟨k,by show (gs++[nrmG gs g]).getD (Int.toNat ((gs.length:Nat):Int)) ((0,0,[],()):Gate)=_;rw [Int.toNat_natCast];exact app_end _ _⟩⟩
 · rw [put_bad h] at he;cases he
theorem PutR.at {gs ds:List Gate} {g:Gate} {i:Int} (h:PutR gs g ds i) {k:Nat} (hk:k<gs.length):ds.getD k ((0,0,[],()):Gate)=(List.getD gs k ((0,0,[],()):Gate))∧k<ds.length:=by
 rcases h.ext with e|e
 · rw [e];exact ⟨rfl,hk⟩
 · rw [e,app_at hk,List.length_append];exact ⟨rfl,by omega⟩
end Go.Gv
