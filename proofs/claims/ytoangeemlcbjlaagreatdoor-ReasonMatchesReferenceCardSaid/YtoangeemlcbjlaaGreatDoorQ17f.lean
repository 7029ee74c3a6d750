/- The plain law of reasons: the program's search, which remembers what it has found. -/
import Derived.Test.YtoangeemlcbjlaaGreatDoorGg
import Derived.Test.YtoangeemlcbjlaaGreatDoorQ17b
set_option linter.all false
namespace Go.Gv
open Go Go.Proofs Go.Proofs.YtoangeemlcbjlaaGreatDoor
set_option maxRecDepth 100000
set_option maxHeartbeats 4000000
abbrev KM:=List (Int × List Is)
abbrev WSt:=List Is × KM × Bool
@[reducible] def kget (m:KM) (i:Int):Option (List Is):=@mget (Dat tInt) (Dat (.sl (.sl tInt))) (instDecidableEqDat tInt) m i
@[reducible] def kput (m:KM) (i:Int) (l:List Is):KM:=@mput (Dat tInt) (Dat (.sl (.sl tInt))) (instDecidableEqDat tInt) m i l
theorem kget_put {m:KM} {i j:Int} {l:List Is}:kget (kput m i l) j=if i=j then some l else kget m j:=by
 have:=@mget_mput (Dat tInt) (Dat (.sl (.sl tInt))) (instDecidableEqDat tInt) i j l m
 rw [show kget (kput m i l) j=_ from this]
 by_cases h:i=j
 · rw [if_pos h,if_pos h]
 · rw [if_neg h,if_neg h]
def stepW (W:KM→Bool→Int→WSt) (f:List Is→List Is→List Is) (s:WSt) (j:Int):WSt:=(f s.1 (W s.2.1 s.2.2 j).1,(W s.2.1 s.2.2 j).2)
def foldW (W:KM→Bool→Int→WSt) (f:List Is→List Is→List Is) (s:WSt) (ks:List Int):WSt:=ks.foldl (stepW W f) s
def varP (h:List Bool) (v:Int):List Is:=if v<(h.length:Int)∧h.getD v.toNat false=true then [[]] else [[v]]
def bodyW (h:List Bool) (W:KM→Bool→Int→WSt) (m:KM) (b:Bool) (g:Gate):WSt:=
 if g.1=1 then ([[]],m,b) else if g.1=2 then (varP h g.2.1,m,b)
 else if g.1=3 then (mins (foldW W (fun a l=>a++l) ([],m,b) g.2.2.1).1,(foldW W (fun a l=>a++l) ([],m,b) g.2.2.1).2)
 else if g.1=4 then foldW W (fun a l=>mins (pairsU a l)) ([[]],m,b) g.2.2.1 else ([],m,b)
def endW (i:Int) (r:WSt):WSt:=(r.1,kput r.2.1 i r.1,r.2.2||decide ((400:Int)<(r.1.length:Int)))
def whyF (h:List Bool) (gs:List Gate):Nat→KM→Bool→Int→WSt
 |0,m,b,_=>([],m,b)
 |n+1,m,b,i=>if (kget m i).isSome=true∨b=true then ((kget m i).getD [],m,b) else endW i (bodyW h (whyF h gs n) m b ((List.getD gs (Int.toNat i) ((0,0,[],()):Gate))))
theorem foldW_snoc {W:KM→Bool→Int→WSt} {f:List Is→List Is→List Is} {s:WSt} {ks:List Int} {k:Nat} (hk:k<ks.length):foldW W f s (ks.take (k+1))=stepW W f (foldW W f s (ks.take k)) (ks.getD k 0):=by
 unfold foldW
 rw [List.take_succ_eq_append_getElem hk,List.foldl_append,← getD_ok 0 hk];rfl
theorem Rch.split {gs:List Gate} {i q:Nat}:Rch gs i q↔q=i∨∃ j∈(gs.getD i ((0,0,[],()):Gate)).2.2.1,Rch gs j.toNat q:=by
 constructor
 · intro h
   induction h with
   |base=>exact .inl rfl
   |kid h hj ih=>
    rcases ih with rfl|⟨a,ha,h2⟩
    · exact .inr ⟨_,hj, .base⟩
    · exact .inr ⟨a,ha, .kid h2 hj⟩
 · rintro (rfl|⟨j,hj,h⟩)
   · exact .base
   · induction h with
     |base=>exact .kid .base hj
     |kid h hj ih=>exact .kid ih hj
def Okq (h:List Bool) (gs:List Gate) (i:Nat):Prop:=∀ q,Rch gs i q→(valR h gs q).length≤400
def Big (h:List Bool) (gs:List Gate) (i:Nat):Prop:=∃ q,Rch gs i q∧400<(valR h gs q).length
def InvW (h:List Bool) (gs:List Gate) (m:KM) (b:Bool):Prop:=b=false→∀ i l,kget m i=some l→l=valR h gs i.toNat∧Okq h gs i.toNat
structure WOk (h:List Bool) (gs:List Gate) (b:Bool) (i:Int) (r:WSt):Prop where
 inv:InvW h gs r.2.1 r.2.2
 ok:r.2.2=false→b=false∧r.1=valR h gs i.toNat∧Okq h gs i.toNat
 big:r.2.2=true→b=true∨Big h gs i.toNat
structure FOk (h:List Bool) (gs:List Gate) (f:List Is→List Is→List Is) (b:Bool) (a:List Is) (ks:List Int) (r:WSt):Prop where
 inv:InvW h gs r.2.1 r.2.2
 ok:r.2.2=false→b=false∧r.1=(ks.map fun j=>valR h gs j.toNat).foldl f a∧∀ j∈ks,Okq h gs j.toNat
 big:r.2.2=true→b=true∨∃ j∈ks,Big h gs j.toNat
theorem foldW_ok {h:List Bool} {gs:List Gate} {W:KM→Bool→Int→WSt} {f:List Is→List Is→List Is}:∀ (ks:List Int) (a:List Is) (m:KM) (b:Bool),InvW h gs m b→(∀ j∈ks,∀ m b,InvW h gs m b→WOk h gs b j (W m b j))→FOk h gs f b a ks (foldW W f (a,m,b) ks)
 |[],a,m,b,hI,_=>⟨hI,fun hb=>⟨hb,rfl,by simp⟩,fun hb=> .inl hb⟩
 |j::ks,a,m,b,hI,hW=>by
  have h1:=hW j List.mem_cons_self m b hI
  have h2:=foldW_ok (f:=f) ks (f a (W m b j).1) (W m b j).2.1 (W m b j).2.2 h1.inv fun j hj=>hW j (List.mem_cons_of_mem _ hj)
  refine ⟨h2.inv,fun hb=>?_,fun hb=>?_⟩
  · obtain ⟨e1,e2,e3⟩:=h2.ok hb
    obtain ⟨d1,d2,d3⟩:=h1.ok e1
    refine ⟨d1,?_,fun x hx=>?_⟩
    · rw [List.map_cons,List.foldl_cons,← d2];exact e2
    · rcases List.mem_cons.1 hx with rfl|hx
      · exact d3
      · exact e3 x hx
  · rcases h2.big hb with e|⟨x,hx,e⟩
    · rcases h1.big e with e|e
      · exact .inl e
      · exact .inr ⟨j,List.mem_cons_self,e⟩
    · exact .inr ⟨x,List.mem_cons_of_mem _ hx,e⟩
theorem varP_is {h:List Bool} {v:Int} (h0:0≤v):varP h v=varR h v:=by
 unfold varP varR hadB
 by_cases q:v<(h.length:Int)∧h.getD v.toNat false=true
 · rw [if_pos q,if_pos (decide_eq_true ⟨h0,q⟩)]
 · rw [if_neg q,if_neg (fun e=>q (of_decide_eq_true e).2)]
theorem leaf_kids {gs:List Gate} (hV:ValidC gs) {k:Nat} (hk:k<gs.length) (hi:¬ inner ((List.getD gs k ((0,0,[],()):Gate))).1):((List.getD gs k ((0,0,[],()):Gate))).2.2.1=[]:=by
 have:=(hV.2 k hk).1.2
 rcases this with h|h|h
 · exact h.2.1
 · exact h.2.1
 · exact absurd h.1 hi
theorem endW_ok {h:List Bool} {gs:List Gate} {i:Int} {b:Bool} {r:WSt} (hI:InvW h gs r.2.1 r.2.2) (ho:r.2.2=false→b=false∧r.1=valR h gs i.toNat∧∀ j∈((List.getD gs (Int.toNat i) ((0,0,[],()):Gate))).2.2.1,Okq h gs j.toNat) (hb:r.2.2=true→b=true∨∃ j∈((List.getD gs (Int.toNat i) ((0,0,[],()):Gate))).2.2.1,Big h gs j.toNat) (hn:b=false):WOk h gs b i (endW i r):=by
 have key:(endW i r).2.2=false→r.2.2=false∧r.1.length≤400:=fun e=>by
  unfold endW at e
  rw [Bool.or_eq_false_iff,decide_eq_false_iff_not] at e
  exact ⟨e.1,by have:=e.2;omega⟩
 have okI:(endW i r).2.2=false→Okq h gs i.toNat:=fun e=>by
  obtain ⟨e1,e2⟩:=key e
  obtain ⟨_,d2,d3⟩:=ho e1
  intro q hq
  rcases Rch.split.1 hq with rfl|⟨j,hj,hq⟩
  · rw [← d2];exact e2
  · exact d3 j hj q hq
 refine ⟨fun e j l hl=>?_,fun e=>?_,fun e=>?_⟩
 · obtain ⟨e1,e2⟩:=key e
   have hl:kget (kput r.2.1 i r.1) j=some l:=hl
   rw [kget_put] at hl
   by_cases q:i=j
   · subst q
     rw [if_pos rfl] at hl
     cases hl
     exact ⟨(ho e1).2.1,okI e⟩
   · rw [if_neg q] at hl
     exact hI e1 j l hl
 · obtain ⟨e1,e2⟩:=key e
   exact ⟨hn,(ho e1).2.1,okI e⟩
 · by_cases q:r.2.2=true
   · rcases hb q with x|⟨j,hj,q,hq,hl⟩
     · exact .inl x
     · exact .inr ⟨q,Rch.split.2 (.inr ⟨j,hj,hq⟩),hl⟩
   · have q:r.2.2=false:=by cases hq:r.2.2<;>simp_all
     unfold endW at e
     rw [q,Bool.false_or,decide_eq_true_eq] at e
     refine .inr ⟨i.toNat, .base,?_⟩
     rw [← (ho q).2.1];omega
theorem flat_fold:∀ (Ls:List (List Is)) (a:List Is),Ls.foldl (fun a l=>a++l) a=a++Ls.flatten
 |[],a=>by simp
 |L::Ls,a=>by rw [List.foldl_cons,flat_fold Ls];simp
theorem whyF_ok {h:List Bool} {gs:List Gate} (hV:ValidC gs):∀ (n:Nat) (m:KM) (b:Bool) (i:Int),0≤i→i<(gs.length:Int)→i<(n:Int)→InvW h gs m b→WOk h gs b i (whyF h gs n m b i)
 |0,m,b,i,h0,_,hn,_=>by omega
 |n+1,m,b,i,h0,hl,hn,hI=>by
  unfold whyF
  by_cases hb:b=true
  · rw [if_pos (.inr hb)]
    exact ⟨hI,fun e=>(by rw [hb] at e;cases e),fun _=> .inl hb⟩
  have hb:b=false:=by cases b<;>simp_all
  by_cases hg:(kget m i).isSome=true
  · rw [if_pos (.inl hg)]
    obtain ⟨l,el⟩:=Option.isSome_iff_exists.1 hg
    obtain ⟨e1,e2⟩:=hI hb i l el
    refine ⟨hI,fun _=>⟨hb,?_,e2⟩,fun e=>?_⟩
    · show (kget m i).getD []=_
      rw [el];exact e1
    · have e:b=true:=e
      rw [hb] at e;cases e
  rw [if_neg (by rw [hb];simpa using hg)]
  have hil:i.toNat<gs.length:=by omega
  have kids:∀ j∈((List.getD gs (Int.toNat i) ((0,0,[],()):Gate))).2.2.1,∀ m b,InvW h gs m b→WOk h gs b j (whyF h gs n m b j):=fun j hj m b hI=>by
   have:=kid_in hV hil hj
   exact whyF_ok hV n m b j this.1 (by omega) (by omega) hI
  by_cases hin:inner ((List.getD gs (Int.toNat i) ((0,0,[],()):Gate))).1
  · rcases hin with h3|h4
    · have hF:=foldW_ok (f:=fun a l=>a++l) ((List.getD gs (Int.toNat i) ((0,0,[],()):Gate))).2.2.1 [] m b hI kids
      unfold bodyW
      rw [h3,if_neg (by decide),if_neg (by decide),if_pos rfl]
      refine endW_ok hF.inv (fun e=>?_) hF.big hb
      obtain ⟨e1,e2,e3⟩:=hF.ok e
      refine ⟨e1,?_,e3⟩
      show mins _=_
      rw [e2,flat_fold,List.nil_append,valR_plus hV hil h3];rfl
    · have hF:=foldW_ok (f:=fun a l=>mins (pairsU a l)) ((List.getD gs (Int.toNat i) ((0,0,[],()):Gate))).2.2.1 [[]] m b hI kids
      unfold bodyW
      rw [h4,if_neg (by decide),if_neg (by decide),if_neg (by decide),if_pos rfl]
      refine endW_ok hF.inv (fun e=>?_) hF.big hb
      obtain ⟨e1,e2,e3⟩:=hF.ok e
      refine ⟨e1,?_,e3⟩
      rw [e2,valR_times hV hil h4];rfl
  · have ek:=leaf_kids hV hil hin
    have hv:=valR_leaf (h:=h) hin
    have h3:¬ ((List.getD gs (Int.toNat i) ((0,0,[],()):Gate))).1=3:=fun e=>hin (.inl e)
    have h4:¬ ((List.getD gs (Int.toNat i) ((0,0,[],()):Gate))).1=4:=fun e=>hin (.inr e)
    have done:∀ l,l=valR h gs i.toNat→WOk h gs b i (endW i (l,m,b)):=fun l hl=>endW_ok (r:=(l,m,b)) hI (fun e=>⟨e,hl,by rw [ek];simp⟩) (fun e=> .inl e) hb
    unfold bodyW
    by_cases h1:((List.getD gs (Int.toNat i) ((0,0,[],()):Gate))).1=1
    · rw [if_pos h1];exact done _ (by rw [hv,if_pos h1])
    · rw [if_neg h1]
      by_cases h2:((List.getD gs (Int.toNat i) ((0,0,[],()):Gate))).1=2
      · rw [if_pos h2]
        have h20:0≤((List.getD gs (Int.toNat i) ((0,0,[],()):Gate))).2.1:=by
         rcases leaf_kind hV hil hin with e|e|e
         · omega
         · omega
         · exact e.2.1
        exact done _ (by rw [hv,if_neg h1,if_pos h2,varP_is h20])
      · rw [if_neg h2,if_neg h3,if_neg h4]
        exact done _ (by rw [hv,if_neg h1,if_neg h2])
noncomputable def whyR (h:List Bool) (gs:List Gate) (i:Int):List Is × Int:=evC (geR h) gs i
theorem errR {h:List Bool} {gs:List Gate} {i:Nat}:(errL (geR h) gs i=0↔∀ k∈reachT gs i,(valR h gs k).length≤400)∧(errL (geR h) gs i=0∨errL (geR h) gs i=3):=by
 constructor
 · rw [errL_zero]
   constructor
   · intro q k hk
     have:=q k hk
     rw [valR_err] at this
     unfold limR at this
     split at this<;>omega
   · intro q k hk
     have:=q k hk
     rw [valR_err]
     unfold limR
     rw [if_neg (by omega)]
 · unfold errL
   have:∀ l:List Nat,firstE (l.map fun k=>(vlE (geR h) gs k).2)=0∨firstE (l.map fun k=>(vlE (geR h) gs k).2)=3:=fun l=>by
    induction l with
    |nil=>exact .inl rfl
    |cons k l ih=>
     rw [List.map_cons]
     unfold firstE
     by_cases q:(vlE (geR h) gs k).2=0
     · rw [if_pos q];exact ih
     · rw [if_neg q]
       rw [valR_err] at q ⊢
       unfold limR at q ⊢
       split
       · exact .inr rfl
       · exact .inl rfl
   exact this _
theorem okq_err {h:List Bool} {gs:List Gate} {i:Nat} (hV:ValidC gs) (hi:i<gs.length):Okq h gs i↔errL (geR h) gs i=0:=by
 rw [errR.1]
 exact ⟨fun q k hk=>q k (reachT_mem.1 hk).2,fun q k hk=>q k (reachT_mem.2 ⟨hk.le hV hi,hk⟩)⟩
theorem whyR_ok {h:List Bool} {gs:List Gate} {i:Int} (hg:GoodI gs i) (ho:Okq h gs i.toNat):whyR h gs i=(valR h gs i.toNat,0):=by
 have h0:=hg.lo
 have hi:=hg.hi
 unfold whyR
 rw [evC_good hg,if_pos ((okq_err hg.v (by omega)).1 ho)];rfl
theorem whyR_big {h:List Bool} {gs:List Gate} {i:Int} (hg:GoodI gs i) (hb:¬ Okq h gs i.toNat):whyR h gs i=([],3):=by
 have h0:=hg.lo
 have hi:=hg.hi
 have hne:=fun e=>hb ((okq_err hg.v (by omega)).2 e)
 unfold whyR
 rw [evC_good hg,if_neg hne,errR.2.resolve_left hne];rfl
theorem whyR_bad {h:List Bool} {gs:List Gate} {i:Int} (hg:¬ GoodI gs i):whyR h gs i=([],1):=evC_bad hg
theorem whyF_is {h:List Bool} {gs:List Gate} {i:Int} {n:Nat} (hg:GoodI gs i) (hn:i<(n:Int)):whyR h gs i=if (whyF h gs n [] false i).2.2=true then ([],3) else ((whyF h gs n [] false i).1,0):=by
 have H:=whyF_ok (h:=h) hg.v n [] false i hg.lo hg.hi hn (fun _ j l hl=>by cases hl)
 by_cases q:(whyF h gs n [] false i).2.2=true
 · rw [if_pos q]
   obtain ⟨k,hk,hl⟩:=(H.big q).resolve_left (by simp)
   exact whyR_big hg fun ho=>by have:=ho k hk;omega
 · rw [if_neg q]
   obtain ⟨_,e2,e3⟩:=H.ok (by cases hq:(whyF h gs n [] false i).2.2<;>simp_all)
   rw [whyR_ok hg e3,e2]
end Go.Gv
