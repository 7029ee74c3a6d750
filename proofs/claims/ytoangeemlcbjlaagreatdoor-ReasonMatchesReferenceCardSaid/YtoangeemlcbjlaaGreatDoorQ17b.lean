/- The plain law of reasons: the reasons of gates, and when gates hold. -/
import Derived.Test.YtoangeemlcbjlaaGreatDoorP16f
import Derived.Test.YtoangeemlcbjlaaGreatDoorQ17
set_option linter.all false
namespace Go.Gv
open Go Go.Proofs Go.Proofs.YtoangeemlcbjlaaGreatDoor
set_option maxRecDepth 100000
set_option maxHeartbeats 4000000
def hadB (h:List Bool) (v:Int):Bool:=decide (0≤v∧v<(h.length:Int)∧h.getD v.toNat false=true)
def varR (h:List Bool) (v:Int):List Is:=if hadB h v=true then [[]] else [[v]]
def plusR (Ls:List (List Is)):List Is:=mins Ls.flatten
def timesR (Ls:List (List Is)):List Is:=Ls.foldl (fun acc l=>mins (pairsU acc l)) [[]]
def gateR (h:List Bool) (all:List (List Is)) (g:Gate):List Is:=
 if g.1=1 then [[]] else if g.1=2 then varR h g.2.1 else if g.1=3 then plusR (g.2.2.1.map (atL [] all)) else if g.1=4 then timesR (g.2.2.1.map (atL [] all)) else []
def limR (l:List Is):Int:=if (400:Int)<(l.length:Int) then 3 else 0
theorem gateR_mp (h:List Bool) (all all':List (List Is)) (g g':Gate) (h1:g'.1=g.1) (h2:g'.2.1=g.2.1) (h3:g'.2.2.1.map (atL [] all')=g.2.2.1.map (atL [] all)):gateR h all' g'=gateR h all g:=by
 unfold gateR;rw [h1,h2,h3]
def geR (h:List Bool):GE (List Is):=⟨[],fun all g=>(gateR h all g,limR (gateR h all g)),fun all all' g g' h1 h2 h3=>by rw [gateR_mp h all all' g g' h1 h2 h3]⟩
noncomputable def valR (h:List Bool) (gs:List Gate) (k:Nat):List Is:=(vlE (geR h) gs k).1
theorem valR_err {h:List Bool} {gs:List Gate} {k:Nat}:(vlE (geR h) gs k).2=limR (valR h gs k):=rfl
theorem valR_leaf {h:List Bool} {gs:List Gate} {k:Nat} (hi:¬ inner ((List.getD gs k ((0,0,[],()):Gate))).1):valR h gs k=if ((List.getD gs k ((0,0,[],()):Gate))).1=1 then [[]] else if ((List.getD gs k ((0,0,[],()):Gate))).1=2 then varR h ((List.getD gs k ((0,0,[],()):Gate))).2.1 else []:=by
 have h3:¬ ((List.getD gs k ((0,0,[],()):Gate))).1=3:=fun e=>hi (.inl e)
 have h4:¬ ((List.getD gs k ((0,0,[],()):Gate))).1=4:=fun e=>hi (.inr e)
 show gateR h _ ((List.getD gs k ((0,0,[],()):Gate)))=_
 unfold gateR
 rw [if_neg h3,if_neg h4]
theorem valR_kids {h:List Bool} {gs:List Gate} {k:Nat} (hV:ValidC gs) (hk:k<gs.length):((List.getD gs k ((0,0,[],()):Gate))).2.2.1.map (atL [] (valsE (geR h) gs k))=((List.getD gs k ((0,0,[],()):Gate))).2.2.1.map fun j=>valR h gs j.toNat:=
 List.map_congr_left fun j hj=>vals_at (S:=geR h) hV hk hj
theorem valR_plus {h:List Bool} {gs:List Gate} {k:Nat} (hV:ValidC gs) (hk:k<gs.length) (h3:((List.getD gs k ((0,0,[],()):Gate))).1=3):valR h gs k=plusR (((List.getD gs k ((0,0,[],()):Gate))).2.2.1.map fun j=>valR h gs j.toNat):=by
 show gateR h _ ((List.getD gs k ((0,0,[],()):Gate)))=_
 unfold gateR
 rw [h3,if_neg (by decide),if_neg (by decide),if_pos rfl,valR_kids hV hk]
theorem valR_times {h:List Bool} {gs:List Gate} {k:Nat} (hV:ValidC gs) (hk:k<gs.length) (h4:((List.getD gs k ((0,0,[],()):Gate))).1=4):valR h gs k=timesR (((List.getD gs k ((0,0,[],()):Gate))).2.2.1.map fun j=>valR h gs j.toNat):=by
 show gateR h _ ((List.getD gs k ((0,0,[],()):Gate)))=_
 unfold gateR
 rw [h4,if_neg (by decide),if_neg (by decide),if_neg (by decide),if_pos rfl,valR_kids hV hk]
theorem can_nil:Can []:=⟨by simp, .nil,by simp⟩
theorem can_one {s:Is} (h:Inc s):Can [s]:=⟨by simpa using h,List.pairwise_singleton _ _,by simp⟩
theorem inc_nil:Inc []:= .nil
theorem inc_one (x:Int):Inc [x]:=List.pairwise_singleton _ _
theorem flat_inc {Ls:List (List Is)} (h:∀ L∈Ls,Can L):∀ s∈Ls.flatten,Inc s:=fun s hs=>by
 obtain ⟨L,hL,hs⟩:=List.mem_flatten.1 hs
 exact (h L hL).inc s hs
theorem plusR_can {Ls:List (List Is)} (h:∀ L∈Ls,Can L):Can (plusR Ls):=mins_can (flat_inc h)
theorem plusR_up {Ls:List (List Is)} (h:∀ L∈Ls,Can L) (T:Is):up (plusR Ls) T↔∃ L∈Ls,up L T:=by
 unfold plusR
 rw [mins_up (flat_inc h)]
 unfold up
 constructor
 · rintro ⟨s,hs,k⟩
   obtain ⟨L,hL,hs⟩:=List.mem_flatten.1 hs
   exact ⟨L,hL,s,hs,k⟩
 · rintro ⟨L,hL,s,hs,k⟩
   exact ⟨s,List.mem_flatten.2 ⟨L,hL,hs⟩,k⟩
theorem timesG:∀ (Ls:List (List Is)) (acc:List Is),Can acc→Can (Ls.foldl (fun acc l=>mins (pairsU acc l)) acc)∧∀ T,up (Ls.foldl (fun acc l=>mins (pairsU acc l)) acc) T↔up acc T∧∀ L∈Ls,up L T
 |[],acc,h=>⟨h,fun T=>by simp⟩
 |L::Ls,acc,h=>by
  obtain ⟨h1,h2⟩:=timesG Ls (mins (pairsU acc L)) (mins_can pairsU_inc)
  refine ⟨h1,fun T=>?_⟩
  rw [List.foldl_cons,h2,mins_up pairsU_inc,pairsU_up]
  constructor
  · rintro ⟨⟨a,b⟩,c⟩
    exact ⟨a,fun M hM=>(List.mem_cons.1 hM).elim (fun e=>e ▸ b) (c M)⟩
  · rintro ⟨a,c⟩
    exact ⟨⟨a,c L List.mem_cons_self⟩,fun M hM=>c M (List.mem_cons_of_mem _ hM)⟩
theorem timesR_can (Ls:List (List Is)):Can (timesR Ls):=(timesG Ls [[]] (can_one inc_nil)).1
theorem timesR_up (Ls:List (List Is)) (T:Is):up (timesR Ls) T↔∀ L∈Ls,up L T:=by
 unfold timesR
 rw [(timesG Ls [[]] (can_one inc_nil)).2 T]
 exact ⟨fun h=>h.2,fun h=>⟨up_one.2 (fun x hx=>by cases hx),h⟩⟩
theorem valR_can {h:List Bool} {gs:List Gate} (hV:ValidC gs):∀ n k,k<n→k<gs.length→Can (valR h gs k)
 |0,k,hn,_=>by omega
 |n+1,k,hn,hk=>by
  by_cases hi:inner ((List.getD gs k ((0,0,[],()):Gate))).1
  · have kids:∀ L∈(((List.getD gs k ((0,0,[],()):Gate))).2.2.1.map fun j=>valR h gs j.toNat),Can L:=fun L hL=>by
     obtain ⟨j,hj,rfl⟩:=List.mem_map.1 hL
     have:=kid_in hV hk hj
     exact valR_can hV n _ (by omega) (by omega)
    rcases hi with h3|h4
    · rw [valR_plus hV hk h3];exact plusR_can kids
    · rw [valR_times hV hk h4];exact timesR_can _
  · rw [valR_leaf hi]
    split
    · exact can_one inc_nil
    · split
      · unfold varR;split
        · exact can_one inc_nil
        · exact can_one (inc_one _)
      · exact can_nil
theorem valR_Can {h:List Bool} {gs:List Gate} {k:Nat} (hV:ValidC gs) (hk:k<gs.length):Can (valR h gs k):=valR_can hV (k+1) k (Nat.lt_succ_self k) hk
noncomputable def holdB (H:List Bool) (gs:List Gate) (k:Nat):Bool:=(vlE (srB H).ge gs k).1
theorem foldB_or {α:Type} (f:α→Bool):∀ (l:List α) (x:Bool),l.foldl (fun x j=>x||f j) x=true↔x=true∨∃ j∈l,f j=true
 |[],x=>by simp
 |a::l,x=>by
  rw [List.foldl_cons,foldB_or f l,Bool.or_eq_true]
  simp [or_assoc]
theorem foldB_and {α:Type} (f:α→Bool):∀ (l:List α) (x:Bool),l.foldl (fun x j=>x && f j) x=true↔x=true∧∀ j∈l,f j=true
 |[],x=>by simp
 |a::l,x=>by
  rw [List.foldl_cons,foldB_and f l,Bool.and_eq_true]
  simp [and_assoc]
theorem kids_head {gs:List Gate} {k:Nat} (hV:ValidC gs) (hk:k<gs.length) (hi:inner ((List.getD gs k ((0,0,[],()):Gate))).1):((List.getD gs k ((0,0,[],()):Gate))).2.2.1=((List.getD gs k ((0,0,[],()):Gate))).2.2.1.getD 0 0::((List.getD gs k ((0,0,[],()):Gate))).2.2.1.drop 1:=by
 have h2:2≤((List.getD gs k ((0,0,[],()):Gate))).2.2.1.length:=(hV.2 k hk).2.1 hi
 cases e:((List.getD gs k ((0,0,[],()):Gate))).2.2.1 with
 |nil=>rw [e] at h2;simp at h2
 |cons a r=>rfl
theorem holdB_plus {H:List Bool} {gs:List Gate} {k:Nat} (hV:ValidC gs) (hk:k<gs.length) (h3:((List.getD gs k ((0,0,[],()):Gate))).1=3):holdB H gs k=true↔∃ j∈((List.getD gs k ((0,0,[],()):Gate))).2.2.1,holdB H gs j.toNat=true:=by
 have hin:inner ((List.getD gs k ((0,0,[],()):Gate))).1:= .inl h3
 unfold holdB
 have e:=vl_tot (z:=false) (leaf:=leafB H) (plus:=fun a b=>a||b) (times:=fun a b=>a && b) hV hk hin
 have hs:srB H=totS false (leafB H) (fun a b=>a||b) fun a b=>a && b:=rfl
 rw [hs,e]
 rw [h3]
 simp only [show ((3:Int)=4)=False from by simp,if_false]
 rw [foldB_or]
 conv=>rhs;rw [kids_head hV hk hin]
 simp
theorem holdB_times {H:List Bool} {gs:List Gate} {k:Nat} (hV:ValidC gs) (hk:k<gs.length) (h4:((List.getD gs k ((0,0,[],()):Gate))).1=4):holdB H gs k=true↔∀ j∈((List.getD gs k ((0,0,[],()):Gate))).2.2.1,holdB H gs j.toNat=true:=by
 have hin:inner ((List.getD gs k ((0,0,[],()):Gate))).1:= .inr h4
 unfold holdB
 have e:=vl_tot (z:=false) (leaf:=leafB H) (plus:=fun a b=>a||b) (times:=fun a b=>a && b) hV hk hin
 have hs:srB H=totS false (leafB H) (fun a b=>a||b) fun a b=>a && b:=rfl
 rw [hs,e]
 rw [h4]
 simp only [if_true]
 rw [foldB_and]
 conv=>rhs;rw [kids_head hV hk hin]
 simp
theorem holdB_leaf {H:List Bool} {gs:List Gate} {k:Nat} (hi:¬ inner ((List.getD gs k ((0,0,[],()):Gate))).1):holdB H gs k=leafB H ((List.getD gs k ((0,0,[],()):Gate))).1 ((List.getD gs k ((0,0,[],()):Gate))).2.1:=by
 unfold holdB;rw [vl_leaf hi];rfl
def Agr (H:List Bool) (T:Is) (h:List Bool):Prop:=∀ v:Int,0≤v→v<4000→(hadB H v=true↔v∈T∨hadB h v=true)
theorem leaf_had {H:List Bool} {v:Int} (h0:0≤v):leafB H 2 v=hadB H v:=by
 unfold leafB hadB
 exact decide_eq_decide.2 ⟨fun q=>by
  rcases q with q|q
  · omega
  · exact ⟨h0,q.1.2,q.2⟩,fun q=> .inr ⟨⟨rfl,q.2.1⟩,q.2.2⟩⟩
theorem leaf_one {H:List Bool} {v:Int}:leafB H 1 v=true:=by unfold leafB;simp
theorem leaf_zero {H:List Bool} {v:Int}:leafB H 0 v=false:=by unfold leafB;simp
theorem valR_hold {H h:List Bool} {T:Is} {gs:List Gate} (hV:ValidC gs) (ha:Agr H T h):∀ n k,k<n→k<gs.length→(up (valR h gs k) T↔holdB H gs k=true)
 |0,k,hn,_=>by omega
 |n+1,k,hn,hk=>by
  by_cases hi:inner ((List.getD gs k ((0,0,[],()):Gate))).1
  · have kids:∀ j∈((List.getD gs k ((0,0,[],()):Gate))).2.2.1,(up (valR h gs j.toNat) T↔holdB H gs j.toNat=true):=fun j hj=>by
     have:=kid_in hV hk hj
     exact valR_hold hV ha n _ (by omega) (by omega)
    have cans:∀ L∈(((List.getD gs k ((0,0,[],()):Gate))).2.2.1.map fun j=>valR h gs j.toNat),Can L:=fun L hL=>by
     obtain ⟨j,hj,rfl⟩:=List.mem_map.1 hL
     have:=kid_in hV hk hj
     exact valR_Can hV (by omega)
    rcases hi with h3|h4
    · rw [valR_plus hV hk h3,plusR_up cans,holdB_plus hV hk h3]
      constructor
      · rintro ⟨L,hL,q⟩
        obtain ⟨j,hj,rfl⟩:=List.mem_map.1 hL
        exact ⟨j,hj,(kids j hj).1 q⟩
      · rintro ⟨j,hj,q⟩
        exact ⟨_,List.mem_map.2 ⟨j,hj,rfl⟩,(kids j hj).2 q⟩
    · rw [valR_times hV hk h4,timesR_up,holdB_times hV hk h4]
      constructor
      · intro q j hj
        exact (kids j hj).1 (q _ (List.mem_map.2 ⟨j,hj,rfl⟩))
      · intro q L hL
        obtain ⟨j,hj,rfl⟩:=List.mem_map.1 hL
        exact (kids j hj).2 (q j hj)
  · rw [valR_leaf hi,holdB_leaf hi]
    rcases leaf_kind hV hk hi with e|e|⟨e,e1,e2⟩
    · rw [e,leaf_zero,if_neg (by decide),if_neg (by decide)]
      simp [up_nil]
    · rw [e,leaf_one,if_pos rfl,up_one]
      simp [sub]
    · rw [e,leaf_had e1,if_neg (by decide),if_pos rfl]
      unfold varR
      have:=ha _ e1 e2
      by_cases q:hadB h ((List.getD gs k ((0,0,[],()):Gate))).2.1=true
      · rw [if_pos q,up_one,this]
        exact ⟨fun _=> .inr q,fun _ x hx=>by cases hx⟩
      · rw [if_neg q,up_one,this]
        exact ⟨fun k=> .inl (k _ (List.mem_singleton.2 rfl)),fun k x hx=>by rw [List.mem_singleton.1 hx];exact k.resolve_right q⟩
theorem valR_Hold {H h:List Bool} {T:Is} {gs:List Gate} (hV:ValidC gs) (ha:Agr H T h) {k:Nat} (hk:k<gs.length):up (valR h gs k) T↔holdB H gs k=true:=valR_hold hV ha (k+1) k (Nat.lt_succ_self k) hk
end Go.Gv
