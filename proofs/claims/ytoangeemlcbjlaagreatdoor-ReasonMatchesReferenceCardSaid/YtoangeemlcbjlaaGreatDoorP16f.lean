/- The plain law of circuits: semirings; values in two ways. -/
import Derived.Test.YtoangeemlcbjlaaGreatDoorP16e
set_option linter.all false
namespace Go.Gv
open Go Go.Proofs Go.Proofs.YtoangeemlcbjlaaGreatDoor
set_option maxRecDepth 100000
set_option maxHeartbeats 4000000
variable {T T':Type}
structure SR (T:Type) where
 z:T
 leaf:Int→Int→T × Int
 plus:T→T→T × Int
 times:T→T→T × Int
def joinL (f:T→T→T × Int) (z:T):T→List T→T × Int
 |x,[]=>(x,0)
 |x,y::r=>if (f x y).2=0 then joinL f z (f x y).1 r else (z,(f x y).2)
def SR.op (S:SR T) (g:Gate):T→T→T × Int:=if g.1=4 then S.times else S.plus
def gateS (S:SR T) (all:List T) (g:Gate):T × Int:=if inner g.1 then (match g.2.2.1 with
 |[]=>(S.z,0)
 |a::r=>joinL (S.op g) S.z (atL S.z all a) (r.map (atL S.z all))) else S.leaf g.1 g.2.1
theorem gateS_mp (S:SR T) (all all':List T) (g g':Gate) (h1:g'.1=g.1) (h2:g'.2.1=g.2.1) (h:g'.2.2.1.map (atL S.z all')=g.2.2.1.map (atL S.z all)):gateS S all' g'=gateS S all g:=by
 unfold gateS SR.op
 rw [h1,h2]
 split
 · cases e:g.2.2.1 with
   |nil=>
    rw [e] at h
    cases e':g'.2.2.1 with
    |nil=>rfl
    |cons a r=>rw [e'] at h;cases h
   |cons a r=>
    rw [e] at h
    cases e':g'.2.2.1 with
    |nil=>rw [e'] at h;cases h
    |cons a' r'=>
     rw [e',List.map_cons,List.map_cons,List.cons.injEq] at h
     dsimp only
     rw [h.1,h.2]
 · rfl
def SR.ge (S:SR T):GE T:=⟨S.z,gateS S,gateS_mp S⟩
theorem gateS_leaf {S:SR T} {all:List T} {g:Gate} (h:¬ inner g.1):gateS S all g=S.leaf g.1 g.2.1:=by unfold gateS;rw [if_neg h]
theorem gateS_inner {S:SR T} {all:List T} {g:Gate} (h:inner g.1) (hk:0<g.2.2.1.length):gateS S all g=joinL (S.op g) S.z (atL S.z all (g.2.2.1.getD 0 0)) ((g.2.2.1.drop 1).map (atL S.z all)):=by
 unfold gateS
 rw [if_pos h]
 cases e:g.2.2.1 with
 |nil=>rw [e] at hk;simp at hk
 |cons a r=>rfl
theorem joinL_go {f:T→T→T × Int} {z x y:T} {r:List T} (h:(f x y).2=0):joinL f z x (y::r)=joinL f z (f x y).1 r:=by
 conv=>lhs;unfold joinL
 rw [if_pos h]
theorem joinL_stop {f:T→T→T × Int} {z x y:T} {r:List T} (h:¬ (f x y).2=0):joinL f z x (y::r)=(z,(f x y).2):=by
 conv=>lhs;unfold joinL
 rw [if_neg h]
theorem joinL_tot {f:T→T→T} {z:T}:∀ (l:List T) (x:T),joinL (fun a b=>(f a b,0)) z x l=(l.foldl f x,0)
 |[],_=>rfl
 |y::l,x=>by rw [joinL_go rfl,joinL_tot l];rfl
def totS (z:T) (leaf:Int→Int→T) (plus times:T→T→T):SR T:=⟨z,fun k v=>(leaf k v,0),fun a b=>(plus a b,0),fun a b=>(times a b,0)⟩
theorem gateS_tot {z:T} {leaf:Int→Int→T} {plus times:T→T→T} {all:List T} {g:Gate}:(gateS (totS z leaf plus times) all g).2=0:=by
 unfold gateS
 split
 · split
   · rfl
   · have:(totS z leaf plus times).op g=fun a b=>((if g.1=4 then times a b else plus a b),0):=by
      unfold SR.op totS
      split<;>rfl
     rw [this,joinL_tot]
 · rfl
theorem errL_tot {z:T} {leaf:Int→Int→T} {plus times:T→T→T} {gs:List Gate} {i:Nat}:errL (totS z leaf plus times).ge gs i=0:=errL_zero.2 fun _ _=>gateS_tot
theorem evC_tot {z:T} {leaf:Int→Int→T} {plus times:T→T→T} {gs:List Gate} {i:Int} (h:GoodI gs i):evC (totS z leaf plus times).ge gs i=((vlE (totS z leaf plus times).ge gs i.toNat).1,0):=by
 rw [evC_good h,if_pos errL_tot]
theorem vl_tot {z:T} {leaf:Int→Int→T} {plus times:T→T→T} {gs:List Gate} {k:Nat} (hV:ValidC gs) (hk:k<gs.length) (hi:inner ((List.getD gs k ((0,0,[],()):Gate))).1):(vlE (totS z leaf plus times).ge gs k).1=(((List.getD gs k ((0,0,[],()):Gate))).2.2.1.drop 1).foldl (fun x j=>(if ((List.getD gs k ((0,0,[],()):Gate))).1=4 then times else plus) x (vlE (totS z leaf plus times).ge gs j.toNat).1) (vlE (totS z leaf plus times).ge gs (((List.getD gs k ((0,0,[],()):Gate))).2.2.1.getD 0 0).toNat).1:=by
 have h2:2≤((List.getD gs k ((0,0,[],()):Gate))).2.2.1.length:=(hV.2 k hk).2.1 hi
 have h0:((List.getD gs k ((0,0,[],()):Gate))).2.2.1.getD 0 0∈((List.getD gs k ((0,0,[],()):Gate))).2.2.1:=getD_mem (by omega)
 have e:vlE (totS z leaf plus times).ge gs k=gateS (totS z leaf plus times) (valsE (totS z leaf plus times).ge gs k) ((List.getD gs k ((0,0,[],()):Gate))):=rfl
 have ha:=fun {j:Int} (hj:j∈((List.getD gs k ((0,0,[],()):Gate))).2.2.1)=>vals_at (S:=(totS z leaf plus times).ge) hV hk hj
 rw [e,gateS_inner hi (by omega)]
 have hop:(totS z leaf plus times).op ((List.getD gs k ((0,0,[],()):Gate)))=fun a b=>((if ((List.getD gs k ((0,0,[],()):Gate))).1=4 then times a b else plus a b),0):=by
  unfold SR.op totS
  split<;>rfl
 rw [hop,joinL_tot]
 dsimp only
 rw [show atL (totS z leaf plus times).z (valsE (totS z leaf plus times).ge gs k) (((List.getD gs k ((0,0,[],()):Gate))).2.2.1.getD 0 0)=_ from ha h0,List.map_congr_left fun j hj=>show atL (totS z leaf plus times).z (valsE (totS z leaf plus times).ge gs k) j=_ from ha (List.mem_of_mem_drop hj),List.foldl_map]
 congr 1
 funext x j
 split<;>rfl
theorem vl_leaf {S:SR T} {gs:List Gate} {k:Nat} (hi:¬ inner ((List.getD gs k ((0,0,[],()):Gate))).1):vlE S.ge gs k=S.leaf ((List.getD gs k ((0,0,[],()):Gate))).1 ((List.getD gs k ((0,0,[],()):Gate))).2.1:=gateS_leaf hi
structure Hom (S:SR T) (S':SR T') (gs:List Gate) (R:T→T'→Prop):Prop where
 leaf:∀ k,k<gs.length→¬ inner ((List.getD gs k ((0,0,[],()):Gate))).1→(S.leaf ((List.getD gs k ((0,0,[],()):Gate))).1 ((List.getD gs k ((0,0,[],()):Gate))).2.1).2=0→(S'.leaf ((List.getD gs k ((0,0,[],()):Gate))).1 ((List.getD gs k ((0,0,[],()):Gate))).2.1).2=0→R (S.leaf ((List.getD gs k ((0,0,[],()):Gate))).1 ((List.getD gs k ((0,0,[],()):Gate))).2.1).1 (S'.leaf ((List.getD gs k ((0,0,[],()):Gate))).1 ((List.getD gs k ((0,0,[],()):Gate))).2.1).1
 plus:∀ a b a' b',R a a'→R b b'→(S.plus a b).2=0→(S'.plus a' b').2=0→R (S.plus a b).1 (S'.plus a' b').1
 times:∀ a b a' b',R a a'→R b b'→(S.times a b).2=0→(S'.times a' b').2=0→R (S.times a b).1 (S'.times a' b').1
theorem joinL_hom {R:T→T'→Prop} {f:T→T→T × Int} {f':T'→T'→T' × Int} {z:T} {z':T'} (hf:∀ a b a' b',R a a'→R b b'→(f a b).2=0→(f' a' b').2=0→R (f a b).1 (f' a' b').1) {α:Type} {h:α→T} {h':α→T'}:∀ (l:List α) (x:T) (x':T'),(∀ j∈l,R (h j) (h' j))→R x x'→(joinL f z x (l.map h)).2=0→(joinL f' z' x' (l.map h')).2=0→R (joinL f z x (l.map h)).1 (joinL f' z' x' (l.map h')).1
 |[],_,_,_,hx,_,_=>hx
 |j::l,x,x',hl,hx,e,e'=>by
  rw [List.map_cons] at e e' ⊢
  rw [List.map_cons]
  by_cases k:(f x (h j)).2=0
  · by_cases k':(f' x' (h' j)).2=0
    · rw [joinL_go k] at e ⊢
      rw [joinL_go k'] at e' ⊢
      exact joinL_hom hf l _ _ (fun i hi=>hl i (List.mem_cons_of_mem _ hi)) (hf _ _ _ _ hx (hl j List.mem_cons_self) k k') e e'
    · rw [joinL_stop k'] at e';exact absurd e' k'
  · rw [joinL_stop k] at e;exact absurd e k
theorem Hom.at {S:SR T} {S':SR T'} {gs:List Gate} {R:T→T'→Prop} (H:Hom S S' gs R) (hV:ValidC gs) {i:Nat} (hi:i<gs.length):∀ n,(∀ j∈reachT gs i,j<n→(vlE S.ge gs j).2=0∧(vlE S'.ge gs j).2=0)→∀ k,k<n→k∈reachT gs i→R (vlE S.ge gs k).1 (vlE S'.ge gs k).1
 |0,_,_,h,_=>by omega
 |n+1,he0,k,hn,hk=>by
  have hkl:k<gs.length:=by have:=(reachT_mem.1 hk).1;omega
  obtain ⟨e,e'⟩:=he0 k hk hn
  by_cases hin:inner ((List.getD gs k ((0,0,[],()):Gate))).1
  · have h2:2≤((List.getD gs k ((0,0,[],()):Gate))).2.2.1.length:=(hV.2 k hkl).2.1 hin
    have kids:∀ j∈((List.getD gs k ((0,0,[],()):Gate))).2.2.1,R (atL S.z (valsE S.ge gs k) j) (atL S'.z (valsE S'.ge gs k) j):=fun j hj=>by
     obtain ⟨h1,h3,_⟩:=reachT_kid hV hi hk hj
     have a1:atL S.z (valsE S.ge gs k) j=(vlE S.ge gs j.toNat).1:=vals_at (S:=S.ge) hV hkl hj
     have a2:atL S'.z (valsE S'.ge gs k) j=(vlE S'.ge gs j.toNat).1:=vals_at (S:=S'.ge) hV hkl hj
     rw [a1,a2]
     exact H.at hV hi n (fun j hj hn=>he0 j hj (by omega)) _ (by omega) h1
    have g1:vlE S.ge gs k=joinL (S.op ((List.getD gs k ((0,0,[],()):Gate)))) S.z (atL S.z (valsE S.ge gs k) (((List.getD gs k ((0,0,[],()):Gate))).2.2.1.getD 0 0)) ((((List.getD gs k ((0,0,[],()):Gate))).2.2.1.drop 1).map (atL S.z (valsE S.ge gs k))):=gateS_inner hin (by omega)
    have g2:vlE S'.ge gs k=joinL (S'.op ((List.getD gs k ((0,0,[],()):Gate)))) S'.z (atL S'.z (valsE S'.ge gs k) (((List.getD gs k ((0,0,[],()):Gate))).2.2.1.getD 0 0)) ((((List.getD gs k ((0,0,[],()):Gate))).2.2.1.drop 1).map (atL S'.z (valsE S'.ge gs k))):=gateS_inner hin (by omega)
    rw [g1] at e ⊢
    rw [g2] at e' ⊢
    refine joinL_hom (R:=R) (fun a b a' b' h1 h2 h3 h4=>?_) _ _ _ (fun j hj=>kids j (List.mem_of_mem_drop hj)) (kids _ (getD_mem (by omega))) e e'
    unfold SR.op at h3 h4 ⊢
    split
    · rename_i h5;rw [if_pos h5] at h3 h4;exact H.times a b a' b' h1 h2 h3 h4
    · rename_i h5;rw [if_neg h5] at h3 h4;exact H.plus a b a' b' h1 h2 h3 h4
  · rw [vl_leaf hin] at e e' ⊢
    rw [vl_leaf hin]
    exact H.leaf k hkl hin e e'
theorem Hom.all {S:SR T} {S':SR T'} {gs:List Gate} {R:T→T'→Prop} (H:Hom S S' gs R) (hV:ValidC gs) {i:Nat} (hi:i<gs.length) (he:errL S.ge gs i=0) (he':errL S'.ge gs i=0):∀ k∈reachT gs i,R (vlE S.ge gs k).1 (vlE S'.ge gs k).1:=fun k hk=>
 H.at hV hi (k+1) (fun j hj _=>⟨errL_zero.1 he j hj,errL_zero.1 he' j hj⟩) k (Nat.lt_succ_self k) hk
def leafB (have_:List Bool) (k v:Int):Bool:=decide (k=1∨(k=2∧v<(have_.length:Int))∧have_.getD v.toNat false=true)
def srB (have_:List Bool):SR Bool:=totS false (leafB have_) (fun a b=>a||b) fun a b=>a && b
def leafC (costs:List Int) (k v:Int):Int:=if k=1 then 0 else if (k=2∧v<(costs.length:Int))∧0≤costs.getD v.toNat 0 then min (costs.getD v.toNat 0) 1000000000 else -1
def plusC (a b:Int):Int:=if a= -1∨b= -1 then max a b else min a b
def timesC (a b:Int):Int:=if a= -1∨b= -1 then -1 else min (a+b) 1000000000
def srC (costs:List Int):SR Int:=totS 0 (leafC costs) plusC timesC
def rgC (a:Int):Prop:= -1≤a∧a≤1000000000
def leafN (vs:List Int) (k v:Int):Int:=if k=1 then 1 else if k=2∧v<(vs.length:Int) then vs.getD v.toNat 0 else 0
def srN (vs:List Int):SR Int:=totS 0 (leafN vs) (fun a b=>a+b) fun a b=>a * b
end Go.Gv
