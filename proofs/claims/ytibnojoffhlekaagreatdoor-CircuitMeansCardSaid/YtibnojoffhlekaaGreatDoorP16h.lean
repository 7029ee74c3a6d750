/- The plain law of circuits: counts; gates under other numbers. -/
import Derived.Test.YtibnojoffhlekaaGreatDoorP16f
set_option linter.all false
namespace Go.Gv
open Go Go.Proofs Go.Proofs.YtibnojoffhlekaaGreatDoor
set_option maxRecDepth 100000
set_option maxHeartbeats 4000000
def sumN (l:List Int):Int:=l.foldl (fun x y=>min (x+y) 1000000001) 0
def prodN (l:List Int):Int:=l.foldl (fun x y=>x * y) 1
def cntG (vs:List Int) (all:List Int) (g:Gate):Int × Int:=
 if g.1=1 then (1,0)
 else if g.1=2 then (if g.2.1<(vs.length:Int) then (vs.getD g.2.1.toNat 0,if 1000000000<vs.getD g.2.1.toNat 0 then 2 else 0) else (0,0))
 else if g.1=3 then (sumN (g.2.2.1.map (atL 0 all)),if 1000000000<sumN (g.2.2.1.map (atL 0 all)) then 2 else 0)
 else if g.1=4 then (if 0∈g.2.2.1.map (atL 0 all) then (0,0) else (prodN (g.2.2.1.map (atL 0 all)),if 1000000000<prodN (g.2.2.1.map (atL 0 all)) then 2 else 0))
 else (0,0)
def geN (vs:List Int):GE Int:=⟨0,cntG vs,fun all all' g g' h1 h2 h3=>by unfold cntG;rw [h1,h2,h3]⟩
theorem sumN_snoc (l:List Int) (y:Int):sumN (l++[y])=min (sumN l+y) 1000000001:=by unfold sumN;rw [List.foldl_append];rfl
theorem prodN_snoc (l:List Int) (y:Int):prodN (l++[y])=prodN l * y:=by unfold prodN;rw [List.foldl_append];rfl
theorem sumN_rg:∀ (n:Nat) (l:List Int),l.length=n→(∀ y∈l,0≤y)→0≤sumN l∧sumN l≤1000000001
 |0,l,hl,_=>by rw [List.length_eq_zero_iff.1 hl];decide
 |n+1,l,hl,h=>by
  have e:=List.dropLast_concat_getLast (l:=l) (fun e=>by rw [e] at hl;cases hl)
  have ih:=sumN_rg n l.dropLast (by rw [List.length_dropLast];omega) fun y hy=>h y (List.dropLast_subset _ hy)
  have h2:=h _ (List.getLast_mem (l:=l) (fun e=>by rw [e] at hl;cases hl))
  rw [← e,sumN_snoc]
  omega
theorem prodN_pos:∀ (n:Nat) (l:List Int),l.length=n→(∀ y∈l,1≤y)→1≤prodN l
 |0,l,hl,_=>by rw [List.length_eq_zero_iff.1 hl];decide
 |n+1,l,hl,h=>by
  have e:=List.dropLast_concat_getLast (l:=l) (fun e=>by rw [e] at hl;cases hl)
  have ih:=prodN_pos n l.dropLast (by rw [List.length_dropLast];omega) fun y hy=>h y (List.dropLast_subset _ hy)
  have h2:=h _ (List.getLast_mem (l:=l) (fun e=>by rw [e] at hl;cases hl))
  rw [← e,prodN_snoc]
  have:=Int.mul_le_mul ih h2 (by decide) (by omega)
  omega
theorem sumN_exact:∀ (n:Nat) (l:List Int),l.length=n→(∀ y∈l,0≤y)→sumN l≤1000000000→sumN l=l.foldl (fun x y=>x+y) 0
 |0,l,hl,_,_=>by rw [List.length_eq_zero_iff.1 hl];rfl
 |n+1,l,hl,h,hs=>by
  have e:=List.dropLast_concat_getLast (l:=l) (fun e=>by rw [e] at hl;cases hl)
  have hp:∀ y∈l.dropLast,0≤y:=fun y hy=>h y (List.dropLast_subset _ hy)
  have hd:l.dropLast.length=n:=by rw [List.length_dropLast];omega
  have h2:=h _ (List.getLast_mem (l:=l) (fun e=>by rw [e] at hl;cases hl))
  have hr:=sumN_rg n l.dropLast hd hp
  rw [← e,sumN_snoc] at hs ⊢
  rw [List.foldl_append]
  have ih:=sumN_exact n l.dropLast hd hp (by omega)
  show _=List.foldl (fun x y=>x+y) 0 l.dropLast+_
  rw [← ih]
  omega
theorem prodN_zero:∀ (r l:List Int),prodN l=0→prodN (l++r)=0
 |[],l,h=>by rw [List.append_nil];exact h
 |y::r,l,h=>by
  have:=prodN_zero r (l++[y]) (by rw [prodN_snoc,h,Int.zero_mul])
  rw [List.append_assoc] at this
  exact this
theorem prodN_hit {l:List Int} (h:0∈l):prodN l=0:=by
 obtain ⟨a,b,rfl⟩:=List.append_of_mem h
 have:=prodN_zero b (a++[0]) (by rw [prodN_snoc,Int.mul_zero])
 rw [List.append_assoc] at this
 exact this
structure TimN (l:List Int) (n:Int) (lg:Bool):Prop where
 no:0 ∉ l
 rg:1≤n∧n≤1000000000
 sm:lg=false→n=prodN l
 gt:lg=true→1000000000<prodN l
theorem TimN.nil:TimN [] 1 false:=⟨by simp,by decide,fun _=>rfl,fun h=>by cases h⟩
theorem TimN.pos {l:List Int} {n:Int} {lg:Bool} (h:TimN l n lg):1≤prodN l:=by
 cases lg with
 |false=>rw [← h.sm rfl];exact h.rg.1
 |true=>have:=h.gt rfl;omega
theorem TimN.big {l:List Int} {n:Int} {lg:Bool} (h:TimN l n lg) {y:Int} (hy:1≤y) (hb:1000000000<n * y):TimN (l++[y]) 1 true:=by
 refine ⟨fun k=>?_,by decide,fun e=>(by cases e),fun _=>?_⟩
 · rcases List.mem_append.1 k with k|k
   · exact h.no k
   · have:=List.mem_singleton.1 k;omega
 · rw [prodN_snoc]
   cases e:lg with
   |false=>rw [← h.sm e];exact hb
   |true=>
    have h1:=h.gt e
    have h2:prodN l * 1≤prodN l * y:=Int.mul_le_mul_of_nonneg_left hy (by omega)
    omega
theorem TimN.step {l:List Int} {n:Int} {lg:Bool} (h:TimN l n lg) {y:Int} (hy:1≤y) (hb:¬ 1000000000<n * y):TimN (l++[y]) (n * y) lg:=by
 have h1:=h.rg.1
 have h2:n * 1≤n * y:=Int.mul_le_mul_of_nonneg_left hy (by omega)
 refine ⟨fun k=>?_,by omega,fun e=>by rw [prodN_snoc,← h.sm e],fun e=>?_⟩
 · rcases List.mem_append.1 k with k|k
   · exact h.no k
   · have:=List.mem_singleton.1 k;omega
 · rw [prodN_snoc]
   have h1:=h.gt e
   have h2:prodN l * 1≤prodN l * y:=Int.mul_le_mul_of_nonneg_left hy (by omega)
   omega
theorem TimN.le {l:List Int} {n:Int} (h:TimN l n false):¬ 1000000000<prodN l:=by rw [← h.sm rfl];have:=h.rg.2;omega
theorem cnt_exact {gs:List Gate} {vs:List Int} (hV:ValidC gs) (hvs:∀ v∈vs,0≤v) {i:Nat} (hi:i<gs.length):∀ n,(∀ j∈reachT gs i,j<n→(vlE (geN vs) gs j).2=0)→∀ k,k<n→k∈reachT gs i→(vlE (geN vs) gs k).1=(vlE (srN vs).ge gs k).1∧0≤(vlE (geN vs) gs k).1∧(vlE (geN vs) gs k).1≤1000000000
 |0,_,_,h,_=>by omega
 |n+1,he,k,hn,hk=>by
  have hkl:k<gs.length:=by have:=(reachT_mem.1 hk).1;omega
  have e:=he k hk hn
  have kids:∀ j∈((List.getD gs k ((0,0,[],()):Gate))).2.2.1,atL 0 (valsE (geN vs) gs k) j=atL 0 (valsE (srN vs).ge gs k) j∧0≤atL 0 (valsE (geN vs) gs k) j∧atL 0 (valsE (geN vs) gs k) j≤1000000000:=fun j hj=>by
   obtain ⟨h1,h3,_⟩:=reachT_kid hV hi hk hj
   have a1:atL 0 (valsE (geN vs) gs k) j=(vlE (geN vs) gs j.toNat).1:=vals_at (S:=geN vs) hV hkl hj
   have a2:atL 0 (valsE (srN vs).ge gs k) j=(vlE (srN vs).ge gs j.toNat).1:=vals_at (S:=(srN vs).ge) hV hkl hj
   rw [a1,a2]
   exact cnt_exact hV hvs hi n (fun j hj hn=>he j hj (by omega)) _ (by omega) h1
  have em:((List.getD gs k ((0,0,[],()):Gate))).2.2.1.map (atL 0 (valsE (geN vs) gs k))=((List.getD gs k ((0,0,[],()):Gate))).2.2.1.map (atL 0 (valsE (srN vs).ge gs k)):=List.map_congr_left fun j hj=>(kids j hj).1
  have nn:∀ y∈((List.getD gs k ((0,0,[],()):Gate))).2.2.1.map (atL 0 (valsE (geN vs) gs k)),0≤y:=fun y hy=>by obtain ⟨j,hj,rfl⟩:=List.mem_map.1 hy;exact (kids j hj).2.1
  have ev:vlE (geN vs) gs k=cntG vs (valsE (geN vs) gs k) ((List.getD gs k ((0,0,[],()):Gate))):=rfl
  have gt:vlE (srN vs).ge gs k=gateS (srN vs) (valsE (srN vs).ge gs k) ((List.getD gs k ((0,0,[],()):Gate))):=rfl
  by_cases hin:inner ((List.getD gs k ((0,0,[],()):Gate))).1
  · have h2:2≤((List.getD gs k ((0,0,[],()):Gate))).2.2.1.length:=(hV.2 k hkl).2.1 hin
    obtain ⟨a,r,ea⟩:∃ a r,((List.getD gs k ((0,0,[],()):Gate))).2.2.1=a::r:=by
     cases q:((List.getD gs k ((0,0,[],()):Gate))).2.2.1 with
     |nil=>rw [q] at h2;simp at h2
     |cons a r=>exact ⟨a,r,rfl⟩
    have g2:(vlE (srN vs).ge gs k).1=(r.map (atL 0 (valsE (srN vs).ge gs k))).foldl (fun x y=>if ((List.getD gs k ((0,0,[],()):Gate))).1=4 then x * y else x+y) (atL 0 (valsE (srN vs).ge gs k) a):=by
     rw [gt,gateS_inner hin (by omega),ea]
     have hop:(srN vs).op ((List.getD gs k ((0,0,[],()):Gate)))=fun a b=>((if ((List.getD gs k ((0,0,[],()):Gate))).1=4 then a * b else a+b),0):=by
      unfold SR.op srN totS
      split<;>rfl
     rw [hop,joinL_tot]
     rfl
    rw [ea] at em nn
    simp only [List.map_cons] at em nn
    unfold inner at hin
    unfold cntG at ev
    rw [ea,List.map_cons] at ev
    rw [if_neg (show ¬ ((List.getD gs k ((0,0,[],()):Gate))).1=1 by omega),if_neg (show ¬ ((List.getD gs k ((0,0,[],()):Gate))).1=2 by omega)] at ev
    by_cases h3:((List.getD gs k ((0,0,[],()):Gate))).1=3
    · rw [if_pos h3] at ev
      rw [ev] at e ⊢
      have hle:sumN (atL 0 (valsE (geN vs) gs k) a::r.map (atL 0 (valsE (geN vs) gs k)))≤1000000000:=Int.not_lt.1 fun q=>by
       dsimp only at e
       rw [if_pos q] at e;cases e
      refine ⟨?_,(sumN_rg _ _ rfl nn).1,hle⟩
      dsimp only
      rw [sumN_exact _ _ rfl nn hle,g2,em,List.foldl_cons,Int.zero_add]
      congr 1
      funext x y
      rw [if_neg (by omega)]
    · have h4:((List.getD gs k ((0,0,[],()):Gate))).1=4:=by omega
      rw [if_neg h3,if_pos h4] at ev
      have g3:(vlE (srN vs).ge gs k).1=prodN (atL 0 (valsE (srN vs).ge gs k) a::r.map (atL 0 (valsE (srN vs).ge gs k))):=by
       rw [g2]
       unfold prodN
       rw [List.foldl_cons,Int.one_mul]
       congr 1
       funext x y
       rw [if_pos h4]
      by_cases h0:0∈atL 0 (valsE (geN vs) gs k) a::r.map (atL 0 (valsE (geN vs) gs k))
      · rw [if_pos h0] at ev
        rw [ev,g3,← em,prodN_hit h0]
        exact ⟨rfl,Int.le_refl 0,by decide⟩
      · rw [if_neg h0] at ev
        rw [ev] at e ⊢
        have hle:prodN (atL 0 (valsE (geN vs) gs k) a::r.map (atL 0 (valsE (geN vs) gs k)))≤1000000000:=Int.not_lt.1 fun q=>by
         dsimp only at e
         rw [if_pos q] at e;cases e
        have hp:=prodN_pos _ (atL 0 (valsE (geN vs) gs k) a::r.map (atL 0 (valsE (geN vs) gs k))) rfl fun y hy=>by
         have:=nn y hy
         have:y≠0:=fun q=>h0 (q ▸ hy)
         omega
        exact ⟨by rw [g3,← em],by dsimp only;omega,hle⟩
  · have hl:=(hV.2 k hkl).1.2
    rw [gt,gateS_leaf hin]
    show _=(leafN vs ((List.getD gs k ((0,0,[],()):Gate))).1 ((List.getD gs k ((0,0,[],()):Gate))).2.1)∧_
    unfold cntG at ev
    unfold leafN
    unfold inner at hin
    by_cases h1:((List.getD gs k ((0,0,[],()):Gate))).1=1
    · rw [if_pos h1] at ev
      rw [ev,if_pos h1]
      exact ⟨rfl,by decide,by decide⟩
    · rw [if_neg h1] at ev
      rw [if_neg h1]
      by_cases h2:((List.getD gs k ((0,0,[],()):Gate))).1=2
      · rw [if_pos h2] at ev
        by_cases h3:((List.getD gs k ((0,0,[],()):Gate))).2.1<(vs.length:Int)
        · rw [if_pos h3] at ev
          rw [ev] at e ⊢
          rw [if_pos (show ((List.getD gs k ((0,0,[],()):Gate))).1=2∧((List.getD gs k ((0,0,[],()):Gate))).2.1<(vs.length:Int) from ⟨h2,h3⟩)]
          have h5:¬ 1000000000<vs.getD ((List.getD gs k ((0,0,[],()):Gate))).2.1.toNat 0:=fun q=>by
           dsimp only at e
           rw [if_pos q] at e;cases e
          have h6:0≤((List.getD gs k ((0,0,[],()):Gate))).2.1:=by
           rcases hl with h|h|h<;>omega
          exact ⟨rfl,hvs _ (getD_mem (by omega)),by dsimp only;omega⟩
        · rw [if_neg h3] at ev
          rw [ev,if_neg (fun (q:((List.getD gs k ((0,0,[],()):Gate))).1=2∧((List.getD gs k ((0,0,[],()):Gate))).2.1<(vs.length:Int))=>h3 q.2)]
          exact ⟨rfl,by decide,by decide⟩
      · rw [if_neg h2,if_neg (by omega),if_neg (by omega)] at ev
        rw [ev,if_neg (fun (q:((List.getD gs k ((0,0,[],()):Gate))).1=2∧((List.getD gs k ((0,0,[],()):Gate))).2.1<(vs.length:Int))=>h2 q.1)]
        exact ⟨rfl,by decide,by decide⟩
end Go.Gv
