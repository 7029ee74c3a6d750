/- The plain law of circuits: counts; gates under other numbers. -/
import Derived.Test.YtibnojoffhlekaaGreatDoorP16f
set_option linter.all false
namespace Go.Gv
open Go Go.Proofs Go.Proofs.YtibnojoffhlekaaGreatDoor
set_option maxRecDepth 100000
set_option maxHeartbeats 4000000
def sumN (l:List Int):Int:=l.foldl (fun x y=>min (x+y) 1000000001) 0
def prodN (l:List Int):Int:=l.foldl (fun x y=>x * y) 1
def cntG (vs:List Int) (all:List Int) (g:Gate):Int × Int:=
 if g.1=1 then (1,0)
 else if g.1=2 then (if g.2.1<(vs.length:Int) then (vs.getD g.2.1.toNat 0,if 1000000000<vs.getD g.2.1.toNat 0 then 2 else 0) else (0,0))
 else if g.1=3 then (sumN (g.2.2.1.map (atL 0 all)),if 1000000000<sumN (g.2.2.1.map (atL 0 all)) then 2 else 0)
 else if g.1=4 then (if 0∈g.2.2.1.map (atL 0 all) then (0,0) else (prodN (g.2.2.1.map (atL 0 all)),if 1000000000<prodN (g.2.2.1.map (atL 0 all)) then 2 else 0))
 else (0,0)
def geN (vs:List Int):GE Int:=⟨0,cntG vs,fun all all' g g' h1 h2 h3=>by unfold cntG;rw [h1,h2,h3]⟩
theorem sumN_snoc (l:List Int) (y:Int):sumN (l++[y])=min (sumN l+y) 1000000001:=by unfold sumN;rw [List.foldl_append];rfl
theorem prodN_snoc (l:List Int) (y:Int):prodN (l++[y])=prodN l * y:=by unfold prodN;rw [List.foldl_append];rfl
theorem sumN_rg:∀ (n:Nat) (l:List Int),l.length=n→(∀ y∈l,0≤y)→0≤sumN l∧sumN l≤1000000001
 |0,l,hl,_=>by rw [List.length_eq_zero_iff.1 hl];decide
 |n+1,l,hl,h=>by
  have e:=List.dropLast_concat_getLast (l:=l) (fun e=>by rw [e] at hl;cases hl)
  have ih:=sumN_rg n l.dropLast (by rw [List.length_dropLast];omega) fun y hy=>h y (List.dropLast_subset _ hy)
  have h2:=h _ (List.getLast_mem (l:=l) (fun e=>by rw [e] at hl;cases hl))
  rw [← e,sumN_snoc]
  omega
theorem prodN_pos:∀ (n:Nat) (l:List Int),l.length=n→(∀ y∈l,1≤y)→1≤prodN l
 |0,l,hl,_=>by rw [List.length_eq_zero_iff.1 hl];decide
 |n+1,l,hl,h=>by
  have e:=List.dropLast_concat_getLast (l:=l) (fun e=>by rw [e] at hl;cases hl)
  have ih:=prodN_pos n l.dropLast (by rw [List.length_dropLast];omega) fun y hy=>h y (List.dropLast_subset _ hy)
  have h2:=h _ (List.getLast_mem (l:=l) (fun e=>by rw [e] at hl;cases hl))
  rw [← e,prodN_snoc]
  have:=Int.mul_le_mul ih h2 (by decide) (by omega)
  omega
theorem prodN_le:∀ (r l:List Int),(∀ y∈r,1≤y)→0≤prodN l→prodN l≤prodN (l++r)
 |[],l,_,_=>by rw [List.append_nil];exact Int.le_refl _
 |y::r,l,h,hl=>by
  have h1:=h y List.mem_cons_self
  have h3:prodN l * 1≤prodN l * y:=Int.mul_le_mul_of_nonneg_left h1 hl
  rw [Int.mul_one] at h3
  have:=prodN_le r (l++[y]) (fun x hx=>h x (List.mem_cons_of_mem _ hx)) (by rw [prodN_snoc];omega)
  rw [List.append_assoc,prodN_snoc] at this
  show prodN l≤prodN (l++([y]++r))
  omega
structure TimN (l:List Int) (n:Int) (lg:Bool):Prop where
 no:0 ∉ l
 rg:1≤n∧n≤1000000000
 sm:lg=false→n=prodN l
 gt:lg=true→1000000000<prodN l
theorem TimN.nil:TimN [] 1 false:=⟨by simp,by decide,fun _=>rfl,fun h=>by cases h⟩
theorem TimN.pos {l:List Int} {n:Int} {lg:Bool} (h:TimN l n lg):1≤prodN l:=by
 cases lg with
 |false=>rw [← h.sm rfl];exact h.rg.1
 |true=>have:=h.gt rfl;omega
theorem TimN.big {l:List Int} {n:Int} {lg:Bool} (h:TimN l n lg) {y:Int} (hy:1≤y) (hb:1000000000<n * y):TimN (l++[y]) 1 true:=by
 refine ⟨fun k=>?_,by decide,fun e=>(by cases e),fun _=>?_⟩
 · rcases List.mem_append.1 k with k|k
   · exact h.no k
   · have:=List.mem_singleton.1 k;omega
 · rw [prodN_snoc]
   cases e:lg with
   |false=>rw [← h.sm e];exact hb
   |true=>
    have h1:=h.gt e
    have h2:prodN l * 1≤prodN l * y:=Int.mul_le_mul_of_nonneg_left hy (by omega)
    omega
theorem TimN.step {l:List Int} {n:Int} {lg:Bool} (h:TimN l n lg) {y:Int} (hy:1≤y) (hb:¬ 1000000000<n * y):TimN (l++[y]) (n * y) lg:=by
 have h1:=h.rg.1
 have h2:n * 1≤n * y:=Int.mul_le_mul_of_nonneg_left hy (by omega)
 refine ⟨fun k=>?_,by omega,fun e=>by rw [prodN_snoc,← h.sm e],fun e=>?_⟩
 · rcases List.mem_append.1 k with k|k
   · exact h.no k
   · have:=List.mem_singleton.1 k;omega
 · rw [prodN_snoc]
   have h1:=h.gt e
   have h2:prodN l * 1≤prodN l * y:=Int.mul_le_mul_of_nonneg_left hy (by omega)
   omega
theorem TimN.le {l:List Int} {n:Int} (h:TimN l n false):¬ 1000000000<prodN l:=by rw [← h.sm rfl];have:=h.rg.2;omega
end Go.Gv
