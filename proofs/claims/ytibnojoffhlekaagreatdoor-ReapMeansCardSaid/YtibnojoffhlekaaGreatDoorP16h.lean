/- The plain law of circuits: counts; gates under other numbers. -/
import Derived.Test.YtibnojoffhlekaaGreatDoorP16f
set_option linter.all false
namespace Go.Gv
open Go Go.Proofs Go.Proofs.YtibnojoffhlekaaGreatDoor
set_option maxRecDepth 100000
set_option maxHeartbeats 4000000
def sumN (l:List Int):Int:=l.foldl (fun x y=>min (x+y) 1000000001) 0
def prodN (l:List Int):Int:=l.foldl (fun x y=>x * y) 1
def cntG (vs:List Int) (all:List Int) (g:Gate):Int × Int:=
 if g.1=1 then (1,0)
 else if g.1=2 then (if g.2.1<(vs.length:Int) then (vs.getD g.2.1.toNat 0,if 1000000000<vs.getD g.2.1.toNat 0 then 2 else 0) else (0,0))
 else if g.1=3 then (sumN (g.2.2.1.map (atL 0 all)),if 1000000000<sumN (g.2.2.1.map (atL 0 all)) then 2 else 0)
 else if g.1=4 then (if 0∈g.2.2.1.map (atL 0 all) then (0,0) else (prodN (g.2.2.1.map (atL 0 all)),if 1000000000<prodN (g.2.2.1.map (atL 0 all)) then 2 else 0))
 else (0,0)
def geN (vs:List Int):GE Int:=⟨0,cntG vs,fun all all' g g' h1 h2 h3=>by unfold cntG;rw [h1,h2,h3]⟩
theorem sumN_snoc (l:List Int) (y:Int):sumN (l++[y])=min (sumN l+y) 1000000001:=by unfold sumN;rw [List.foldl_append];rfl
theorem prodN_snoc (l:List Int) (y:Int):prodN (l++[y])=prodN l * y:=by unfold prodN;rw [List.foldl_append];rfl
structure TimN (l:List Int) (n:Int) (lg:Bool):Prop where
 no:0 ∉ l
 rg:1≤n∧n≤1000000000
 sm:lg=false→n=prodN l
 gt:lg=true→1000000000<prodN l
theorem TimN.nil:TimN [] 1 false:=⟨by simp,by decide,fun _=>rfl,fun h=>by cases h⟩
theorem TimN.pos {l:List Int} {n:Int} {lg:Bool} (h:TimN l n lg):1≤prodN l:=by
 cases lg with
 |false=>rw [← h.sm rfl];exact h.rg.1
 |true=>have:=h.gt rfl;omega
theorem TimN.step {l:List Int} {n:Int} {lg:Bool} (h:TimN l n lg) {y:Int} (hy:1≤y) (hb:¬ 1000000000<n * y):TimN (l++[y]) (n * y) lg:=by
 have h1:=h.rg.1
 have h2:n * 1≤n * y:=Int.mul_le_mul_of_nonneg_left hy (by omega)
 refine ⟨fun k=>?_,by omega,fun e=>by rw [prodN_snoc,← h.sm e],fun e=>?_⟩
 · rcases List.mem_append.1 k with k|k
   · exact h.no k
   · have:=List.mem_singleton.1 k;omega
 · rw [prodN_snoc]
   have h1:=h.gt e
   have h2:prodN l * 1≤prodN l * y:=Int.mul_le_mul_of_nonneg_left hy (by omega)
   omega
theorem TimN.le {l:List Int} {n:Int} (h:TimN l n false):¬ 1000000000<prodN l:=by rw [← h.sm rfl];have:=h.rg.2;omega
end Go.Gv
