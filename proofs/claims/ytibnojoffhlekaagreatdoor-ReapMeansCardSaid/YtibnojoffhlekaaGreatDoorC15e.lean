/- Chapter 15: the reference's text of a polynomial. -/
import Derived.Test.YtibnojoffhlekaaGreatDoorC15d
import Derived.Lib.Join
set_option linter.all false
namespace Go.Gv
open Go Go.Proofs Go.Proofs.YtibnojoffhlekaaGreatDoor
set_option maxRecDepth 100000
set_option maxHeartbeats 4000000
theorem join_len (sep:List UInt8) (b:Nat):∀ (xs:List (List UInt8)),(∀ x∈xs,x.length≤b)→(Lib.join xs sep).length≤xs.length * (b+sep.length)
 |[],_=>by simp [Lib.join_nil]
 |x::r,h=>by
  rw [Lib.join_cons]
  have hx:=h x (by simp)
  have:(Lib.joinTail sep r).length≤r.length * (b+sep.length):=by
   have h2:∀ x∈r,x.length≤b:=fun y hy=>h y (by simp [hy])
   clear hx h
   induction r with
   |nil=>simp [Lib.joinTail]
   |cons y r ih=>
    have ih:=ih (fun z hz=>h2 z (by simp [hz]))
    have hy:=h2 y (by simp)
    simp only [Lib.joinTail,List.map_cons,List.flatten_cons,List.length_append,List.length_cons] at ih ⊢
    rw [Nat.add_mul];omega
  rw [List.length_append,List.length_cons,Nat.add_mul];omega
def itemX (x:Pw):List UInt8:=[120]++Lib.itoa x.1++(if x.2.1=1 then [] else [94]++Lib.itoa x.2.1)
def facT (l:List Pw):List UInt8:=Lib.join (l.map itemX) [42]
def headM (m:Mo):List UInt8:=if m.1=1∧m.2.1≠[] then [] else Lib.itoa m.1++(if m.2.1=[] then [] else [42])
def monT (m:Mo):List UInt8:=headM m++facT m.2.1
def polyT (p:List Mo):List UInt8:=Lib.join (p.map monT) [32,43,32]
noncomputable def textP (p:List Mo):List UInt8:=if boolOf (ValidP p)=true then (if p=[] then [48] else polyT p) else []
def baseT (p:List Mo) (n:Nat):List UInt8:=Lib.join ((p.take n).map monT) [32,43,32]++(if 0<n then [32,43,32] else [])++headM (List.getD p n ((0,[],()):Mo))
def okC (m:Mo):Prop:=1≤m.1∧m.1≤1000000000∧okP m.2.1
def okX (x:Pw):Prop:=0≤x.1∧x.1<4000∧1≤x.2.1∧x.2.1≤100∧(Lib.itoa x.1).length≤21∧(Lib.itoa x.2.1).length≤21
theorem okP_len {l:List Pw} (h:okP l):l.length≤4000:=by
 have:∀ j,j<l.length→(j:Int)≤(l.getD j ((0,0,()):Pw)).1:=by
  intro j
  induction j with
  |zero=>intro hj;have:=(h 0 hj).1;simpa using this
  |succ j ih=>
   intro hj
   have h1:=ih (by omega)
   have h2:=(h (j+1) hj).2.2.2.2 (by omega)
   have h3:(l.getD j ((0,0,()):Pw)).1<(l.getD (j+1) ((0,0,()):Pw)).1:=h2
   omega
 rcases Nat.lt_or_ge 4000 l.length with h1|h1
 · have h2:=this 4000 h1
   have h3:=(h 4000 h1).2.1
   omega
 · exact h1
end Go.Gv
