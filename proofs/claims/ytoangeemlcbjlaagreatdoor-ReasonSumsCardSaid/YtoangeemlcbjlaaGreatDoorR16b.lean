/- Chapter 16: the reference: gates put, what is reached. -/
import Derived.Test.YtoangeemlcbjlaaGreatDoorR16
import Derived.Test.YtoangeemlcbjlaaGreatDoorC16c
set_option linter.all false
namespace Go.Gv
open Go Go.Proofs Go.Proofs.YtoangeemlcbjlaaGreatDoor
set_option maxRecDepth 100000
set_option maxHeartbeats 4000000
noncomputable def reachB (gs:List Gate) (i:Int):List Bool:=(List.range gs.length).map fun k=>boolOf (Rch gs i.toNat k)
structure NoG (gs:List Gate) (g':Gate) (m:Nat):Prop where
 le:m≤gs.length
 no:∀ k,k<m→(List.getD gs k ((0,0,[],()):Gate))≠g'
theorem NoG.start {gs:List Gate} {g':Gate}:NoG gs g' 0:=⟨Nat.zero_le _,fun k h=>absurd h (Nat.not_lt_zero k)⟩
theorem NoG.step {gs:List Gate} {g':Gate} {m:Nat} (h:NoG gs g' m) (hm:(m:Int)<(gs.length:Int)) (q:¬ List.getD gs m ((0,0,[],()):Gate)=g'):NoG gs g' (m+1):=⟨by omega,fun k hk=>by
 by_cases e:k=m
 · rw [e];exact q
 · exact h.no k (by omega)⟩
end Go.Gv
