/- Chapter 16: the reference: sorted lists, gates put, what is reached. -/
import Derived.Test.YtoangeemlcbjlaaGreatDoorP16j
set_option linter.all false
namespace Go.Gv
open Go Go.Proofs Go.Proofs.YtoangeemlcbjlaaGreatDoor
set_option maxRecDepth 100000
set_option maxHeartbeats 4000000
structure SwO (l L:List Int) (i:Nat):Prop where
 p:L.Perm l
 a:∀ a b,a<b→b<i→L.getD a 0≤L.getD b 0
structure SwI (l L:List Int) (i k:Nat):Prop where
 p:L.Perm l
 a:∀ a b,a<b→b≤i→a≠k→b≠k→L.getD a 0≤L.getD b 0
 b:∀ b,k<b→b≤i→L.getD k 0<L.getD b 0
theorem SwO.start (l:List Int):SwO l l 1:=⟨List.Perm.refl _,fun a b h k=>by omega⟩
theorem SwO.open {l L:List Int} {i:Nat} (h:SwO l L i):SwI l L i i:=⟨h.p,fun a b h1 h2 _ h4=>h.a a b h1 (by omega),fun b h1 h2=>by omega⟩
theorem SwI.shut {l L:List Int} {i k:Nat} (h:SwI l L i k) (hk:k≤i) (hc:0<k→L.getD (k - 1) 0≤L.getD k 0):SwO l L (i+1):=⟨h.p,fun a b h1 h2=>by
 by_cases ea:a=k
 · subst ea;exact Int.le_of_lt (h.b b h1 (by omega))
 · by_cases eb:b=k
   · subst eb
     have h3:=hc (by omega)
     by_cases e:a=b - 1
     · subst e;exact h3
     · exact Int.le_trans (h.a a (b - 1) (by omega) (by omega) ea (by omega)) h3
   · exact h.a a b h1 (by omega) ea eb⟩
theorem SwO.done {l L:List Int} {i:Nat} (h:SwO l L i) (hi:L.length≤i):L=sortI l:=sortI_uniq h.p (List.pairwise_iff_getElem.2 fun a b ha hb hab=>by
 have:=h.a a b hab (by omega)
 rwa [getD_ok 0 ha,getD_ok 0 hb] at this)
end Go.Gv
