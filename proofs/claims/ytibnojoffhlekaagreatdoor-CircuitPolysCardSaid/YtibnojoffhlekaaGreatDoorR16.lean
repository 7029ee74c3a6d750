/- Chapter 16: the reference: sorted lists, gates put, what is reached. -/
import Derived.Test.YtibnojoffhlekaaGreatDoorP16j
set_option linter.all false
namespace Go.Gv
open Go Go.Proofs Go.Proofs.YtibnojoffhlekaaGreatDoor
set_option maxRecDepth 100000
set_option maxHeartbeats 4000000
structure SwO (l L:List Int) (i:Nat):Prop where
 p:L.Perm l
 a:∀ a b,a<b→b<i→L.getD a 0≤L.getD b 0
structure SwI (l L:List Int) (i k:Nat):Prop where
 p:L.Perm l
 a:∀ a b,a<b→b≤i→a≠k→b≠k→L.getD a 0≤L.getD b 0
 b:∀ b,k<b→b≤i→L.getD k 0<L.getD b 0
theorem SwO.start (l:List Int):SwO l l 1:=⟨List.Perm.refl _,fun a b h k=>by omega⟩
theorem SwO.open {l L:List Int} {i:Nat} (h:SwO l L i):SwI l L i i:=⟨h.p,fun a b h1 h2 _ h4=>h.a a b h1 (by omega),fun b h1 h2=>by omega⟩
theorem SwI.shut {l L:List Int} {i k:Nat} (h:SwI l L i k) (hk:k≤i) (hc:0<k→L.getD (k - 1) 0≤L.getD k 0):SwO l L (i+1):=⟨h.p,fun a b h1 h2=>by
 by_cases ea:a=k
 · subst ea;exact Int.le_of_lt (h.b b h1 (by omega))
 · by_cases eb:b=k
   · subst eb
     have h3:=hc (by omega)
     by_cases e:a=b - 1
     · subst e;exact h3
     · exact Int.le_trans (h.a a (b - 1) (by omega) (by omega) ea (by omega)) h3
   · exact h.a a b h1 (by omega) ea eb⟩
theorem swap_at {L:List Int} {k m:Nat} (h0:0<k) (hk:k<L.length):((L.set k (L.getD (k - 1) 0)).set (k - 1) (L.getD k 0)).getD m 0=if m=k - 1 then L.getD k 0 else if m=k then L.getD (k - 1) 0 else L.getD m 0:=by
 rw [getD_set (by rw [List.length_set];omega),getD_set hk]
 by_cases e1:k - 1=m
 · rw [if_pos e1,if_pos e1.symm]
 · rw [if_neg e1,if_neg (fun e:m=k - 1=>e1 e.symm)]
   by_cases e2:k=m
   · rw [if_pos e2,if_pos e2.symm]
   · rw [if_neg e2,if_neg (fun e:m=k=>e2 e.symm)]
theorem swap_perm {L:List Int} {k:Nat} (h0:0<k) (hk:k<L.length):((L.set k (L.getD (k - 1) 0)).set (k - 1) (L.getD k 0)).Perm L:=by
 rw [getD_ok 0 hk,getD_ok 0 (show k - 1<L.length by omega)]
 exact List.set_set_perm hk (by omega)
theorem SwI.swap {l L:List Int} {i k:Nat} (h:SwI l L i k) (h0:0<k) (hi:k≤i) (hl:i<L.length) (hc:L.getD k 0<L.getD (k - 1) 0):SwI l ((L.set k (L.getD (k - 1) 0)).set (k - 1) (L.getD k 0)) i (k - 1):=by
 have hs:=fun m=>swap_at (L:=L) (k:=k) (m:=m) h0 (by omega)
 refine ⟨(swap_perm h0 (by omega)).trans h.p,fun a b h1 h2 h3 h4=>?_,fun b h1 h2=>?_⟩
 · rw [hs a,hs b,if_neg h3,if_neg h4]
   by_cases ea:a=k
   · rw [if_pos ea,if_neg (by omega)]
     exact h.a (k - 1) b (by omega) h2 (by omega) (by omega)
   · rw [if_neg ea]
     by_cases eb:b=k
     · rw [if_pos eb]
       exact h.a a (k - 1) (by omega) (by omega) ea (by omega)
     · rw [if_neg eb]
       exact h.a a b h1 h2 ea eb
 · rw [hs (k - 1),hs b,if_pos rfl,if_neg (by omega)]
   by_cases eb:b=k
   · rw [if_pos eb];exact hc
   · rw [if_neg eb];exact h.b b (by omega) h2
theorem SwO.done {l L:List Int} {i:Nat} (h:SwO l L i) (hi:L.length≤i):L=sortI l:=sortI_uniq h.p (List.pairwise_iff_getElem.2 fun a b ha hb hab=>by
 have:=h.a a b hab (by omega)
 rwa [getD_ok 0 ha,getD_ok 0 hb] at this)
end Go.Gv
