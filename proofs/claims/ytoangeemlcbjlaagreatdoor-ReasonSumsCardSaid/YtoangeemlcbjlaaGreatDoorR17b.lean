/- Chapter 17: the reference: a gate's reasons, and a circuit's. -/
import Derived.Test.YtoangeemlcbjlaaGreatDoorR17
import Derived.Test.YtoangeemlcbjlaaGreatDoorQ17g
set_option linter.all false
namespace Go.Gv
open Go Go.Proofs Go.Proofs.YtoangeemlcbjlaaGreatDoor
set_option maxRecDepth 100000
set_option maxHeartbeats 4000000
section
variable {T:Type}
structure EvF (S:GE T) (Q:T→Prop) (gs:List Gate) (n k:Nat) (all:List T):Prop where
 le:k≤n+1
 ln:all.length=n+1
 run:runR S gs (n:Int)=runE S gs (reachF gs n k) all
 qs:∀ m,Q (all.getD m S.z)
theorem EvF.start {S:GE T} {Q:T→Prop} {gs:List Gate} {n:Nat} (hz:Q S.z):EvF S Q gs n 0 (List.replicate (n+1) S.z):=by
 refine ⟨Nat.zero_le _,List.length_replicate,?_,fun m=>?_⟩
 · rw [← reachF_zero];rfl
 · rw [List.getD_eq_getElem?_getD,List.getElem?_replicate]
   split<;>exact hz
theorem EvF.step {S:GE T} {Q:T→Prop} {gs:List Gate} {n k:Nat} {all:List T} (h:EvF S Q gs n k all) (hk:k≤n) (hr:Rch gs n k) {v:T} (e:S.G all ((List.getD gs k ((0,0,[],()):Gate)))=(v,0)) (q:Q v):EvF S Q gs n (k+1) (all.set k v):=by
 have hl:=h.ln
 have h1:=h.run
 rw [reachF_hit hk hr] at h1
 have h2:=run_next h1 (by rw [e])
 rw [e] at h2
 exact ⟨by omega,by rw [List.length_set];exact hl,h2,set_q (by omega) h.qs q⟩
theorem EvF.skip {S:GE T} {Q:T→Prop} {gs:List Gate} {n k:Nat} {all:List T} (h:EvF S Q gs n k all) (hk:k≤n) (hr:¬ Rch gs n k):EvF S Q gs n (k+1) all:=⟨by omega,h.ln,by rw [h.run,reachF_miss hk hr],h.qs⟩
theorem EvF.stop {S:GE T} {Q:T→Prop} {gs:List Gate} {n k:Nat} {all:List T} (h:EvF S Q gs n k all) (hg:GoodI gs (n:Int)) (hk:k≤n) (hr:Rch gs n k) (e:¬ (S.G all ((List.getD gs k ((0,0,[],()):Gate)))).2=0):evC S gs (n:Int)=(S.z,(S.G all ((List.getD gs k ((0,0,[],()):Gate)))).2):=by
 have h1:=h.run
 rw [reachF_hit hk hr] at h1
 exact ev_stop hg h1 e
theorem EvF.fin {S:GE T} {Q:T→Prop} {gs:List Gate} {n k:Nat} {all:List T} (h:EvF S Q gs n k all) (hg:GoodI gs (n:Int)) (hk:¬ (k:Int)≤(n:Int)):evC S gs (n:Int)=(all.getD n S.z,0):=by
 have h1:=h.run
 rw [reachF_end (by omega)] at h1
 exact ev_end hg h1
end
@[reducible] def tLs:Ty:= .sl (.sl tIs)
theorem SetOK.big {gs:List Gate} {s:Is} (h:SetOK gs s) (hl:gs.length≤16):s.length≤1000000:=by have:=h.len;omega
theorem mins_canE {gs:List Gate} {l:List Is} (h:BE gs l):Can (mins l):=mins_can h.inc
theorem putV_flat {l:List Is} {s:Is} {gs:List Gate} (hl:BE gs l) (hs:SetOK gs s):putV (mins l) s=mins (l++[s]):=putV_mins hl.inc hs.1
theorem BE.snoc {gs:List Gate} {l:List Is} {s:Is} (hl:BE gs l) (hs:SetOK gs s):BE gs (l++[s]):=fun t ht=>by
 rcases List.mem_append.1 ht with h|h
 · exact hl t h
 · rw [List.mem_singleton.1 h];exact hs
theorem SetOK.union {gs:List Gate} {a b:Is} (h:SetOK gs a) (k:SetOK gs b):SetOK gs (unionL a b):=⟨unionL_inc _ _,fun x hx=>(unionL_mem.1 hx).elim (h.2 x) (k.2 x)⟩
theorem BE.at {gs:List Gate} {l:List Is} (h:BE gs l) {k:Nat} (hk:k<l.length):SetOK gs (l.getD k []):=h _ (getD_mem (d:=([]:Is)) hk)
theorem BE.take {gs:List Gate} {l:List Is} (h:BE gs l) (k:Nat):BE gs (l.take k):=fun s hs=>h s (List.mem_of_mem_take hs)
def flatK (all:List (List Is)) (ks:List Int) (i:Nat):List Is:=((ks.take i).map (atL [] all)).flatten
def timesK (all:List (List Is)) (ks:List Int) (i:Nat):List Is:=timesR ((ks.take i).map (atL [] all))
def pairK (A B:List Is) (k n:Nat):List Is:=pairsU (A.take k) B++(B.take n).map fun b=>unionL (A.getD k []) b
theorem pairK_zero (A B:List Is):pairK A B 0 0=[]:=by simp [pairK,pairsU]
theorem pairK_snoc {A B:List Is} {k n:Nat} (h:n<B.length):pairK A B k (n+1)=pairK A B k n++[unionL (A.getD k []) (B.getD n [])]:=by
 unfold pairK
 rw [List.take_succ_eq_append_getElem h,List.map_append,List.append_assoc,getD_ok [] h];rfl
theorem pairK_next {A B:List Is} {k n:Nat} (hk:k<A.length) (h:B.length≤n):pairK A B k n=pairK A B (k+1) 0:=by
 unfold pairK
 rw [List.take_of_length_le h,List.take_succ_eq_append_getElem hk]
 unfold pairsU
 rw [List.flatMap_append,getD_ok [] hk]
 simp
theorem pairK_full {A B:List Is} {k:Nat} (h:A.length≤k):pairK A B k 0=pairsU A B:=by
 unfold pairK
 rw [List.take_of_length_le h];simp
theorem pairK_be {gs:List Gate} {A B:List Is} (hA:BE gs A) (hB:BE gs B) {k n:Nat} (h:k<A.length∨n=0):BE gs (pairK A B k n):=by
 refine BE.append (BE.pairs (hA.take k) hB) fun s hs=>?_
 obtain ⟨b,hb,rfl⟩:=List.mem_map.1 hs
 rcases h with h|h
 · exact SetOK.union (hA.at h) (hB.take n b hb)
 · subst h;cases hb
structure GPre (gs:List Gate) (g:Gate) (all:List (List Is)):Prop where
 few:gs.length≤16
 kl:g.2.2.1.length≤20
 kids:∀ j∈g.2.2.1,0≤j∧j<(all.length:Int)
 ok:∀ m,BS gs (all.getD m [])
end Go.Gv
