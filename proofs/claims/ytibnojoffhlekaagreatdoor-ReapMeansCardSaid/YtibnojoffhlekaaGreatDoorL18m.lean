/- Chapter 18: what is kept of a circuit is a circuit of which all is kept: no program in sight. -/
import Derived.Test.YtibnojoffhlekaaGreatDoorL18k
set_option linter.all false
namespace Go.Gv
open Go Go.Proofs Go.Proofs.YtibnojoffhlekaaGreatDoor
set_option maxRecDepth 100000
set_option maxHeartbeats 4000000
theorem rank_mono {ks:List Bool} {a b:Nat} (h:a≤b):rank ks a≤rank ks b:=by
 unfold rank
 have:ks.take a=(ks.take b).take a:=by rw [List.take_take,Nat.min_eq_left h]
 rw [this]
 exact List.Sublist.countP_le (List.take_sublist _ _)
theorem rank_lt {ks:List Bool} {a b:Nat} (h:a<b) (ha:a<ks.length) (hk:ks.getD a false=true):rank ks a<rank ks b:=by
 have h1:=rank_mono (ks:=ks) (show a+1≤b from h)
 rw [rank_succ ha,if_pos hk] at h1
 omega
theorem rank_inj {ks:List Bool} {a b:Nat} (ha:a<ks.length) (hb:b<ks.length) (ka:ks.getD a false=true) (kb:ks.getD b false=true) (h:rank ks a=rank ks b):a=b:=by
 rcases Nat.lt_trichotomy a b with h1|h1|h1
 · have:=rank_lt h1 ha ka;omega
 · exact h1
 · have:=rank_lt h1 hb kb;omega
theorem rank_pos {ks:List Bool} {i:Nat}:∀ (m:Nat),m≤ks.length→i<rank ks m→∃ k,k<m∧ks.getD k false=true∧rank ks k=i
 |0,_,h=>by simp [rank] at h
 |m+1,hm,h=>by
  rw [rank_succ (by omega)] at h
  by_cases hi:i<rank ks m
  · obtain ⟨k,h1,h2,h3⟩:=rank_pos m (by omega) hi
    exact ⟨k,by omega,h2,h3⟩
  · by_cases hk:ks.getD m false=true
    · rw [if_pos hk] at h
      exact ⟨m,by omega,hk,by omega⟩
    · rw [if_neg hk] at h;omega
theorem pick_get {gs:List Gate} {ks:List Bool} {f:Int→Int}:∀ (m:Nat),m≤ks.length→∀ k,k<m→ks.getD k false=true→(pickG gs ks f m).getD (rank ks k) ((0,0,[],()):Gate)=mapG f (gs.getD k ((0,0,[],()):Gate))
 |0,_,k,h,_=>by omega
 |m+1,hm,k,h,hk=>by
  have hl:=pickG_len gs ks f m (by omega)
  unfold pickG
  by_cases e:k=m
  · subst e
    rw [if_pos hk,List.getD_eq_getElem?_getD,List.getElem?_append_right (by omega),hl,Nat.sub_self]
    rfl
  · have hr:=rank_lt (ks:=ks) (show k<m by omega) (by omega) hk
    have ih:=pick_get (gs:=gs) (f:=f) m (by omega) k (by omega) hk
    split
    · rw [List.getD_eq_getElem?_getD,List.getElem?_append_left (by omega),← List.getD_eq_getElem?_getD];exact ih
    · exact ih
theorem map_inj_on {f:Int→Int}:∀ {l l':List Int},(∀ a∈l,∀ b∈l',f a=f b→a=b)→l.map f=l'.map f→l=l'
 |[],[],_,_=>rfl
 |[],_::_,_,h=>by simp at h
 |_::_,[],_,h=>by simp at h
 |a::l,b::l',hi,h=>by
  simp only [List.map_cons,List.cons.injEq] at h
  rw [hi a List.mem_cons_self b List.mem_cons_self h.1,map_inj_on (fun x hx y hy=>hi x (List.mem_cons_of_mem _ hx) y (List.mem_cons_of_mem _ hy)) h.2]
theorem keep_at {gs:List Gate} {R:List Int} {k:Nat} (hk:k<gs.length) (hr:Reach gs R k):(keepG gs R).getD (rank (keptL gs R) k) ((0,0,[],()):Gate)=mapG (fun j:Int=>((rank (keptL gs R) j.toNat:Nat):Int)) (gs.getD k ((0,0,[],()):Gate))∧rank (keptL gs R) k<(keepG gs R).length:=by
 have hl:=keptL_len gs R
 have h1:=(keptL_get hk).2 hr
 refine ⟨pick_get gs.length (by rw [hl];exact Nat.le_refl _) k hk h1,?_⟩
 unfold keepG
 rw [pickG_len _ _ _ _ (by rw [hl];exact Nat.le_refl _)]
 exact rank_lt hk (by omega) h1
theorem keep_pos {gs:List Gate} {R:List Int} {i:Nat} (hi:i<(keepG gs R).length):∃ k,k<gs.length∧Reach gs R k∧rank (keptL gs R) k=i∧(keepG gs R).getD i ((0,0,[],()):Gate)=mapG (fun j:Int=>((rank (keptL gs R) j.toNat:Nat):Int)) (gs.getD k ((0,0,[],()):Gate)):=by
 have hl:=keptL_len gs R
 unfold keepG at hi
 rw [pickG_len _ _ _ _ (by rw [hl];exact Nat.le_refl _)] at hi
 obtain ⟨k,h1,h2,h3⟩:=rank_pos gs.length (by rw [hl];exact Nat.le_refl _) hi
 have hr:=(keptL_get h1).1 h2
 refine ⟨k,h1,hr,h3,?_⟩
 rw [← h3]
 exact (keep_at h1 hr).1
theorem keep_kind {gs:List Gate} {R:List Int} {k:Nat} (hk:k<gs.length) (hr:Reach gs R k):kindAt (keepG gs R) ((rank (keptL gs R) k:Nat):Int)=kindAt gs (k:Int):=by
 unfold kindAt
 rw [Int.toNat_natCast,Int.toNat_natCast,(keep_at hk hr).1]
 rfl
theorem map_getD {f:Int→Int} {l:List Int} {j:Nat} (h:j<l.length):(l.map f).getD j 0=f (l.getD j 0):=by
 rw [getD_ok 0 (by simpa using h),getD_ok 0 h,List.getElem_map]
theorem keep_valid {gs:List Gate} {R:List Int} (hV:ValidC gs):ValidC (keepG gs R):=by
 have hl:=keptL_len gs R
 refine ⟨?_,fun i hi=>?_⟩
 · have h1:=keepG_len gs R
   have h2:=cntK_le gs R
   have h3:=hV.1
   omega
 obtain ⟨k,hk,hr,rfl,e⟩:=keep_pos hi
 rw [e]
 obtain ⟨h1,h2,h3,h4⟩:=hV.2 k hk
 have hkid:∀ j∈(gs.getD k ((0,0,[],()):Gate)).2.2.1,0≤j∧j<k∧Reach gs R j.toNat:=fun j hj=>⟨(kid_lt hV hk hj).1,(kid_lt hV hk hj).2, .kid hr hk hj⟩
 have hkk:∀ j∈(gs.getD k ((0,0,[],()):Gate)).2.2.1,(rank (keptL gs R) j.toNat:Int)<rank (keptL gs R) k:=fun j hj=>by
  obtain ⟨a,b,c⟩:=hkid j hj
  have:=rank_lt (ks:=(keptL gs R)) (show j.toNat<k by omega) (by omega) ((keptL_get (by omega)).2 c)
  omega
 refine ⟨⟨fun j hj=>?_,?_⟩,fun hin=>?_,fun j hj=>?_,fun i' hi' he=>?_⟩
 · obtain ⟨x,hx,rfl⟩:=List.mem_map.1 hj
   exact ⟨by omega,hkk x hx⟩
 · unfold mapG
   rcases h1.2 with h|h|h
   · exact .inl ⟨h.1,by rw [h.2.1];rfl,h.2.2⟩
   · exact .inr (.inl ⟨h.1,by rw [h.2.1];rfl,h.2.2⟩)
   · exact .inr (.inr h)
 · unfold mapG
   simpa using h2 hin
 · have hj:j<(gs.getD k ((0,0,[],()):Gate)).2.2.1.length:=by unfold mapG at hj;simpa using hj
   obtain ⟨k1,k2,k3⟩:=h3 j hj
   have hm:=getD_mem (d:=0) hj
   obtain ⟨a,b,c⟩:=hkid _ hm
   have hkd:=keep_kind (show ((gs.getD k ((0,0,[],()):Gate)).2.2.1.getD j 0).toNat<gs.length by omega) c
   rw [show ((((gs.getD k ((0,0,[],()):Gate)).2.2.1.getD j 0).toNat:Nat):Int)=(gs.getD k ((0,0,[],()):Gate)).2.2.1.getD j 0 by omega] at hkd
   refine ⟨fun h0=>?_,?_,?_⟩
   · unfold mapG
     dsimp only
     rw [map_getD hj,map_getD (by omega)]
     have:=k1 h0
     have:=rank_mono (ks:=(keptL gs R)) (show ((gs.getD k ((0,0,[],()):Gate)).2.2.1.getD (j - 1) 0).toNat≤((gs.getD k ((0,0,[],()):Gate)).2.2.1.getD j 0).toNat by omega)
     omega
   · unfold mapG
     dsimp only
     rw [map_getD hj,hkd]
     exact k2
   · unfold mapG
     dsimp only
     rw [map_getD hj,hkd]
     exact k3
 · obtain ⟨k',hk',hr',rfl,e'⟩:=keep_pos (i:=i') (Nat.lt_trans hi' hi)
   rw [e'] at he
   have hlt:k'<k:=by
    rcases Nat.lt_or_ge k' k with h|h
    · exact h
    · have:=rank_mono (ks:=(keptL gs R)) h;omega
   refine h4 k' hlt ?_
   unfold mapG at he
   simp only [Prod.mk.injEq,and_true] at he
   obtain ⟨e1,e2,e3⟩:=he
   have e4:=map_inj_on (fun a ha b hb hab=>by
    have ha':=kid_lt hV hk' ha
    have ra:Reach gs R a.toNat:= .kid hr' hk' ha
    obtain ⟨b1,b2,b3⟩:=hkid b hb
    have:=rank_inj (ks:=(keptL gs R)) (show a.toNat<((keptL gs R)).length by omega) (show b.toNat<((keptL gs R)).length by omega) ((keptL_get (by omega)).2 ra) ((keptL_get (by omega)).2 b3) (by omega)
    omega) e3
   show gs.getD k' ((0,0,[],()):Gate)=gs.getD k ((0,0,[],()):Gate)
   revert e1 e2 e4
   generalize gs.getD k' ((0,0,[],()):Gate)=x
   generalize gs.getD k ((0,0,[],()):Gate)=y
   obtain ⟨x1,x2,x3,⟨⟩⟩:=x
   obtain ⟨y1,y2,y3,⟨⟩⟩:=y
   rintro rfl rfl rfl
   rfl
end Go.Gv
