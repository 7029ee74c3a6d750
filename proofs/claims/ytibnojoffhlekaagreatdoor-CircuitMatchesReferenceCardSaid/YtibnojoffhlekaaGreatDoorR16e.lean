/- Chapter 16: the reference: Poly. -/
import Derived.Test.YtibnojoffhlekaaGreatDoorR16d
import Derived.Test.YtibnojoffhlekaaGreatDoorC15k
set_option linter.all false
namespace Go.Gv
open Go Go.Proofs Go.Proofs.YtibnojoffhlekaaGreatDoor
set_option maxRecDepth 100000
set_option maxHeartbeats 4000000
theorem KD_succ (g:Gate) (t:Nat):KD g t=g.2.2.1.getD (t+1) 0:=by
 rw [KD_eq,List.getD_eq_getElem?_getD,List.getD_eq_getElem?_getD,List.getElem?_drop,Nat.add_comm]
theorem KL_of (g:Gate) (t:Nat):t<KL g↔t+1<g.2.2.1.length:=by
 rw [KL_eq,List.length_drop];omega
structure PolJ (gs:List Gate) (all all':List (List Mo)) (k:Nat) (idx e:Int) (j:Nat):Prop where
 ix:idx=(j:Int)
 le:j≤((List.getD gs k ((0,0,[],()):Gate))).2.2.1.length
 ln:all'.length=all.length
 st:(j=0∧all'=all∧e=0)∨∃ t,j=t+1∧((e=0∧EvK srP (fun _=>True) all ((List.getD gs k ((0,0,[],()):Gate))) k t all')∨(¬ e=0∧gateS srP all ((List.getD gs k ((0,0,[],()):Gate)))=([],e)))
theorem PolJ.start {gs:List Gate} {all:List (List Mo)} {k:Nat}:PolJ gs all all k 0 0 0:=⟨rfl,Nat.zero_le _,rfl, .inl ⟨rfl,rfl,rfl⟩⟩
theorem PolJ.first {gs:List Gate} {all all':List (List Mo)} {k j:Nat} {e:Int} (h:PolJ gs all all' k (j:Int) e j) (hj:(j:Int)<(((List.getD gs k ((0,0,[],()):Gate))).2.2.1.length:Int)∧e=0) (h0:(j:Int)=0) (hk:k<all.length) (hi:inner ((List.getD gs k ((0,0,[],()):Gate))).1) (h2:2≤((List.getD gs k ((0,0,[],()):Gate))).2.2.1.length):PolJ gs all (all'.set k (all'.getD (((List.getD gs k ((0,0,[],()):Gate))).2.2.1.getD 0 0).toNat [])) k ((j:Int)+1) e (j+1):=by
 refine ⟨rfl,Int.ofNat_lt.1 hj.1,by rw [List.length_set];exact h.ln, .inr ⟨j,rfl, .inl ⟨hj.2,?_⟩⟩⟩
 have hj0:j=0:=by omega
 subst hj0
 rcases h.st with ⟨_,h1,_⟩|⟨t,h1,_⟩
 · rw [h1]
   exact EvK.start hk (fun _=>trivial) hi h2
 · omega
theorem PolJ.next {gs:List Gate} {all all':List (List Mo)} {k j:Nat} {e:Int} (h:PolJ gs all all' k (j:Int) e j) (hV:ValidC gs) (hkl:k<gs.length) (hj:(j:Int)<(((List.getD gs k ((0,0,[],()):Gate))).2.2.1.length:Int)∧e=0) (h0:¬ (j:Int)=0) (hk:k<all.length) {v:List Mo} {e':Int} (hv:srP.op ((List.getD gs k ((0,0,[],()):Gate))) (all'.getD k []) (all'.getD (((List.getD gs k ((0,0,[],()):Gate))).2.2.1.getD j 0).toNat [])=(v,e')):PolJ gs all (all'.set k v) k ((j:Int)+1) e' (j+1):=by
 refine ⟨rfl,Int.ofNat_lt.1 hj.1,by rw [List.length_set];exact h.ln, .inr ⟨j,rfl,?_⟩⟩
 rcases h.st with ⟨h1,_,_⟩|⟨t,h1,h2⟩
 · omega
 · subst h1
   have hK:=(h2.resolve_right fun q=>q.1 hj.2).2
   have ho:KOk gs k all'.length t:=kid_rng hV hkl (by rw [h.ln];exact hk) (by have:=(KL_of ((List.getD gs k ((0,0,[],()):Gate))) t).2 (Int.ofNat_lt.1 hj.1);omega)
   rw [← KD_succ] at hv
   by_cases c:e'=0
   · subst c
     exact .inl ⟨rfl,hK.on hk ho trivial hv⟩
   · have h9:(srP.op ((List.getD gs k ((0,0,[],()):Gate))) (all'.getD k srP.z) (all'.getD (KD ((List.getD gs k ((0,0,[],()):Gate))) t).toNat srP.z)).2=e':=congrArg Prod.snd hv
     have:=hK.off hk ho (by rw [h9];exact c)
     rw [h9] at this
     exact .inr ⟨c,this⟩
theorem PolJ.good {gs:List Gate} {all all':List (List Mo)} {k j:Nat} {e:Int} (h:PolJ gs all all' k (j:Int) e j) (hV:ValidC gs) (hkl:k<gs.length) (he:e=0) (hj:¬ ((j:Int)<(((List.getD gs k ((0,0,[],()):Gate))).2.2.1.length:Int)∧e=0)) (hk:k<all.length) (hz:all.getD k []=[]) (h1:¬ ((List.getD gs k ((0,0,[],()):Gate))).1=1) (h2:¬ ((List.getD gs k ((0,0,[],()):Gate))).1=2):∃ x,all'=all.set k x∧gateS srP all ((List.getD gs k ((0,0,[],()):Gate)))=(x,0):=by
 have hjl:((List.getD gs k ((0,0,[],()):Gate))).2.2.1.length≤j:=Nat.not_lt.1 fun q=>hj ⟨Int.ofNat_lt.2 q,he⟩
 rcases h.st with ⟨q1,q2,_⟩|⟨t,q1,q⟩
 · refine ⟨[],?_,?_⟩
   · rw [q2]
     refine List.ext_getElem (List.length_set).symm fun m m1 m2=>?_
     rw [List.getElem_set]
     by_cases c:k=m
     · rw [if_pos c]
       subst c
       rw [← getD_ok [] m1,hz]
     · rw [if_neg c]
   · have hin:¬ inner ((List.getD gs k ((0,0,[],()):Gate))).1:=fun hi=>by have:=(hV.2 k hkl).2.1 hi;omega
     rw [gateS_leaf hin]
     have h3:=leaf_kind hV hkl hin
     have h0:((List.getD gs k ((0,0,[],()):Gate))).1=0:=by omega
     show leafP ((List.getD gs k ((0,0,[],()):Gate))).1 ((List.getD gs k ((0,0,[],()):Gate))).2.1=([],0)
     rw [h0]
     rfl
 · have hK:=(q.resolve_right fun z=>z.1 he).2
   obtain ⟨x,x1,_,x3⟩:=hK.fin hk (by rw [← KL_eq];have:=(KL_of ((List.getD gs k ((0,0,[],()):Gate))) t);omega)
   exact ⟨x,x1,x3⟩
end Go.Gv
