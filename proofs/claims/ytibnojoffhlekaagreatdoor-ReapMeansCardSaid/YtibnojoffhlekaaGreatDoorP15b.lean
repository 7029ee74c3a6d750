/- Chapter 15: the texts of powers tell them apart. -/
import Derived.Test.YtibnojoffhlekaaGreatDoorGg
import Derived.Test.YtibnojoffhlekaaGreatDoorC15g
import Derived.Test.YtibnojoffhlekaaGreatDoorP15
set_option linter.all false
namespace Go.Gv
open Go
theorem flat_inj {s:UInt8}:∀ {xs ys:List (List UInt8)},(∀ x∈xs,s ∉ x)→(∀ y∈ys,s ∉ y)→xs.flatMap (fun x=>x++[s])=ys.flatMap (fun x=>x++[s])→xs=ys
 |[],[],_,_,_=>rfl
 |[],y::ys,_,_,h=>by simp at h
 |x::xs,[],_,_,h=>by simp at h
 |x::xs,y::ys,hx,hy,h=>by
  simp only [List.flatMap_cons,List.append_assoc,List.singleton_append] at h
  obtain ⟨e1,e2⟩:=split_sep (hx x (by simp)) (hy y (by simp)) h
  rw [e1,flat_inj (fun z hz=>hx z (by simp [hz])) (fun z hz=>hy z (by simp [hz])) e2]
theorem tail_flat (s:UInt8):∀ (r:List (List UInt8)),Lib.joinTail [s] r++[s]=[s]++r.flatMap (fun x=>x++[s])
 |[]=>by simp [Lib.joinTail]
 |y::r=>by
  have ih:=tail_flat s r
  simp only [Lib.joinTail,List.map_cons,List.flatten_cons,List.append_assoc,List.flatMap_cons,List.singleton_append] at ih ⊢
  rw [ih];rfl
theorem join_flat (s:UInt8):∀ {xs:List (List UInt8)},xs≠[]→Lib.join xs [s]++[s]=xs.flatMap (fun x=>x++[s])
 |[],h=>(h rfl).elim
 |x::r,_=>by
  rw [Lib.join_cons,List.flatMap_cons,List.append_assoc,List.append_assoc,tail_flat]
theorem itemX_no {x:Pw}:(42:UInt8) ∉ itemX x:=by
 intro h
 unfold itemX at h
 have hi:=fun (n:Int) (h:(42:UInt8)∈Lib.itoa n)=>(itoa_not h).2.2.1 rfl
 rcases List.mem_append.1 h with h|h
 · rcases List.mem_append.1 h with h|h
   · simp at h
   · exact hi _ h
 · split at h
   · simp at h
   · rcases List.mem_append.1 h with h|h
     · simp at h
     · exact hi _ h
theorem itemX_inj {x y:Pw} (h:itemX x=itemX y):x=y:=by
 obtain ⟨a,b,⟨⟩⟩:=x
 obtain ⟨c,d,⟨⟩⟩:=y
 have hi:=fun (n:Int) (h:(94:UInt8)∈Lib.itoa n)=>(itoa_not h).2.2.2.1 rfl
 unfold itemX at h
 dsimp only at h
 rw [List.append_assoc,List.append_assoc] at h
 have h:=List.append_cancel_left h
 by_cases hb:b=1<;>by_cases hd:d=1
 · rw [if_pos hb,if_pos hd,List.append_nil,List.append_nil] at h
   rw [itoa_inj h,hb,hd]
 · rw [if_pos hb,if_neg hd,List.append_nil] at h
   exact (hi a (by rw [h];simp)).elim
 · rw [if_neg hb,if_pos hd,List.append_nil] at h
   exact (hi c (by rw [← h];simp)).elim
 · rw [if_neg hb,if_neg hd] at h
   obtain ⟨e1,e2⟩:=split_sep (s:=94) (hi a) (hi c) h
   rw [itoa_inj e1,itoa_inj e2]
theorem facT_inj {a b:List Pw} (h:facT a=facT b):a=b:=by
 by_cases ha:a=[]
 · subst ha;exact (facT_nil.1 h.symm).symm
 · by_cases hb:b=[]
   · subst hb;exact facT_nil.1 h
   · have h2:Lib.join (a.map itemX) [42]++[42]=Lib.join (b.map itemX) [42]++[42]:=congrArg (·++[42]) h
     rw [join_flat 42 (by simpa using ha),join_flat 42 (by simpa using hb)] at h2
     have h3:=flat_inj (fun x hx=>by obtain ⟨y,_,rfl⟩:=List.mem_map.1 hx;exact itemX_no) (fun x hx=>by obtain ⟨y,_,rfl⟩:=List.mem_map.1 hx;exact itemX_no) h2
     exact (List.map_inj_right (fun x y=>itemX_inj)).1 h3
end Go.Gv
