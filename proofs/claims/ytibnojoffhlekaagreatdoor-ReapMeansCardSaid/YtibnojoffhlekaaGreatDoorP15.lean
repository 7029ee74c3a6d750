/- Chapter 15: the order of powers is a total order. -/
import Derived.Test.YtibnojoffhlekaaGreatDoorC15
set_option linter.all false
namespace Go.Gv
open Go
theorem ltPw_irr (x:Pw):¬ ltPw x x:=by unfold ltPw;omega
theorem ltPw_trans {x y z:Pw} (h:ltPw x y) (k:ltPw y z):ltPw x z:=by unfold ltPw at *;omega
theorem ltPw_tri (x y:Pw):ltPw x y∨x=y∨ltPw y x:=by
 obtain ⟨x1,x2,⟨⟩⟩:=x
 obtain ⟨y1,y2,⟨⟩⟩:=y
 unfold ltPw
 simp only [Prod.mk.injEq,and_true]
 omega
theorem cmp1_lt {x y:Pw}:cmp1 x y<0↔ltPw x y:=by
 unfold cmp1
 split
 · simp [*]
 · split
   · rename_i e;subst e;simp [ltPw_irr]
   · simp [*]
theorem cmp1_gt {x y:Pw}:0<cmp1 x y↔ltPw y x:=by
 unfold cmp1
 split
 · rename_i h
   simp only [Int.reduceNeg,Int.reduceLT,false_iff]
   exact fun k=>ltPw_irr _ (ltPw_trans h k)
 · rename_i h
   split
   · rename_i e;subst e;simp [ltPw_irr]
   · rename_i e
     rcases ltPw_tri x y with h1|h1|h1
     · exact (h h1).elim
     · exact (e h1).elim
     · simp [h1]
theorem cmpP_eq:∀ {a b:List Pw},cmpP a b=0↔a=b
 |[],[]=>by simp [cmpP]
 |[],_::_=>by simp [cmpP]
 |_::_,[]=>by simp [cmpP]
 |x::a,y::b=>by
  unfold cmpP
  split
  · rename_i h
    rw [cmpP_eq,cmp1_eq.1 h];simp
  · rename_i h
    constructor
    · intro e;exact (h e).elim
    · intro e
      injection e with e1 e2
      exact (h (cmp1_eq.2 e1)).elim
theorem cmpP_swap:∀ {a b:List Pw},0<cmpP a b↔cmpP b a<0
 |[],[]=>by simp [cmpP]
 |[],_::_=>by simp [cmpP]
 |_::_,[]=>by simp [cmpP]
 |x::a,y::b=>by
  unfold cmpP
  by_cases h:x=y
  · subst h
    rw [if_pos (cmp1_eq.2 rfl),if_pos (cmp1_eq.2 rfl)]
    exact cmpP_swap
  · rw [if_neg (fun e=>h (cmp1_eq.1 e)),if_neg (fun e=>h (cmp1_eq.1 e).symm),cmp1_gt,cmp1_lt]
theorem cmpP_trans:∀ {a b c:List Pw},cmpP a b<0→cmpP b c<0→cmpP a c<0
 |[],[],_,h,_=>by simp [cmpP] at h
 |[],_::_,[],_,k=>by simp [cmpP] at k
 |[],_::_,_::_,_,_=>by simp [cmpP]
 |_::_,[],_,h,_=>by simp [cmpP] at h
 |_::_,_::_,[],_,k=>by simp [cmpP] at k
 |x::a,y::b,z::c,h,k=>by
  unfold cmpP at h k ⊢
  by_cases e1:x=y
  · subst e1
    rw [if_pos (cmp1_eq.2 rfl)] at h
    by_cases e2:x=z
    · subst e2
      rw [if_pos (cmp1_eq.2 rfl)] at k ⊢
      exact cmpP_trans h k
    · rw [if_neg (fun e=>e2 (cmp1_eq.1 e))] at k ⊢
      exact k
  · rw [if_neg (fun e=>e1 (cmp1_eq.1 e)),cmp1_lt] at h
    by_cases e2:y=z
    · subst e2
      rw [if_neg (fun e=>e1 (cmp1_eq.1 e)),cmp1_lt]
      exact h
    · rw [if_neg (fun e=>e2 (cmp1_eq.1 e)),cmp1_lt] at k
      have hx:=ltPw_trans h k
      have hne:x≠z:=fun e=>by subst e;exact ltPw_irr _ hx
      rw [if_neg (fun e=>hne (cmp1_eq.1 e)),cmp1_lt]
      exact hx
end Go.Gv
