/- Chapter 15: values. -/
import Derived.Test.YtibnojoffhlekaaGreatDoorC15
set_option linter.all false
namespace Go.Gv
open Go Go.Proofs Go.Proofs.YtibnojoffhlekaaGreatDoor
set_option maxRecDepth 100000
set_option maxHeartbeats 4000000
noncomputable def findI {α:Type} (p:α→Bool) (l:List α):Int:=if l.any p=true then (l.findIdx p:Int) else -1
theorem findI_ge {α:Type} {p:α→Bool} {l:List α}:0≤findI p l↔l.any p=true:=by
 unfold findI;split<;>simp_all<;>omega
theorem findI_miss {α:Type} {p:α→Bool} {l:List α} {k:Nat} (h:∀ x∈l.take k,p x=false) (hk:l.length≤k):findI p l= -1:=by
 have:=all_end h hk
 unfold findI
 rw [if_neg]
 rw [List.any_eq_true]
 rintro ⟨x,hx,hp⟩
 rw [this x hx] at hp;cases hp
theorem findI_hit {α:Type} {p:α→Bool} {l:List α} {k:Nat} {d:α} (h:∀ x∈l.take k,p x=false) (hk:k<l.length) (hp:p (List.getD l k d)=true):findI p l=k:=by
 have hm:=getD_mem (d:=d) hk
 unfold findI
 rw [if_pos (List.any_eq_true.2 ⟨_,hm,hp⟩)]
 congr 1
 rw [getD_ok d hk] at hp
 refine (List.findIdx_eq hk).2 ⟨hp,fun j hj=>?_⟩
 refine Bool.eq_false_iff.1 (h _ ?_)|>fun e=>by simpa using e
 rw [List.mem_take_iff_getElem]
 exact ⟨j,by omega,rfl⟩
def powS (c v:Int):Nat→Int
 |0=>c
 |n+1=>min (powS c v n * v) 1000000001
def prodS (vals:List Int):Int→List Pw→Int
 |c,[]=>c
 |c,x::l=>prodS vals (powS c (vals.getD x.1.toNat 0) x.2.1.toNat) l
def sumS (vals:List Int) (p:List Mo):Int:=p.foldl (fun s m=>min (s+prodS vals m.1 m.2.1) 1000000001) 0
def mvAt (vals:List Int) (x:Pw):Prop:=0≤x.1∧x.1<vals.length∧1≤x.2.1∧x.2.1≤100
def mvOK (vals:List Int) (l:List Pw):Prop:=∀ x∈l,mvAt vals x
def vsOK (vals:List Int):Prop:=∀ v∈vals,0≤v∧v≤1000000000
def evOK (p:List Mo) (vals:List Int):Prop:=ValidP p∧vsOK vals∧∀ m∈p,∀ x∈m.2.1,x.1<vals.length
noncomputable def evV (p:List Mo) (vals:List Int):Int:=if boolOf (evOK p vals)=true then (if 1000000000<sumS vals p then 0 else sumS vals p) else 0
noncomputable def evE (p:List Mo) (vals:List Int):Int:=if boolOf (evOK p vals)=true then (if 1000000000<sumS vals p then 2 else 0) else 1
theorem valid_mem {p:List Mo} (h:ValidP p) {m:Mo} (hm:m∈p):1≤m.1∧m.1≤1000000000∧okP m.2.1:=by
 obtain ⟨i,hi,rfl⟩:=List.getElem_of_mem hm
 have:=h.2 i hi
 unfold okM at this
 rw [getD_ok ((0,[],()):Mo) hi] at this
 exact ⟨this.1,this.2.1,this.2.2.2⟩
theorem okP_mem {l:List Pw} (h:okP l) {x:Pw} (hx:x∈l):0≤x.1∧x.1<4000∧1≤x.2.1∧x.2.1≤100:=by
 obtain ⟨i,hi,rfl⟩:=List.getElem_of_mem hx
 have:=h i hi
 unfold okAt at this
 rw [getD_ok ((0,0,()):Pw) hi] at this
 exact ⟨this.1,this.2.1,this.2.2.1,this.2.2.2.1⟩
end Go.Gv
