/- Chapter 15: values. -/
import Derived.Test.YtibnojoffhlekaaGreatDoorC15
set_option linter.all false
namespace Go.Gv
open Go Go.Proofs Go.Proofs.YtibnojoffhlekaaGreatDoor
set_option maxRecDepth 100000
set_option maxHeartbeats 4000000
noncomputable def findI {α:Type} (p:α→Bool) (l:List α):Int:=if l.any p=true then (l.findIdx p:Int) else -1
theorem findI_ge {α:Type} {p:α→Bool} {l:List α}:0≤findI p l↔l.any p=true:=by
 unfold findI;split<;>simp_all<;>omega
theorem findI_miss {α:Type} {p:α→Bool} {l:List α} {k:Nat} (h:∀ x∈l.take k,p x=false) (hk:l.length≤k):findI p l= -1:=by
 have:=all_end h hk
 unfold findI
 rw [if_neg]
 rw [List.any_eq_true]
 rintro ⟨x,hx,hp⟩
 rw [this x hx] at hp;cases hp
theorem findI_hit {α:Type} {p:α→Bool} {l:List α} {k:Nat} {d:α} (h:∀ x∈l.take k,p x=false) (hk:k<l.length) (hp:p (List.getD l k d)=true):findI p l=k:=by
 have hm:=getD_mem (d:=d) hk
 unfold findI
 rw [if_pos (List.any_eq_true.2 ⟨_,hm,hp⟩)]
 congr 1
 rw [getD_ok d hk] at hp
 refine (List.findIdx_eq hk).2 ⟨hp,fun j hj=>?_⟩
 refine Bool.eq_false_iff.1 (h _ ?_)|>fun e=>by simpa using e
 rw [List.mem_take_iff_getElem]
 exact ⟨j,by omega,rfl⟩
def powS (c v:Int):Nat→Int
 |0=>c
 |n+1=>min (powS c v n * v) 1000000001
def prodS (vals:List Int):Int→List Pw→Int
 |c,[]=>c
 |c,x::l=>prodS vals (powS c (vals.getD x.1.toNat 0) x.2.1.toNat) l
def sumS (vals:List Int) (p:List Mo):Int:=p.foldl (fun s m=>min (s+prodS vals m.1 m.2.1) 1000000001) 0
theorem powS_rg {c v:Int} (h0:0≤c) (h1:c≤1000000001) (hv:0≤v):∀ n,0≤powS c v n∧powS c v n≤1000000001
 |0=>⟨h0,h1⟩
 |n+1=>by
  have ih:=powS_rg h0 h1 hv n
  have:=Int.mul_nonneg ih.1 hv
  unfold powS
  omega
theorem powS_zero {v:Int}:∀ n,powS 0 v n=0
 |0=>rfl
 |n+1=>by unfold powS;rw [powS_zero n];omega
theorem powS_at0 {c:Int} {n:Nat} (h:0<n):powS c 0 n=0:=by
 obtain ⟨k,rfl⟩:∃ k,n=k+1:=⟨n - 1,by omega⟩
 unfold powS;omega
theorem prodS_rg {vals:List Int} (hv:∀ v∈vals,0≤v):∀ {l:List Pw} {c:Int},0≤c→c≤1000000001→0≤prodS vals c l∧prodS vals c l≤1000000001
 |[],_,h0,h1=>⟨h0,h1⟩
 |x::l,c,h0,h1=>by
  unfold prodS
  have hx:0≤vals.getD x.1.toNat 0:=by
   rw [List.getD_eq_getElem?_getD]
   cases h:vals[x.1.toNat]? with
   |none=>simp
   |some v=>simpa using hv v (List.mem_of_getElem? h)
  have:=powS_rg h0 h1 hx x.2.1.toNat
  exact prodS_rg hv this.1 this.2
theorem prodS_app {vals:List Int}:∀ {l r:List Pw} {c:Int},prodS vals c (l++r)=prodS vals (prodS vals c l) r
 |[],_,_=>rfl
 |x::l,r,c=>by simp only [List.cons_append,prodS];exact prodS_app
theorem prodS_step {vals:List Int} {l:List Pw} {c:Int} {k:Nat} (h:k<l.length):prodS vals c (l.take (k+1))=powS (prodS vals c (l.take k)) (vals.getD (l.getD k ((0,0,()):Pw)).1.toNat 0) (l.getD k ((0,0,()):Pw)).2.1.toNat:=by
 rw [List.take_succ_eq_append_getElem h,prodS_app,getD_ok _ h];rfl
theorem mul_rg {a b:Int} (h1:0≤a) (h2:a≤1000000001) (h3:0≤b) (h4:b≤1000000000):0≤a * b∧a * b≤1000000001000000000:=
 ⟨Int.mul_nonneg h1 h3,Int.le_trans (Int.mul_le_mul h2 h4 h3 (by omega)) (by decide)⟩
def mvAt (vals:List Int) (x:Pw):Prop:=0≤x.1∧x.1<vals.length∧1≤x.2.1∧x.2.1≤100
def mvOK (vals:List Int) (l:List Pw):Prop:=∀ x∈l,mvAt vals x
def vsOK (vals:List Int):Prop:=∀ v∈vals,0≤v∧v≤1000000000
def evOK (p:List Mo) (vals:List Int):Prop:=ValidP p∧vsOK vals∧∀ m∈p,∀ x∈m.2.1,x.1<vals.length
noncomputable def evV (p:List Mo) (vals:List Int):Int:=if boolOf (evOK p vals)=true then (if 1000000000<sumS vals p then 0 else sumS vals p) else 0
noncomputable def evE (p:List Mo) (vals:List Int):Int:=if boolOf (evOK p vals)=true then (if 1000000000<sumS vals p then 2 else 0) else 1
theorem ev_no {p:List Mo} {vals:List Int} (h:¬ evOK p vals):evV p vals=0∧evE p vals=1:=by
 unfold evV evE;rw [boolOf_false.2 h];exact ⟨rfl,rfl⟩
theorem ev_yes {p:List Mo} {vals:List Int} (h:evOK p vals):evV p vals=(if 1000000000<sumS vals p then 0 else sumS vals p)∧evE p vals=(if 1000000000<sumS vals p then 2 else 0):=by
 unfold evV evE;rw [boolOf_true.2 h];exact ⟨rfl,rfl⟩
theorem sumS_rg {vals:List Int} (hv:∀ v∈vals,0≤v) {p:List Mo} (hp:∀ m∈p,0≤m.1∧m.1≤1000000001):0≤sumS vals p∧sumS vals p≤1000000001:=by
 unfold sumS
 suffices ∀ (l:List Mo) (s:Int),(∀ m∈l,0≤m.1∧m.1≤1000000001)→0≤s→s≤1000000001→0≤l.foldl (fun s m=>min (s+prodS vals m.1 m.2.1) 1000000001) s∧l.foldl (fun s m=>min (s+prodS vals m.1 m.2.1) 1000000001) s≤1000000001 from this p 0 hp (by omega) (by omega)
 intro l
 induction l with
 |nil=>intro s _ h0 h1;exact ⟨h0,h1⟩
 |cons m l ih=>
  intro s hl h0 h1
  have hm:=hl m (by simp)
  have:=prodS_rg hv (l:=m.2.1) hm.1 hm.2
  exact ih (min (s+prodS vals m.1 m.2.1) 1000000001) (fun x hx=>hl x (by simp [hx])) (by omega) (by omega)
theorem sumS_step {vals:List Int} {p:List Mo} {k:Nat} (h:k<p.length):sumS vals (p.take (k+1))=min (sumS vals (p.take k)+prodS vals (p.getD k ((0,[],()):Mo)).1 (p.getD k ((0,[],()):Mo)).2.1) 1000000001:=by
 unfold sumS
 rw [List.take_succ_eq_append_getElem h,List.foldl_append,getD_ok _ h];rfl
theorem valid_mem {p:List Mo} (h:ValidP p) {m:Mo} (hm:m∈p):1≤m.1∧m.1≤1000000000∧okP m.2.1:=by
 obtain ⟨i,hi,rfl⟩:=List.getElem_of_mem hm
 have:=h.2 i hi
 unfold okM at this
 rw [getD_ok ((0,[],()):Mo) hi] at this
 exact ⟨this.1,this.2.1,this.2.2.2⟩
theorem okP_mem {l:List Pw} (h:okP l) {x:Pw} (hx:x∈l):0≤x.1∧x.1<4000∧1≤x.2.1∧x.2.1≤100:=by
 obtain ⟨i,hi,rfl⟩:=List.getElem_of_mem hx
 have:=h i hi
 unfold okAt at this
 rw [getD_ok ((0,0,()):Pw) hi] at this
 exact ⟨this.1,this.2.1,this.2.2.1,this.2.2.2.1⟩
theorem ev_mv {p:List Mo} {vals:List Int} (h:evOK p vals) {m:Mo} (hm:m∈p):0≤m.1∧m.1≤1000000001∧mvOK vals m.2.1∧vsOK vals:=by
 have hv:=valid_mem h.1 hm
 refine ⟨by omega,by omega,fun x hx=>?_,h.2.1⟩
 have:=okP_mem hv.2.2 hx
 exact ⟨this.1,h.2.2 m hm x hx,this.2.2⟩
end Go.Gv
