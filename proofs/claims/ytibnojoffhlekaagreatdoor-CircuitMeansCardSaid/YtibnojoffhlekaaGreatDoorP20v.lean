/- The plain law of polynomials: values. -/
import Derived.Test.YtibnojoffhlekaaGreatDoorP19
import Derived.Test.YtibnojoffhlekaaGreatDoorC15c
set_option linter.all false
namespace Go.Gv
open Go Go.Proofs Go.Proofs.YtibnojoffhlekaaGreatDoor
set_option maxRecDepth 100000
set_option maxHeartbeats 4000000
def valA (vs:List Int):List Pw→Int
 |[]=>1
 |x::l=>(vs.getD x.1.toNat 0) ^ x.2.1.toNat * valA vs l
theorem sat_mul {x v:Int} (hx:0≤x) (hv:0≤v):min (min x 1000000001 * v) 1000000001=min (x * v) 1000000001:=by
 rcases Int.le_total x 1000000001 with h|h
 · rw [Int.min_eq_left h]
 · rw [Int.min_eq_right h]
   rcases Int.lt_or_eq_of_le hv with h0|h0
   · have h1:1000000001 * 1≤1000000001 * v:=Int.mul_le_mul_of_nonneg_left (by omega) (by decide)
     have h2:1000000001 * v≤x * v:=Int.mul_le_mul_of_nonneg_right h hv
     omega
   · rw [← h0];simp
theorem pow_nn {v:Int} (hv:0≤v):∀ n:Nat,0≤v ^ n
 |0=>by simp
 |n+1=>by rw [Int.pow_succ];exact Int.mul_nonneg (pow_nn hv n) hv
theorem valA_nn {vs:List Int} (h:∀ k,0≤vs.getD k 0):∀ l,0≤valA vs l
 |[]=>by simp [valA]
 |x::l=>Int.mul_nonneg (pow_nn (h _) _) (valA_nn h l)
theorem powS_eq {c v:Int} (hc:0≤c) (hb:c≤1000000001) (hv:0≤v):∀ n:Nat,powS c v n=min (c * v ^ n) 1000000001
 |0=>by simp only [powS,Int.pow_zero,Int.mul_one];omega
 |n+1=>by
  have h1:0≤c * v ^ n:=Int.mul_nonneg hc (pow_nn hv n)
  rw [powS,powS_eq hc hb hv n,sat_mul h1 hv,Int.pow_succ,Int.mul_assoc]
theorem prodS_eq {vs:List Int} (h:∀ k,0≤vs.getD k 0):∀ {l:List Pw} {c:Int},0≤c→c≤1000000001→prodS vs c l=min (c * valA vs l) 1000000001
 |[],c,hc,hb=>by simp only [prodS,valA,Int.mul_one];omega
 |x::l,c,hc,hb=>by
  have h1:0≤c * (vs.getD x.1.toNat 0) ^ x.2.1.toNat:=Int.mul_nonneg hc (pow_nn (h _) _)
  have h2:=powS_rg hc hb (h x.1.toNat) x.2.1.toNat
  rw [prodS,prodS_eq h h2.1 h2.2,powS_eq hc hb (h _),sat_mul h1 (valA_nn h l),valA,Int.mul_assoc]
theorem sumS_eq {vs:List Int} (h:∀ k,0≤vs.getD k 0):∀ {p:List Mo} {s:Int},(∀ m∈p,coM m)→0≤s→p.foldl (fun s m=>min (s+prodS vs m.1 m.2.1) 1000000001) (min s 1000000001)=min (s+lin (valA vs) p) 1000000001
 |[],s,_,_=>by simp [lin]
 |m::p,s,hp,hs=>by
  have hm:=hp m List.mem_cons_self
  unfold coM at hm
  have h1:0≤m.1 * valA vs m.2.1:=Int.mul_nonneg hm.1 (valA_nn h _)
  rw [List.foldl_cons,prodS_eq h hm.1 hm.2,show min (min s 1000000001+min (m.1 * valA vs m.2.1) 1000000001) 1000000001=min (s+m.1 * valA vs m.2.1) 1000000001 by omega,sumS_eq h (fun x hx=>hp x (List.mem_cons_of_mem _ hx)) (by omega)]
  simp only [lin]
  congr 1;omega
theorem sumS_lin {vs:List Int} (h:∀ k,0≤vs.getD k 0) {p:List Mo} (hp:∀ m∈p,coM m):sumS vs p=min (lin (valA vs) p) 1000000001:=by
 have:=sumS_eq h hp (s:=0) (Int.le_refl 0)
 rw [Int.zero_add] at this
 exact this
theorem vs_get {vs:List Int} (h:vsOK vs) (k:Nat):0≤vs.getD k 0:=by
 by_cases hk:k<vs.length
 · exact (h _ (getD_mem hk)).1
 · rw [List.getD_eq_getElem?_getD,List.getElem?_eq_none (by omega)];decide
theorem valA_mul {vs:List Int} {a b:List Pw} (ha:∀ x∈a,0≤x.2.1) (hb:∀ x∈b,0≤x.2.1):valA vs (mulP a b)=valA vs a * valA vs b:=by
 fun_induction mulP a b with
 |case1 b=>simp [valA]
 |case2 x a=>simp [valA]
 |case3 u a v b hc ih=>
  simp only [valA,ih (fun x hx=>ha x (List.mem_cons_of_mem _ hx)) hb,Int.mul_assoc]
 |case4 u a v b hc hc2 ih=>
  simp only [valA,ih ha (fun x hx=>hb x (List.mem_cons_of_mem _ hx))]
  rw [Int.mul_left_comm]
 |case5 u a v b hc hc2 ih=>
  have huv:u.1=v.1:=Int.le_antisymm (Int.not_lt.1 hc2) (Int.not_lt.1 hc)
  have h1:=ha u List.mem_cons_self
  have h2:=hb v List.mem_cons_self
  simp only [valA,ih (fun x hx=>ha x (List.mem_cons_of_mem _ hx)) (fun x hx=>hb x (List.mem_cons_of_mem _ hx))]
  rw [show (u.2.1+v.2.1).toNat=u.2.1.toNat+v.2.1.toNat by omega,Int.pow_add,huv]
  simp only [Int.mul_assoc]
  congr 1
  rw [Int.mul_left_comm]
theorem exp_valid {p:List Mo} (h:ValidP p) {m:Mo} (hm:m∈p):∀ x∈m.2.1,0≤x.2.1:=fun x hx=>by have:=okP_mem (valid_mem h hm).2.2 hx;omega
theorem val_add {vs:List Int} {p q:List Mo} (hp:ValidP p) (hq:ValidP q) (ha:ValidP (addL p q)):lin (valA vs) (addL p q)=lin (valA vs) p+lin (valA vs) q:=vadd_lin hp hq ha
theorem val_mul {vs:List Int} {p q:List Mo} (hp:ValidP p) (hq:ValidP q) (hc:ValidP (addL [] (prods p q))):lin (valA vs) (addL [] (prods p q))=lin (valA vs) p * lin (valA vs) q:=by
 rw [vmul_lin hp hq hc,← lin_mul]
 refine lin_congr fun m hm=>?_
 rw [Int.mul_comm,← lin_mul]
 refine lin_congr fun n hn=>?_
 rw [valA_mul (exp_valid hp hm) (exp_valid hq hn),Int.mul_comm]
def varsIn (vs:List Int) (p:List Mo):Prop:=∀ m∈p,∀ x∈m.2.1,x.1<vs.length
theorem ev_ok {p:List Mo} {vs:List Int} (h:evE p vs=0):evOK p vs∧evV p vs=lin (valA vs) p∧lin (valA vs) p≤1000000000:=by
 by_cases ho:evOK p vs
 · have h1:=ev_yes ho
   have h2:=sumS_lin (vs_get ho.2.1) (co_valid ho.1)
   rw [h1.2] at h
   split at h
   · cases h
   · rename_i hn
     rw [h1.1,if_neg hn]
     rw [h2] at hn ⊢
     exact ⟨ho,by omega,by omega⟩
 · rw [(ev_no ho).2] at h;cases h
end Go.Gv
