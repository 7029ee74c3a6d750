/- The plain law of polynomials: sums and products as linear forms. -/
import Derived.Test.YtibnojoffhlekaaGreatDoorP17
set_option linter.all false
namespace Go.Gv
open Go Go.Proofs Go.Proofs.YtibnojoffhlekaaGreatDoor
set_option maxRecDepth 100000
set_option maxHeartbeats 4000000
theorem mulP_comm (a b:List Pw):mulP a b=mulP b a:=by
 fun_induction mulP a b with
 |case1 b=>rw [mulP_nil]
 |case2 x a=>simp [mulP]
 |case3 u a v b hc ih=>rw [mulP_y hc,ih]
 |case4 u a v b hc hc2 ih=>rw [mulP_x hc2,ih]
 |case5 u a v b hc hc2 ih=>
  have huv:u.1=v.1:=Int.le_antisymm (Int.not_lt.1 hc2) (Int.not_lt.1 hc)
  rw [mulP_z huv.symm,ih,huv,Int.add_comm]
theorem mulP_assoc:∀ (n:Nat) (a b c:List Pw),a.length+b.length+c.length≤n→mulP (mulP a b) c=mulP a (mulP b c)
 |n,[],b,c,_=>by simp [mulP]
 |n,x::a,[],c,_=>by simp [mulP]
 |n,x::a,y::b,[],_=>by rw [mulP_nil,mulP_nil]
 |0,x::a,y::b,z::c,h=>by simp at h
 |n+1,x::a,y::b,z::c,h=>by
  simp only [List.length_cons] at h
  rcases Int.lt_trichotomy x.1 y.1 with h1|h1|h1
  · rcases Int.lt_trichotomy x.1 z.1 with h2|h2|h2
    · rcases Int.lt_trichotomy y.1 z.1 with h3|h3|h3
      · rw [mulP_x h1,mulP_x h2,mulP_x h3,mulP_x h1,mulP_assoc n a (y::b) (z::c) (by simp only [List.length_cons];omega),mulP_x h3]
      · rw [mulP_x h1,mulP_x h2,mulP_z h3,mulP_x (by exact h1),mulP_assoc n a (y::b) (z::c) (by simp only [List.length_cons];omega),mulP_z h3]
      · rw [mulP_x h1,mulP_x h2,mulP_y h3,mulP_x h2,mulP_assoc n a (y::b) (z::c) (by simp only [List.length_cons];omega),mulP_y h3]
    · have h3:z.1<y.1:=by omega
      rw [mulP_x h1,mulP_z h2,mulP_y h3,mulP_z h2,mulP_assoc n a (y::b) c (by simp only [List.length_cons];omega)]
    · have h3:z.1<y.1:=by omega
      rw [mulP_x h1,mulP_y h2,mulP_y h3,mulP_y h2,← mulP_x h1,mulP_assoc n (x::a) (y::b) c (by simp only [List.length_cons];omega)]
  · rcases Int.lt_trichotomy y.1 z.1 with h3|h3|h3
    · rw [mulP_z h1,mulP_x (by show x.1<z.1;omega),mulP_x h3,mulP_z h1,mulP_assoc n a b (z::c) (by simp only [List.length_cons];omega)]
    · rw [mulP_z h1,mulP_z (by show x.1=z.1;omega),mulP_z h3,mulP_z (by exact h1),mulP_assoc n a b c (by omega)]
      dsimp only
      rw [Int.add_assoc]
    · rw [mulP_z h1,mulP_y (by show z.1<x.1;omega),mulP_y h3,mulP_y (by show z.1<x.1;omega),← mulP_z h1,mulP_assoc n (x::a) (y::b) c (by simp only [List.length_cons];omega)]
  · rcases Int.lt_trichotomy y.1 z.1 with h3|h3|h3
    · rw [mulP_y h1,mulP_x h3,mulP_x h3,mulP_y h1,mulP_assoc n (x::a) b (z::c) (by simp only [List.length_cons];omega)]
    · rw [mulP_y h1,mulP_z h3,mulP_z h3,mulP_y (by exact h1),mulP_assoc n (x::a) b c (by simp only [List.length_cons];omega)]
    · rw [mulP_y h1,mulP_y h3,mulP_y h3,mulP_y (by show z.1<x.1;omega),← mulP_y h1,mulP_assoc n (x::a) (y::b) c (by simp only [List.length_cons];omega)]
def lin (f:List Pw→Int):List Mo→Int
 |[]=>0
 |m::l=>m.1 * f m.2.1+lin f l
theorem lin_app {f:List Pw→Int}:∀ {a b:List Mo},lin f (a++b)=lin f a+lin f b
 |[],b=>by simp [lin]
 |m::a,b=>by simp only [List.cons_append,lin,lin_app (a:=a)];omega
theorem lin_congr {f g:List Pw→Int}:∀ {l:List Mo},(∀ m∈l,f m.2.1=g m.2.1)→lin f l=lin g l
 |[],_=>rfl
 |m::l,h=>by simp only [lin];rw [h m List.mem_cons_self,lin_congr fun x hx=>h x (List.mem_cons_of_mem _ hx)]
theorem lin_add {f g:List Pw→Int}:∀ {l:List Mo},lin (fun A=>f A+g A) l=lin f l+lin g l
 |[]=>rfl
 |m::l=>by simp only [lin,lin_add (l:=l),Int.mul_add];omega
theorem lin_mul {f:List Pw→Int} {k:Int}:∀ {l:List Mo},lin (fun A=>f A * k) l=lin f l * k
 |[]=>by simp [lin]
 |m::l=>by simp only [lin,lin_mul (l:=l),Int.add_mul,Int.mul_assoc]
theorem lin_swap {g:List Pw→List Pw→Int}:∀ {p q:List Mo},lin (fun A=>lin (fun C=>g A C) q) p=lin (fun C=>lin (fun A=>g A C) p) q
 |[],q=>by
  simp only [lin]
  induction q with
  |nil=>rfl
  |cons n q ih=>simp only [lin,← ih];omega
 |m::p,q=>by
  simp only [lin]
  rw [lin_swap (p:=p) (q:=q)]
  have h:∀ q:List Mo,lin (fun C=>m.1 * g m.2.1 C+lin (fun A=>g A C) p) q=m.1 * lin (fun C=>g m.2.1 C) q+lin (fun C=>lin (fun A=>g A C) p) q:=fun q=>by
   rw [lin_add]
   congr 1
   induction q with
   |nil=>simp [lin]
   |cons n q ih=>simp only [lin,ih,Int.mul_add];congr 1;rw [← Int.mul_assoc,← Int.mul_assoc,Int.mul_comm n.1]
  rw [h]
def one (P Q:List Pw):Int:=if Q=P then 1 else 0
theorem mul_one' (c:Int) (P Q:List Pw):c * one P Q=if Q=P then c else 0:=by unfold one;split<;>simp
def tot (P:List Pw) (l:List Mo):Int:=lin (one P) l
theorem tot_cons {P:List Pw} {m:Mo} {l:List Mo}:tot P (m::l)=(if m.2.1=P then m.1 else 0)+tot P l:=by unfold tot;simp only [lin,mul_one']
theorem tot_nil {P:List Pw}:tot P []=0:=rfl
theorem tot_pos {P:List Pw}:∀ {l:List Mo},(∀ m∈l,0≤m.1)→0≤tot P l
 |[],_=>by rw [tot_nil];omega
 |m::l,h=>by
  have h1:=h m List.mem_cons_self
  have h2:=tot_pos (P:=P) fun x hx=>h x (List.mem_cons_of_mem _ hx)
  rw [tot_cons];split<;>omega
theorem tot_none {P:List Pw}:∀ {l:List Mo},(∀ m∈l,m.2.1≠P)→tot P l=0
 |[],_=>rfl
 |m::l,h=>by rw [tot_cons,if_neg (h m List.mem_cons_self),tot_none fun x hx=>h x (List.mem_cons_of_mem _ hx)];rfl
theorem srt_ne {x:Mo} {l:List Mo} (h:srtM (x::l)):∀ m∈l,m.2.1≠x.2.1:=fun m hm e=>by
 have:=(List.pairwise_cons.1 h).1 m hm
 rw [e,cmpP_same] at this;omega
theorem tot_rg {P:List Pw}:∀ {l:List Mo},sumOK l→0≤tot P l∧tot P l≤1000000001
 |[],_=>by rw [tot_nil];omega
 |m::l,h=>by
  have h1:=h.2 m List.mem_cons_self
  unfold coM at h1
  have h2:=tot_rg (P:=P) (l:=l) ⟨(List.pairwise_cons.1 h.1).2,fun x hx=>h.2 x (List.mem_cons_of_mem _ hx)⟩
  rw [tot_cons]
  split
  · rename_i e
    rw [tot_none (P:=P) fun x hx=>by rw [← e];exact srt_ne h.1 x hx];omega
  · omega
theorem tot_mem {x:Mo}:∀ {l:List Mo},srtM l→x∈l→tot x.2.1 l=x.1
 |y::l,h,hx=>by
  rw [tot_cons]
  rcases List.mem_cons.1 hx with rfl|hx
  · rw [if_pos rfl,tot_none (srt_ne h)];omega
  · rw [if_neg (fun e=>srt_ne h x hx e.symm),tot_mem (List.pairwise_cons.1 h).2 hx];omega
theorem ins_tot {P:List Pw}:∀ {l:List Mo} {m:Mo},sumOK l→coM m→tot P (insP l m)=min (tot P l+tot P [m]) 1000000001
 |[],m,_,hm=>by
  unfold coM at hm
  simp only [insP,tot_cons,tot_nil]
  split<;>omega
 |y::l,m,h,hm=>by
  have hl:sumOK l:=⟨(List.pairwise_cons.1 h.1).2,fun x hx=>h.2 x (List.mem_cons_of_mem _ hx)⟩
  have hy:=h.2 y List.mem_cons_self
  have hrg:=tot_rg (P:=P) hl
  have hrg2:=tot_rg (P:=P) h
  rw [tot_cons] at hrg2
  have hm':=hm
  unfold coM at hy hm'
  unfold insP
  by_cases hc:cmpP y.2.1 m.2.1<0
  · rw [if_pos hc]
    have hne:m.2.1≠y.2.1:=fun e=>by rw [e,cmpP_same] at hc;omega
    simp only [tot_cons,tot_nil,ins_tot hl hm]
    by_cases e:y.2.1=P
    · have h0:tot P l=0:=tot_none fun x hx=>by rw [← e];exact srt_ne h.1 x hx
      rw [if_pos e,if_neg (fun e'=>hne (e'.trans e.symm)),h0];omega
    · rw [if_neg e];omega
  · rw [if_neg hc]
    by_cases he:cmpP y.2.1 m.2.1=0
    · rw [if_pos he]
      have he':=cmpP_eq.1 he
      simp only [tot_cons,tot_nil,← he']
      by_cases e:y.2.1=P
      · have h0:tot P l=0:=tot_none fun x hx=>by rw [← e];exact srt_ne h.1 x hx
        simp only [if_pos e,h0];omega
      · simp only [if_neg e];omega
    · rw [if_neg he]
      simp only [tot_cons,tot_nil]
      by_cases e:m.2.1=P
      · have hlt:cmpP m.2.1 y.2.1<0:=cmpP_swap.1 (by omega)
        have h0:tot P l=0:=tot_none fun x hx e'=>by
         have h1:=cmpP_trans hlt ((List.pairwise_cons.1 h.1).1 x hx)
         rw [e,← e',cmpP_same] at h1;omega
        have hy0:y.2.1≠P:=fun e'=>by rw [e,← e',cmpP_same] at hlt;omega
        simp only [if_pos e,if_neg hy0,h0];omega
      · simp only [if_neg e]
        by_cases e2:y.2.1=P
        · simp only [if_pos e2] at hrg2 ⊢;omega
        · simp only [if_neg e2] at hrg2 ⊢;omega
theorem add_tot {P:List Pw}:∀ {q l:List Mo},sumOK l→(∀ m∈q,coM m)→tot P (addL l q)=min (tot P l+tot P q) 1000000001
 |[],l,h,_=>by
  have:=tot_rg (P:=P) h
  show tot P l=_
  rw [tot_nil];omega
 |m::q,l,h,hq=>by
  have hm:=hq m List.mem_cons_self
  have h1:sumOK (insP l m):=⟨insP_srt h.1,insP_co h.2 hm⟩
  have h2:=add_tot (P:=P) (q:=q) h1 fun x hx=>hq x (List.mem_cons_of_mem _ hx)
  have h3:=tot_pos (P:=P) (l:=q) fun x hx=>(hq x (List.mem_cons_of_mem _ hx)).1
  have h4:=ins_tot (P:=P) h hm
  show tot P (addL (insP l m) q)=_
  rw [h2,h4,tot_cons]
  rw [tot_cons,tot_nil]
  omega
theorem tot_ext:∀ {l l':List Mo},srtM l→srtM l'→(∀ m∈l,1≤m.1)→(∀ m∈l',1≤m.1)→(∀ P,tot P l=tot P l')→l=l'
 |[],[],_,_,_,_,_=>rfl
 |[],y::l',_,h',_,hc',h=>by
  have:=h y.2.1
  rw [tot_mem h' List.mem_cons_self,tot_nil] at this
  have:=hc' y List.mem_cons_self;omega
 |x::l,[],hs,_,hc,_,h=>by
  have:=h x.2.1
  rw [tot_mem hs List.mem_cons_self,tot_nil] at this
  have:=hc x List.mem_cons_self;omega
 |x::l,y::l',hs,hs',hc,hc',h=>by
  have hx:=hc x List.mem_cons_self
  have hy:=hc' y List.mem_cons_self
  have e:x.2.1=y.2.1:=by
   rcases Int.lt_trichotomy (cmpP x.2.1 y.2.1) 0 with h1|h1|h1
   · exfalso
     have:=h x.2.1
     rw [tot_mem hs List.mem_cons_self,tot_none] at this
     · omega
     · intro m hm e
       rcases List.mem_cons.1 hm with rfl|hm
       · rw [e,cmpP_same] at h1;omega
       · have:=cmpP_trans h1 ((List.pairwise_cons.1 hs').1 m hm)
         rw [e,cmpP_same] at this;omega
   · exact cmpP_eq.1 h1
   · exfalso
     have h1:=cmpP_swap.1 h1
     have:=h y.2.1
     rw [tot_mem hs' List.mem_cons_self,tot_none] at this
     · omega
     · intro m hm e
       rcases List.mem_cons.1 hm with rfl|hm
       · rw [e,cmpP_same] at h1;omega
       · have:=cmpP_trans h1 ((List.pairwise_cons.1 hs).1 m hm)
         rw [e,cmpP_same] at this;omega
  have e1:x.1=y.1:=by
   have:=h x.2.1
   rw [tot_mem hs List.mem_cons_self,e,tot_mem hs' List.mem_cons_self] at this
   exact this
  have exy:x=y:=Prod.ext e1 (Prod.ext e rfl)
  subst exy
  congr 1
  refine tot_ext (List.pairwise_cons.1 hs).2 (List.pairwise_cons.1 hs').2 (fun m hm=>hc m (List.mem_cons_of_mem _ hm)) (fun m hm=>hc' m (List.mem_cons_of_mem _ hm)) fun P=>?_
  have:=h P
  rw [tot_cons,tot_cons] at this
  omega
end Go.Gv
