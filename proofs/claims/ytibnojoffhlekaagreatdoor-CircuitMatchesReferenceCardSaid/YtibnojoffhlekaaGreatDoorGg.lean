/- A verified generator of conditions over the code of the model. Part 7. -/
import Derived.Test.YtibnojoffhlekaaGreatDoorGf
import Derived.ReadAgain
import Derived.ProofKit
import Derived.Lib.ItoaLen
import Derived.Deep.DeepHandedRow
import Derived.Lib.LaidTab
import Derived.Below
set_option linter.all false

/- A law: from its function's contract to its row. -/
namespace Go.Gv
open Go
theorem canon_none {s:Sh} (hn:nn s=0) (x:SDat s):canon s x=fun _=> .none:=by
 funext k
 exact canon_out s x (by omega)
def lawC (gl:Glob) (W:World):Ctx:={ G0:=GW.all W,F0:=fun _ _=>False,Fo0:=fun _=>False,glob:=gl,N:=0}
theorem law_inv {gl:Glob} {W:World} (hgl:∀ g t y,gl g=some ⟨t,y⟩→globOK t y (GW.all W) g):HInv (lawC gl W) (fun _=> .none) (fun _=>none) (GW.all W):={
 heap:=⟨fun _ _=>rfl,fun _ h=>(h rfl).elim,fun _ _ h=>(by cases h),fun _ _ h=>(by cases h),fun _ _ _ _ _ h=>(by cases h),fun _ _ _ _ _ h=>(by cases h),fun _ _ h=>h,fun _ ⟨es,c,e⟩=>⟨_,e, .inl ⟨es,c,rfl⟩⟩⟩
 step:=Step.refl _ _ _
 own:=fun _ _ h=>by cases h
 owno:=fun _ _ h=>by cases h
 glob:=hgl}
theorem law_calls {P:Program} {gl:Glob} {f:FuncId} {S:Spec} (hS:SpecOK P gl f S) {W:World} {args:List Value} {x:SDat S.ins} (hpre:S.pre x) (hnn:nn S.ins=0) (hargs:satT (intoA (fun k=>k) S.ins x 0) (fun _=>none) (GW.all W) args)
    (hgl:∀ g t y,gl g=some ⟨t,y⟩→globOK t y (GW.all W) g):
    ∃ A,S.alts[S.sel x]?=some A∧Calls P f args.toArray W (fun e W'=>∃ v,e= .returned v∧∃ β' G',G'.w=W'∧Step (fun _ _=>False) (fun _=>False) (GW.all W) G'∧sat (resA A.outs (A.res x) 0) β' G' v):=by
 obtain ⟨A,hA,hcall⟩:=hS.2 x hpre
 refine ⟨A,hA,?_⟩
 refine Calls.mono (hcall (lawC gl W) (fun _=>none) (GW.all W) args rfl (fun _=>trivial) (by rw [canon_none hnn];exact law_inv hgl) hargs) fun e w' hr=>?_
 cases e with
 |panicked _=>exact hr.elim
 |outgrown=>exact hr.elim
 |returned v=>
  obtain ⟨hp',β',G',L,vs,nx',y,os,ex',nx1',z,ms,ey,nx2,rfl,H2,lb,lg,rfl,hL,hfr',hfo,hfb,hnd2,hy,hz,hid⟩:=hr.ex
  obtain ⟨βx,Hx,lx,car,_⟩:=take_in H2 hfr' hfo
  obtain ⟨_,_,c3,_⟩:=car.go (fun k=>0+k) 0 (fun k=>(os[k]?).bind βx) (fun k h hk=>by simp [hk])
  refine ⟨resV vs,rfl,(fun k=>(os[k]?).bind βx),G',rfl,H2.step,?_⟩
  rw [← hy]
  exact resV_sat (s:=A.outs) hfo hL (m:=0) (c3 vs hL)
section
variable {H:Type} {enc:TypeId × Value→H} {P:Program}
theorem step_same {W:World} {G':GW} (h:Step (fun _ _=>False) (fun _=>False) (GW.all W) G'):∀ b,b<W.heap.size→G'.w.heap[b]?=W.heap[b]?:=
 fun b hb=>h.blk b hb (fun _ hf=>hf) (fun hf=>hf)
theorem keptBut_of_same {W W':World} (ho:W'.os=W.os) (hu:W'.output=W.output) (hb:∀ b,b<W.heap.size→W'.heap[b]?=W.heap[b]?) (may:MemPlace→Prop):W.keptBut W' may:=by
 refine ⟨ho,hu,fun i hi=>?_⟩
 rw [hb i hi]
 cases h:W.heap[i]? with
 |none=>simp
 |some o=>cases o<;>simp
theorem trodAll_carry {W W':World} {base:Nat} {spare:Nat→Bool} {held:Bool}:∀ {ts:List TypeId} {vs:List Value} {ds:List (DataW H)} {ps:List MemPlace},DataW.TrodAll enc P W base spare held ts vs ds ps→(∀ p∈ps,W.sameAt W' p)→DataW.TrodAll enc P W' base spare held ts vs ds ps
 |[],[],[],_,h,_=>h
 |_::_,_::_,_::_,_,⟨p,q,⟨n,h1⟩,h2,e⟩,hs=>⟨p,q,⟨n,DataW.trod_carry n _ _ _ h1 (fun x hx=>hs x (by rw [e];exact List.mem_append_left _ hx))⟩,trodAll_carry h2 (fun x hx=>hs x (by rw [e];exact List.mem_append_right _ hx)),e⟩
theorem law_post (hl:laidOutB P=true) (hm:mapsRowed P=true) (hfull:((List.range P.types.size).all fun t=>match P.underlying t with|some (.slice e)=>decide (0<P.cellsOf e)|_=>true)=true)
    {fn:Func} {s:ChangeSpec} {W:World} {args:Array Value} {ds gs:List (DataW H)} {before:List MemPlace} {apart fresh handsOn:Bool} (hW:DataW.Whole enc P fn.params.toList s.vars apart W args.toList ds gs before) (hvars:s.vars=[]) (hty:∀ t∈fn.params.toList,t<P.types.size) {tb:TypeId} (hres:fn.resultTypes=#[tb]) (htb:P.underlying tb=some .bool)
    (hfn:s.fn H ds={ results:=[.lit (.bool true)],args:=ds}) {G':GW} (h:Step (fun _ _=>False) (fun _=>False) (GW.all W) G'):s.post enc P fn apart fresh handsOn false W args (.bool true) G'.w:=by
 have hb:=step_same h
 have hW':=hW
 obtain ⟨p,q,hA,hV,rfl,_,_⟩:=hW
 rw [hvars] at hV
 have hgs:gs=[]∧q=[]:=by
  cases gs with
  |nil=>exact ⟨rfl,hV⟩
  |cons g r=>exact hV.elim
 obtain ⟨rfl,rfl⟩:=hgs
 have hlt:∀ x∈p,x.block<W.heap.size:=DataW.TrodAll.lt hA
 have hsame:∀ x∈p,W.sameAt G'.w x:=fun x hx=>by
  cases x with
  |cell b o=>
   show G'.w.cell? ⟨b,o,none⟩=W.cell? ⟨b,o,none⟩
   unfold World.cell?
   rw [hb b (hlt _ hx)]
  |map b=>exact hb b (hlt _ hx)
 have hA2:=trodAll_carry hA hsame
 refine ⟨ds,[],p++[],[],p,[],hW',?_,?_,?_,keptBut_of_same h.os h.output hb _,fun h=>by cases h⟩
 · rw [List.append_nil,hfn,hres]
   show DataW.TrodAll enc P G'.w _ _ _ [tb] [.bool true] [.lit (.bool true)] []
   exact ⟨[],[],⟨1,by simp [DataW.trod,htb,Value.cells]⟩,rfl,rfl⟩
 · rw [List.append_nil,hfn]
   exact DataW.TrodAll.respare (kids_rows hl hm) (slices_full_of P hfull) hty hA2 (fun x hx=>by simpa using hlt x hx)
 · rw [List.append_nil,hfn,hvars];rfl
end
end Go.Gv

/- Words for the use of the generator: contracts in a list, marks of a walk, small lemmas on lists and numbers. -/
namespace Go.Gv
open Go
theorem gv_more {p:Prop} (h:p):More p:=⟨h⟩
def Fl:List (Nat × Spec)→Specs
 |[],_=>[]
 |(m,S)::r,n=>match Nat.beq m n with
  |true=>S::Fl r n
  |false=>Fl r n
theorem SpecsOK.nil {P:Program} {gl:Glob} {nz:Bool}:SpecsOK P gl (Fl []) nz:=fun _ _ h=>by cases h
theorem SpecsOK.cons {P:Program} {gl:Glob} {m:Nat} {S:Spec} {r:List (Nat × Spec)} {nz:Bool} (h:SpecOK P gl m S) (k:SpecsOK P gl (Fl r) nz) (hz:S.noisy=true→nz=true:=by first|exact fun _=>rfl|exact fun h=>Bool.noConfusion (show false=true from h)):SpecsOK P gl (Fl ((m,S)::r)) nz:=fun g T hT=>by
 unfold Fl at hT
 split at hT
 · rename_i e
   rcases List.mem_cons.1 hT with rfl|hT
   · rw [← Nat.eq_of_beq_eq_true e];exact ⟨h,hz⟩
   · exact k g T hT
 · exact k g T hT
structure FnOK (P:Program) (f:Nat) (fn:Func) (n:Nat):Prop where
 at':P.funcs[f]?=some fn
 body:fn.body.isSome=true
 name : (fn.name == "runtime.NumGoroutine") = false
 tmps:fn.ntmps=n
theorem LateOK.triv {P:Program} {c:Cf} (h1:c.eat=fun _ _ _ _=>False) (h2:c.L=fun _=>[]) (h3:c.I=fun _=>[]):LateOK P c:=
 ⟨fun ts D ys E h=>by rw [h1] at h;exact h.elim,fun g S h=>(by rw [h2] at h;cases h),fun g S h=>(by rw [h3] at h;cases h)⟩
theorem mk_ok {P:Program} {c:Cf} {f:Nat} {fn:Func} {S:Spec} (hE:c.E.ok P=true) (hmix:P.follows .mixedOrders=true) (hfn:FnOK P f fn c.N) (hlen:shLen S.ins≤c.N) (hS:SpecsOK P c.gl c.F c.nz) (hsel:∀ x,S.pre x→S.sel x<S.alts.length)
    (hg:∀ x,S.pre x→shOK S.ins x→fnGoal c fn S x) (hnz:c.nz=true→S.noisy=true:=by first|exact fun _=>rfl|exact fun h=>Bool.noConfusion (show false=true from h))  (hL:LateOK P c:=by exact LateOK.triv rfl rfl rfl):SpecOK P c.gl f S:=
 spec_ok hE hS hL hmix hfn.at' hfn.body hfn.name hfn.tmps hlen hsel hg hnz
def Ll:List (Nat × LSpec)→Nat→List LSpec
 |[],_=>[]
 |(m,S)::r,n=>match Nat.beq m n with
  |true=>S::Ll r n
  |false=>Ll r n
def Il:List (Nat × ItSpec)→Nat→List ItSpec
 |[],_=>[]
 |(m,S)::r,n=>match Nat.beq m n with
  |true=>S::Il r n
  |false=>Il r n
def LsOK (P:Program) (gl:Glob) (L:Nat→List LSpec) (nz:Bool):Prop:=∀ g S,S∈L g→LSpecOK P gl g S∧(S.noisy=true→nz=true)
def IsOK (P:Program) (gl:Glob) (L:Nat→List ItSpec) (nz:Bool):Prop:=∀ g S,S∈L g→ItOK P gl g S∧(S.noisy=true→nz=true)
theorem LsOK.nil {P:Program} {gl:Glob} {nz:Bool}:LsOK P gl (Ll []) nz:=fun _ _ h=>by cases h
theorem IsOK.nil {P:Program} {gl:Glob} {nz:Bool}:IsOK P gl (Il []) nz:=fun _ _ h=>by cases h
theorem LsOK.cons {P:Program} {gl:Glob} {m:Nat} {S:LSpec} {r:List (Nat × LSpec)} {nz:Bool} (h:LSpecOK P gl m S) (k:LsOK P gl (Ll r) nz) (hz:S.noisy=true→nz=true:=by first|exact fun _=>rfl|exact fun h=>Bool.noConfusion (show false=true from h)):LsOK P gl (Ll ((m,S)::r)) nz:=fun g T hT=>by
 unfold Ll at hT
 split at hT
 · rename_i e
   rcases List.mem_cons.1 hT with rfl|hT
   · rw [← Nat.eq_of_beq_eq_true e];exact ⟨h,hz⟩
   · exact k g T hT
 · exact k g T hT
theorem IsOK.cons {P:Program} {gl:Glob} {m:Nat} {S:ItSpec} {r:List (Nat × ItSpec)} {nz:Bool} (h:ItOK P gl m S) (k:IsOK P gl (Il r) nz) (hz:S.noisy=true→nz=true:=by first|exact fun _=>rfl|exact fun h=>Bool.noConfusion (show false=true from h)):IsOK P gl (Il ((m,S)::r)) nz:=fun g T hT=>by
 unfold Il at hT
 split at hT
 · rename_i e
   rcases List.mem_cons.1 hT with rfl|hT
   · rw [← Nat.eq_of_beq_eq_true e];exact ⟨h,hz⟩
   · exact k g T hT
 · exact k g T hT
theorem LateOK.of {P:Program} {c:Cf} (h1:c.eat=Eats P) (h2:LsOK P c.gl c.L c.nz) (h3:IsOK P c.gl c.I c.nz):LateOK P c:=⟨fun _ _ _ _ _=>h1,h2,h3⟩
theorem mk_it {P:Program} {c:Cf} {f:Nat} {fn:Func} {S:ItSpec} (hE:c.E.ok P=true) (hmix:P.follows .mixedOrders=true) (hfn:FnOK P f fn c.N) (hlen:shLen S.caps+1≤c.N) (hS:SpecsOK P c.gl c.F c.nz) (hL:LateOK P c) (heat:c.eat=Eats P) (hres:fn.results.toList=[])
    (hg:∀ x,S.pre x.2→x.1.1=S.seq x.2→c.eat S.ts x.1.2.2 x.1.1 x.1.2.1→shOK (.cons (.ob (.log S.ts)) S.caps) x→fnGoalI c fn S x) (hnz:c.nz=true→S.noisy=true:=by first|exact fun _=>rfl|exact fun h=>Bool.noConfusion (show false=true from h)):ItOK P c.gl f S:=
 it_ok hE hS hL hmix hfn.at' hfn.body hfn.name hfn.tmps hlen hres heat hg hnz
structure Hd (p:Prop):Prop where
 out:p
def datLn:(t:Ty)→Dat t→Prop
 | .int k,n=>inRng k n
 | .str,s=>s.length≤maxLen
 | .sl _,xs=>List.length xs≤maxLen
 | .cs t r,x=>datLn t x.1∧datLn r x.2
 | .st fs,x=>datLn fs x
 | .arr n _,xs=>List.length xs=n
 |_,_=>True
theorem datLn_of:∀ (t:Ty) {x:Dat t},datOK t x→datLn t x
 | .int _,_,h=>h
 | .bool,_,_=>trivial
 | .str,_,h=>h
 | .sl _,_,h=>h.1
 | .nl,_,_=>trivial
 | .cs t r,_,h=>⟨datLn_of t h.1,datLn_of r h.2⟩
 | .st fs,_,h=>datLn_of fs (by unfold datOK at h;exact h)
 | .arr _ _,_,h=>h.1
 | .mp _ _,_,_=>trivial
 | .pt _,_,_=>trivial
 | .ot _,_,_=>trivial
 | .fn,_,_=>trivial
def shLn:(s:Sh)→SDat s→Prop
 | .d t,x=>datLn t x
 | .row t,xs=>datLn (.sl t) xs
 | .take t,xs=>datLn (.sl t) xs
 | .spare t,xs=>datLn (.sl t) xs
 | .map _ _,_=>True
 | .ob _,_=>True
 | .box cs,x=>shLn cs x
 | .clos _ cs,x=>shLn cs x
 | .agg cs,x=>shLn cs x
 | .nilp,_=>True
 | .nils,_=>True
 | .nil,_=>True
 | .cons a b,x=>shLn a x.1∧shLn b x.2
theorem shLn_of:∀ (s:Sh) {x:SDat s},shOK s x→shLn s x
 | .d t,_,h=>datLn_of t h
 | .row t,_,h=>datLn_of (.sl t) h
 | .take t,_,h=>datLn_of (.sl t) h
 | .spare t,_,h=>datLn_of (.sl t) h
 | .map _ _,_,_=>trivial
 | .ob _,_,_=>trivial
 | .box cs,_,h=>shLn_of cs h
 | .clos _ cs,_,h=>shLn_of cs h
 | .agg cs,_,h=>shLn_of cs h
 | .nilp,_,_=>trivial
 | .nils,_,_=>trivial
 | .nil,_,_=>trivial
 | .cons a b,_,h=>⟨shLn_of a h.1,shLn_of b h.2⟩
theorem bF {p:Prop} (h:¬ p):false=boolOf p:=by rw [boolOf_false.2 h]
theorem bT {p:Prop} (h:p):true=boolOf p:=by rw [boolOf_true.2 h]
theorem bC {p q:Prop} (h:p↔q):boolOf p=boolOf q:=by rw [show p=q from propext h]
theorem nil_ok {P:Program} {c:Cf} {f:Nat} {fn:Func} {t:Ty} {S:Spec} (hE:c.E.ok P=true) (hmix:P.follows .mixedOrders=true) (hfn:FnOK P f fn c.N) (hS:SpecsOK P c.gl c.F c.nz) (hsel:∀ x,S.pre x→S.sel x<S.alts.length) (hins:S.ins= .cons (.d (.sl t)) .nil) (hN:0<c.N)
    (hg:∀ (x:SDat S.ins) (xs:List (Dat t)),HEq x (xs,())→S.pre x→shOK S.ins x→∀ X:AP,((X= .dat (.sl t) xs∧0<xs.length)∨(xs=[]∧X= .val (.slice none 0 0))∨∃ a k,xs=[]∧k≤maxLen∧(0<k→a.spot=none)∧X= .val (.slice (some a) 0 k))→
     wpA c (bodyOf fn) { sl:=[(0,⟨[],X⟩)],hp:=[],nx:=0} (fun e rs=>match e with
      | .ret=>retA c.E S x fn.results.toList rs
      | .normal=>retA c.E S x fn.results.toList rs
      |_=>False)) (hnz:c.nz=true→S.noisy=true:=by first|exact fun _=>rfl|exact fun h=>Bool.noConfusion (show false=true from h))  (hL:LateOK P c:=by exact LateOK.triv rfl rfl rfl):SpecOK P c.gl f S:=by
 obtain ⟨ins,pre,sel,alts,ro,noisy⟩:=S
 dsimp only at hins
 subst hins
 refine spec_ok_gen hE hS hL hmix hfn.at' hfn.body hfn.name hfn.tmps hN hsel (hnz:=hnz) fun x hpre hok β G args hargs=>?_
 obtain ⟨xs,⟨⟩⟩:=x
 have key:∃ v,args=[v]∧RepV (.sl t) xs G v:=by
  simp only [intoA] at hargs
  unfold satT at hargs
  obtain ⟨v,l,rfl,h1,h2⟩:=hargs
  unfold satT at h2
  subst h2
  unfold sat at h1
  exact ⟨v,rfl,h1⟩
 obtain ⟨v,rfl,hr⟩:=key
 have hr1:=hr.to_one rfl
 unfold Rep at hr1
 obtain ⟨base,cap,e,h1,h2,h3,h4⟩:=hr1
 simp only [List.cons.injEq,and_true] at e
 have fin:∀ X:AP,sat X β G v→∀ s p,lookN [(0,(⟨[],X⟩:PA))] s=some p→p.path=[]∧∃ v',[v][s]?=some v'∧sat p.ap β G v':=fun X hX s p hp=>by
  rw [lookN_cons] at hp
  split at hp
  · rename_i hs
    simp only [Option.some.injEq] at hp
    subst hp;subst hs
    exact ⟨rfl,v,rfl,hX⟩
  · cases hp
 have go:=fun X h=>hg (xs,()) xs HEq.rfl hpre hok X h
 by_cases hx:0<List.length xs
 · exact ⟨[(0,⟨[], .dat (.sl t) xs⟩)],fin _ (by unfold sat;exact hr),go _ (.inl ⟨rfl,hx⟩)⟩
 · have hx0:xs=[]:=List.eq_nil_of_length_eq_zero (by omega)
   subst hx0
   cases base with
   |none=>
    have hc:cap=0:=h3 rfl
    subst hc
    exact ⟨[(0,⟨[], .val (.slice none 0 0)⟩)],fin _ (by unfold sat;exact e),go _ (.inr (.inl ⟨rfl,rfl⟩))⟩
   |some a=>
    exact ⟨[(0,⟨[], .val (.slice (some a) 0 cap)⟩)],fin _ (by unfold sat;exact e),go _ (.inr (.inr ⟨a,cap,rfl,h2,(h4 a rfl).1,rfl⟩))⟩
theorem getD_ok {α:Type} {l:List α} {k:Nat} (d:α) (h:k<l.length):List.getD l k d=l[k]:=by
 rw [List.getD_eq_getElem?_getD,List.getElem?_eq_getElem h];rfl
theorem take_eq_step {α:Type} {a b:List α} {k:Nat} {d:α} (h:a.take k=b.take k) (ha:k<a.length) (hb:k<b.length) (he:List.getD a k d=List.getD b k d):a.take (k+1)=b.take (k+1):=by
 rw [getD_ok d ha,getD_ok d hb] at he
 rw [List.take_succ_eq_append_getElem ha,List.take_succ_eq_append_getElem hb,h,he]
theorem take_eq_end {α:Type} {a b:List α} {k:Nat} (h:a.take k=b.take k) (ha:a.length≤k) (hb:b.length≤k):a=b:=by
 rwa [List.take_of_length_le ha,List.take_of_length_le hb] at h
theorem all_step {α:Type} {p:α→Prop} {l:List α} {k:Nat} {d:α} (h:∀ x∈l.take k,p x) (hk:k<l.length) (hp:p (List.getD l k d)):∀ x∈l.take (k+1),p x:=by
 rw [getD_ok d hk] at hp
 intro x hx
 rw [List.take_succ_eq_append_getElem hk,List.mem_append] at hx
 rcases hx with hx|hx
 · exact h x hx
 · simp at hx;subst hx;exact hp
theorem all_end {α:Type} {p:α→Prop} {l:List α} {k:Nat} (h:∀ x∈l.take k,p x) (hk:l.length≤k):∀ x∈l,p x:=by rwa [List.take_of_length_le hk] at h
theorem getD_mem {α:Type} {l:List α} {k:Nat} {d:α} (hk:k<l.length):List.getD l k d∈l:=by rw [getD_ok d hk];exact List.getElem_mem hk
def selB (b:Bool):Nat:=if b=true then 1 else 0
theorem selB_0 {b:Bool}:selB b=0↔b=false:=by cases b<;>simp [selB]
theorem selB_1 {b:Bool}:selB b=1↔b=true:=by cases b<;>simp [selB]
theorem selB_lt (b:Bool):selB b<2:=by cases b<;>simp [selB]
theorem boolOf_eq_false {p:Prop}:boolOf p=false↔¬ p:=boolOf_false
theorem preA_t {ins:Sh} {p:Prop} {x:SDat ins} {hp:Nat→HObj} {ns:List Nat} {nx1:Nat} (h:p) (k:sameP hp (intoH (nmBack (idR (nn ins) 0) ns nx1) ins x 0 [])):preA true p x hp ns nx1:=⟨h,k⟩
theorem mget_none {α β:Type} [DecidableEq α] {x:α}:∀ {l:List (α × β)},mget l x=none↔∀ e∈l,e.1≠x
 |[]=>by simp [mget]
 |(k,v)::r=>by
  have:=mget_none (x:=x) (l:=r)
  unfold mget
  by_cases h:k=x
  · rw [if_pos h];simp [h]
  · rw [if_neg h,this];simp [h]
theorem mput_none {α β:Type} [DecidableEq α] {x:α} {y:β}:∀ {l:List (α × β)},mget l x=none→mput l x y=l++[(x,y)]
 |[],_=>rfl
 |(k,v)::r,h=>by
  unfold mget at h
  by_cases e:k=x
  · rw [if_pos e] at h;cases h
  · rw [if_neg e] at h
    unfold mput
    rw [if_neg e,mput_none h];rfl
theorem mget_some {α β:Type} [DecidableEq α] {x:α} {y:β}:∀ {l:List (α × β)},mget l x=some y→(x,y)∈l
 |(k,v)::r,h=>by
  unfold mget at h
  by_cases e:k=x
  · rw [if_pos e] at h
    cases h;rw [e];exact List.mem_cons_self
  · rw [if_neg e] at h
    exact List.mem_cons_of_mem _ (mget_some h)
theorem lt_step {p:Nat→Prop} {k:Nat} (h:∀ i,i<k→p i) (hk:p k):∀ i,i<k+1→p i:=fun i hi=>by
 by_cases e:i<k
 · exact h i e
 · have:i=k:=by omega
   rw [this];exact hk
end Go.Gv

/- Step by step: for each piece of code a lemma, so that goals stay small and the kernel compares little. -/
namespace Go.Gv
open Go
def thenK (c:Cf) (b:Code) (K:Ex→RS→Prop):Ex→RS→Prop:=fun e rs'=>match e with
 | .normal=>wpA c b rs' K
 |e=>K e rs'
def blockK (id:Nat) (K:Ex→RS→Prop):Ex→RS→Prop:=fun e rs'=>match e with
 | .exit i=>match Nat.beq i id with
  |true=>K .normal rs'
  |false=>K (.exit i) rs'
 |e=>K e rs'
def loopK (S B:List (Nat × Sh)) (inv:SDat (shL S B)→Prop) (μ:SDat (shL S B)→Nat) (x:SDat (shL S B)) (nx:Nat) (l:List Nat) (K:Ex→RS→Prop):Ex→RS→Prop:=fun e rs'=>match e with
 | .normal=>match loopIn S B rs',wrOK (keysS B) nx rs'.wr with
  |some ⟨x',ns',_,_⟩,true=>match wrOK (keysS B) nx ns' with
   |true=>inv x'∧μ x'<μ x
   |false=>False
  |_,_=>False
 |e=>K e (addWr l rs')
def retK (E:Env) (S:Spec) (x:SDat S.ins) (rl:List ResultVar):Ex→RS→Prop:=fun e rs=>match e with
 | .ret=>retA E S x rl rs
 | .normal=>retA E S x rl rs
 |_=>False
def condK (c:Cf) (X:AP) (a b:Code) (rs:RS) (K:Ex→RS→Prop):Prop:=match X with
 | .blit true=>wpA c a rs K
 | .blit false=>wpA c b rs K
 |X=>match propOf X with
  |some p=>(p→More (wpA c a rs K))∧(¬ p→More (wpA c b rs K))
  |none=>False
def headK (rs:RS) (Q:RS→Prop):Prop:=∀ K':RS→Prop,(∀ rs',Q rs'→K' rs')→forceRS rs K'
noncomputable def loopG (c:Cf) (S B:List (Nat × Sh)) (inv:SDat (shL S B)→Prop) (μ:SDat (shL S B)→Nat) (b:Code) (rs:RS) (K:Ex→RS→Prop):Prop:=
 match loopIn S B rs with
 |some ⟨x0,ns,_,_⟩=>inv x0∧∀ x,inv x→More (headK (loopHead S B (dsts b []) rs ns x) (fun rs'=>wpA c b rs' (loopK S B inv μ x rs.nx (keysS B++ns++rs.wr) K)))
 |none=>False
section
variable {c:Cf} {rs:RS} {K:Ex→RS→Prop} {a b:Code}
theorem w_seq (h:wpA c a rs (thenK c b K)):wpA c (.seq a b) rs K:=h
theorem w_skip (h:K .normal rs):wpA c .skip rs K:=h
theorem w_label {l:Nat} (h:K .normal rs):wpA c (.label l) rs K:=h
theorem w_exit {i:Nat} (h:K (.exit i) rs):wpA c (.exit i) rs K:=h
theorem w_ret (h:K .ret rs):wpA c .ret rs K:=h
theorem w_block {id:Nat} (h:wpA c b rs (blockK id K)):wpA c (.block id b) rs K:=h
theorem w_cond {x:Operand} (h:condK c (opA c.gl rs.slf [] x) a b rs K):wpA c (.cond x a b) rs K:=h
theorem w_region {id:Nat} {ops:Array Oper} {draw:Bool} (h:∀ K':RS→Prop,(∀ rs',K .normal rs'→K' rs')→regA c ops.toList draw rs K'):wpA c (.region id ops draw) rs K:=h _ (fun _ h=>h)
theorem condK_t (h:wpA c a rs K):condK c (.blit true) a b rs K:=h
theorem condK_f (h:wpA c b rs K):condK c (.blit false) a b rs K:=h
theorem condK_p {p:Prop} (h1:p→More (wpA c a rs K)) (h2:¬ p→More (wpA c b rs K)):condK c (.dec p) a b rs K:=⟨h1,h2⟩
theorem condK_b {x:Bool} (h1:x=true→More (wpA c a rs K)) (h2:¬ x=true→More (wpA c b rs K)):condK c (.dat .bool x) a b rs K:=⟨h1,h2⟩
theorem thenK_n (h:wpA c b rs K):thenK c b K .normal rs:=h
theorem thenK_e {i:Nat} (h:K (.exit i) rs):thenK c b K (.exit i) rs:=h
theorem thenK_r (h:K .ret rs):thenK c b K .ret rs:=h
theorem blockK_n {id:Nat} (h:K .normal rs):blockK id K .normal rs:=h
theorem blockK_r {id:Nat} (h:K .ret rs):blockK id K .ret rs:=h
theorem blockK_x {id:Nat} (h:K .normal rs):blockK id K (.exit id) rs:=by
 unfold blockK
 simp only [Nat.beq_refl]
 exact h
theorem blockK_y {id i:Nat} (hb:Nat.beq i id=false) (h:K (.exit i) rs):blockK id K (.exit i) rs:=by
 unfold blockK
 simp only [hb]
 exact h
theorem w_head {Q:RS→Prop} (h:∀ K':RS→Prop,(∀ rs',Q rs'→K' rs')→forceRS rs K'):headK rs Q:=h
theorem w_loop (S B:List (Nat × Sh)) (inv:SDat (shL S B)→Prop) (μ:SDat (shL S B)→Nat) (h:loopG c S B inv μ b rs K):wpA c (.loop b) rs K:=by
 unfold wpA
 refine ⟨S,B,inv,μ,?_⟩
 unfold loopG at h
 split at h
 · rename_i x0 ns ex n hin
   rw [hin]
   exact ⟨h.1,fun x hx=>⟨(h.2 x hx).out _ fun _ h=>h⟩⟩
 · exact h.elim
theorem loopK_e {S B:List (Nat × Sh)} {inv:SDat (shL S B)→Prop} {μ:SDat (shL S B)→Nat} {x:SDat (shL S B)} {nx0:Nat} {l:List Nat} {i:Nat} {sl:List (Nat × PA)} {hp:List (Nat × HObj)} {nx:Nat} {gd:List (Nat × (Prop × Path))} {vc:List Prop} {tr:List (List Nat × List Nat)} {wr:List Nat}
    (h:K (.exit i) ⟨sl,hp,nx,gd,vc,tr,wr++l⟩):loopK S B inv μ x nx0 l K (.exit i) ⟨sl,hp,nx,gd,vc,tr,wr⟩:=h
theorem loopK_r {S B:List (Nat × Sh)} {inv:SDat (shL S B)→Prop} {μ:SDat (shL S B)→Nat} {x:SDat (shL S B)} {nx0:Nat} {l:List Nat} {sl:List (Nat × PA)} {hp:List (Nat × HObj)} {nx:Nat} {gd:List (Nat × (Prop × Path))} {vc:List Prop} {tr:List (List Nat × List Nat)} {wr:List Nat}
    (h:K .ret ⟨sl,hp,nx,gd,vc,tr,wr++l⟩):loopK S B inv μ x nx0 l K .ret ⟨sl,hp,nx,gd,vc,tr,wr⟩:=h
theorem retK_r {E:Env} {S:Spec} {x:SDat S.ins} {rl:List ResultVar} (h:retA E S x rl rs):retK E S x rl .ret rs:=h
theorem retK_n {E:Env} {S:Spec} {x:SDat S.ins} {rl:List ResultVar} (h:retA E S x rl rs):retK E S x rl .normal rs:=h
theorem fn_goal {f:Func} {S:Spec} {x:SDat S.ins} (h:headK { sl:=argsSl S.ins x,hp:=intoH (fun k=>k) S.ins x 0 [],nx:=nn S.ins} (fun rs=>wpA c (bodyOf f) rs (retK c.E S x f.results.toList))):fnGoal c f S x:=by
 unfold fnGoal
 refine h _ fun rs hrs=>?_
 revert hrs
 unfold retK
 exact id
theorem rfA_n {W:RS→Prop} (h:W rs):rfA W .normal rs:=h
theorem rfK_e {B:List (Nat × Sh)} {sl0:List (Nat × PA)} {hp0:List (Nat × HObj)} {nx0:Nat} {gd0:List (Nat × (Prop × Path))} {vc0:List Prop} {tr0:List (List Nat × List Nat)} {wr0:List Nat} {ns:List Nat} {inv:SDat (shB B)→Prop} {i:Nat} {sl:List (Nat × PA)} {hp:List (Nat × HObj)} {nx:Nat} {gd:List (Nat × (Prop × Path))} {vc:List Prop} {tr:List (List Nat × List Nat)} {wr:List Nat}
    (h:K (.exit i) ⟨sl0,hp,nx,gd,vc,tr,wr++(keysS B++ns++wr0)⟩):rfK B ⟨sl0,hp0,nx0,gd0,vc0,tr0,wr0⟩ ns inv K (.exit i) ⟨sl,hp,nx,gd,vc,tr,wr⟩:=h
theorem rfK_r {B:List (Nat × Sh)} {sl0:List (Nat × PA)} {hp0:List (Nat × HObj)} {nx0:Nat} {gd0:List (Nat × (Prop × Path))} {vc0:List Prop} {tr0:List (List Nat × List Nat)} {wr0:List Nat} {ns:List Nat} {inv:SDat (shB B)→Prop} {sl:List (Nat × PA)} {hp:List (Nat × HObj)} {nx:Nat} {gd:List (Nat × (Prop × Path))} {vc:List Prop} {tr:List (List Nat × List Nat)} {wr:List Nat}
    (h:K .ret ⟨sl0,hp,nx,gd,vc,tr,wr++(keysS B++ns++wr0)⟩):rfK B ⟨sl0,hp0,nx0,gd0,vc0,tr0,wr0⟩ ns inv K .ret ⟨sl,hp,nx,gd,vc,tr,wr⟩:=h
def rfE (l:List Nat) (K:Ex→RS→Prop) (rs:RS):Prop:=K .normal (addWr l rs)
theorem rfE_at {l:List Nat} {sl:List (Nat × PA)} {hp:List (Nat × HObj)} {nx:Nat} {gd:List (Nat × (Prop × Path))} {vc:List Prop} {tr:List (List Nat × List Nat)} {wr:List Nat} (h:K .normal ⟨sl,hp,nx,gd,vc,tr,wr++l⟩):rfE l K ⟨sl,hp,nx,gd,vc,tr,wr⟩:=h
noncomputable def rfG (c:Cf) (asg b:Code) (ps:List Nat) (ts:List Ty) (zs:List (TDat ts)) (B:List (Nat × Sh)) (inv:List (TDat ts)→SDat (shB B)→Prop) (rs:RS) (K:Ex→RS→Prop):Prop:=
 match loopIn [] B rs with
 |some ⟨x0,ns,_,_⟩=>inv zs x0.2∧(∀ y r x,inv (y::r) x→More (headK (roundHead ts B ps rs ns y ((),x)) (fun rsH=>wpA c asg rsH (rfA (fun rs1=>wpA c b rs1 (rfK B rs ns (inv r) K))))))∧
    ∀ x,inv [] x→More (headK (loopHead [] B [] rs ns ((),x)) (rfE (keysS B++ns++rs.wr) K))
 |none=>False
theorem w_rf {g:Operand} {ps:Array Tmp} {f:FuncId} {caps:AP} {l:List AP} {Is:List ItSpec} (I:ItSpec) {z:SDat I.caps} {nxz:Nat} (B:List (Nat × Sh)) (inv:List (TDat I.ts)→SDat (shB B)→Prop) (h1:opA c.gl rs.slf [] g= .clos f caps) (h2:unlistA caps=some l) (h3:c.I f=I::Is) (h4:fromA rs.hpf I.caps (listA l) rs.nx=some ⟨z,[],[],nxz⟩)
    (h5:psOK c.N ps.toList I.ts=true) (h6:noRF a=true) (h7:noRF b=true) (hp:I.pre z) (h:rfG c a b ps.toList I.ts (I.seq z) B inv rs K):wpA c (.rangeFunc g ps a b) rs K:=by
 unfold wpA
 rw [h1]
 dsimp only
 rw [h2,h3]
 dsimp only
 rw [h4,h5,h6,h7]
 refine ⟨hp,B,inv,?_⟩
 unfold rfG at h
 split at h
 · rename_i x0 ns ex n hin
   rw [hin]
   exact ⟨h.1,fun y r x hx=>⟨(h.2.1 y r x hx).out _ fun _ h=>h⟩,fun x hx=>⟨(h.2.2 x hx).out _ fun _ h=>h⟩⟩
 · exact h.elim
def retLK (E:Env) (S:LSpec) (x:SDat S.ins) (rl:List ResultVar):Ex→RS→Prop:=fun e rs=>match e with
 | .ret=>retL E S x rl rs
 | .normal=>retL E S x rl rs
 |_=>False
theorem retLK_r {E:Env} {S:LSpec} {x:SDat S.ins} {rl:List ResultVar} (h:retL E S x rl rs):retLK E S x rl .ret rs:=h
theorem retLK_n {E:Env} {S:LSpec} {x:SDat S.ins} {rl:List ResultVar} (h:retL E S x rl rs):retLK E S x rl .normal rs:=h
theorem fnL_goal {f:Func} {S:LSpec} {x:SDat S.ins} (h:headK { sl:=argsSl S.ins x,hp:=intoH (fun k=>k) S.ins x 0 [],nx:=nn S.ins} (fun rs=>wpA c (bodyOf f) rs (retLK c.E S x f.results.toList))):fnGoalL c f S x:=by
 unfold fnGoalL
 refine h _ fun rs hrs=>?_
 revert hrs
 unfold retLK
 exact id
noncomputable def retIK (c:Cf) (ts:List Ty) (D:Eater→Prop):Ex→RS→Prop:=fun e rs=>match e with
 | .ret=>retI c ts D rs
 | .normal=>retI c ts D rs
 |_=>False
theorem retIK_r {ts:List Ty} {D:Eater→Prop} (h:retI c ts D rs):retIK c ts D .ret rs:=h
theorem retIK_n {ts:List Ty} {D:Eater→Prop} (h:retI c ts D rs):retIK c ts D .normal rs:=h
theorem w_it {ts:List Ty} {D:Eater→Prop} (h:Nat) (ys:List (TDat ts)) (E':Eater) (h1:rs.hpf h= .ob (.log ts) (ys,E',D)) (h2:ys=[]∧c.eat ts D ys E'):retI c ts D rs:=⟨h,E',by rw [h1,h2.1],h2.1 ▸ h2.2⟩
theorem fnI_goal {f:Func} {S:ItSpec} {x:SDat (.cons (.ob (.log S.ts)) S.caps)} (h:headK { sl:=argsSl (.cons (.ob (.log S.ts)) S.caps) x,hp:=intoH (fun k=>k) (.cons (.ob (.log S.ts)) S.caps) x 0 [],nx:=nn (.cons (.ob (.log S.ts)) S.caps)} (fun rs=>wpA c (bodyOf f) rs (retIK c S.ts x.1.2.2))):fnGoalI c f S x:=by
 unfold fnGoalI
 refine h _ fun rs hrs=>?_
 revert hrs
 unfold retIK
 exact id
end
end Go.Gv

/- Short words: steps of a walk found by their form, and facts put together. -/
namespace Go.Gv
open Go
class Stp (p:Prop) (q:outParam Prop):Prop where
 out:q→p
theorem st {p q:Prop} [s:Stp p q] (h:q):p:=s.out h
class Stw (p:Prop) (q:outParam Prop):Prop where
 out:q→p
theorem sw {p q:Prop} [s:Stw p q] (h:q):p:=s.out h
class Str (p:Prop) (q:outParam Prop):Prop where
 out:q→p
theorem sr {p q:Prop} [s:Str p q] (h:q):p:=s.out h
theorem dsc {p:Prop} (h:p:=by first|exact trivial|rfl|omega|exact boolOf_eq _|(simp only [allP,lo,hi,room,true_and,and_true,implies_true];done)|fail):p:=h
theorem sameP_t {p:Prop} (h:p:=by first|((repeat (first|exact trivial|((conv=>whnf);refine And.intro (by rfl) ?_)));done)|fail):p:=h
class NL (p:Prop):Prop where
 out:True
theorem nl {p:Prop} [NL p] (h:p):p:=h
class An (p:Prop) (a b:outParam Prop):Prop where
 out:a→b→p
theorem an {p a b:Prop} [s:An p a b] (x:a) (y:b):p:=s.out x y
instance {a b:Prop}:An (a∧b) a b:=⟨And.intro⟩
class Gm (p:Prop) (q:outParam Prop):Prop where
 out:q→p
theorem gm {p q:Prop} [s:Gm p q] (h:q):p:=s.out h
instance {p:Prop}:Gm (More p) p:=⟨gv_more⟩
class Cd (p:Prop) (q:outParam Prop):Prop where
 out:q→p
theorem cd {p q:Prop} [s:Cd p q] (h:q):p:=s.out h
section
variable {c:Cf} {rs:RS} {K:Ex→RS→Prop} {a b:Code}
instance {x:Operand}:Cd (wpA c (.cond x a b) rs K) (condK c (opA c.gl rs.slf [] x) a b rs K):=⟨w_cond⟩
instance:NL (wpA c a rs K):=⟨trivial⟩
instance {ins:Sh} {q:Nat→Alt ins→Prop}:NL (∃ (k:Nat) (A:Alt ins),q k A):=⟨trivial⟩
instance:Stp (wpA c (.seq a b) rs K) (wpA c a rs (thenK c b K)):=⟨w_seq⟩
instance:Stp (thenK c b K .normal rs) (wpA c b rs K):=⟨thenK_n⟩
instance {id:Nat}:Stp (wpA c (.block id b) rs K) (wpA c b rs (blockK id K)):=⟨w_block⟩
instance {id:Nat}:Stp (blockK id K .normal rs) (K .normal rs):=⟨blockK_n⟩
instance:Stp (wpA c .skip rs K) (K .normal rs):=⟨w_skip⟩
instance {i:Nat}:Stp (wpA c (.exit i) rs K) (K (.exit i) rs):=⟨w_exit⟩
instance:Stp (wpA c .ret rs K) (K .ret rs):=⟨w_ret⟩
instance:Stp (thenK c b K .ret rs) (K .ret rs):=⟨thenK_r⟩
instance {i:Nat}:Stp (thenK c b K (.exit i) rs) (K (.exit i) rs):=⟨thenK_e⟩
instance {id:Nat}:Stp (blockK id K .ret rs) (K .ret rs):=⟨blockK_r⟩
instance {id:Nat}:Stp (blockK id K (.exit id) rs) (K .normal rs):=⟨blockK_x⟩
instance {S B:List (Nat × Sh)} {inv:SDat (shL S B)→Prop} {μ:SDat (shL S B)→Nat} {x:SDat (shL S B)} {nx0:Nat} {l:List Nat} {sl:List (Nat × PA)} {hp:List (Nat × HObj)} {nx:Nat} {gd:List (Nat × (Prop × Path))} {vc:List Prop} {tr:List (List Nat × List Nat)} {wr:List Nat}:Stp (loopK S B inv μ x nx0 l K .ret ⟨sl,hp,nx,gd,vc,tr,wr⟩) (K .ret ⟨sl,hp,nx,gd,vc,tr,wr++l⟩):=⟨loopK_r⟩
instance {S B:List (Nat × Sh)} {inv:SDat (shL S B)→Prop} {μ:SDat (shL S B)→Nat} {x:SDat (shL S B)} {nx0:Nat} {l:List Nat} {i:Nat} {sl:List (Nat × PA)} {hp:List (Nat × HObj)} {nx:Nat} {gd:List (Nat × (Prop × Path))} {vc:List Prop} {tr:List (List Nat × List Nat)} {wr:List Nat}:Stp (loopK S B inv μ x nx0 l K (.exit i) ⟨sl,hp,nx,gd,vc,tr,wr⟩) (K (.exit i) ⟨sl,hp,nx,gd,vc,tr,wr++l⟩):=⟨loopK_e⟩
instance {l:Nat}:Stp (wpA c (.label l) rs K) (K .normal rs):=⟨w_label⟩
instance {W:RS→Prop}:Stp (rfA W .normal rs) (W rs):=⟨rfA_n⟩
instance {B:List (Nat × Sh)} {sl0:List (Nat × PA)} {hp0:List (Nat × HObj)} {nx0:Nat} {gd0:List (Nat × (Prop × Path))} {vc0:List Prop} {tr0:List (List Nat × List Nat)} {wr0:List Nat} {ns:List Nat} {inv:SDat (shB B)→Prop} {i:Nat} {sl:List (Nat × PA)} {hp:List (Nat × HObj)} {nx:Nat} {gd:List (Nat × (Prop × Path))} {vc:List Prop} {tr:List (List Nat × List Nat)} {wr:List Nat}:Stp (rfK B ⟨sl0,hp0,nx0,gd0,vc0,tr0,wr0⟩ ns inv K (.exit i) ⟨sl,hp,nx,gd,vc,tr,wr⟩) (K (.exit i) ⟨sl0,hp,nx,gd,vc,tr,wr++(keysS B++ns++wr0)⟩):=⟨rfK_e⟩
instance {B:List (Nat × Sh)} {sl0:List (Nat × PA)} {hp0:List (Nat × HObj)} {nx0:Nat} {gd0:List (Nat × (Prop × Path))} {vc0:List Prop} {tr0:List (List Nat × List Nat)} {wr0:List Nat} {ns:List Nat} {inv:SDat (shB B)→Prop} {sl:List (Nat × PA)} {hp:List (Nat × HObj)} {nx:Nat} {gd:List (Nat × (Prop × Path))} {vc:List Prop} {tr:List (List Nat × List Nat)} {wr:List Nat}:Stp (rfK B ⟨sl0,hp0,nx0,gd0,vc0,tr0,wr0⟩ ns inv K .ret ⟨sl,hp,nx,gd,vc,tr,wr⟩) (K .ret ⟨sl0,hp,nx,gd,vc,tr,wr++(keysS B++ns++wr0)⟩):=⟨rfK_r⟩
instance {l:List Nat} {sl:List (Nat × PA)} {hp:List (Nat × HObj)} {nx:Nat} {gd:List (Nat × (Prop × Path))} {vc:List Prop} {tr:List (List Nat × List Nat)} {wr:List Nat}:Stp (rfE l K ⟨sl,hp,nx,gd,vc,tr,wr⟩) (K .normal ⟨sl,hp,nx,gd,vc,tr,wr++l⟩):=⟨rfE_at⟩
instance {E:Env} {S:LSpec} {x:SDat S.ins} {rl:List ResultVar}:Stp (retLK E S x rl .ret rs) (retL E S x rl rs):=⟨retLK_r⟩
instance {E:Env} {S:LSpec} {x:SDat S.ins} {rl:List ResultVar}:Stp (retLK E S x rl .normal rs) (retL E S x rl rs):=⟨retLK_n⟩
instance {ts:List Ty} {D:Eater→Prop}:Stp (retIK c ts D .ret rs) (retI c ts D rs):=⟨retIK_r⟩
instance {ts:List Ty} {D:Eater→Prop}:Stp (retIK c ts D .normal rs) (retI c ts D rs):=⟨retIK_n⟩
instance {p:Prop}:Stp (condK c (.dec p) a b rs K) ((p→More (wpA c a rs K))∧(¬ p→More (wpA c b rs K))):=⟨fun h=>condK_p h.1 h.2⟩
instance {x:Bool}:Stp (condK c (.dat .bool x) a b rs K) ((x=true→More (wpA c a rs K))∧(¬ x=true→More (wpA c b rs K))):=⟨fun h=>condK_b h.1 h.2⟩
instance {id:Nat} {ops:Array Oper} {draw:Bool}:Str (wpA c (.region id ops draw) rs K) (∀ K':RS→Prop,(∀ rs',K .normal rs'→K' rs')→regA c ops.toList draw rs K'):=⟨w_region⟩
instance {Q:RS→Prop}:Str (headK rs Q) (∀ K':RS→Prop,(∀ rs',Q rs'→K' rs')→forceRS rs K'):=⟨w_head⟩
instance {S B:List (Nat × Sh)} {inv:SDat (shL S B)→Prop} {μ:SDat (shL S B)→Nat} {x:SDat (shL S B)} {nx:Nat} {l:List Nat}:Stw (loopK S B inv μ x nx l K .normal rs) (loopK S B inv μ x nx l K .normal rs):=⟨id⟩
instance {E:Env} {S:Spec} {x:SDat S.ins} {rl:List ResultVar}:Stw (retK E S x rl .ret rs) (retA E S x rl rs):=⟨retK_r⟩
instance {E:Env} {S:Spec} {x:SDat S.ins} {rl:List ResultVar}:Stw (retK E S x rl .normal rs) (retA E S x rl rs):=⟨retK_n⟩
instance {B:List (Nat × Sh)} {rs0:RS} {ns:List Nat} {inv:SDat (shB B)→Prop}:Stw (rfK B rs0 ns inv K .normal rs) (rfK B rs0 ns inv K .normal rs):=⟨id⟩
instance:Stp (condK c (.blit true) a b rs K) (wpA c a rs K):=⟨condK_t⟩
instance:Stp (condK c (.blit false) a b rs K) (wpA c b rs K):=⟨condK_f⟩
end
theorem LS:(∀ n:Nat,Int.toNat (n:Int)=n)∧(Int.toNat 0=0)∧(Int.toNat 1=1)∧(∀ p:Prop,(¬ ¬ p)=p)∧(∀ p:Prop,(boolOf p=true)=p)∧(∀ (p:Prop) [Decidable p],(decide p=true)=p)∧(∀ (p:Prop) [Decidable p],(decide p=false)=¬ p)
    ∧(∀ {α:Type} (a b:α),(a≠b)=¬ a=b)∧(∀ p:Prop,(True→p)=p)∧((¬ True)=False)∧((¬ False)=True)∧(∀ b:Bool,(¬ b=true)=(b=false))∧(∀ {α β:Type} (a a':α) (b b':β),((a,b)=(a',b'))=(a=a'∧b=b'))∧(∀ p:Prop,(p∧True)=p)∧(∀ p:Prop,(True∧p)=p)
    ∧(∀ (α:Type) [Nonempty α] (p:Prop),(α→p)=p)∧(∀ {ins:Sh} {p:Prop} {x:SDat ins} {hp:Nat→HObj} {ns:List Nat} {nx1:Nat},preA false p x hp ns nx1=p)∧(∀ b:Bool,(selB b=0)=(b=false))∧(∀ b:Bool,(selB b=1)=(b=true))∧(∀ p:Prop,(boolOf p=false)=¬ p)
    ∧(∀ {α:Type} (d x:α),(List.replicate 1 d).set 0 x=[x])∧(∀ {α:Type} (d x y:α),((List.replicate 2 d).set 0 x).set 1 y=[x,y])∧(∀ {α:Type} (d x y z:α),(((List.replicate 3 d).set 0 x).set 1 y).set 2 z=[x,y,z])
    ∧(∀ {α:Type} (l:List α) (n:Nat) (x:α),(l.set n x).length=l.length)∧(∀ {α:Type} (l m:List α),(l++m).length=l.length+m.length)∧(∀ {α β:Type} (f:α→β) (l:List α),(l.map f).length=l.length)∧(∀ {α:Type} (x:α) (l:List α),(x::l).length=l.length+1)∧(∀ {α:Type},([]:List α).length=0)∧(∀ {α:Type} (n:Nat) (x:α),(List.replicate n x).length=n)
    ∧(∀ n:Nat,0+n=n)∧(∀ n:Nat,n+0=n):=by
 refine ⟨fun _=>rfl,rfl,rfl,fun _=>propext Classical.not_not,fun _=>propext boolOf_true,fun _ _=>propext decide_eq_true_iff,fun _ _=>propext decide_eq_false_iff_not,fun _ _=>rfl,fun _=>propext ⟨fun h=>h trivial,fun h _=>h⟩,by simp,by simp,fun _=>by simp,fun _ _ _ _=>by simp,fun _=>by simp,fun _=>by simp,
  fun _ _ _=>by simp,rfl,fun _=>propext selB_0,fun _=>propext selB_1,fun _=>propext boolOf_eq_false,fun _ _=>rfl,fun _ _ _=>rfl,fun _ _ _ _=>rfl,fun _ _ _=>by simp,fun _ _=>by simp,fun _ _=>by simp,fun _ _=>rfl,rfl,fun _ _=>by simp,fun _=>by simp,fun _=>rfl⟩
end Go.Gv

/- Decimal numerals: each is that of one number alone; a list of numerals, parted by signs that are no digits. No program in this text. -/
namespace Go.Gv
open Go Go.Lib
theorem dec_dig (u:Nat):∀ b∈decDigits u,48≤b.toNat∧b.toNat≤57:=by
 induction u using Nat.strongRecOn with
 |_ u ih=>
  intro b hb
  by_cases h:u<10
  · rw [decDigits,dif_pos h] at hb
    simp at hb;subst hb
    simp;omega
  · rw [decDigits,dif_neg h,List.mem_append] at hb
    rcases hb with hb|hb
    · exact ih (u / 10) (by omega) b hb
    · simp at hb;subst hb
      simp;omega
def decVal (l:List UInt8):Nat:=l.foldl (fun a b=>a * 10+(b.toNat - 48)) 0
theorem dec_val (u:Nat):decVal (decDigits u)=u:=by
 induction u using Nat.strongRecOn with
 |_ u ih=>
  by_cases h:u<10
  · rw [decDigits,dif_pos h]
    simp [decVal];omega
  · rw [decDigits,dif_neg h]
    have:=ih (u / 10) (by omega)
    unfold decVal at this ⊢
    rw [List.foldl_append,this]
    simp;omega
theorem dec_inj {u v:Nat} (h:decDigits u=decDigits v):u=v:=by rw [← dec_val u,h,dec_val]
theorem itoa_ch (n:Int):∀ b∈itoa n,b.toNat=45∨(48≤b.toNat∧b.toNat≤57):=by
 intro b hb
 unfold itoa at hb
 split at hb
 · rcases List.mem_cons.1 hb with rfl|hb
   · exact .inl rfl
   · exact .inr (dec_dig _ b hb)
 · exact .inr (dec_dig _ b hb)
theorem itoa_not {n:Int} {b:UInt8} (h:b∈itoa n):b≠44∧b≠46∧b≠42∧b≠94∧b≠120∧b≠32∧b≠43:=by
 have:=itoa_ch n b h
 refine ⟨?_,?_,?_,?_,?_,?_,?_⟩<;>(rintro rfl;revert this;decide)
theorem itoa_inj {m n:Int} (h:itoa m=itoa n):m=n:=by
 unfold itoa at h
 have key:∀ u v:Nat,(45:UInt8)::decDigits u≠decDigits v:=fun u v e=>by
  have:=dec_dig v 45 (by rw [← e];exact List.mem_cons_self)
  revert this;decide
 split at h<;>split at h
 · have:=dec_inj (List.cons.inj h).2;omega
 · exact (key _ _ h).elim
 · exact (key _ _ h.symm).elim
 · have:=dec_inj h;omega
theorem split_sep {α:Type} {s:α}:∀ {l1 l2 r1 r2:List α},s ∉ l1→s ∉ l2→l1++s::r1=l2++s::r2→l1=l2∧r1=r2
 |[],[],r1,r2,_,_,h=>⟨rfl,(List.cons.inj h).2⟩
 |[],b::l2,r1,r2,_,h2,h=>(h2 (by rw [(List.cons.inj h).1];exact List.mem_cons_self)).elim
 |a::l1,[],r1,r2,h1,_,h=>(h1 (by rw [← (List.cons.inj h).1];exact List.mem_cons_self)).elim
 |a::l1,b::l2,r1,r2,h1,h2,h=>by
  obtain ⟨e,h⟩:=List.cons.inj h
  obtain ⟨e1,e2⟩:=split_sep (fun hm=>h1 (List.mem_cons_of_mem _ hm)) (fun hm=>h2 (List.mem_cons_of_mem _ hm)) h
  exact ⟨by rw [e,e1],e2⟩
def sepD (s:UInt8) (l:List Int):List UInt8:=l.flatMap fun k=>s::itoa k
theorem sepD_inj {s:UInt8} (hs:∀ n,s ∉ itoa n):∀ {ks ls:List Int} {a b:Int},itoa a++sepD s ks=itoa b++sepD s ls→a=b∧ks=ls
 |[],[],a,b,h=>⟨itoa_inj (by simpa [sepD] using h),rfl⟩
 |[],k::ls,a,b,h=>by
  have:s∈itoa a:=by
   have:s∈itoa a++sepD s []:=by rw [h];simp [sepD]
   simpa [sepD] using this
  exact (hs a this).elim
 |k::ks,[],a,b,h=>by
  have:s∈itoa b:=by
   have:s∈itoa b++sepD s []:=by rw [← h];simp [sepD]
   simpa [sepD] using this
  exact (hs b this).elim
 |k::ks,l::ls,a,b,h=>by
  have e1:∀ (k:Int) (ks:List Int),sepD s (k::ks)=s::(itoa k++sepD s ks):=fun k ks=>by simp [sepD]
  rw [e1,e1] at h
  obtain ⟨h1,h2⟩:=split_sep (hs a) (hs b) h
  obtain ⟨h3,h4⟩:=sepD_inj hs h2
  exact ⟨itoa_inj h1,by rw [h3,h4]⟩
def nameD (k v:Int) (ks:List Int):List UInt8:=itoa k++46::(itoa v++sepD 44 ks)
theorem nameD_inj {k v k' v':Int} {ks ks':List Int} (h:nameD k v ks=nameD k' v' ks'):k=k'∧v=v'∧ks=ks':=by
 obtain ⟨h1,h2⟩:=split_sep (fun hm=>(itoa_not hm).2.1 rfl) (fun hm=>(itoa_not hm).2.1 rfl) h
 obtain ⟨h3,h4⟩:=sepD_inj (fun n hm=>(itoa_not hm).1 rfl) h2
 exact ⟨itoa_inj h1,h3,h4⟩
end Go.Gv

/- A contract of a function that touches no memory, out of what is known of its calls. -/
namespace Go.Gv
open Go
theorem castDat_self {t:Ty} {x:Dat t}:castDat t t x=some x:=by unfold castDat;rw [dif_pos rfl]
theorem toDat_dat (hp:Nat→HObj) (t:Ty) (x:Dat t):toDat hp t (.dat t x)=some x:=by
 cases t<;>simp only [toDat,toDat1,castDat_self]
def datSh:Sh→Bool
 | .nil=>true
 | .cons (.d _) s=>datSh s
 |_=>false
theorem fromA_into (hp:Nat→HObj):∀ (s:Sh),datSh s=true→∀ (x:SDat s) (nm:Nat→Nat) (n nx:Nat),fromA hp s (intoA nm s x n) nx=some ⟨x,[],[],nx⟩
 | .nil,_,x,_,_,_=>rfl
 | .cons (.d t) s,h,x,nm,n,nx=>by
  have ih:=fromA_into hp s h x.2 nm (n+0) nx
  simp only [intoA,nn] at ih ⊢
  simp only [fromA,toDat_dat,ih]
  rfl
theorem fromA_end (hp:Nat→HObj):∀ (s:Sh),datSh s=true→∀ (x:SDat s) (n nx:Nat),fromA hp (backS s) (endAP s x n) nx=some ⟨keepS s x,[],[],nx⟩
 | .nil,_,x,_,_=>rfl
 | .cons (.d t) s,h,x,n,nx=>by
  have ih:=fromA_end hp s h x.2 (n+0) nx
  simp only [endAP,backS,nn] at ih ⊢
  simp only [fromA,toDat_dat,ih]
  rfl
theorem listA_into:∀ (s:Sh),datSh s=true→∀ (x:SDat s) (nm:Nat→Nat) (n:Nat),∃ L,listA L=intoA nm s x n
 | .nil,_,_,_,_=>⟨[],rfl⟩
 | .cons (.d t) s,h,x,nm,n=>by
  obtain ⟨L,hL⟩:=listA_into s h x.2 nm (n+nn (.d t))
  exact ⟨.dat t x.1::L,by unfold listA;rw [hL];rfl⟩
theorem pure_ok {P:Program} {gl:Glob} {f:FuncId} {fn:Func} {n:Nat} {ins outs:Sh} {pre:SDat ins→Prop} {res:SDat ins→SDat outs} (hf:FnOK P f fn n) (hi:datSh ins=true) (ho:datSh outs=true)
    (h:∀ x,pre x→∀ (β:Asg) (G:GW) (args:List Value),(∀ g t y,gl g=some ⟨t,y⟩→sat (.ptr t y) β G (.pointer (some ⟨g,0,none⟩)))→satT (intoA (fun k=>k) ins x 0) β G args→
     Calls P f args.toArray G.w (fun e w'=>∃ vs,e= .returned (resV vs)∧w'=G.w∧satT (intoA (fun k=>k) outs (res x) 0) β G vs)):
    SpecOK P gl f { ins:=ins,pre:=pre,alts:=[{ outs:=outs,res:=res}]}:=by
 refine ⟨⟨fn,hf.at',by have:=hf.body;revert this;cases fn.body<;>simp,hf.name⟩,fun x hpre=>⟨_,rfl,fun C β G args hg hz H hargs=>?_⟩⟩
 refine Calls.mono (h x hpre β G args (fun g t y hy=>(H.glob g t y (by rw [hg];exact hy)).sat β) hargs) fun e w' hr=>?_
 obtain ⟨vs,rfl,rfl,hv⟩:=hr
 obtain ⟨L,hL⟩:=listA_into outs ho (res x) (fun k=>k) 0
 exact ⟨⟨_,β,G,L,vs,nn ins,res x,[],[],nn ins,keepS ins x,[],[],nn ins,rfl,H,Asg.le_refl β,G.le_refl,rfl,by rw [hL];exact hv,fun k hk=>canon_out ins x hk,by rw [hL];exact fromA_into _ outs ho (res x) _ 0 _,fromA_end _ ins hi x 0 _,rfl,rfl,rfl,rfl⟩⟩
theorem SpecOK.either {P:Program} {gl:Glob} {f:FuncId} {ins:Sh} {pre q:SDat ins→Prop} {sel:SDat ins→Nat} {alts:List (Alt ins)} {ro:Bool} (h1:SpecOK P gl f { ins:=ins,pre:=fun x=>pre x∧q x,sel:=sel,alts:=alts,ro:=ro})
    (h2:SpecOK P gl f { ins:=ins,pre:=fun x=>pre x∧¬ q x,sel:=sel,alts:=alts,ro:=ro}):SpecOK P gl f { ins:=ins,pre:=pre,sel:=sel,alts:=alts,ro:=ro}:=
 ⟨h1.1,fun x hp=>(Classical.em (q x)).elim (fun hq=>h1.2 x ⟨hp,hq⟩) (fun hq=>h2.2 x ⟨hp,hq⟩)⟩
end Go.Gv

/- A law's row: its arguments read as data; a listed table; what the row asks. -/
namespace Go.Gv
open Go
theorem cell_noAgg {P:Program} {w:World} {r:Reach} {base:Nat} {t:TypeId} {v:Value} (h:Cell.okWide P w r base t v):∀ c,v≠ .agg c:=by
 rintro c rfl
 unfold Cell.okWide at h
 split at h<;>first|(rename_i h2;cases h2;done)|skip
 rename_i a b
 all_goals (try (cases ‹Value.agg c=_›))
 unfold Cell.ok at h
 split at h<;>first|exact h|(cases ‹Value.agg c=_›)
def argsB (P:Program):Sh→List TypeId→Bool
 | .nil,[]=>true
 | .cons (.d t) s,T::r=>plainTy t && tym P t T && argsB P s r
 |_,_=>false
theorem noAgg_of {P:Program} {w:World} {r:Reach} {base:Nat} {t:Ty} {T:TypeId} {v:Value} (hp:plainTy t=true) (ht:tym P t T=true) (hok:Value.okWide P w r base T v):t.agg=true↔∃ c,v= .agg c:=by
 cases t with
 |int k=>have:=und_int ht;unfold Value.okWide at hok;rw [this] at hok;exact ⟨fun h=>(by cases h),fun ⟨c,e⟩=>(cell_noAgg hok c e).elim⟩
 |bool=>have:=und_bool ht;unfold Value.okWide at hok;rw [this] at hok;exact ⟨fun h=>(by cases h),fun ⟨c,e⟩=>(cell_noAgg hok c e).elim⟩
 |str=>have:=und_str ht;unfold Value.okWide at hok;rw [this] at hok;exact ⟨fun h=>(by cases h),fun ⟨c,e⟩=>(cell_noAgg hok c e).elim⟩
 |sl t=>obtain ⟨e,this,_⟩:=und_sl ht;unfold Value.okWide at hok;rw [this] at hok;exact ⟨fun h=>(by cases h),fun ⟨c,e⟩=>(cell_noAgg hok c e).elim⟩
 |nl=>simp [tym] at ht
 |cs a b=>simp [tym] at ht
 |st fs=>obtain ⟨f,this,_⟩:=und_st ht;unfold Value.okWide at hok;rw [this] at hok;exact ⟨fun _=>let ⟨c,e,_⟩:=hok;⟨c,e⟩,fun _=>rfl⟩
 |arr n t=>obtain ⟨e,this,_⟩:=und_arr ht;unfold Value.okWide at hok;rw [this] at hok;exact ⟨fun _=>let ⟨c,e,_⟩:=hok;⟨c,e⟩,fun _=>rfl⟩
 |mp k v=>cases hp
 |pt t=>cases hp
 |ot k=>cases hp
 |fn=>cases hp
section
variable {H:Type} {enc:TypeId × Value→H} {P:Program} {W:World}
theorem args_sat {base:Nat}:∀ (s:Sh) (ts:List TypeId) (vs:List Value) (ds:List (DataW H)) (ps:List MemPlace),argsB P s ts=true→(∀ (j:Nat) t v,ts[j]?=some t→vs[j]?=some v→Value.okWide P W .any base t v)→
    DataW.TrodAll enc P W 0 (fun _=>true) true ts vs ds ps→∃ x:SDat s,∀ (nm:Nat→Nat) (n:Nat),satT (intoA nm s x n) (fun _=>none) (GW.all W) vs
 | .nil,[],vs,ds,ps,_,_,h=>by
  cases vs with
  |nil=>exact ⟨(),fun _ _=>by show satT .nil _ _ _;unfold satT;rfl⟩
  |cons v r=>cases ds<;>exact h.elim
 | .cons (.d t) s,T::r,vs,ds,ps,hb,hok,h=>by
  unfold argsB at hb
  simp only [Bool.and_eq_true] at hb
  obtain ⟨⟨hp,ht⟩,hb⟩:=hb
  cases vs with
  |nil=>cases ds<;>exact h.elim
  |cons v vs=>
   cases ds with
   |nil=>exact h.elim
   |cons d ds=>
    obtain ⟨p,q,⟨fuel,hd⟩,hr,_⟩:=h
    obtain ⟨x,hx⟩:=trod_rep t hp T fuel _ _ ht hd
    obtain ⟨y,hy⟩:=args_sat s r vs ds q hb (fun j t v h1 h2=>hok (j+1) t v (by simpa using h1) (by simpa using h2)) hr
    refine ⟨(x,y),fun nm n=>?_⟩
    show satT (.cons (.dat t x) _) _ _ _
    unfold satT
    refine ⟨v,vs,rfl,?_,hy nm _⟩
    unfold sat
    exact ⟨noAgg_of hp ht (hok 0 T v rfl rfl),hx⟩
 | .nil,_::_,_,_,_,hb,_,_=>by cases hb
 | .cons (.d _) _,[],_,_,_,hb,_,_=>by cases hb
 | .d _,_,_,_,_,hb,_,_=>by simp [argsB] at hb
 | .row _,_,_,_,_,hb,_,_=>by simp [argsB] at hb
 | .take _,_,_,_,_,hb,_,_=>by simp [argsB] at hb
 | .spare _,_,_,_,_,hb,_,_=>by simp [argsB] at hb
 | .map _ _,_,_,_,_,hb,_,_=>by simp [argsB] at hb
 | .ob _,_,_,_,_,hb,_,_=>by simp [argsB] at hb
 | .box _,_,_,_,_,hb,_,_=>by simp [argsB] at hb
 | .clos _ _,_,_,_,_,hb,_,_=>by simp [argsB] at hb
 | .nilp,_,_,_,_,hb,_,_=>by simp [argsB] at hb
 | .nils,_,_,_,_,hb,_,_=>by simp [argsB] at hb
 | .cons (.row _) _,_,_,_,_,hb,_,_=>by simp [argsB] at hb
 | .cons (.take _) _,_,_,_,_,hb,_,_=>by simp [argsB] at hb
 | .cons (.spare _) _,_,_,_,_,hb,_,_=>by simp [argsB] at hb
 | .cons (.map _ _) _,_,_,_,_,hb,_,_=>by simp [argsB] at hb
 | .cons (.box _) _,_,_,_,_,hb,_,_=>by simp [argsB] at hb
 | .cons (.clos _ _) _,_,_,_,_,hb,_,_=>by simp [argsB] at hb
 | .cons .nilp _,_,_,_,_,hb,_,_=>by simp [argsB] at hb
 | .cons .nils _,_,_,_,_,hb,_,_=>by simp [argsB] at hb
 | .cons .nil _,_,_,_,_,hb,_,_=>by simp [argsB] at hb
 | .cons (.cons _ _) _,_,_,_,_,hb,_,_=>by simp [argsB] at hb
theorem tab_sat {g:Nat} {k:IntKind} {zs:List Int} {name:String} (h:Lib.TabIs P W name k zs) (hg:P.globalNamed name=some g) (hz:∀ z∈zs,lo k≤z∧z≤hi k):globOK (.arr zs.length (.int k)) zs (GW.all W) g:=by
 have hz0:∃ T fz,W.heap[g]?=some (.cells (zs.map fun z=>Value.int k z).toArray T fz):=by
  unfold Lib.TabIs at h
  simp only [World.var?,hg,Option.bind_some] at h
  cases ho:W.heap[g]? with
  |none=>rw [ho] at h;cases h
  |some ob=>
   rw [ho] at h
   cases ob<;>first|(simp only [Option.some.injEq] at h;subst h;exact ⟨_,_,rfl⟩)|cases h
 refine ⟨⟨zs.map (fun z=> .int k z),fun j v hv=>?_,?_⟩,?_,?_⟩
 · rw [List.getElem?_map,Option.map_eq_some_iff] at hv
   obtain ⟨z,hj,rfl⟩:=hv
   have h2:=h.cell hg j (List.getElem?_eq_some_iff.1 hj).1
   rw [List.getD_eq_getElem?_getD,hj] at h2
   rw [Nat.zero_add]
   exact ⟨cell_lt h2,h2⟩
 · unfold Rep
   refine ⟨rfl,by simp [Ty.size],fun i x hx=>?_⟩
   unfold Rep
   have hi':=(List.getElem?_eq_some_iff.1 hx).1
   refine ⟨?_,has_iff.2 (hz _ (List.mem_of_getElem? hx))⟩
   apply List.ext_getElem?
   intro j
   simp only [Ty.size,Nat.mul_one,List.getElem?_take,List.getElem?_drop,List.getElem?_map]
   by_cases hj:j<1
   · have:j=0:=by omega
     subst this
     rw [if_pos hj,Nat.add_zero,hx];rfl
   · rw [if_neg hj]
     cases j with
     |zero=>omega
     |succ j=>rfl
 · obtain ⟨T,fz,ho⟩:=hz0
   exact (Array.getElem?_eq_some_iff.1 ho).1
 · obtain ⟨T,fz,ho⟩:=hz0
   show W.cell? _=none
   simp only [World.cell?,ho]
   simp [Ty.size]
theorem tab_of_glob {P:Program} {g:Nat} {k:IntKind} {zs:List Int} {name:String} (hne:zs≠[]) {G:GW} (h:globOK (.arr zs.length (.int k)) zs G g) (hg:P.globalNamed name=some g):Lib.TabIs P G.w name k zs:=by
 obtain ⟨⟨cells,h1,h2⟩,_,h4⟩:=h
 unfold Rep at h2
 obtain ⟨_,hl,hx⟩:=h2
 have hl:cells.length=zs.length:=by simpa [Ty.size] using hl
 have hc:cells=zs.map fun z=>Value.int k z:=by
  apply List.ext_getElem (by simp [hl])
  intro i hi hi'
  have hiz:i<zs.length:=by omega
  have h3:=hx i _ (List.getElem?_eq_getElem hiz)
  unfold Rep at h3
  have h5:=congrArg (fun l:List Value=>l[0]?) h3.1
  simp only [Ty.size,Nat.mul_one,List.getElem?_take,List.getElem?_drop,Nat.add_zero] at h5
  simpa [hi] using h5
 have hpos:0<zs.length:=List.length_pos_iff.2 hne
 have h0:=(h1 0 _ (List.getElem?_eq_getElem (by omega))).2
 have hob:∃ cs T fz,G.w.heap[g]?=some (.cells cs T fz):=by
  simp only [World.cell?] at h0
  cases ho:G.w.heap[g]? with
  |none=>rw [ho] at h0;cases h0
  |some ob=>
   rw [ho] at h0
   cases ob<;>first|exact ⟨_,_,_,rfl⟩|cases h0
 obtain ⟨cs,T,fz,ho⟩:=hob
 have hat:∀ i,G.w.cell? ⟨g,i,none⟩=cs[i]?:=fun i=>by simp [World.cell?,ho]
 unfold Lib.TabIs
 simp only [World.var?,hg,Option.bind_some,ho]
 congr 1
 apply Array.ext'
 rw [← hc]
 apply List.ext_getElem?
 intro i
 rw [Array.getElem?_toList,← hat]
 by_cases hi:i<cells.length
 · have:=(h1 i _ (List.getElem?_eq_getElem hi)).2
   rw [Nat.zero_add] at this
   rw [this,List.getElem?_eq_getElem hi]
 · rw [List.getElem?_eq_none (by simp;omega)]
   have h4':G.w.cell? ⟨g,zs.length,none⟩=none:=by simpa [Ty.size] using h4
   rw [hat] at h4' ⊢
   rw [Array.getElem?_eq_none_iff] at h4' ⊢
   omega
theorem laidVars_at:∀ {l:List (String × DataW Unit)} {ps:List MemPlace},DataW.LaidVars P W l ps→∀ x∈l,∃ ps',DataW.LaidVars P W [x] ps'
 |[],_,_,x,hx=>by cases hx
 |(n,d)::l,ps,h,x,hx=>by
  obtain ⟨g,t,cs,fuel,p,q,h1,h2,h3,h4,h5,h6⟩:=h
  rcases List.mem_cons.1 hx with rfl|hx
  · exact ⟨_,g,t,cs,fuel,p,[],h1,h2,h3,h4,rfl,rfl⟩
  · exact laidVars_at h5 x hx
theorem tab_of_list {l:List (String × DataW Unit)} (h:laidMet P l W) {name:String} {k:IntKind} {zs:List Int} {i:Nat} (hx:l[i]?=some (name,Lib.tabData k zs)) {g n:Nat} {t e:TypeId} (hg:P.globalNamed name=some g) (hty:(P.globals[g]?).map (·.type)=some t) (ht:P.underlying t=some (.array n e))
    (he:P.underlying e=some (.int k)) (hce:P.cellsOf e=1) (hct:P.cellsOf t=n):Lib.TabIs P W name k zs:=by
 obtain ⟨ps,h1,_⟩:=h
 obtain ⟨ps',h2⟩:=laidVars_at h1 _ (List.mem_of_getElem? hx)
 obtain ⟨g',t',cs,fuel,p,q,hg',ht',hvar,hd,_,_⟩:=h2
 obtain rfl:=Option.some.inj (hg.symm.trans hg')
 obtain rfl:=Option.some.inj (hty.symm.trans ht')
 unfold Lib.TabIs
 rw [hvar,← Lib.cells_of_tab ht he hce hct hd]
theorem laid_plain {l:List (String × DataW Unit)} (h:laidMetH P l W) (he:(l.filter fun x=>x.2.handleName?.isSome)=[]):laidMet P l W:=by
 unfold laidMetH at h
 rw [he] at h
 exact h
theorem trodAll_len:∀ {ts:List TypeId} {vs:List Value} {ds:List (DataW H)} {ps:List MemPlace} {base:Nat} {sp:Nat→Bool} {held:Bool},DataW.TrodAll enc P W base sp held ts vs ds ps→ds.length=ts.length
 |[],[],[],_,_,_,_,_=>rfl
 |_::_,_::_,_::_,_,_,_,_,⟨_,_,_,h,_⟩=>congrArg (·+1) (trodAll_len h)
theorem law_row {gl:Glob} {f:FuncId} {fn:Func} {ins:Sh} {pre:SDat ins→Prop} {res:SDat ins→SDat (.cons (.d .bool) .nil)} {nz:Bool} (hS:SpecOK P gl f { ins:=ins,pre:=pre,alts:=[{ outs:= .cons (.d .bool) .nil,res:=res}],noisy:=nz}) (hpre:∀ x,pre x) (htrue:∀ x,res x=(true,()))
    (hins:argsB P ins fn.params.toList=true) (hnn:nn ins=0) (hl:laidOutB P=true) (hm:mapsRowed P=true)
    (hfull:((List.range P.types.size).all fun t=>match P.underlying t with|some (.slice e)=>decide (0<P.cellsOf e)|_=>true)=true) (hty:(fn.params.toList.all fun t=>decide (t<P.types.size))=true) {tb:TypeId} (hres:fn.resultTypes=#[tb]) (htb:P.underlying tb=some .bool)
    {s:ChangeSpec} (hvars:s.vars=[]) (hfn:∀ ds:List (DataW H),ds.length=fn.params.size→s.fn H ds={ results:=[.lit (.bool true)],args:=ds}) {apart fresh handsOn:Bool} {base:Nat} {args:Array Value} {ds gs:List (DataW H)} {before:List MemPlace}
    (hgl:∀ g t y,gl g=some ⟨t,y⟩→globOK t y (GW.all W) g)
    (hval:∀ (j:Nat) t v,fn.params[j]?=some t→args[j]?=some v→Value.okWide P W .any base t v) (hW:DataW.Whole enc P fn.params.toList s.vars apart W args.toList ds gs before):
    Calls P f args W fun e W'=>∃ v,e= .returned v∧s.post enc P fn apart fresh handsOn false W args v W':=by
 have hW':=hW
 obtain ⟨p,q,hA,_⟩:=hW
 obtain ⟨x,hx⟩:=args_sat ins fn.params.toList args.toList ds p hins (fun j t v h1 h2=>hval j t v (by simpa using h1) (by simpa using h2)) hA
 obtain ⟨A,hAs,hc⟩:=law_calls hS (x:=x) (hpre x) hnn (hx _ _) hgl
 have hAe:A={ outs:= .cons (.d .bool) .nil,res:=res}:=by
  have:some A=some _:=hAs.symm.trans (rfl:_=some ({ outs:= .cons (.d .bool) .nil,res:=res}:Alt ins))
  exact Option.some.inj this
 subst hAe
 have hc:Calls P f args W _:=hc
 refine hc.mono fun e W' h=>?_
 obtain ⟨v,rfl,β',G',rfl,hst,hv⟩:=h
 have hv2:sat (.dat .bool true) β' G' v:=by
  have:resA (.cons (.d .bool) .nil) (res x) 0= .dat .bool true:=by rw [htrue x];rfl
  rw [← this];exact hv
 unfold sat at hv2
 have h3:=hv2.to_one rfl
 unfold Rep at h3
 simp only [List.cons.injEq,and_true] at h3
 subst h3
 refine ⟨_,rfl,law_post hl hm hfull hW' hvars (fun t ht=>?_) hres htb (hfn ds (by rw [trodAll_len hA];simp)) hst⟩
 exact of_decide_eq_true (List.all_eq_true.1 hty t ht)
end
def litV:DataW Unit→Value
 | .lit (.int k n)=> .int k n
 | .lit (.bool b)=> .bool b
 | .lit (.string b)=> .string ⟨b.toArray⟩
 |_=> .slice none 0 0
def datV:DataW Unit→Array Value
 | .agg ds=>(ds.map litV).toArray
 |d=>#[litV d]
def putG (w:World) (g:Nat) (d:DataW Unit):World:={ w with heap:=w.heap.modify g fun
 | .cells _ t fz=> .cells (datV d) t fz
 |o=>o}
end Go.Gv

/- The library's functions that take data and hand back a datum, as contracts. -/
namespace Go.Gv
open Go Go.RowKit
def dataS:Sh→Bool
 | .cons (.d _) s=>dataS s
 | .nil=>true
 |_=>false
theorem dataS_canon:∀ {s:Sh},dataS s=true→∀ (x:SDat s) (n:Nat) (r:List (Nat × HObj)),intoH (fun k=>k) s x n r=r
 | .cons (.d t) s,h,x,n,r=>dataS_canon (s:=s) h x.2 (n+0) r
 | .nil,_,_,_,_=>rfl
theorem dataS_back:∀ {s:Sh},dataS s=true→∀ (hp:Nat→HObj) (x:SDat s) (n nx:Nat),fromA hp (backS s) (endAP s x n) nx=some ⟨keepS s x,[],[],nx⟩
 | .cons (.d t) s,h,hp,x,n,nx=>by
  simp only [backS,endAP,fromA,toDat_dat]
  rw [dataS_back (s:=s) h hp x.2 (n+nn (Sh.d t)) nx]
  rfl
 | .nil,_,_,_,_,_=>rfl
theorem Below.step {G:GW} {hp:Nat→HObj} {β:Asg} (H:HeapOK hp β G) {w':World} (hb:Below G.w.heap.size G.w w') (hd:G.w.drawn≤w'.drawn∨G.nz):Step (fun _ _=>False) (fun _=>False) G { G with w:=w'}:={
 os:=hb.os
 tape:=hb.tape
 output:=hb.output
 size:=hb.size
 cell:=fun b o hlt _=>by
  have e:=hb.block b hlt
  exact ⟨by show w'.cell? _=_;unfold World.cell?;rw [e],by show w'.frozen? _=_;unfold World.frozen?;rw [e]⟩
 blk:=fun b hlt _ _=>hb.block b hlt
 obj:=fun b es c _ he=>(hb.block b (Array.getElem?_eq_some_iff.1 he).1).trans he
 le:=⟨fun b o hi=>⟨hi,by show w'.cell? _=_;unfold World.cell?;rw [hb.block b (H.old b o hi)]⟩,fun b hi=>⟨hi,hb.block b (H.oldo_lt hi)⟩⟩
 new:=fun _ _ hi=> .inl hi
 newo:=fun _ hi=> .inl hi
 drawn:=hd
 nz:=rfl}
theorem Below.inv {C:Ctx} {G:GW} {hp:Nat→HObj} {β:Asg} (H:HInv C hp β G) {w':World} (hb:Below G.w.heap.size G.w w') (hd:G.w.drawn≤w'.drawn∨G.nz):HInv C hp β { G with w:=w'}:=by
 have hst:=Below.step H.heap hb hd
 exact H.same hst (fun b o hi=>Nat.lt_of_lt_of_le (H.heap.old b o hi) hb.size) (fun b hi=>by
  obtain ⟨ob,he,he'⟩:=H.heap.oldo b hi
  exact ⟨ob,(hb.block b (Array.getElem?_eq_some_iff.1 he).1).trans he,he'⟩)
theorem lib_ok {P : Program} {gl : Glob} {f : FuncId} (hf : ∃ fn, P.funcs[f]? = some fn ∧ fn.body.isNone = false ∧ (fn.name == "runtime.NumGoroutine") = false) {ins : Sh} (hd : dataS ins = true) {t : Ty} {pre : SDat ins → Prop} {res : SDat ins → Dat t} (nz : Bool)
    (h:∀ x,pre x→∀ (C:Ctx) (β:Asg) (G:GW) (args:List Value),C.glob=gl→HInv C (fun _=> .none) β G→satT (intoA (fun k=>k) ins x 0) β G args→Calls P f args.toArray G.w (fun e w'=>∃ v,e= .returned v∧Below G.w.heap.size G.w w'∧(nz=false→G.w.drawn≤w'.drawn)∧RepV t (res x) { G with w:=w'} v)):
    SpecOK P gl f { ins:=ins,pre:=pre,alts:=[{ outs:= .cons (.d t) .nil,res:=fun x=>(res x,())}],noisy:=nz}:=by
 refine ⟨hf,fun x hx=>⟨_,rfl,fun C β G args hg hz H ha=>?_⟩⟩
 have hcan:canon ins x=fun _=> .none:=by
  unfold canon
  rw [dataS_canon hd];rfl
 dsimp only at H ha hz ⊢
 rw [hcan] at H
 refine (h x hx C β G args hg H ha).mono fun e w' hr=>?_
 obtain ⟨v,rfl,hb,hdr,hv⟩:=hr
 have hdr:G.w.drawn≤w'.drawn∨G.nz:=by
  cases nz with
  |false=>exact .inl (hdr rfl)
  |true=>exact .inr (by rw [H.step.nz];exact hz rfl)
 have hst:=Below.step H.heap hb hdr
 refine ⟨⟨fun _=> .none,β,{ G with w:=w'},[.dat t (res x)],[v],0,(res x,()),[],[],0,keepS ins x,[],[],0,rfl,Below.inv H hb hdr,Asg.le_refl β,hst.le,rfl,?_,fun _ _=>rfl,?_,?_,rfl,rfl,rfl,rfl⟩⟩
 · show satT (.cons (.dat t (res x)) .nil) _ _ _
   unfold satT
   refine ⟨v,[],rfl,by unfold sat;exact hv,by unfold satT;rfl⟩
 · show fromA _ (.cons (.d t) .nil) (.cons (.dat t (res x)) .nil) 0=_
   simp only [fromA,toDat_dat]
   rfl
 · exact dataS_back hd _ x 0 0
end Go.Gv
