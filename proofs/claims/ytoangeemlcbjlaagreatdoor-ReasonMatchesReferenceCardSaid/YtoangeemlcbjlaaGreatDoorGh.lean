/- A verified generator of conditions over the code of the model. Part 8. -/
import Derived.Test.YtoangeemlcbjlaaGreatDoorGg
import Derived.Shelf.Strconv.Itoa1
import Derived.Shelf.Strconv.Itoa2
import Derived.Lib.ItoaMem
import Derived.Lib.AppendIntMem
import Derived.Lib.SlFresh
import Derived.OwnWalk
import Derived.Shelf.Strings.OnBuilder
import Derived.Sort.Grow
import Derived.Shelf.Strconv.Itoa3
import Derived.Lib.ItoaLen
import Derived.Shelf.SlSortCmp.InsertionK
import Derived.Shelf.Small.Bits
import Derived.Shelf.Sort.Plain
import Derived.Shelf.Slices.CompactI
import Derived.Shelf.SlIterI.Nil
import Derived.Shelf.SlSortCmp.Pdq1
import Derived.Shelf.SlSortCmp.NoneTotal
set_option linter.all false

/- Decimal numerals: what the library's functions on them come to, as contracts, over any numbering. -/
namespace Go.Gv
open Go Go.Proofs Go.Shelf Go.RowKit Go.Sort
variable {P:Program} {ρ:Ren}
def digU (n:Nat):List Int:=(Lib.decDigits n).map (fun b:UInt8=>(b.toNat:Int))
@[reducible] def smallSpec:Spec:={ ins:= .cons (.d (.int .i64)) .nil,pre:=fun x=>0≤x.1∧x.1<100,alts:=[{ outs:= .cons (.d .str) .nil,res:=fun x=>(Lib.decDigits x.1.toNat,())}]}
theorem dat1 {t:Ty} {x:Dat t} {β:Asg} {G:GW} {args:List Value} (h:satT (.cons (.dat t x) .nil) β G args):∃ v,args=[v]∧RepV t x G v:=by
 unfold satT at h
 obtain ⟨v,l,rfl,h1,h2⟩:=h
 unfold satT at h2
 subst h2
 unfold sat at h1
 exact ⟨v,rfl,h1⟩
theorem dat1_mk {t:Ty} {x:Dat t} {β:Asg} {G:GW} {v:Value} (h:RepV t x G v):satT (.cons (.dat t x) .nil) β G [v]:=by
 unfold satT
 exact ⟨v,[],rfl,by unfold sat;exact h,by unfold satT;rfl⟩
theorem int_rep {k:IntKind} {x:Int} {G:GW} {v:Value} (h:RepV (.int k) x G v):v= .int k x∧lo k≤x∧x≤hi k:=by
 have:=h.to_one rfl
 unfold Rep at this
 simp only [List.cons.injEq,and_true] at this
 exact ⟨this.1,has_iff.1 this.2⟩
theorem decDigits_le (n:Nat) (h:n<18446744073709551616):(Lib.decDigits n).length≤20:=by
 rw [Lib.decDigits_length]
 rcases Nat.lt_or_ge n 10 with h1|h1
 · rw [Lib.nDigits_small h1];omega
 · have:=Lib.numDigits_eq n (by omega) h
   split at this<;>omega
theorem small_ok {gl:Glob} (L:Lays.n283 P ρ) {fn:Func} {n:Nat} (hf:FnOK P (ρ.f 283) fn n):SpecOK P gl (ρ.f 283) smallSpec:=
 pure_ok hf rfl rfl fun x hp β G args _ ha=>by
  obtain ⟨i,⟨⟩⟩:=x
  obtain ⟨v,rfl,hv⟩:=dat1 ha
  obtain ⟨rfl,h1,h2⟩:=int_rep hv
  have hp:0≤i∧i<100:=hp
  have h0:@LE.le Int _ 0 i:=hp.1
  have h9:@LT.lt Int _ i 100:=hp.2
  clear hp
  replace h1:@LE.le Int _ (lo .i64) i:=h1
  generalize (i:Int)=i at *
  obtain ⟨u,rfl⟩:∃ u:Nat,i=u:=⟨i.toNat,(Int.toNat_of_nonneg h0).symm⟩
  have hu:u<100:=by omega
  refine Calls.mono (Any.internal_strconv_small L u hu G.w) fun e w' h=>?_
  obtain ⟨rfl,rfl⟩:=h
  refine ⟨[_],rfl,rfl,dat1_mk (.of_one rfl ?_)⟩
  unfold Rep
  refine ⟨rfl,?_⟩
  have:=decDigits_le u (by omega)
  show (Lib.decDigits u).length≤maxLen
  unfold maxLen
  omega
set_option maxHeartbeats 2000000 in
set_option maxRecDepth 100000 in
theorem numDigits_calls (L:Lays.n284 P ρ) (u:Nat) (h1:1≤u) (h2:u<18446744073709551616) (w:World)
    (hcell:w.cell? ⟨ρ.g 17,Lib.l10 (Lib.bitLen u),none⟩=some (.int .u64 ((10 ^ Lib.l10 (Lib.bitLen u):Nat):Int))):
    Calls P (ρ.f 284) #[.int .u64 u] w fun e w'=>e= .returned (.int .i64 (Lib.nDigits u))∧w'=w:=by
 have mixed:=L.mixed
 have t53:=L.t53;have a53:=L.a53;have z53:=L.z53;have v53:=L.v53
 have t3:=L.t3;have a3:=L.a3;have z3:=L.z3;have v3:=L.v3
 have t212:=L.t212;have a212:=L.a212;have z212:=L.z212;have v212:=L.v212
 have t0:=L.t0;have a0:=L.a0;have z0:=L.z0;have v0:=L.v0
 have t4:=L.t4;have a4:=L.a4;have z4:=L.z4;have v4:=L.v4
 have e129:∀ args w,(callFunc (ρ.f 129) args).run P w= .ok (.enter (ρ.f 129) args) w:=enters_of L.f129 (by kernel_rfl) rfl
 have e317:∀ args w,(callFunc (ρ.f 317) args).run P w= .ok (.enter (ρ.f 317) args) w:=enters_of L.f317 (by kernel_rfl) rfl
 have e318:∀ args w,(callFunc (ρ.f 318) args).run P w= .ok (.enter (ρ.f 318) args) w:=enters_of L.f318 (by kernel_rfl) rfl
 obtain ⟨hnd,h19⟩:=Lib.numDigits_eq u h1 h2
 have hL:Lib.bitLen u≤64:=Lib.bitLen_le u 64 (Nat.le_refl _) h2
 have hto:((u:Int)).toNat=u:=by omega
 generalize hq:Lib.l10 (Lib.bitLen u)=q at hnd h19 hcell
 generalize hT:10 ^ q=T at hnd hcell
 have h20:q<20:=by omega
 have Hnd:=Lib.hid hnd
 clear hnd
 go_enter L.f284,Body.n284_ntmps ρ
 go_wp2_with (first
  |(go_at_fn (ρ.f 129);refine (Any.bits_Len64 { L with} _ _ (by omega) (by omega)).mono ?_;rintro e w' ⟨rfl,rfl⟩)
  |(go_at_fn (ρ.f 317);refine (Any.internal_strconv_log10Pow2 { L with} _ (by first|exact hL|(rw [hto];exact hL)) _).mono ?_;rintro e w' ⟨rfl,rfl⟩)
  |(go_at_fn (ρ.f 318);refine (Any.internal_strconv_bool2_int { L with} _ _).mono ?_;rintro e w' ⟨rfl,rfl⟩))
 all_goals go_ret
 all_goals (
  refine ⟨?_,rfl⟩
  have hnd:=Hnd.out
  congr 2
  split at hnd<;>simp_all<;>omega)
theorem cons2 {a b:AP} {β:Asg} {G:GW} {args:List Value} (h:satT (.cons a b) β G args):∃ v l,args=v::l∧sat a β G v∧satT b β G l:=by
 unfold satT at h
 exact h
theorem nil2 {β:Asg} {G:GW} {args:List Value} (h:satT .nil β G args):args=[]:=by
 unfold satT at h
 exact h
theorem app_spare {E:Env} (hE:E.ok P=true) {C:Ctx} {hp:Nat→HObj} {nx h:Nat} {T ty:TypeId} {nb:Nat} (hT:E.ty T=some (.sl (.int .u8),nb)) {xs ys:List Int} {β:Asg} {G:GW} (H:HInv C hp β G) (hn:hp nx= .none) (hh:hp h= .spare (.int .u8))
    {u v:Value} (hu:sat (.sl h (.int .u8) xs) β G u) (hv:RepV (.sl (.int .u8)) ys G v) (hroom:xs.length+ys.length≤2000000000):
    ∃ v' β' G',(Builtin.append_ #[T,T] ty #[u,v]).run P G.w= .ok v' G'.w∧HInv C (hset hp [(nx, .spare (.int .u8)),(h, .dead)]) β' G'∧β.le β'∧G.le G'∧sat (.sl nx (.int .u8) (xs++ys)) β' G' v':=by
 have he:appendA E hp nx T T (.sl h (.int .u8) xs) (.dat (.sl (.int .u8)) ys)=some { vc:=[room (xs.length+ys.length:Nat) ((Ty.int .u8).size * 64)],ap:= .sl nx (.int .u8) (xs++ys),hw:=[(nx, .spare (.int .u8)),(h, .dead)],k:=1}:=by
  unfold appendA
  rw [hT]
  have e1:elemsT hp (.int .u8) (some (Ty.sl (.int .u8),nb)) (.dat (.sl (.int .u8)) ys)=some ys:=by
   unfold elemsT elemsA
   simp only [slV,castDat_self]
  dsimp only
  rw [e1]
  dsimp only
  rw [hh,castDat_self]
  dsimp only
  rw [decide_eq_true (rfl:Ty.int .u8= .int .u8)]
 obtain ⟨v',β',G',h1,h2,h3,h4,h5⟩:=appendA_run (P:=P) (ty:=ty) (ats:=#[T,T]) hE rfl rfl H hn he (fun p hp=>by
  simp only [List.mem_singleton] at hp
  subst hp
  unfold room
  simp only [Ty.size]
  omega) hu (by unfold sat;exact hv)
 exact ⟨v',β',G',h1,h2,h3,h4,h5⟩
@[reducible] def appU (q:Int→Prop):Spec:={ ins:= .cons (.spare (.int .u8)) (.cons (.d (.int .u64)) (.cons (.d (.int .i64)) .nil)),pre:=fun x=>(x.2.2.1=10∧List.length x.1≤1100000000)∧q x.2.1,alts:=[{ outs:= .cons (.spare (.int .u8)) .nil,res:=fun x=>(x.1++digU x.2.1.toNat,())}]}
set_option maxHeartbeats 12800000 in
set_option maxRecDepth 100000 in
theorem appU_big {gl:Glob} (L:Lays.n288 P ρ) {E:Env} (hE:E.ok P=true) {nb:Nat} (hT:E.ty (ρ.t 37)=some (.sl (.int .u8),nb)) {fn:Func} {n:Nat} (hf:FnOK P (ρ.f 288) fn n)
    (hgl:gl (ρ.g 17)=some ⟨.arr 20 (.int .u64),Lib.pow10Tab⟩):SpecOK P gl (ρ.f 288) (appU (fun u=>¬ u<100)):=by
 refine ⟨⟨fn,hf.at',by have:=hf.body;revert this;cases fn.body<;>simp,hf.name⟩,fun x hpre=>⟨_,rfl,fun C β G args hg hz H hargs=>?_⟩⟩
 obtain ⟨xs,ui,bi,⟨⟩⟩:=x
 obtain ⟨⟨h10,hxl⟩,hbig⟩:(bi=10∧List.length xs≤1100000000)∧¬ ui<100:=hpre
 obtain ⟨sv,l1,rfl,hs,hl1⟩:=cons2 hargs
 obtain ⟨v1,l2,rfl,hs1,hl2⟩:=cons2 hl1
 obtain ⟨v2,l3,rfl,hs2,hl3⟩:=cons2 hl2
 obtain rfl:=nil2 hl3
 unfold sat at hs1 hs2
 obtain ⟨rfl,hu0,hu1⟩:=int_rep hs1
 obtain ⟨rfl,_,_⟩:=int_rep hs2
 subst h10
 replace hu0:@LE.le Int _ 0 ui:=hu0
 replace hu1:@LE.le Int _ ui 18446744073709551615:=hu1
 replace hbig:¬ @LT.lt Int _ ui 100:=hbig
 obtain ⟨u,rfl⟩:∃ u:Nat,ui=u:=⟨ui.toNat,(Int.toNat_of_nonneg hu0).symm⟩
 have hu64:u<18446744073709551616:=by omega
 have hu:100≤u:=by omega
 have hnd20:=decDigits_le u hu64
 rw [Lib.decDigits_length] at hnd20
 have hcell:G.w.cell? ⟨ρ.g 17,Lib.l10 (Lib.bitLen u),none⟩=some (.int .u64 ((10 ^ Lib.l10 (Lib.bitLen u):Nat):Int)):=by
  have h1:=(H.glob (ρ.g 17) _ _ (by rw [hg];exact hgl)).sat β
  unfold sat at h1
  obtain ⟨b,o,cells,e,hc,hr⟩:=h1
  cases e
  unfold Rep at hr
  obtain ⟨_,hcl,hx⟩:=hr
  have hq:Lib.l10 (Lib.bitLen u)<20:=by have:=(Lib.numDigits_eq u (by omega) hu64).2;omega
  have hql:Lib.l10 (Lib.bitLen u)<Lib.pow10Tab.length:=by rw [Lib.pow10Tab_length];exact hq
  have hat:=Lib.pow10Tab_at (Lib.l10 (Lib.bitLen u)) hq
  rw [getD_ok 0 hql] at hat
  have h2:=hx _ _ (List.getElem?_eq_getElem hql)
  rw [hat] at h2
  unfold Rep at h2
  have h3:=congrArg (fun l:List Value=>l[0]?) h2.1
  simp only [Ty.size,Nat.mul_one,List.getElem?_take,List.getElem?_drop,Nat.add_zero] at h3
  have h4:=(hc _ _ (by simpa using h3)).2
  rwa [Nat.zero_add] at h4
 have hglt:=cell_lt hcell
 have hcz:((G.w.alloc (.cells Lib.zeros24 (ρ.t 171))).cell? ⟨ρ.g 17,Lib.l10 (Lib.bitLen u),none⟩)=_:=(cell_alloc_lt _ _ _ _ hglt).trans hcell
 clear hcell hglt hgl
 have mixed:=L.mixed
 have t5:=L.t5;have a5:=L.a5;have z5:=L.z5;have v5:=L.v5
 have t37:=L.t37;have u37:=run_underlying L.t37;have a37:=L.a37;have z37:=L.z37;have v37:=L.v37
 have t53:=L.t53;have a53:=L.a53;have z53:=L.z53;have v53:=L.v53
 have t3:=L.t3;have a3:=L.a3;have z3:=L.z3;have v3:=L.v3
 have t4:=L.t4;have a4:=L.a4;have z4:=L.z4;have v4:=L.v4
 have t9:=L.t9;have a9:=L.a9;have z9:=L.z9;have v9:=L.v9
 have t171:=L.t171;have a171:=L.a171;have z171:=L.z171;have v171:=L.v171
 have t0:=L.t0;have a0:=L.a0;have z0:=L.z0;have v0:=L.v0
 have t173:=L.t173;have a173:=L.a173;have z173:=L.z173;have v173:=L.v173
 have e284:∀ args w,(callFunc (ρ.f 284) args).run P w= .ok (.enter (ρ.f 284) args) w:=enters_of L.f284 (by kernel_rfl) rfl
 have e285:∀ args w,(callFunc (ρ.f 285) args).run P w= .ok (.enter (ρ.f 285) args) w:=enters_of L.f285 (by kernel_rfl) rfl
 have hal:P.arrayLen (ρ.t 171)=24:=by simp [Program.arrayLen,L.t171]
 have hsl:∀ W,(Instr.sliceAt (ρ.t 171) (.pointer (some ⟨G.w.heap.size,0,none⟩)) none (some (.int .i64 (Lib.nDigits u:Int))) none).run P W= .ok (.slice (some ⟨G.w.heap.size,0,none⟩) (Lib.nDigits u) 24) W:=fun W=>by
  rw [run_sliceAt_array_h W (ρ.t 171) ⟨G.w.heap.size,0,none⟩ (by simp [Program.arrayLen,Program.elem,L.t171]) .i64 (Lib.nDigits u:Int) (by omega) (by rw [hal];omega)]
  go_simp
 have hH0:=Lib.holds_zero0 G.w (ρ.t 171) (Lib.nDigits u) (by omega)
 have hfmt:=Any.internal_strconv_formatBase10 { L with} G.w.heap.size 0 24 u (Array.replicate (Lib.nDigits u) 0) (G.w.alloc (.cells Lib.zeros24 (ρ.t 171))) hH0 (by rw [Array.size_replicate];exact Lib.lt_pow_nDigits u) hu64 (by rw [Array.size_replicate];omega)
 rw [Array.size_replicate] at hfmt
 have HH0:=Lib.hid hH0
 have iu:(100:Int)≤(u:Int):=by omega
 clear hH0 hal hbig hl1 hl2 hl3 hargs hs1 hs2
 have HH:=Hd.mk H
 have HS:=Hd.mk hs
 clear H hs
 go_enter L.f288,Body.n288_ntmps ρ
 go_wp2_with (first
  |(go_at_fn (ρ.f 284);refine (numDigits_calls { L with} u (by omega) hu64 _ hcz).mono ?_;rintro e w' ⟨rfl,rfl⟩))
 go_at_fn (ρ.f 285)
 refine hfmt.mono ?_
 rintro e w' ⟨rfl,k,v',dk,rfl,hF⟩
 have hdl:(Lib.decDigits u).length=Lib.nDigits u:=Lib.decDigits_length u
 have hcells:∀ j,j<Lib.nDigits u→((putRow (fun (b:UInt8)=>Value.int .u8 (b.toNat:Int)) (G.w.alloc (.cells Lib.zeros24 (ρ.t 171))) G.w.heap.size 0 dk).drewN k).cell? ⟨G.w.heap.size,j,none⟩=some (Value.int .u8 (((Lib.decDigits u).getD j 0).toNat:Int)):=by
  intro j hj
  rw [getD_ok 0 (by omega),Lib.row_is_numeral hF j (by omega),World.cell?_drewN]
  have:=cell?_putRow (fun (b:UInt8)=>Value.int .u8 (b.toNat:Int)) _ G.w.heap.size 0 _ dk HH0.out (by rw [hF.size,Array.size_replicate]) j (by rw [hF.size];exact hj)
  rwa [Nat.zero_add] at this
 obtain ⟨os,eo⟩:=Lib.fin_at G.w (.cells Lib.zeros24 (ρ.t 171)) dk k 0
 have hsz2:G.w.heap.size<((putRow (fun (b:UInt8)=>Value.int .u8 (b.toNat:Int)) (G.w.alloc (.cells Lib.zeros24 (ρ.t 171))) G.w.heap.size 0 dk).drewN k).heap.size:=by
  have h0:=Lib.nDigits_big (show ¬ u<10 by omega)
  have:=cell_lt (hcells 0 (by omega))
  exact this
 have hold:∀ b,b<G.w.heap.size→((putRow (fun (b:UInt8)=>Value.int .u8 (b.toNat:Int)) (G.w.alloc (.cells Lib.zeros24 (ρ.t 171))) G.w.heap.size 0 dk).drewN k).heap[b]?=G.w.heap[b]?:=fun b hb=>by rw [eo];exact Lib.heap_grow_old _ _ _ _ hb
 have hmisc:((putRow (fun (b:UInt8)=>Value.int .u8 (b.toNat:Int)) (G.w.alloc (.cells Lib.zeros24 (ρ.t 171))) G.w.heap.size 0 dk).drewN k).os=G.w.os∧((putRow (fun (b:UInt8)=>Value.int .u8 (b.toNat:Int)) (G.w.alloc (.cells Lib.zeros24 (ρ.t 171))) G.w.heap.size 0 dk).drewN k).tape=G.w.tape∧((putRow (fun (b:UInt8)=>Value.int .u8 (b.toNat:Int)) (G.w.alloc (.cells Lib.zeros24 (ρ.t 171))) G.w.heap.size 0 dk).drewN k).output=G.w.output∧G.w.drawn≤((putRow (fun (b:UInt8)=>Value.int .u8 (b.toNat:Int)) (G.w.alloc (.cells Lib.zeros24 (ρ.t 171))) G.w.heap.size 0 dk).drewN k).drawn:=by rw [eo];exact ⟨rfl,rfl,rfl,Nat.le_add_right _ _⟩
 generalize (putRow (fun (b:UInt8)=>Value.int .u8 (b.toNat:Int)) (G.w.alloc (.cells Lib.zeros24 (ρ.t 171))) G.w.heap.size 0 dk).drewN k=W2 at hcells hsz2 hold hmisc ⊢
 clear eo HH0 hfmt
 obtain ⟨m1,m2,m3,m4⟩:=hmisc
 have H:=HH.out
 have hs:=HS.out
 clear HH HS
 -- the new block is nobody's, and nobody will write it any more
 let G2:GW:={ w:=W2,im:=fun b o=>G.im b o∨b=G.w.heap.size,imo:=G.imo,nz:=G.nz}
 have hst:Step (fun _ _=>False) (fun _=>False) G G2:={
  os:=m1
  tape:=m2
  output:=m3
  size:=Nat.le_of_lt hsz2
  cell:=fun b o hb _=>by
   have e:=hold b hb
   exact ⟨by show W2.cell? _=_;unfold World.cell?;rw [e],by show W2.frozen? _=_;unfold World.frozen?;rw [e]⟩
  blk:=fun b hb _ _=>hold b hb
  obj:=fun b es c _ he=>(hold b (Array.getElem?_eq_some_iff.1 he).1).trans he
  le:=⟨fun b o hi=>⟨.inl hi,by show W2.cell? _=_;unfold World.cell?;rw [hold b (H.heap.old b o hi)]⟩,fun b hi=>⟨hi,by
   obtain ⟨ob,he,_⟩:=H.heap.oldo b hi
   exact hold b (Array.getElem?_eq_some_iff.1 he).1⟩⟩
  new:=fun b o hi=>hi.elim .inl (fun e=> .inr (.inr (by rw [e];exact Nat.le_refl _)))
  newo:=fun b hi=> .inl hi
  drawn:= .inl m4
  nz:=rfl}
 have H2:HInv C _ β G2:=H.same hst (fun b o hi=>hi.elim (fun h=>Nat.lt_trans (H.heap.old b o h) hsz2) (fun e=>by rw [e];exact hsz2)) (fun b hi=>by
  obtain ⟨ob,he,he'⟩:=H.heap.oldo b hi
  exact ⟨ob,(hold b (Array.getElem?_eq_some_iff.1 he).1).trans he,he'⟩)
 have hs2:=sat.mono _ hs (Asg.le_refl β) hst.le
 have hdg:(digU u).length=Lib.nDigits u:=by unfold digU;rw [List.length_map,hdl]
 have hrep:RepV (.sl (.int .u8)) (digU u) G2 (.slice (some ⟨G.w.heap.size,0,none⟩) (Lib.nDigits u) 24):=by
  refine .of_one rfl ⟨some ⟨G.w.heap.size,0,none⟩,24,by rw [hdg],by rw [hdg];omega,by unfold maxLen;omega,fun h=>(by cases h),fun a ha=>?_⟩
  cases ha
  refine ⟨fun _=>rfl,fun i x hx=>?_⟩
  have hil:=(List.getElem?_eq_some_iff.1 hx).1
  rw [hdg] at hil
  unfold digU at hx
  rw [List.getElem?_map,Option.map_eq_some_iff] at hx
  obtain ⟨b,hb,rfl⟩:=hx
  refine ⟨[.int .u8 (b.toNat:Int)],fun j v hv=>?_,?_⟩
  · cases j with
    |zero=>
     simp only [List.getElem?_cons_zero,Option.some.injEq] at hv
     subst hv
     refine ⟨.inr rfl,?_⟩
     have:=hcells i hil
     rw [List.getD_eq_getElem?_getD,hb] at this
     show W2.cell? ⟨G.w.heap.size,0+i * 1+0,none⟩=_
     rw [Nat.zero_add,Nat.mul_one,Nat.add_zero]
     exact this
    |succ j=>simp at hv
  · unfold Rep
    refine ⟨rfl,has_iff.2 ?_⟩
    have hb8:=b.toNat_lt
    simp only [lo,hi]
    omega
 obtain ⟨vr,β3,G3,hrun,H3,lb,lg,hv3⟩:=app_spare (P:=P) (nx:=1) (h:=0) (ty:=ρ.t 37) hE hT H2 (canon_out _ _ (Nat.le_refl _)) rfl hs2 hrep (by rw [hdg];omega)
 have hrun:(Builtin.append_ #[ρ.t 37,ρ.t 37] (ρ.t 37) #[sv, .slice (some ⟨G.w.heap.size,0,none⟩) (Lib.nDigits u) 24]).run P W2= .ok vr G3.w:=hrun
 have HH:=Hd.mk H3
 have HS:=Hd.mk hv3
 have HL:=Hd.mk (GW.le_trans hst.le lg)
 clear H H2 H3 hs hs2 hv3 hst lg
 go_wp2_with (at_builtin;refine Lib.wpList_append_run_sl _ rfl _ _ (ρ.t 37) rfl _ _ rfl rfl hrun ?_)
 go_wp2
 go_ret
 refine ⟨⟨_,β3,G3,[.sl 1 (.int .u8) (xs++digU u)],[vr],2,(xs++digU u,()),[1],[],2,(xs,(u:Int),(10:Int),()),[],[],2,rfl,HH.out,lb,HL.out,rfl,?_,fun k hk=>?_,?_,?_,rfl,?_,rfl,rfl⟩⟩
 · show satT (.cons _ .nil) _ _ _
   unfold satT
   exact ⟨vr,[],rfl,HS.out,by unfold satT;rfl⟩
 · have h1:¬ k=1:=by omega
   have h0:¬ k=0:=by omega
   simp only [hset,h1,h0,if_false]
   exact canon_out _ _ (by show 1≤k;omega)
 · simp [listA,fromA,hset,castDat_self]
 · simp only [bk,bkEnd,backS,endAP,fromA,toDat_dat]
   rfl
 · rfl
end Go.Gv

/- The library's decimal numerals and strings.Join, as contracts. -/
namespace Go.Gv
open Go Go.RowKit Go.Proofs Go.Shelf Go.Sort
end Go.Gv

/- What a sort in place changes in the world; quiet comparisons. -/
namespace Go.Gv
open Go Go.RowKit Go.Proofs Go.Shelf Go.Sort
section
variable {α:Type} [Inhabited α] {enc:α→List Value} {k:Nat} {w:World} {blk off m:Nat} {d dk:Array α} {os:Array Obj}
theorem flat_size:(flatK enc k d).size=d.size * k:=by simp [flatK]
theorem sortW_heap (b:Nat) (hb:b<w.heap.size) (hne:b≠blk):(sortWorldK enc k w blk off m dk os).heap[b]?=w.heap[b]?:=by
 unfold sortWorldK putRowK putRow mapBlock
 rw [heap_grow_old _ _ (by simpa using hb)]
 show (w.heap.modify blk _)[b]?=_
 rw [Array.getElem?_modify,if_neg (fun e=>hne e.symm)]
theorem sortW_size:w.heap.size≤(sortWorldK enc k w blk off m dk os).heap.size:=by
 unfold sortWorldK putRowK putRow mapBlock grow Go.Sort.ahead
 simp
theorem sortW_cell (b o:Nat) (hb:b<w.heap.size) (hne:b≠blk∨o<off∨off+dk.size * k≤o):(sortWorldK enc k w blk off m dk os).cell? ⟨b,o,none⟩=w.cell? ⟨b,o,none⟩:=by
 unfold sortWorldK putRowK
 rw [cell?_grow _ _ _ (by show b<(mapBlock _ _ _).heap.size;unfold mapBlock Go.Sort.ahead;simpa using hb)]
 rw [cell?_putRow_other _ _ _ _ _ _ (by rw [flat_size];exact hne)]
 rfl
theorem sortW_frz (b o:Nat) (hb:b<w.heap.size):(sortWorldK enc k w blk off m dk os).frozen? ⟨b,o,none⟩=w.frozen? ⟨b,o,none⟩:=by
 unfold sortWorldK putRowK
 rw [frozen?_grow _ _ _ (by show b<(mapBlock _ _ _).heap.size;unfold mapBlock Go.Sort.ahead;simpa using hb)]
 unfold putRow
 rw [frozen?_mapBlock]
 rfl
theorem sortW_step {hp:Nat→HObj} {β:Asg} {G:GW} (H:HeapOK hp β G) {h:Nat} {v:Value} (hv:β h=some v) (hblk:blk<G.w.heap.size) (hpos:0<dk.size * k) (hcell:∃ u,G.w.cell? ⟨blk,off,none⟩=some u)
    (hin:∀ i,off≤i→i<off+dk.size * k→fpc (hp h) v blk i) (Fo:Nat→Prop):Step (fpc (hp h) v) Fo G { G with w:=sortWorldK enc k G.w blk off m dk os}:=by
 have hob:∀ ob,G.w.heap[blk]?=some ob→ob.isCells=true:=fun ob e=>by
  obtain ⟨u,hu⟩:=hcell
  simp only [World.cell?,e] at hu
  cases ob<;>first|rfl|cases hu
 exact {
  os:=rfl
  tape:=rfl
  output:=rfl
  size:=sortW_size
  cell:=fun b o hb hn=>⟨sortW_cell b o hb (by
   by_cases e:b=blk
   · refine .inr (Classical.byContradiction fun hc=>hn ?_)
     subst e
     exact hin o (by omega) (by omega)
   · exact .inl e),sortW_frz b o hb⟩
  blk:=fun b hb hn _=>sortW_heap b hb (fun e=>hn off (by subst e;exact hin off (Nat.le_refl _) (by omega)))
  obj:=fun b es c _ he=>by
   refine (sortW_heap b (Array.getElem?_eq_some_iff.1 he).1 (fun e=>?_)).trans he
   subst e
   have:=hob _ he
   cases this
  le:=⟨fun b o hi=>⟨hi,sortW_cell b o (H.old b o hi) (by
   by_cases e:b=blk
   · refine .inr (Classical.byContradiction fun hc=>?_)
     subst e
     exact (H.im h v hv b o (hin o (by omega) (by omega))).1 hi
   · exact .inl e)⟩,fun b hi=>⟨hi,by
   obtain ⟨ob,e,e'⟩:=H.oldo b hi
   refine sortW_heap b (Array.getElem?_eq_some_iff.1 e).1 (fun eb=>?_)
   subst eb
   have:=hob _ e
   rcases e' with ⟨es,c,rfl⟩|rfl<;>cases this⟩⟩
  new:=fun _ _ hi=> .inl hi
  newo:=fun _ hi=> .inl hi
  drawn:= .inl (Nat.le_add_right _ _)
  nz:=rfl}
end
theorem grow_of_step {G G':GW} (h:Step (fun _ _=>False) (fun _=>False) G G') (hz:¬ G.nz):∃ q os',G'.w=grow (G.w.drewN q) os':=by
 have hd:=h.drawn.resolve_right hz
 refine ⟨G'.w.drawn - G.w.drawn,G'.w.heap.extract G.w.heap.size,?_⟩
 have hh:G.w.heap++G'.w.heap.extract G.w.heap.size=G'.w.heap:=by
  apply Array.ext_getElem?
  intro i
  by_cases hi:i<G.w.heap.size
  · rw [Array.getElem?_append_left hi]
    exact (h.blk i hi (fun _ h=>h) (fun h=>h)).symm
  · rw [Array.getElem?_append_right (by omega),Array.getElem?_extract]
    have hs:=h.size
    by_cases hj:i<G'.w.heap.size
    · rw [if_pos (by omega)]
      congr 1;omega
    · rw [if_neg (by omega),Array.getElem?_eq_none (by omega)]
 obtain ⟨⟨h1,t1,d1,o1,u1⟩,i1,io1,n1⟩:=G
 obtain ⟨⟨h2,t2,d2,o2,u2⟩,i2,io2,n2⟩:=G'
 have e1:=h.os
 have e2:=h.tape
 have e3:=h.output
 dsimp only at e1 e2 e3 hh hd
 subst e1;subst e2;subst e3
 unfold grow World.drewN
 dsimp only
 rw [hh,Nat.add_sub_cancel' hd]
theorem enters_ok {P : Program} {f : FuncId} (h : ∃ fn, P.funcs[f]? = some fn ∧ fn.body.isNone = false ∧ (fn.name == "runtime.NumGoroutine") = false) : ∀ args w, (callFunc f args).run P w = .ok (.enter f args) w := by
 obtain ⟨fn,h1,h2,h3⟩:=h
 cases hb:fn.body with
 |none=>rw [hb] at h2;cases h2
 |some c=>exact enters_of h1 h3 hb
theorem quiet2 {P:Program} {gl:Glob} {g:FuncId} {t:Ty} {cpre:SDat (.cons (.d t) (.cons (.d t) .nil))→Prop} {cf:Dat t→Dat t→Int}
    (hcmp:SpecOK P gl g { ins:= .cons (.d t) (.cons (.d t) .nil),pre:=cpre,alts:=[{ outs:= .cons (.d (.int .i64)) .nil,res:=fun x=>(cf x.1 x.2.1,())}]})
    {x y:Dat t} (hq:cpre (x,y,())) {W:World} {im:Nat→Nat→Prop} {imo:Nat→Prop} (hold:∀ b o,im b o→b<W.heap.size) (holdo:∀ b,imo b→∃ o,W.heap[b]?=some o∧ImObj o) (hgl:∀ g t x,gl g=some ⟨t,x⟩→globOK t x ⟨W,im,imo,False⟩ g)
    {u v:Value} (hu:RepV t x ⟨W,im,imo,False⟩ u) (hv:RepV t y ⟨W,im,imo,False⟩ v):Calls P g #[u,v] W fun e w'=>e= .returned (.int .i64 (cf x y))∧∃ q os',w'=grow (W.drewN q) os':=by
 let G:GW:=⟨W,im,imo,False⟩
 have H:HInv { G0:=G,F0:=fun _ _=>False,Fo0:=fun _=>False,glob:=gl,N:=0} (fun _=> .none) (fun _=>none) G:=
  ⟨⟨fun _ _=>rfl,fun _ h=>(h rfl).elim,fun _ _ h=>(by cases h),fun _ _ h=>(by cases h),fun _ _ _ _ _ h=>(by cases h),fun _ _ _ _ _ h=>(by cases h),hold,holdo⟩,Step.refl _ _ _,fun _ _ h=>(by cases h),fun _ _ h=>(by cases h),hgl⟩
 have hc:callA { ins:= .cons (.d t) (.cons (.d t) .nil),pre:=cpre,alts:=[{ outs:= .cons (.d (.int .i64)) .nil,res:=fun x=>(cf x.1 x.2.1,())}]} (fun _=>HObj.none) 0 [.dat t x, .dat t y]=some (cpre (x,y,()),[wayA false (ins:= .cons (.d t) (.cons (.d t) .nil)) { outs:= .cons (.d (.int .i64)) .nil,res:=fun x=>(cf x.1 x.2.1,())} (0=0) (x,y,()) [] [] 0 0]):=by
  simp [callA,frzArgs,listA,fromA,toDat_dat,nodupN,preA,waysA,dropW,hasSelf]
 obtain ⟨i,Wy,hi,_,huniq,hcalls⟩:=callA_run hcmp hc hq H (fun _ _=>rfl) rfl (fun h=>by cases h) (by
  unfold listA listA listA satT
  refine ⟨u,[v],rfl,by unfold sat;exact hu,?_⟩
  unfold satT
  refine ⟨v,[],rfl,by unfold sat;exact hv,by unfold satT;rfl⟩)
 have hW:=huniq 0 _ rfl (fun h=>(h rfl).elim)
 refine hcalls.mono fun e w' hr=>?_
 cases e with
 |panicked _=>exact hr.elim
 |outgrown=>exact hr.elim
 |returned r=>
  obtain ⟨β',G',rfl,H',_,_,hs⟩:=hr
  rw [← hW] at hs
  have hs':sat (.dat (.int .i64) (cf x y)) β' G' r:=hs
  obtain ⟨rfl,_⟩:=int_sat hs'
  exact ⟨rfl,grow_of_step H'.step (fun h=>h)⟩
end Go.Gv

/- math/bits.Len, as a contract. -/
namespace Go.Gv
open Go Go.RowKit Go.Proofs Go.Shelf Go.Sort
theorem bitsLen_ok {P:Program} {ρ:Ren} {gl:Glob} (L:Lays.n125 P ρ) {fn:Func} {n:Nat} (hf:FnOK P (ρ.f 125) fn n):
    SpecOK P gl (ρ.f 125) { ins:= .cons (.d (.int .u64)) .nil,pre:=fun _=>True,alts:=[{ outs:= .cons (.d (.int .i64)) .nil,res:=fun x=>((Lib.bitLen (Int.toNat x.1):Int),())}]}:=
 pure_ok hf rfl rfl fun x _ β G args _ hargs=>by
  obtain ⟨m,⟨⟩⟩:=x
  unfold intoA satT at hargs
  obtain ⟨v,l,rfl,hv,hl⟩:=hargs
  unfold intoA satT at hl
  subst hl
  unfold intoA at hv
  obtain ⟨rfl,hm⟩:=int_sat hv
  have hm:=has_iff.1 hm
  simp only [lo,hi] at hm
  refine (Any.bits_Len L m G.w hm.1 hm.2).mono fun e w' hr=>?_
  obtain ⟨rfl,rfl⟩:=hr
  refine ⟨[_],rfl,rfl,?_⟩
  unfold intoA satT
  refine ⟨_,[],rfl,?_,by unfold intoA satT;rfl⟩
  unfold intoA
  have h64:=Lib.bitLen_le (Int.toNat m) 64 (Nat.le_refl _) (by have:=hm.2;omega)
  exact sat_int (has_iff.2 ⟨by simp only [lo];omega,by simp only [hi];omega⟩)
end Go.Gv

/- The library's Sort at elements of one cell, as a contract: a row is sorted in place. -/
namespace Go.Gv
open Go Go.RowKit Go.Proofs Go.Shelf Go.Sort
section
variable {P:Program} {ρ:Ren}
set_option maxHeartbeats 2000000 in
theorem insS_none (L:Lays.n302 P ρ) (p:Option Addr) (cap:Nat) (w:World):
    Calls P (ρ.f 302) #[.slice p 0 cap, .int .i64 0, .int .i64 0] w fun e w'=>e= .returned (.tuple #[])∧w'=w:=by
 have mixed:=L.mixed;have t0:=L.t0;have a0:=L.a0;have z0:=L.z0;have v0:=L.v0;have t3:=L.t3;have a3:=L.a3;have z3:=L.z3;have v3:=L.v3;have t4:=L.t4;have a4:=L.a4;have z4:=L.z4;have v4:=L.v4;have t9:=L.t9;have a9:=L.a9;have z9:=L.z9;have v9:=L.v9;have t31:=L.t31;have a31:=L.a31;have z31:=L.z31;have v31:=L.v31
 go_enter L.f302,Body.n302_ntmps ρ
 go_wp2
 refine wp_loop_rounds 1 ?_
 rw [rounds_succ]
 go_wp2
 go_end0
 exact ⟨rfl,rfl⟩
set_option maxHeartbeats 2000000 in
theorem pdqS_none (L:Lays.n258 P ρ) (p:Option Addr) (cap:Nat) (lim:Int) (w:World):
    Calls P (ρ.f 258) #[.slice p 0 cap, .int .i64 0, .int .i64 0, .int .i64 lim] w fun e w'=>e= .returned (.tuple #[])∧w'=w:=by
 have mixed:=L.mixed;have t0:=L.t0;have a0:=L.a0;have z0:=L.z0;have v0:=L.v0;have t3:=L.t3;have a3:=L.a3;have z3:=L.z3;have v3:=L.v3;have t4:=L.t4;have a4:=L.a4;have z4:=L.z4;have v4:=L.v4;have t9:=L.t9;have a9:=L.a9;have z9:=L.z9;have v9:=L.v9;have t31:=L.t31;have a31:=L.a31;have z31:=L.z31;have v31:=L.v31;have t131:=L.t131;have a131:=L.a131;have z131:=L.z131;have v131:=L.v131;have t182:=L.t182;have a182:=L.a182;have z182:=L.z182;have v182:=L.v182;have t183:=L.t183;have a183:=L.a183;have z183:=L.z183;have v183:=L.v183
 have e302:∀ args w,(callFunc (ρ.f 302) args).run P w= .ok (.enter (ρ.f 302) args) w:=enters_of L.f302 (by kernel_rfl) rfl
 have hi:=fun W=>insS_none (P:=P) (ρ:=ρ) { L with} p cap W
 go_enter L.f258,Body.n258_ntmps ρ
 go_wp2
 refine wp_loop_rounds 1 ?_
 rw [rounds_succ]
 go_wp2_with (go_at_fn (ρ.f 302);refine (hi _).mono ?_;rintro e w' ⟨rfl,rfl⟩)
 (try simp only [Exit.inBlock,Exit.then]);refine bodyPost_ret (results_none rfl _ _ _) rfl ?_
 exact ⟨rfl,rfl⟩
set_option maxHeartbeats 2000000 in
theorem sortS_none (L:Lays.n190 P ρ) (p:Option Addr) (cap:Nat) (w:World):
    Calls P (ρ.f 190) #[.slice p 0 cap] w fun e w'=>e= .returned (.tuple #[])∧w'=w:=by
 have mixed:=L.mixed;have t0:=L.t0;have a0:=L.a0;have z0:=L.z0;have v0:=L.v0;have t3:=L.t3;have a3:=L.a3;have z3:=L.z3;have v3:=L.v3;have t9:=L.t9;have a9:=L.a9;have z9:=L.z9;have v9:=L.v9;have t31:=L.t31;have a31:=L.a31;have z31:=L.z31;have v31:=L.v31;have t46:=L.t46;have a46:=L.a46;have z46:=L.z46;have v46:=L.v46
 have e125:∀ args w,(callFunc (ρ.f 125) args).run P w= .ok (.enter (ρ.f 125) args) w:=enters_of L.f125 (by kernel_rfl) rfl
 have e258:∀ args w,(callFunc (ρ.f 258) args).run P w= .ok (.enter (ρ.f 258) args) w:=enters_of L.f258 (by kernel_rfl) rfl
 have hp:=fun lim W=>pdqS_none (P:=P) (ρ:=ρ) { L with} p cap lim W
 have hl:∀ W,Calls P (ρ.f 125) #[.int .u64 0] W fun e w'=>e= .returned (.int .i64 (Lib.bitLen 0:Nat))∧w'=W:=fun W=>Any.bits_Len (P:=P) (ρ:=ρ) { L with} 0 W (by omega) (by omega)
 go_enter L.f190,Body.n190_ntmps ρ
 go_wp2_with (first|(go_at_fn (ρ.f 125);refine (hl _).mono ?_;rintro e w' ⟨rfl,rfl⟩)|(go_at_fn (ρ.f 258);refine (hp _ _).mono ?_;rintro e w' ⟨rfl,rfl⟩))
 go_end0
 exact ⟨rfl,rfl⟩
end
section
variable {α:Type} [Inhabited α]
theorem flat_one (enc:α→Value) (d:Array α):flatK (fun x=>[enc x]) 1 d=d.map enc:=by
 apply Array.ext
 · simp [flatK]
 · intro i h1 h2
   have hi:i<d.size:=by simpa using h2
   have:=get_flatK (fun x=>[enc x]) 1 d i (by omega)
   rw [getElem!_pos _ i h1] at this
   rw [this,Nat.div_one,Nat.mod_one,getElem!_pos d i hi]
   simp
theorem putRow_one (enc:α→Value) (w:World) (blk off:Nat) (d:Array α):putRow enc w blk off d=putRowK (fun x=>[enc x]) 1 w blk off d:=by
 unfold putRowK putRow
 rw [flat_one]
 congr 1
 unfold putCells
 funext c
 apply Array.ext
 · simp
 · intro i h1 h2
   simp only [Array.getElem_mapIdx,Array.size_map]
   split
   · rename_i h
     rw [getElem!_pos d _ (by omega),getElem!_pos _ _ (by simp;omega)]
     simp
   · rfl
end
theorem sort1_ok {P:Program} {f:FuncId} {gl:Glob} {t:Ty} [inst:Inhabited (Dat t)] (hts:t.size=1) (enc:Dat t→Value) (B:Dat t→Prop) (hr:∀ x G cells,Rep t x G cells↔cells=[enc x]∧B x)
    (hf : ∃ fn, P.funcs[f]? = some fn ∧ fn.body.isNone = false ∧ (fn.name == "runtime.NumGoroutine") = false) (srt : List (Dat t) → List (Dat t)) (hperm : ∀ xs, (srt xs).Perm xs)
    (hnone:∀ p cap w,Calls P f #[.slice p 0 cap] w fun e w'=>e= .returned (.tuple #[])∧w'=w) (hnil:srt []=[])
    (hrun:∀ (blk off cap:Nat) (xs:List (Dat t)) (w:World),Go.Sort.Holds enc w blk off xs.toArray→blk<w.heap.size→xs.length<4611686018427387904→Calls P f #[.slice (some ⟨blk,off,none⟩) xs.length cap] w fun e w'=>e= .returned (.tuple #[])∧∃ n os,w'=grow (putRow enc (Sort.ahead w n) blk off (srt xs).toArray) os):
    SpecOK P gl f { ins:= .cons (.row t) .nil,pre:=fun x=>List.length x.1<4611686018427387904,alts:=[{ outs:= .nil,res:=fun _=>(),upd:=fun x=>(srt x.1,())}]}:=by
 refine ⟨hf,fun x hpre=>⟨_,rfl,fun C β G args hg hz H hargs=>?_⟩⟩
 obtain ⟨xs,⟨⟩⟩:=x
 replace hpre:List.length xs<4611686018427387904:=hpre
 have key:∃ v,args=[v]∧β 0=some v:=by
  unfold intoA satT at hargs
  obtain ⟨v,l,rfl,hv,hl⟩:=hargs
  unfold intoA satT at hl
  subst hl
  unfold intoA at hv
  unfold sat at hv
  exact ⟨v,rfl,hv.1⟩
 obtain ⟨v,rfl,hbv⟩:=key
 obtain ⟨v',hv',hsat⟩:=H.heap.sat 0 (by show (HObj.row t xs)≠_;simp)
 rw [hbv] at hv';cases hv'
 have hsat:satH (.row t xs) v β G:=hsat
 have fin:∀ G':GW,HInv C (hset (canon (.cons (.row t) .nil) (xs,())) [(0, .row t (srt xs))]) β G'→G.le G'→
     RetOK C false (.cons (.row t) .nil) { outs:= .nil,res:=fun _=>(),upd:=fun x=>(srt x.1,())} (xs,()) β G (.tuple #[]) G'.w:=fun G' H' hle=>by
  refine ⟨⟨_,β,G',[],[],1,(),[],[],1,(srt xs,()),[0],[],1,rfl,H',Asg.le_refl β,hle,rfl,?_,fun n hn=>?_,rfl,?_,rfl,rfl,rfl,rfl⟩⟩
  · unfold listA satT;rfl
  · have h0:¬ n=0:=by omega
    simp only [hset,h0,if_false]
    exact canon_out _ _ (by show 1≤n;omega)
  · show fromA _ (.cons (.row t) .nil) (.cons (.ref 0) .nil) 1=_
    simp only [fromA,hset,if_true,castDat_self]
    rfl
 obtain ⟨base,cap,rfl,c1,c2,c3,c4⟩:=hsat
 by_cases hx:xs=[]
 · subst hx
   refine (hnone base cap G.w).mono fun e w' hr=>?_
   obtain ⟨rfl,rfl⟩:=hr
   refine fin G ?_ G.le_refl
   rw [hnil]
   exact H.write 0 _ (.row t []) hbv (by simp) rfl rfl (Step.refl _ _ G) ⟨base,cap,rfl,c1,c2,c3,c4⟩ (fun b i hf=>hf) (fun b hf=>hf)
 · have hlen:0<xs.length:=List.length_pos_iff.2 hx
   obtain ⟨a,rfl⟩:∃ a,base=some a:=by
    cases base with
    |none=>have:=c3 rfl;omega
    |some a=>exact ⟨a,rfl⟩
   obtain ⟨hsp,hfree,hel⟩:=c4 a rfl
   obtain ⟨blk,off,spot⟩:=a
   have hsp:spot=none:=hsp (by omega)
   subst hsp
   dsimp only at hfree hel
   have hblk:blk<G.w.heap.size:=by
    obtain ⟨⟨u,hu⟩,_⟩:=hfree 0 (by rw [hts];omega)
    exact cell_lt hu
   have hcell:∀ i (hi:i<xs.length),G.w.cell? ⟨blk,off+i,none⟩=some (enc xs[i])∧B xs[i]:=fun i hi=>by
    obtain ⟨cells,h1,h2⟩:=hel i _ (List.getElem?_eq_getElem hi)
    obtain ⟨rfl,hB⟩:=(hr _ _ _).1 h2
    have:=h1 0 _ rfl
    rw [hts] at this
    exact ⟨by simpa using this,hB⟩
   have hH:Go.Sort.Holds enc G.w blk off xs.toArray:=fun j hj=>by
    have hj':j<xs.length:=by simpa using hj
    rw [getElem!_pos _ j hj]
    refine ⟨by simpa using (hcell j hj').1,(hfree j (by rw [hts];omega)).2⟩
   have hp:=hperm xs
   have hpl:(srt xs).length=xs.length:=hp.length_eq
   have hin:∀ i,off≤i→i<off+(srt xs).toArray.size * 1→fpc (.row t xs) (.slice (some ⟨blk,off,none⟩) xs.length cap) blk i:=fun i hi1 hi2=>⟨rfl,hi1,by
    have:(srt xs).toArray.size=xs.length:=by simpa using hpl
    rw [this] at hi2;dsimp only;rw [hts];omega⟩
   have hcell0:∃ u,G.w.cell? ⟨blk,off,none⟩=some u:=(hfree 0 (by rw [hts];omega)).1
   refine (hrun blk off cap xs G.w hH hblk hpre).mono fun e w' hr'=>?_
   obtain ⟨rfl,n,os,rfl⟩:=hr'
   have hw:grow (putRow enc (Sort.ahead G.w n) blk off (srt xs).toArray) os=sortWorldK (fun x=>[enc x]) 1 G.w blk off n (srt xs).toArray os:=by unfold sortWorldK;rw [putRow_one]
   rw [hw]
   have hst:Step (fpc (.row t xs) (.slice (some ⟨blk,off,none⟩) xs.length cap)) (fpo (.row t xs) (.slice (some ⟨blk,off,none⟩) xs.length cap)) G { G with w:=sortWorldK (fun x=>[enc x]) 1 G.w blk off n (srt xs).toArray os}:=
    sortW_step (h:=0) H.heap hbv hblk (by simp;omega) hcell0 hin _
   refine fin { G with w:=sortWorldK (fun x=>[enc x]) 1 G.w blk off n (srt xs).toArray os} ?_ hst.le
   refine H.write (G':={ G with w:=sortWorldK (fun x=>[enc x]) 1 G.w blk off n (srt xs).toArray os}) 0 _ (.row t (srt xs)) hbv (by simp) rfl rfl hst ?_ (fun b i hf=>hf) (fun b hf=>hf)
   have hHK:HoldsK (fun x=>[enc x]) 1 G.w blk off xs.toArray:=by
    unfold HoldsK
    rw [flat_one]
    intro j hj
    have hj':j<xs.length:=by simpa using hj
    have:=hH j (by simpa using hj')
    rw [getElem!_pos _ j (by simpa using hj')] at this
    rw [getElem!_pos _ j hj]
    simpa using this
   have hH':HoldsK (fun x=>[enc x]) 1 (sortWorldK (fun x=>[enc x]) 1 G.w blk off n (srt xs).toArray os) blk off (srt xs).toArray:=holdsK_sortWorldK_c (fun x=>[enc x]) 1 G.w blk off xs.toArray (srt xs).toArray n os hHK hblk (by simpa using hpl)
   refine ⟨some ⟨blk,off,none⟩,cap,by rw [hpl],by rw [hpl];exact c1,c2,fun h=>(by cases h),fun a ha=>?_⟩
   cases ha
   refine ⟨fun _=>rfl,fun j hj=>?_,fun i x hix=>?_⟩
   · obtain ⟨⟨u,hu⟩,hfz⟩:=hfree j hj
     refine ⟨?_,(sortW_frz blk (off+j) hblk).trans hfz⟩
     by_cases hjr:j<xs.length
     · exact ⟨_,(hH' j (by rw [flat_size];simp;omega)).1⟩
     · exact ⟨u,(sortW_cell blk (off+j) hblk (.inr (.inr (by simp;omega)))).trans hu⟩
   · have hi:i<(srt xs).length:=(List.getElem?_eq_some_iff.1 hix).1
     have hxi:(srt xs)[i]=x:=(List.getElem?_eq_some_iff.1 hix).2
     have hBx:B x:=by
      have hm:x∈xs:=hp.mem_iff.1 (hxi ▸ List.getElem_mem hi)
      obtain ⟨j,hj,rfl⟩:=List.getElem_of_mem hm
      exact (hcell j hj).2
     refine ⟨[enc x],fun j u hu=>?_,(hr _ _ _).2 ⟨rfl,hBx⟩⟩
     have hj:j=0:=by
      have:=(List.getElem?_eq_some_iff.1 hu).1
      simp at this;exact this
     subst hj
     have:=hH'.cell (i:=i) (c:=0) (by simpa using hi) (by omega)
     rw [getElem!_pos _ i (by simpa using hi)] at this
     simp only [List.getElem_toArray,hxi] at this
     rw [hts]
     simp only [List.getElem?_cons_zero,Option.some.injEq] at hu
     subst hu
     exact this.1
end Go.Gv

/- The library's Sort at ints, as a contract: a row is sorted in place. -/
namespace Go.Gv
open Go Go.RowKit Go.Proofs Go.Shelf Go.Sort
section
variable {P:Program} {ρ:Ren}
set_option maxHeartbeats 2000000 in
theorem insI_none (L:Lays.n294 P ρ) (p:Option Addr) (cap:Nat) (w:World):
    Calls P (ρ.f 294) #[.slice p 0 cap, .int .i64 0, .int .i64 0] w fun e w'=>e= .returned (.tuple #[])∧w'=w:=by
 have mixed:=L.mixed;have t0:=L.t0;have a0:=L.a0;have z0:=L.z0;have v0:=L.v0;have t3:=L.t3;have a3:=L.a3;have z3:=L.z3;have v3:=L.v3;have t4:=L.t4;have a4:=L.a4;have z4:=L.z4;have v4:=L.v4;have t28:=L.t28;have a28:=L.a28;have z28:=L.z28;have v28:=L.v28
 go_enter L.f294,Body.n294_ntmps ρ
 go_wp2
 refine wp_loop_rounds 1 ?_
 rw [rounds_succ]
 go_wp2
 go_end0
 exact ⟨rfl,rfl⟩
set_option maxHeartbeats 2000000 in
theorem pdqI_none (L:Lays.n257 P ρ) (p:Option Addr) (cap:Nat) (lim:Int) (w:World):
    Calls P (ρ.f 257) #[.slice p 0 cap, .int .i64 0, .int .i64 0, .int .i64 lim] w fun e w'=>e= .returned (.tuple #[])∧w'=w:=by
 have mixed:=L.mixed;have t0:=L.t0;have a0:=L.a0;have z0:=L.z0;have v0:=L.v0;have t3:=L.t3;have a3:=L.a3;have z3:=L.z3;have v3:=L.v3;have t4:=L.t4;have a4:=L.a4;have z4:=L.z4;have v4:=L.v4;have t5:=L.t5;have a5:=L.a5;have z5:=L.z5;have v5:=L.v5;have t9:=L.t9;have a9:=L.a9;have z9:=L.z9;have v9:=L.v9;have t28:=L.t28;have a28:=L.a28;have z28:=L.z28;have v28:=L.v28;have t46:=L.t46;have a46:=L.a46;have z46:=L.z46;have v46:=L.v46;have t51:=L.t51;have a51:=L.a51;have z51:=L.z51;have v51:=L.v51;have t53:=L.t53;have a53:=L.a53;have z53:=L.z53;have v53:=L.v53;have t131:=L.t131;have a131:=L.a131;have z131:=L.z131;have v131:=L.v131;have t182:=L.t182;have a182:=L.a182;have z182:=L.z182;have v182:=L.v182;have t183:=L.t183;have a183:=L.a183;have z183:=L.z183;have v183:=L.v183;have t218:=L.t218;have a218:=L.a218;have z218:=L.z218;have v218:=L.v218;have t222:=L.t222;have a222:=L.a222;have z222:=L.z222;have v222:=L.v222;have t228:=L.t228;have a228:=L.a228;have z228:=L.z228;have v228:=L.v228;have t229:=L.t229;have a229:=L.a229;have z229:=L.z229;have v229:=L.v229
 have e294:∀ args w,(callFunc (ρ.f 294) args).run P w= .ok (.enter (ρ.f 294) args) w:=enters_of L.f294 (by kernel_rfl) rfl
 have hi:=fun W=>insI_none (P:=P) (ρ:=ρ) { L with} p cap W
 go_enter L.f257,Body.n257_ntmps ρ
 go_wp2
 refine wp_loop_rounds 1 ?_
 rw [rounds_succ]
 go_wp2_with (go_at_fn (ρ.f 294);refine (hi _).mono ?_;rintro e w' ⟨rfl,rfl⟩)
 (try simp only [Exit.inBlock,Exit.then]);refine bodyPost_ret (results_none rfl _ _ _) rfl ?_
 exact ⟨rfl,rfl⟩
set_option maxHeartbeats 2000000 in
theorem sortI_none (L:Lays.n189 P ρ) (p:Option Addr) (cap:Nat) (w:World):
    Calls P (ρ.f 189) #[.slice p 0 cap] w fun e w'=>e= .returned (.tuple #[])∧w'=w:=by
 have mixed:=L.mixed;have t0:=L.t0;have a0:=L.a0;have z0:=L.z0;have v0:=L.v0;have t3:=L.t3;have a3:=L.a3;have z3:=L.z3;have v3:=L.v3;have t4:=L.t4;have a4:=L.a4;have z4:=L.z4;have v4:=L.v4;have t5:=L.t5;have a5:=L.a5;have z5:=L.z5;have v5:=L.v5;have t9:=L.t9;have a9:=L.a9;have z9:=L.z9;have v9:=L.v9;have t28:=L.t28;have a28:=L.a28;have z28:=L.z28;have v28:=L.v28;have t46:=L.t46;have a46:=L.a46;have z46:=L.z46;have v46:=L.v46;have t51:=L.t51;have a51:=L.a51;have z51:=L.z51;have v51:=L.v51;have t53:=L.t53;have a53:=L.a53;have z53:=L.z53;have v53:=L.v53;have t131:=L.t131;have a131:=L.a131;have z131:=L.z131;have v131:=L.v131;have t182:=L.t182;have a182:=L.a182;have z182:=L.z182;have v182:=L.v182;have t183:=L.t183;have a183:=L.a183;have z183:=L.z183;have v183:=L.v183;have t218:=L.t218;have a218:=L.a218;have z218:=L.z218;have v218:=L.v218;have t222:=L.t222;have a222:=L.a222;have z222:=L.z222;have v222:=L.v222;have t228:=L.t228;have a228:=L.a228;have z228:=L.z228;have v228:=L.v228;have t229:=L.t229;have a229:=L.a229;have z229:=L.z229;have v229:=L.v229
 have e125:∀ args w,(callFunc (ρ.f 125) args).run P w= .ok (.enter (ρ.f 125) args) w:=enters_of L.f125 (by kernel_rfl) rfl
 have e257:∀ args w,(callFunc (ρ.f 257) args).run P w= .ok (.enter (ρ.f 257) args) w:=enters_of L.f257 (by kernel_rfl) rfl
 have hp:=fun lim W=>pdqI_none (P:=P) (ρ:=ρ) { L with} p cap lim W
 have hl:∀ W,Calls P (ρ.f 125) #[.int .u64 0] W fun e w'=>e= .returned (.int .i64 (Lib.bitLen 0:Nat))∧w'=W:=fun W=>Any.bits_Len (P:=P) (ρ:=ρ) { L with} 0 W (by omega) (by omega)
 go_enter L.f189,Body.n189_ntmps ρ
 go_wp2_with (first|(go_at_fn (ρ.f 125);refine (hl _).mono ?_;rintro e w' ⟨rfl,rfl⟩)|(go_at_fn (ρ.f 257);refine (hp _ _).mono ?_;rintro e w' ⟨rfl,rfl⟩))
 go_end0
 exact ⟨rfl,rfl⟩
end
theorem sortI_ok {P : Program} {ρ : Ren} {gl : Glob} (L : Lays.n189 P ρ) (hf : ∃ fn, P.funcs[ρ.f 189]? = some fn ∧ fn.body.isNone = false ∧ (fn.name == "runtime.NumGoroutine") = false) :
    SpecOK P gl (ρ.f 189) { ins:= .cons (.row (.int .i64)) .nil,pre:=fun x=>List.length x.1<4611686018427387904,alts:=[{ outs:= .nil,res:=fun _=>(),upd:=fun x=>(List.mergeSort x.1 (fun (x y:Int)=>decide (x≤y)),())}]}:=
 sort1_ok (t:= .int .i64) (inst:=inferInstanceAs (Inhabited Int)) rfl (Value.int .i64) (fun x=>IntKind.i64.has x) (fun x G cells=>by unfold Rep;exact Iff.rfl) hf (fun xs=>List.mergeSort xs (fun (x y:Int)=>decide (x≤y))) (fun xs=>List.mergeSort_perm xs _) (fun p cap w=>sortI_none L p cap w) (List.mergeSort_nil)
  (fun blk off cap xs w h1 h2 h3=>Any.slices_Sort_int L blk off cap xs w h1 h2 h3)
end Go.Gv

/- The library's Compact at ints, as a contract: a row is taken, and comes back shorter. -/
namespace Go.Gv
open Go Go.RowKit Go.Proofs Go.Shelf Go.Sort
set_option maxHeartbeats 2000000 in
theorem compactI_ok {P : Program} {ρ : Ren} {gl : Glob} (L : Lays2.n20 P ρ) (hf : ∃ fn, P.funcs[ρ.f 20]? = some fn ∧ fn.body.isNone = false ∧ (fn.name == "runtime.NumGoroutine") = false) (hcl : ∀ xs : List Int, (Lib.compact xs).length ≤ xs.length) (hcm : ∀ (xs : List Int), ∀ x ∈ Lib.compact xs, x ∈ xs) :
    SpecOK P gl (ρ.f 20) { ins:= .cons (.take (.int .i64)) .nil,pre:=fun x=>List.length x.1<4611686018427387904,alts:=[{ outs:= .cons (.row (.int .i64)) .nil,res:=fun x=>(Lib.compact x.1,())}]}:=by
 refine ⟨hf,fun x hpre=>⟨_,rfl,fun C β G args hg hz H hargs=>?_⟩⟩
 obtain ⟨xs,⟨⟩⟩:=x
 replace hpre:List.length xs<4611686018427387904:=hpre
 have key:∃ v,args=[v]∧β 0=some v:=by
  unfold intoA satT at hargs
  obtain ⟨v,l,rfl,hv,hl⟩:=hargs
  unfold intoA satT at hl
  subst hl
  unfold intoA at hv
  unfold sat at hv
  exact ⟨v,rfl,hv.1⟩
 obtain ⟨v,rfl,hbv⟩:=key
 obtain ⟨v',hv',hsat⟩:=H.heap.sat 0 (by show (HObj.row (.int .i64) xs)≠_;simp)
 rw [hbv] at hv';cases hv'
 have hsat:satH (.row (.int .i64) xs) v β G:=hsat
 have hn1:canon (.cons (.take (.int .i64)) .nil) (xs,()) 1= .none:=canon_out _ _ (Nat.le_refl 1)
 have fin:∀ (G':GW) (w:Value),w.oneCell'=true→HInv C (hset (canon (.cons (.take (.int .i64)) .nil) (xs,())) [(1, .row (.int .i64) (Lib.compact xs)),(0, .dead)]) (fun n=>if n=1 then some w else β n) G'→β.le (fun n=>if n=1 then some w else β n)→G.le G'→
     RetOK C false (.cons (.take (.int .i64)) .nil) { outs:= .cons (.row (.int .i64)) .nil,res:=fun x=>(Lib.compact x.1,())} (xs,()) β G w G'.w:=fun G' w hw1 H' hb hle=>by
  refine ⟨⟨_,_,G',[.ref 1],[w],2,(Lib.compact xs,()),[1],[],2,((),()),[],[],2,rfl,H',hb,hle,rfl,?_,fun n hn=>?_,?_,?_,rfl,rfl,rfl,rfl⟩⟩
  · unfold listA satT
    refine ⟨w,[],rfl,?_,by unfold listA satT;rfl⟩
    unfold sat
    exact ⟨by simp,hw1⟩
  · have h0:¬ n=0:=by omega
    have h1:¬ n=1:=by omega
    simp only [hset,h0,h1,if_false]
    exact canon_out _ _ (by show 1≤n;omega)
  · show fromA _ (.cons (.row (.int .i64)) .nil) (.cons (.ref 1) .nil) 2=_
    simp only [fromA,hset,if_true,castDat_self]
    rfl
  · show fromA _ (.cons .nilp .nil) (.cons (.val (.pointer none)) .nil) 2=_
    simp only [fromA]
    rfl
 obtain ⟨base,cap,rfl,c1,c2,c3,c4⟩:=hsat
 by_cases hx:xs=[]
 · subst hx
   refine (Any.slices_Compact_int_empty L base cap G.w).mono fun e w' hr=>?_
   obtain ⟨rfl,rfl⟩:=hr
   have hc0:Lib.compact ([]:List Int)=[]:=List.length_eq_zero_iff.1 (by have:=hcl [];simpa using this)
   have hm:=H.move (G':=G) 0 1 (.slice base 0 cap) (.slice base 0 cap) (.row (.int .i64) (Lib.compact [])) hbv hn1 (by simp) (Step.refl _ _ G) (by
    rw [hc0]
    exact ⟨base,cap,rfl,c1,c2,c3,c4⟩) (fun b i hf=>by
    have:=H.heap.im 0 _ hbv b i hf
    exact ⟨.inl hf,this.1,this.2⟩) (fun b hf=>by cases hf) H.heap.old H.heap.oldo
   exact fin G (.slice base 0 cap) rfl hm.1 hm.2 G.le_refl
 · have hlen:0<xs.length:=List.length_pos_iff.2 hx
   obtain ⟨a,rfl⟩:∃ a,base=some a:=by
    cases base with
    |none=>have:=c3 rfl;omega
    |some a=>exact ⟨a,rfl⟩
   obtain ⟨hsp,hfree,hel⟩:=c4 a rfl
   obtain ⟨blk,off,spot⟩:=a
   have hsp:spot=none:=hsp (by omega)
   subst hsp
   dsimp only at hfree hel
   have hts:(Ty.int .i64).size=1:=rfl
   rw [hts] at hfree hel
   have hblk:blk<G.w.heap.size:=by
    obtain ⟨⟨u,hu⟩,_⟩:=hfree 0 (by omega)
    exact cell_lt hu
   have hcell:∀ i (hi:i<xs.length),G.w.cell? ⟨blk,off+i,none⟩=some (.int .i64 xs[i])∧IntKind.i64.has xs[i]:=fun i hi=>by
    obtain ⟨cells,h1,h2⟩:=hel i _ (List.getElem?_eq_getElem hi)
    unfold Rep at h2
    obtain ⟨rfl,hB⟩:=h2
    have:=h1 0 _ rfl
    exact ⟨by simpa using this,hB⟩
   have hH:Go.Sort.Holds (Value.int .i64) G.w blk off xs.toArray:=fun j hj=>by
    have hj':j<xs.length:=by simpa using hj
    rw [getElem!_pos _ j hj]
    refine ⟨by simpa using (hcell j hj').1,(hfree j (by omega)).2⟩
   have hc:=hcl xs
   let ys:List Int:=Lib.compact xs++List.replicate (xs.length - (Lib.compact xs).length) 0
   have hpl:ys.length=xs.length:=by show (Lib.compact xs++_).length=_;simp;omega
   have hin:∀ i,off≤i→i<off+ys.toArray.size * 1→fpc (.row (.int .i64) xs) (.slice (some ⟨blk,off,none⟩) xs.length cap) blk i:=fun i hi1 hi2=>⟨rfl,hi1,by
    have:ys.toArray.size=xs.length:=by simpa using hpl
    rw [this] at hi2;dsimp only;rw [hts];omega⟩
   have hcell0:∃ u,G.w.cell? ⟨blk,off,none⟩=some u:=(hfree 0 (by omega)).1
   refine (Any.slices_Compact_int L blk off cap xs G.w hH (by omega) c1).mono fun e w' hr'=>?_
   obtain ⟨rfl,n,rfl⟩:=hr'
   have hw:putRow (Value.int .i64) (Sort.ahead G.w n) blk off ys.toArray=sortWorldK (fun x=>[Value.int .i64 x]) 1 G.w blk off n ys.toArray #[]:=by
    unfold sortWorldK;rw [putRow_one];simp [grow]
   show RetOK _ _ _ _ _ _ _ _ (putRow (Value.int .i64) (Sort.ahead G.w n) blk off ys.toArray)
   rw [hw]
   have hst:Step (fpc (.row (.int .i64) xs) (.slice (some ⟨blk,off,none⟩) xs.length cap)) (fpo (.row (.int .i64) xs) (.slice (some ⟨blk,off,none⟩) xs.length cap)) G { G with w:=sortWorldK (fun x=>[Value.int .i64 x]) 1 G.w blk off n ys.toArray #[]}:=
    sortW_step (h:=0) H.heap hbv hblk (by simp;omega) hcell0 hin _
   have hHK:HoldsK (fun x=>[Value.int .i64 x]) 1 G.w blk off xs.toArray:=by
    unfold HoldsK
    rw [flat_one]
    intro j hj
    have hj':j<xs.length:=by simpa using hj
    have:=hH j (by simpa using hj')
    rw [getElem!_pos _ j (by simpa using hj')] at this
    rw [getElem!_pos _ j hj]
    simpa using this
   have hH':HoldsK (fun x=>[Value.int .i64 x]) 1 (sortWorldK (fun x=>[Value.int .i64 x]) 1 G.w blk off n ys.toArray #[]) blk off ys.toArray:=holdsK_sortWorldK_c (fun x=>[Value.int .i64 x]) 1 G.w blk off xs.toArray ys.toArray n #[] hHK hblk (by simpa using hpl)
   have hfree':∀ j,j<cap→Free (sortWorldK (fun x=>[Value.int .i64 x]) 1 G.w blk off n ys.toArray #[]) blk (off+j):=fun j hj=>by
    obtain ⟨⟨u,hu⟩,hfz⟩:=hfree j (by omega)
    refine ⟨?_,(sortW_frz blk (off+j) hblk).trans hfz⟩
    by_cases hjr:j<xs.length
    · exact ⟨_,(hH' j (by rw [flat_size];simp;omega)).1⟩
    · exact ⟨u,(sortW_cell blk (off+j) hblk (.inr (.inr (by simp;omega)))).trans hu⟩
   have hm:=H.move (G':={ G with w:=sortWorldK (fun x=>[Value.int .i64 x]) 1 G.w blk off n ys.toArray #[]}) 0 1 _ (.slice (some ⟨blk,off,none⟩) (Lib.compact xs).length cap) (.row (.int .i64) (Lib.compact xs)) hbv hn1 (by simp) hst (by
    refine ⟨some ⟨blk,off,none⟩,cap,rfl,by omega,c2,fun h=>(by cases h),fun a ha=>?_⟩
    cases ha
    refine ⟨fun _=>rfl,fun j hj=>hfree' j (by rw [hts] at hj;omega),fun i x hix=>?_⟩
    have hi:i<(Lib.compact xs).length:=(List.getElem?_eq_some_iff.1 hix).1
    have hxi:(Lib.compact xs)[i]=x:=(List.getElem?_eq_some_iff.1 hix).2
    have hiy:i<ys.length:=by omega
    have hxy:ys[i]=x:=by
     show (Lib.compact xs++List.replicate (xs.length - (Lib.compact xs).length) 0)[i]=x
     rw [List.getElem_append_left hi];exact hxi
    have hBx:IntKind.i64.has x:=by
     have hm:x∈xs:=hcm xs x (hxi ▸ List.getElem_mem hi)
     obtain ⟨j,hj,rfl⟩:=List.getElem_of_mem hm
     exact (hcell j hj).2
    refine ⟨[.int .i64 x],fun j u hu=>?_,by unfold Rep;exact ⟨rfl,hBx⟩⟩
    have hj:j=0:=by
     have:=(List.getElem?_eq_some_iff.1 hu).1
     simp at this;exact this
    subst hj
    have:=hH'.cell (i:=i) (c:=0) (by simpa using hiy) (by omega)
    rw [getElem!_pos _ i (by simpa using hiy)] at this
    simp only [List.getElem_toArray,hxy] at this
    rw [hts]
    simp only [List.getElem?_cons_zero,Option.some.injEq] at hu
    subst hu
    exact this.1) (fun b i hf=>by
    have:=H.heap.im 0 _ hbv b i (show fpc (.row (.int .i64) xs) _ b i from hf)
    refine ⟨.inl hf,this.1,?_⟩
    exact Nat.lt_of_lt_of_le this.2 sortW_size) (fun b hf=>by cases hf) (fun b o hi=>Nat.lt_of_lt_of_le (H.heap.old b o hi) sortW_size) (fun b hi=>by
    obtain ⟨o,e,e'⟩:=H.heap.oldo b hi
    exact ⟨o,(hst.le.2 b hi).2.trans e,e'⟩)
   exact fin _ _ rfl hm.1 hm.2 hst.le
end Go.Gv

/- The library's maps.Keys and Sorted over it, at int keys, as contracts. -/
namespace Go.Gv
open Go Go.RowKit Go.Proofs Go.Shelf Go.Sort
section
variable {P:Program} {ρ σ:Ren} {gl:Glob}
theorem keys_ok (L : SlLaysZI.n7 P ρ) (hf : ∃ fn, P.funcs[ρ.f 7]? = some fn ∧ fn.body.isNone = false ∧ (fn.name == "runtime.NumGoroutine") = false) :
    SpecOK P gl (ρ.f 7) { ins:= .cons (.ob (.fm (.int .i64) .bool)) .nil,pre:=fun _=>True,alts:=[{ outs:= .cons (.clos (ρ.f 10) (.cons (.ob (.kb (.int .i64) .bool)) .nil)) .nil,res:=fun x=>((x.1,()),())}]}:=by
 refine ⟨hf,fun x _=>⟨_,rfl,fun C β G args hg hz H hargs=>?_⟩⟩
 obtain ⟨m,⟨⟩⟩:=x
 have key:∃ v,args=[v]∧β 0=some v:=by
  unfold intoA satT at hargs
  obtain ⟨v,l,rfl,hv,hl⟩:=hargs
  unfold intoA satT at hl
  subst hl
  unfold intoA at hv
  unfold sat at hv
  exact ⟨v,rfl,hv.1⟩
 obtain ⟨v,rfl,hbv⟩:=key
 obtain ⟨v',hv',hsat⟩:=H.heap.sat 0 (by show (HObj.ob (.fm (.int .i64) .bool) m)≠_;simp)
 rw [hbv] at hv';cases hv'
 have hsat:obSat (.fm (.int .i64) .bool) m v G:=hsat
 obtain ⟨b,es,c,rfl,h1,h2,h3,h4⟩:=hsat
 have hn1:canon (.cons (.ob (.fm (.int .i64) .bool)) .nil) (m,()) 1= .none:=canon_out _ _ (Nat.le_refl 1)
 refine ((callsIn_wide (n:=1)).1 (AnyZI.keys_in L Fence.wide 1 trivial rfl (some b) G.w)).mono fun e w' hr=>?_
 obtain ⟨rfl,rfl⟩:=hr
 have hs:=GW.alloc_step H.heap (.cells #[.map (some b)] (ρ.t 23)) (fun _=>True) False
 have hm:=H.alloc_own (.cells #[.map (some b)] (ρ.t 23)) (fun _=>True) False (fun h=>h.elim) 1 (.ob (.kb (.int .i64) .bool) m) (.pointer (some ⟨G.w.heap.size,0,none⟩)) hn1 (by simp)
  ⟨G.w.heap.size,b,es,c,rfl,CellsIm.alloc G #[.map (some b)] (ρ.t 23) False,(hs.le.2 b h1).1,(hs.le.2 b h1).2.trans h2,h3,h4.mono hs.le⟩ (fun _ _ hf=>hf.elim) (fun _ hf=>hf.elim)
 refine ⟨⟨_,_,_,[.clos (ρ.f 10) (.cons (.ref 1) .nil)],[.func (.func (ρ.f 10)) #[] #[.pointer (some ⟨G.w.heap.size,0,none⟩)]],2,((m,()),()),[1],[],2,(m,()),[0],[],2,rfl,hm.1,hm.2,hs.le,rfl,?_,fun n hn=>?_,?_,?_,rfl,rfl,rfl,rfl⟩⟩
 · unfold listA satT
   refine ⟨_,[],rfl,?_,by unfold listA satT;rfl⟩
   unfold sat
   refine ⟨[.pointer (some ⟨G.w.heap.size,0,none⟩)],rfl,?_⟩
   unfold satT
   refine ⟨_,[],rfl,?_,by unfold satT;rfl⟩
   unfold sat
   exact ⟨by simp,rfl⟩
 · have h0:¬ n=1:=by omega
   simp only [hset,h0,if_false]
   exact canon_out _ _ (by show 1≤n;omega)
 · show fromA _ (.cons (.clos (ρ.f 10) (.cons (.ob (.kb (.int .i64) .bool)) .nil)) .nil) (.cons (.clos (ρ.f 10) (.cons (.ref 1) .nil)) .nil) 2=_
   have hb:Nat.beq (ρ.f 10) (ρ.f 10)=true:=Nat.beq_refl _
   simp only [fromA,hset,if_true,hb,castOb,dite_true]
   rfl
 · show fromA _ (.cons (.ob (.fm (.int .i64) .bool)) .nil) (.cons (.ref 0) .nil) 2=_
   have h0:hset (canon (.cons (.ob (.fm (.int .i64) .bool)) .nil) (m,())) [(1, .ob (.kb (.int .i64) .bool) m)] 0= .ob (.fm (.int .i64) .bool) m:=rfl
   simp only [fromA]
   rw [h0]
   simp only [castOb,dite_true]
   rfl
def rdB {H:Type} (v:Value):Option (DataW H × List MemPlace):=match v with
 | .bool x=>some (.lit (.bool x),[])
 |_=>none
open Go.WideElems in
theorem map_keys {G:GW} {k:TypeId} (hk:P.underlying k=some (.int .i64)) {m:List (Int × Bool)} {b:Nat} {es:Array MapEntry} {c:Nat} (hb:G.w.heap[b]?=some (.map es c)) (hM:MapRep (.int .i64) .bool m G es) (hB:Born es c) (hn:(m.map Prod.fst).Nodup) (hl:m.length≤maxLen):
    ∃ D0:DataW Unit,G.w.ownsMap P k rdB b m.length D0∧(intKeys D0).Perm (m.map Prod.fst)∧Maps.size D0=m.length:=by
 obtain ⟨hsz,hel⟩:=hM
 have hent:∀ (i:Nat) (e:MapEntry),es[i]?=some e→∃ x:Int × Bool,m[i]?=some x∧e.key= .int .i64 x.1∧e.val= .bool x.2∧IntKind.i64.has x.1:=fun i e he=>by
  obtain ⟨x,hx,r1,r2⟩:=hel i e he
  have k1:=r1.to_one rfl
  have k2:=r2.to_one rfl
  unfold Rep at k1 k2
  simp only [List.cons.injEq,and_true] at k1 k2
  exact ⟨x,hx,k1.1,k2,k1.2⟩
 have hrd:∀ (i:Nat) (e:MapEntry) (x:Int × Bool),es[i]?=some e→m[i]?=some x→WideElems.rd (H:=Unit) P k rdB e=some (.int .i64 x.1, .lit (.bool x.2)):=fun i e x he hx=>by
  obtain ⟨y,hy,e1,e2,e3⟩:=hent i e he
  rw [hx] at hy;cases hy
  unfold WideElems.rd
  rw [e1,e2,Maps.keyOf_int_mk hk (by have:=has_iff.1 e3;simp only [lo,hi] at this;simp [Lit.wf,IntKind.min,IntKind.max,IntKind.signed,IntKind.bits];omega)]
  rfl
 have hlist:es.toList.map (rg (H:=Unit) P k rdB)=m.map fun x=>(.int .i64 x.1, .lit (.bool x.2)):=by
  apply List.ext_getElem
  · simp [hsz]
  · intro i h1 h2
    have hi:i<es.size:=by simpa using h1
    have hm:i<m.length:=by simpa using h2
    rw [List.getElem_map,List.getElem_map]
    exact rg_of (hrd i _ _ (by simp [hi]) (List.getElem?_eq_getElem hm))
 refine ⟨.map ((es.toList.map (rg P k rdB)).foldr DataW.insert []),⟨es,c,hb,⟨by omega,⟨hB.1,hB.2,?_⟩,fun x hx=>?_⟩,by omega,rfl⟩,?_,?_⟩
 · have hkl:es.toList.map (·.key)=(m.map Prod.fst).map (Value.int .i64):=by
    apply List.ext_getElem
    · simp [hsz]
    · intro i h1 h2
      have hi:i<es.size:=by simpa using h1
      have hm:i<m.length:=by simpa using h2
      obtain ⟨y,hy,e1,_⟩:=hent i es[i] (by simp [hi])
      rw [List.getElem?_eq_getElem hm] at hy;cases hy
      simpa using e1
   rw [hkl]
   exact List.Pairwise.map _ (fun a b (h:a≠b) e=>h (by simpa using e)) hn
 · obtain ⟨i,hi,rfl⟩:=List.getElem_of_mem hx
   have hi:i<es.size:=by simpa using hi
   have hm:i<m.length:=by omega
   exact ⟨_,hrd i _ _ (by simp [hi]) (List.getElem?_eq_getElem hm)⟩
 · rw [hlist]
   show (((m.map fun x=>((.int .i64 x.1, .lit (.bool x.2)):Lit × DataW Unit)).foldr DataW.insert []).map fun p=>intOf p.1).Perm _
   have hp:=(Go.WideShapes.sorted_perm (H:=Unit) (m.map fun x=>((.int .i64 x.1, .lit (.bool x.2)):Lit × DataW Unit))).map fun p=>intOf p.1
   refine hp.trans ?_
   rw [List.map_map]
   exact List.Perm.refl _
 · show ((es.toList.map (rg P k rdB)).foldr DataW.insert []).length=_
   rw [(Go.WideShapes.sorted_perm _).length_eq,List.length_map]
   simpa using hsz
set_option maxHeartbeats 2000000 in
theorem sortedKeys_ok (L : SlLaysZI.n6 P ρ) (K : SlLaysZI.n10 P σ) (hf : ∃ fn, P.funcs[ρ.f 6]? = some fn ∧ fn.body.isNone = false ∧ (fn.name == "runtime.NumGoroutine") = false)
    (e9:∀ args w,(callFunc (ρ.f 9) args).run P w= .ok (.enter (ρ.f 9) args) w) (eg:∀ args w,(callFunc (σ.f 10) args).run P w= .ok (.enter (σ.f 10) args) w)
    (s1:∀ (blk off cap:Nat) (ss:List Int) (W:World),Go.Sort.Holds encZ W blk off ss.toArray→blk<W.heap.size→ss.length<4611686018427387904→Calls P (ρ.f 9) #[.slice (some ⟨blk,off,none⟩) ss.length cap] W fun e w'=>e= .returned (.tuple #[])∧∃ k os,w'=grow (putRow encZ (Sort.ahead W k) blk off (ss.mergeSort fun x y=>decide (x≤y)).toArray) os)
    (s2:∀ (p:Option Addr) (cap:Nat) (W:World),Calls P (ρ.f 9) #[.slice p 0 cap] W fun e w'=>e= .returned (.tuple #[])∧w'=W):
    SpecOK P gl (ρ.f 6) { ins:= .cons (.clos (σ.f 10) (.cons (.ob (.kb (.int .i64) .bool)) .nil)) .nil,pre:=fun x=>List.length (α:=Int × Bool) x.1.1≤1000000∧(List.map (α:=Int × Bool) Prod.fst x.1.1).Nodup,alts:=[{ outs:= .cons (.d (.sl (.int .i64))) .nil,res:=fun x=>((List.map (α:=Int × Bool) Prod.fst x.1.1).mergeSort (fun a b=>decide (a≤b)),())}],noisy:=true}:=by
 refine ⟨hf,fun x hpre=>⟨_,rfl,fun C β G args hg hz H hargs=>?_⟩⟩
 obtain ⟨⟨m,⟨⟩⟩,⟨⟩⟩:=x
 obtain ⟨hlen,hnd⟩:=hpre
 replace hlen:List.length (α:=Int × Bool) m≤1000000:=hlen
 replace hnd:(List.map (α:=Int × Bool) Prod.fst m).Nodup:=hnd
 have key:∃ v,args=[.func (.func (σ.f 10)) #[] #[v]]∧β 0=some v:=by
  unfold intoA satT at hargs
  obtain ⟨v,l,rfl,hv,hl⟩:=hargs
  unfold intoA satT at hl
  subst hl
  unfold intoA sat at hv
  obtain ⟨l,rfl,hv⟩:=hv
  unfold intoA satT at hv
  obtain ⟨u,l',rfl,hu,hl⟩:=hv
  unfold intoA satT at hl
  subst hl
  unfold intoA sat at hu
  exact ⟨u,rfl,hu.1⟩
 obtain ⟨v,rfl,hbv⟩:=key
 obtain ⟨v',hv',hsat⟩:=H.heap.sat 0 (by show (HObj.ob (.kb (.int .i64) .bool) m)≠_;simp)
 rw [hbv] at hv';cases hv'
 have hsat:obSat (.kb (.int .i64) .bool) m v G:=hsat
 obtain ⟨r,b,es,c,rfl,h0,h1,h2,h3,h4⟩:=hsat
 have hkt:P.underlying (σ.t 26)=some (.int .i64):=K.t26
 obtain ⟨D0,hown,hperm,hsize⟩:=map_keys hkt h2 h4 h3 hnd (by show List.length (α:=Int × Bool) m≤9223372036854775807;omega)
 have hcell:G.w.cell? ⟨r,0,none⟩=some (.map (some b)):=by
  have:=(h0 0 _ rfl).2
  simpa using this
 have hseq:SeqGives Fence.wide 2 P (σ.f 10) #[.pointer (some ⟨r,0,none⟩)] encZ (fun ss=>ss.Perm (intKeys D0)) (Maps.size D0) G.w:=
  AnyZI.keys_gives K Fence.wide 2 trivial rfl (by omega) r b _ D0 G.w (cell_lt hcell) hcell hown
 have hc:=(callsIn_wide (n:=5)).1 (AnyZI.sorted_in L Fence.wide 5 trivial trivial trivial trivial rfl (by omega)
  ⟨fun blk off cap ss W a1 a2 a3=>callsIn_wide.2 (s1 blk off cap ss W a1 a2 a3),fun p cap W=>callsIn_wide.2 (s2 p cap W)⟩ e9 (σ.f 10) #[.pointer (some ⟨r,0,none⟩)] trivial eg _ _ (by rw [hsize];show List.length (α:=Int × Bool) m≤9223372036854775807;omega) (by rw [hsize];omega) G.w hseq)
 refine hc.mono fun e w' hr=>?_
 obtain ⟨v,ss,rfl,hS,hrow,hnil,hbel⟩:=hr
 have hsort:ss.mergeSort (fun x y=>decide (x≤y))=(List.map (α:=Int × Bool) Prod.fst m).mergeSort (fun a b=>decide (a≤b)):=mergeSort_of_perm_i (hS.trans hperm)
 have hssl:ss.length=List.length (α:=Int × Bool) m:=by rw [(hS.trans hperm).length_eq,List.length_map]
 have hrng:∀ x∈ss,IntKind.i64.has x:=fun x hx=>by
  have hm:=(hS.trans hperm).mem_iff.1 hx
  obtain ⟨y,hy,rfl⟩:=List.mem_map.1 hm
  obtain ⟨i,hi,rfl⟩:=List.getElem_of_mem hy
  have hi':i<es.size:=by rw [h4.1];exact hi
  obtain ⟨z,hz,r1,_⟩:=h4.2 i es[i] (by simp [hi'])
  rw [List.getElem?_eq_getElem hi] at hz;cases hz
  have k1:=r1.to_one rfl
  unfold Rep at k1
  exact k1.2
 let G':GW:={ w:=w',im:=fun a o=>G.im a o∨(G.w.heap.size≤a∧a<w'.heap.size),imo:=G.imo,nz:=G.nz}
 have hblk:∀ k,k<G.w.heap.size→w'.heap[k]?=G.w.heap[k]?:=hbel.block
 have hce:∀ a o,a<G.w.heap.size→w'.cell? ⟨a,o,none⟩=G.w.cell? ⟨a,o,none⟩:=fun a o ha=>by simp only [World.cell?,hblk a ha]
 have hfz:∀ a o,a<G.w.heap.size→w'.frozen? ⟨a,o,none⟩=G.w.frozen? ⟨a,o,none⟩:=fun a o ha=>by simp only [World.frozen?,hblk a ha]
 have hst:Step (fun _ _=>False) (fun _=>False) G G':={
  os:=hbel.os,tape:=hbel.tape,output:=hbel.output,size:=hbel.size
  cell:=fun a o ha _=>⟨hce a o ha,hfz a o ha⟩
  blk:=fun a ha _ _=>hblk a ha
  obj:=fun a es c _ he=>(hblk a (Array.getElem?_eq_some_iff.1 he).1).trans he
  le:=⟨fun a o hi=>⟨.inl hi,hce a o (H.heap.old a o hi)⟩,fun a hi=>⟨hi,hblk a (H.heap.oldo_lt hi)⟩⟩
  new:=fun a o hi=>hi.elim .inl fun h=> .inr (.inr h.1)
  newo:=fun a hi=> .inl hi
  drawn:= .inr (by have:=hz rfl;rw [H.step.nz];exact this)
  nz:=rfl}
 have hin:=H.same hst (fun a o hi=>hi.elim (fun h=>Nat.lt_of_lt_of_le (H.heap.old a o h) hbel.size) fun h=>h.2) (fun a hi=>by
  obtain ⟨o,e,e'⟩:=H.heap.oldo a hi
  exact ⟨o,(hblk a (H.heap.oldo_lt hi)).trans e,e'⟩)
 have hrep:RepV (.sl (.int .i64)) ((List.map (α:=Int × Bool) Prod.fst m).mergeSort (fun a b=>decide (a≤b))) G' v:=by
  rw [← hsort]
  have hml:(ss.mergeSort fun x y=>decide (x≤y)).length=ss.length:=List.length_mergeSort _
  rcases hrow.2 with ⟨rfl,hz0⟩|⟨g,cap,cur,rfl,hbase,hgb,r1,r2,r3,r4⟩
  · have:ss=[]:=List.eq_nil_of_length_eq_zero hz0
    subst this
    exact .of_one rfl ⟨none,0,by simp,by simp,Nat.zero_le _,fun _=>rfl,fun a ha=>by cases ha⟩
  · refine .of_one rfl ⟨some ⟨g,0,none⟩,cap,by rw [hml],by rw [hml];exact r1,r2,fun h=>(by cases h),fun a ha=>?_⟩
    cases ha
    refine ⟨fun _=>rfl,fun i x hx=>⟨[.int .i64 x],fun j u hu=>?_,?_⟩⟩
    · have hj:j=0:=by
       have:=(List.getElem?_eq_some_iff.1 hu).1
       simp at this;exact this
      subst hj
      simp only [List.getElem?_cons_zero,Option.some.injEq] at hu
      subst hu
      have hi:i<ss.length:=by rw [← hml];exact (List.getElem?_eq_some_iff.1 hx).1
      refine ⟨.inr ⟨hbase,(Array.getElem?_eq_some_iff.1 hgb).1⟩,?_⟩
      show w'.cell? ⟨g,0+i * 1+0,none⟩=_
      simp only [World.cell?,hgb]
      have h5:(cur.toList.take (ss.length * 1))[i]?=some (encZ x):=by
       rw [r4,List.getElem?_map,hx];rfl
      rw [List.getElem?_take_of_lt (by omega)] at h5
      simpa using h5
    · unfold Rep
      refine ⟨rfl,hrng x ?_⟩
      exact (List.mergeSort_perm _ _).mem_iff.1 (List.mem_of_getElem? hx)
 refine ⟨⟨_,β,G',[.dat (.sl (.int .i64)) ((List.map (α:=Int × Bool) Prod.fst m).mergeSort (fun a b=>decide (a≤b)))],[v],1,(_,()),[],[],1,((m,()),()),[0],[],1,rfl,hin,Asg.le_refl β,hst.le,rfl,?_,fun n hn=>?_,?_,?_,rfl,rfl,rfl,rfl⟩⟩
 · unfold listA satT
   refine ⟨v,[],rfl,?_,by unfold listA satT;rfl⟩
   unfold sat
   exact hrep
 · exact canon_out _ _ hn
 · show fromA _ (.cons (.d (.sl (.int .i64))) .nil) (.cons (.dat _ _) .nil) 1=_
   simp only [fromA,toDat_dat]
   rfl
 · show fromA _ (.cons (.clos (σ.f 10) (.cons (.ob (.kb (.int .i64) .bool)) .nil)) .nil) (.cons (.clos (σ.f 10) (.cons (.ref 0) .nil)) .nil) 1=_
   have hb:Nat.beq (σ.f 10) (σ.f 10)=true:=Nat.beq_refl _
   have h0:canon (.cons (.clos (σ.f 10) (.cons (.ob (.kb (.int .i64) .bool)) .nil)) .nil) ((m,()),()) 0= .ob (.kb (.int .i64) .bool) m:=rfl
   simp only [fromA,hb]
   rw [h0]
   simp only [castOb,dite_true]
   rfl
end
end Go.Gv

/- The library's SortFunc at elements of one cell. -/
namespace Go.Gv
open Go Go.RowKit Go.Proofs Go.Shelf Go.Sort
theorem pdq1_ok {P:Program} {ρ:Ren} {gl:Glob} (L:SlLaysF.n14 P ρ) {t:Ty} (hag:t.agg=false) (hts:t.size=1)
    (hf : ∃ fn, P.funcs[ρ.f 14]? = some fn ∧ fn.body.isNone = false ∧ (fn.name == "runtime.NumGoroutine") = false) {g : FuncId} {cpre : SDat (.cons (.d t) (.cons (.d t) .nil)) → Prop} {cf : Dat t → Dat t → Int}
    (hcmp:SpecOK P gl g { ins:= .cons (.d t) (.cons (.d t) .nil),pre:=cpre,alts:=[{ outs:= .cons (.d (.int .i64)) .nil,res:=fun x=>(cf x.1 x.2.1,())}]})
    (Q:Dat t→Prop) (hQ:∀ x y,Q x→Q y→cpre (x,y,())) (h1:∀ x,Q x→¬ cf x x<0) (h2:∀ x y z,Q x→Q y→Q z→cf x y<0→cf y z<0→cf x z<0) (h3:∀ x y z,Q x→Q y→Q z→¬ cf x y<0→¬ cf y z<0→¬ cf x z<0)
    (pre:List (Dat t)→Prop) (res:List (Dat t)→List (Dat t)) (hpQ:∀ xs,pre xs→∀ x∈xs,Q x) (hmany:∀ xs,pre xs→List.length xs<4611686018427387904) (huniq:∀ xs ys,pre xs→ys.Perm xs→ys.Pairwise (fun a b=>¬ cf b a<0)→ys=res xs):
    SpecOK P gl (ρ.f 14) { ins:= .cons (.row t) (.cons (.d (.int .i64)) (.cons (.d (.int .i64)) (.cons (.d (.int .i64)) (.cons (.clos g .nil) .nil)))),pre:=fun x=>pre x.1∧x.2.1=0∧x.2.2.1=(List.length x.1:Int)∧0≤x.2.2.2.1∧x.2.2.2.1≤1000000,alts:=[{ outs:= .nil,res:=fun _=>(),upd:=fun x=>(res x.1,x.2.1,x.2.2.1,x.2.2.2.1,(),())}]}:=by
 refine ⟨hf,fun x hpre=>⟨_,rfl,fun C β G args hg hz H hargs=>?_⟩⟩
 obtain ⟨xs,na,nb,nl,⟨⟩,⟨⟩⟩:=x
 have e1:na=(0:Int):=hpre.2.1
 have e2:nb=(List.length xs:Int):=hpre.2.2.1
 have l1:(0:Int)≤nl:=hpre.2.2.2.1
 have l2:@LE.le Int _ nl 1000000:=hpre.2.2.2.2
 replace hpre:pre xs:=hpre.1
 subst e1;subst e2
 have key:∃ v,args=[v, .int .i64 0, .int .i64 (List.length xs:Int), .int .i64 nl, .func (.func g) #[] #[]]∧β 0=some v:=by
  unfold intoA satT at hargs
  obtain ⟨v,l,rfl,hv,hl⟩:=hargs
  unfold intoA satT at hl
  obtain ⟨a1,l,rfl,ha1,hl⟩:=hl
  unfold intoA satT at hl
  obtain ⟨a2,l,rfl,ha2,hl⟩:=hl
  unfold intoA satT at hl
  obtain ⟨a3,l,rfl,ha3,hl⟩:=hl
  unfold intoA satT at hl
  obtain ⟨u,l,rfl,hu,hl⟩:=hl
  unfold intoA satT at hl
  subst hl
  unfold intoA at hv hu ha1 ha2 ha3
  obtain ⟨rfl,_⟩:=int_sat ha1
  obtain ⟨rfl,_⟩:=int_sat ha2
  obtain ⟨rfl,_⟩:=int_sat ha3
  unfold sat at hv hu
  obtain ⟨l,rfl,hl⟩:=hu
  unfold intoA satT at hl
  subst hl
  exact ⟨v,rfl,hv.1⟩
 obtain ⟨v,rfl,hbv⟩:=key
 obtain ⟨v',hv',hsat⟩:=H.heap.sat 0 (by show (HObj.row t xs)≠_;simp)
 rw [hbv] at hv';cases hv'
 have hsat:satH (.row t xs) v β G:=hsat
 -- how the function comes back
 have fin:∀ (ys:List (Dat t)),ys=res xs→∀ G':GW,HInv C (hset (canon (.cons (.row t) (.cons (.d (.int .i64)) (.cons (.d (.int .i64)) (.cons (.d (.int .i64)) (.cons (.clos g .nil) .nil))))) (xs,(0:Int),(List.length xs:Int),nl,(),())) [(0, .row t ys)]) β G'→G.le G'→
     RetOK C false (.cons (.row t) (.cons (.d (.int .i64)) (.cons (.d (.int .i64)) (.cons (.d (.int .i64)) (.cons (.clos g .nil) .nil))))) { outs:= .nil,res:=fun _=>(),upd:=fun x=>(res x.1,x.2.1,x.2.2.1,x.2.2.2.1,(),())} (xs,(0:Int),(List.length xs:Int),nl,(),()) β G (.tuple #[]) G'.w:=fun ys hys G' H' hle=>by
  refine ⟨⟨_,β,G',[],[],1,(),[],[],1,(ys,(0:Int),(List.length xs:Int),nl,(),()),[0],[],1,rfl,H',Asg.le_refl β,hle,rfl,?_,fun n hn=>?_,rfl,?_,rfl,rfl,?_,rfl⟩⟩
  · unfold listA satT;rfl
  · have h0:¬ n=0:=by omega
    simp only [hset,h0,if_false]
    exact canon_out _ _ (by show 1≤n;omega)
  · show fromA _ (.cons (.row t) (.cons (.d (.int .i64)) (.cons (.d (.int .i64)) (.cons (.d (.int .i64)) (.cons (.clos g .nil) .nil))))) (.cons (.ref 0) (.cons (.dat (.int .i64) (0:Int)) (.cons (.dat (.int .i64) (List.length xs:Int)) (.cons (.dat (.int .i64) nl) (.cons (.clos g .nil) .nil))))) 1=_
    have hb:Nat.beq g g=true:=Nat.beq_refl g
    simp only [fromA,hset,if_true,castDat_self,toDat_dat,hb]
    rfl
  · rw [hys];rfl
 obtain ⟨base,cap,rfl,c1,c2,c3,c4⟩:=hsat
 by_cases hx:xs=[]
 · subst hx
   have he:([]:List (Dat t))=res []:=huniq [] [] hpre (List.Perm.refl _) List.Pairwise.nil
   refine (AnyF.pdqsortCmpFunc_none { L with} base cap nl (.func (.func g) #[] #[]) G.w).mono fun e w' hr=>?_
   obtain ⟨rfl,rfl⟩:=hr
   refine fin [] he G ?_ G.le_refl
   exact H.write 0 _ (.row t []) hbv (by simp) rfl rfl (Step.refl _ _ G) ⟨base,cap,rfl,c1,c2,c3,c4⟩ (fun b i hf=>hf) (fun b hf=>hf)
 · have hlen:0<xs.length:=List.length_pos_iff.2 hx
   obtain ⟨a,rfl⟩:∃ a,base=some a:=by
    cases base with
    |none=>have:=c3 rfl;omega
    |some a=>exact ⟨a,rfl⟩
   obtain ⟨hsp,hfree,hel⟩:=c4 a rfl
   obtain ⟨blk,off,spot⟩:=a
   have hsp:spot=none:=hsp (by omega)
   subst hsp
   dsimp only at hfree hel
   have hcap:xs.length * t.size≤cap * t.size:=Nat.mul_le_mul_right _ c1
   have hblk:blk<G.w.heap.size:=by
    obtain ⟨⟨u,hu⟩,_⟩:=hfree 0 (by rw [hts];omega)
    exact cell_lt hu
   have hts':t.size=1:=hts
   have hrd:∀ i:Fin xs.length,∃ u:Value,G.w.cell? ⟨blk,off+i.1,none⟩=some u∧RepV t xs[i.1] G u∧u.oneCell'=true:=fun i=>by
    obtain ⟨cs,h1,h2⟩:=hel i.1 _ (List.getElem?_eq_getElem i.2)
    have hl:cs.length=1:=(Rep.length t h2).trans hts'
    obtain ⟨u,rfl⟩:=List.length_eq_one_iff.1 hl
    have:=h1 0 u rfl
    rw [hts'] at this
    exact ⟨u,by simpa using this, .of_one hag h2,Rep.one t h2 u (by simp)⟩
   let α:={p:Dat t × Value // Q p.1∧RepV t p.1 G p.2∧p.2.oneCell'=true}
   let cell:Fin xs.length→Value:=fun i=>Classical.choose (hrd i)
   have hcell:=fun i=>Classical.choose_spec (hrd i)
   let d:Array α:=Array.ofFn fun i:Fin xs.length=>(⟨(xs[i.1],cell i),hpQ xs hpre _ (List.getElem_mem i.2),(hcell i).2⟩:α)
   letI:Inhabited α:=⟨⟨(xs[0],cell ⟨0,hlen⟩),hpQ xs hpre _ (List.getElem_mem hlen),(hcell ⟨0,hlen⟩).2⟩⟩
   have hd:d.size=xs.length:=by simp [d]
   let enc:α→Value:=fun p=>p.1.2
   have hone:OneCell enc:=fun x=>x.2.2.2
   have hgets:∀ i (hi:i<xs.length),d[i]! =⟨(xs[i],cell ⟨i,hi⟩),hpQ xs hpre _ (List.getElem_mem hi),(hcell ⟨i,hi⟩).2⟩:=fun i hi=>by
    rw [getElem!_pos d i (by omega)]
    simp [d]
   have hH:Go.Sort.Holds enc G.w blk off d:=fun j hj=>by
    have hj':j<xs.length:=by omega
    rw [hgets j hj']
    exact ⟨(hcell ⟨j,hj'⟩).1,(hfree j (by rw [hts'];omega)).2⟩
   have hw:∀ m (dk:Array α) os,sortWorld enc G.w blk off m dk os=sortWorldK (fun x=>[enc x]) 1 G.w blk off m dk os:=fun m dk os=>by unfold sortWorld sortWorldK;rw [putRow_one]
   have hin:∀ i,off≤i→i<off+d.size * 1→fpc (.row t xs) (.slice (some ⟨blk,off,none⟩) xs.length cap) blk i:=fun i hi1 hi2=>⟨rfl,hi1,by rw [hd] at hi2;dsimp only;rw [hts'];omega⟩
   have hcell0:∃ u,G.w.cell? ⟨blk,off,none⟩=some u:=(hfree 0 (by rw [hts'];omega)).1
   have hst:∀ (m:Nat) (dk:Array α) (os:Array Obj),dk.size=d.size→Step (fpc (.row t xs) (.slice (some ⟨blk,off,none⟩) xs.length cap)) (fpo (.row t xs) (.slice (some ⟨blk,off,none⟩) xs.length cap)) G { G with w:=sortWorld enc G.w blk off m dk os}:=fun m dk os hdk=>by
    rw [hw]
    exact sortW_step (h:=0) H.heap hbv hblk (by rw [hdk,hd];omega) hcell0 (by rw [hdk];exact hin) _
   have hsz0:∀ (m:Nat) (dk:Array α) (os:Array Obj),G.w.heap.size≤(sortWorld enc G.w blk off m dk os).heap.size:=fun m dk os=>by rw [hw];exact sortW_size
   have hold:∀ (m:Nat) (dk:Array α) (os:Array Obj),dk.size=d.size→(∀ b o,G.im b o→b<(sortWorld enc G.w blk off m dk os).heap.size)∧∀ b,G.imo b→∃ o,(sortWorld enc G.w blk off m dk os).heap[b]?=some o∧ImObj o:=fun m dk os hdk=>
    ⟨fun b o hi=>Nat.lt_of_lt_of_le (H.heap.old b o hi) (hsz0 m dk os),fun b hi=>by obtain ⟨o,e,e'⟩:=H.heap.oldo b hi;exact ⟨o,((hst m dk os hdk).le.2 b hi).2.trans e,e'⟩⟩
   have hcm:CmpLays1 P g #[] enc (fun x y=>cf x.1.1 y.1.1) blk off d.size G.w:=fun m os dk hdk x y=>by
    have hle:∀ n:Prop,G.le ⟨sortWorld enc G.w blk off m dk os,G.im,G.imo,n⟩:=fun n=>(hst m dk os hdk).le
    exact quiet2 hcmp (hQ _ _ x.2.1 y.2.1) (hold m dk os hdk).1 (hold m dk os hdk).2 (fun g t x hx=>(H.glob g t x (by rw [hg];exact hx)).mono (hle False)) (x.2.2.1.mono (hle False)) (y.2.2.1.mono (hle False))
   have hO:SWO (ltOf fun x y:α=>cf x.1.1 y.1.1):={
    irrefl:=fun x=>by simpa [ltOf] using Int.not_lt.1 (h1 _ x.2.1)
    trans:=fun x y z hxy hyz=>by
     simp only [ltOf,decide_eq_true_eq] at *
     exact h2 _ _ _ x.2.1 y.2.1 z.2.1 hxy hyz
    ntrans:=fun x y z hxy hyz=>by
     simp only [ltOf,decide_eq_false_iff_not] at *
     exact h3 _ _ _ x.2.1 y.2.1 z.2.1 hxy hyz}
   have hsz:=hmany xs hpre
   have hrun:=Any.pdqsortCmpFunc_all L enc (fun x y=>cf x.1.1 y.1.1) g #[] hO blk off cap d G.w (enters_ok hcmp.1) hcm ⟨hone,hH,hblk⟩ (d.size+1) 0 d.size nl.toNat d G.w (by omega) rfl (SW.start hH) (Nat.zero_le _) (Nat.le_refl _) (by rw [hd];exact hsz) (by omega) (Or.inl rfl)
   rw [hd,Int.toNat_of_nonneg l1] at hrun
   refine hrun.mono fun e w' hr=>?_
   obtain ⟨rfl,n,os,rfl⟩:=hr
   have hps:=pdq_sorts (ltOf fun x y:α=>cf x.1.1 y.1.1) hO d 0 d.size nl.toNat true true (Nat.zero_le _) (Nat.le_refl _) (Or.inl rfl)
   rw [hd] at hps
   generalize pdq (ltOf fun x y:α=>cf x.1.1 y.1.1) d 0 xs.length nl.toNat true true=d' at hps ⊢
   obtain ⟨hp,hs⟩:=hps
   rw [← hd] at hp hs
   have hd':d'.size=d.size:=hp.1
   have hperm:d'.toList.Perm d.toList:=by
    have:=hp.2.2
    rw [← hd',Array.extract_size,hd',Array.extract_size] at this
    exact this
   have hmap:d.toList.map (fun p=>p.1.1)=xs:=by
    apply List.ext_getElem
    · simp [hd]
    · intro i h1 h2
      simp [d]
   have hys:d'.toList.map (fun p=>p.1.1)=res xs:=by
    refine huniq xs _ hpre (by have:=hperm.map (fun p:α=>p.1.1);rw [hmap] at this;exact this) ?_
    rw [List.pairwise_map,List.pairwise_iff_getElem]
    intro i j hi hj hij
    have hj':j<d.size:=by rw [← hd'];simpa using hj
    have:=hs i j (Nat.zero_le _) hij hj'
    rw [getElem!_pos d' j (by omega),getElem!_pos d' i (by omega)] at this
    simp only [ltOf,decide_eq_false_iff_not] at this
    simpa using this
   have hylen:(d'.toList.map (fun p=>p.1.1)).length=xs.length:=by rw [List.length_map,Array.length_toList,hd',hd]
   refine fin _ hys { G with w:=sortWorld enc G.w blk off n d' os} ?_ (hst n d' os hd').le
   refine H.write (G':={ G with w:=sortWorld enc G.w blk off n d' os}) 0 _ (.row t (d'.toList.map fun p=>p.1.1)) hbv (by simp) rfl rfl (hst n d' os hd') ?_ (fun b i hf=>hf) (fun b hf=>hf)
   have hHK:HoldsK (fun x=>[enc x]) 1 G.w blk off d:=by
    unfold HoldsK
    rw [flat_one]
    intro j hj
    have hj':j<d.size:=by simpa using hj
    have:=hH j hj'
    rw [getElem!_pos d j hj'] at this
    rw [getElem!_pos _ j hj]
    simpa using this
   have hH':HoldsK (fun x=>[enc x]) 1 (sortWorld enc G.w blk off n d' os) blk off d':=by rw [hw];exact holdsK_sortWorldK_c (fun x=>[enc x]) 1 G.w blk off d d' n os hHK hblk hd'
   refine ⟨some ⟨blk,off,none⟩,cap,by rw [hylen],by rw [hylen];exact c1,c2,fun h=>(by cases h),fun a ha=>?_⟩
   cases ha
   refine ⟨fun _=>rfl,fun j hj=>?_,fun i x hix=>?_⟩
   · obtain ⟨⟨u,hu⟩,hfz⟩:=hfree j hj
     refine ⟨?_,by rw [hw];exact (sortW_frz blk (off+j) hblk).trans hfz⟩
     by_cases hjr:j<d'.size * 1
     · exact ⟨_,(hH' j (by rw [flat_size];exact hjr)).1⟩
     · exact ⟨u,by rw [hw];exact (sortW_cell blk (off+j) hblk (by omega)).trans hu⟩
   · have hi:i<d'.size:=by
      have:=(List.getElem?_eq_some_iff.1 hix).1
      simpa using this
     have hxi:x=d'[i].1.1:=by
      have:=(List.getElem?_eq_some_iff.1 hix).2
      rw [← this];simp
     refine ⟨[enc d'[i]],fun j u hu=>?_,?_⟩
     · have hj:j=0:=by
        have:=(List.getElem?_eq_some_iff.1 hu).1
        simp at this;exact this
       subst hj
       simp only [List.getElem?_cons_zero,Option.some.injEq] at hu
       subst hu
       have:=hH'.cell (i:=i) (c:=0) hi (by omega)
       rw [getElem!_pos d' i hi] at this
       rw [hts']
       exact this.1
     · rw [hxi]
       exact Rep.mono t (d'[i].2.2.1.to_one hag) (hst n d' os hd').le
end Go.Gv
