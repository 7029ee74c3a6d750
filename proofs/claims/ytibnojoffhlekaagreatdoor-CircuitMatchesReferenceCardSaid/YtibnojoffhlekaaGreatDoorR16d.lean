/- Chapter 16: the reference: Count and Poly. -/
import Derived.Test.YtibnojoffhlekaaGreatDoorR16c
set_option linter.all false
namespace Go.Gv
open Go Go.Proofs Go.Proofs.YtibnojoffhlekaaGreatDoor
set_option maxRecDepth 100000
set_option maxHeartbeats 4000000
section
variable {T:Type}
structure EvF (S:GE T) (Q:T→Prop) (gs:List Gate) (n k:Nat) (all:List T):Prop where
 le:k≤n+1
 ln:all.length=n+1
 run:runR S gs (n:Int)=runE S gs (reachF gs n k) all
 qs:∀ m,Q (all.getD m S.z)
theorem EvF.start {S:GE T} {Q:T→Prop} {gs:List Gate} {n:Nat} (hz:Q S.z):EvF S Q gs n 0 (List.replicate (n+1) S.z):=by
 refine ⟨Nat.zero_le _,List.length_replicate,?_,fun m=>?_⟩
 · rw [← reachF_zero];rfl
 · rw [List.getD_eq_getElem?_getD,List.getElem?_replicate]
   split<;>exact hz
theorem EvF.step {S:GE T} {Q:T→Prop} {gs:List Gate} {n k:Nat} {all:List T} (h:EvF S Q gs n k all) (hk:k≤n) (hr:Rch gs n k) {v:T} (e:S.G all ((List.getD gs k ((0,0,[],()):Gate)))=(v,0)) (q:Q v):EvF S Q gs n (k+1) (all.set k v):=by
 have hl:=h.ln
 have h1:=h.run
 rw [reachF_hit hk hr] at h1
 have h2:=run_next h1 (by rw [e])
 rw [e] at h2
 exact ⟨by omega,by rw [List.length_set];exact hl,h2,set_q (by omega) h.qs q⟩
theorem EvF.skip {S:GE T} {Q:T→Prop} {gs:List Gate} {n k:Nat} {all:List T} (h:EvF S Q gs n k all) (hk:k≤n) (hr:¬ Rch gs n k):EvF S Q gs n (k+1) all:=⟨by omega,h.ln,by rw [h.run,reachF_miss hk hr],h.qs⟩
theorem EvF.stop {S:GE T} {Q:T→Prop} {gs:List Gate} {n k:Nat} {all:List T} (h:EvF S Q gs n k all) (hg:GoodI gs (n:Int)) (hk:k≤n) (hr:Rch gs n k) (e:¬ (S.G all ((List.getD gs k ((0,0,[],()):Gate)))).2=0):evC S gs (n:Int)=(S.z,(S.G all ((List.getD gs k ((0,0,[],()):Gate)))).2):=by
 have h1:=h.run
 rw [reachF_hit hk hr] at h1
 exact ev_stop hg h1 e
theorem EvF.fin {S:GE T} {Q:T→Prop} {gs:List Gate} {n k:Nat} {all:List T} (h:EvF S Q gs n k all) (hg:GoodI gs (n:Int)) (hk:¬ (k:Int)≤(n:Int)):evC S gs (n:Int)=(all.getD n S.z,0):=by
 have h1:=h.run
 rw [reachF_end (by omega)] at h1
 exact ev_end hg h1
end
theorem reachB_at {gs:List Gate} {i:Int} {k:Nat} (hk:k<gs.length):(reachB gs i).getD k false=true↔Rch gs i.toNat k:=by
 have hl:k<(reachB gs i).length:=by unfold reachB;rw [List.length_map,List.length_range];exact hk
 rw [getD_ok false hl]
 simp [reachB,boolOf_true]
theorem reachB_len (gs:List Gate) (i:Int):(reachB gs i).length=gs.length:=by unfold reachB;rw [List.length_map,List.length_range]
def opN (gk x y:Int):Int:=if gk=3 then x+y else x * y
def initN (vs:List Int) (k v:Int):Int:=if k=2∧v<(vs.length:Int) then vs.getD v.toNat 0 else if k=1∨k=4 then 1 else 0
theorem add_cap:∀ (l:List Int) (a b:Int),(∀ y∈l,0≤y)→a=min b 1000000001→l.foldl (fun x y=>min (x+y) 1000000001) a=min (l.foldl (fun x y=>x+y) b) 1000000001
 |[],a,b,_,e=>e
 |y::l,a,b,h,e=>by
  have:=h y List.mem_cons_self
  rw [List.foldl_cons,List.foldl_cons]
  exact add_cap l _ _ (fun z hz=>h z (List.mem_cons_of_mem _ hz)) (by omega)
theorem add_mono:∀ (l:List Int) (b:Int),(∀ y∈l,0≤y)→b≤l.foldl (fun x y=>x+y) b
 |[],b,_=>Int.le_refl b
 |y::l,b,h=>by
  have:=h y List.mem_cons_self
  rw [List.foldl_cons]
  exact Int.le_trans (by omega) (add_mono l (b+y) fun z hz=>h z (List.mem_cons_of_mem _ hz))
theorem mul_zero_:∀ (l:List Int),l.foldl (fun x y=>x * y) 0=0
 |[]=>rfl
 |y::l=>by rw [List.foldl_cons,Int.zero_mul];exact mul_zero_ l
theorem cnt_end {vs all:List Int} {g:Gate} {j:Nat} {x:Int} (hq:∀ m,0≤all.getD m 0) (hk:¬ inner g.1→g.2.2.1=[]) (hx:x=((g.2.2.1.take j).map (atL 0 all)).foldl (opN g.1) (if g.1=4∧0∈g.2.2.1.map (atL 0 all) then 0 else initN vs g.1 g.2.1)) (hj:1000000000<x∨g.2.2.1.length≤j):(1000000000<x→(cntG vs all g).2=2)∧(¬ 1000000000<x→cntG vs all g=(x,0)):=by
 have hsp:g.2.2.1.map (atL 0 all)=(g.2.2.1.take j).map (atL 0 all)++(g.2.2.1.drop j).map (atL 0 all):=by rw [← List.map_append,List.take_append_drop]
 have hnn:∀ y∈g.2.2.1.map (atL 0 all),0≤y:=fun y hy=>by obtain ⟨c,_,rfl⟩:=List.mem_map.1 hy;exact hq _
 have hful:g.2.2.1.length≤j→g.2.2.1.take j=g.2.2.1:=fun h=>List.take_of_length_le h
 by_cases h3:g.1=3
 · rw [if_neg (fun h=>by have:=h.1;omega)] at hx
   have e0:initN vs g.1 g.2.1=0:=by unfold initN;rw [if_neg (by omega),if_neg (by omega)]
   have eo:opN g.1=fun x y=>x+y:=by funext x y;unfold opN;rw [if_pos h3]
   rw [e0,eo] at hx
   have hs:sumN (g.2.2.1.map (atL 0 all))=min ((g.2.2.1.map (atL 0 all)).foldl (fun x y=>x+y) 0) 1000000001:=add_cap _ _ _ hnn (by decide)
   have hm:=add_mono ((g.2.2.1.drop j).map (atL 0 all)) x (fun y hy=>hnn y (by rw [hsp];exact List.mem_append_right _ hy))
   have ht:(g.2.2.1.map (atL 0 all)).foldl (fun x y=>x+y) 0=((g.2.2.1.drop j).map (atL 0 all)).foldl (fun x y=>x+y) x:=by rw [hsp,List.foldl_append,← hx]
   refine ⟨fun h=>cnt3b h3 rfl ?_,fun h=>cnt3 h3 ?_ h⟩
   · rw [hs,ht];omega
   · have:=hful (hj.resolve_left h)
     rw [this] at hx
     rw [hs,← hx]
     omega
 · by_cases h4:g.1=4
   · have eo:opN g.1=fun x y=>x * y:=by funext x y;unfold opN;rw [if_neg h3]
     by_cases h0:0∈g.2.2.1.map (atL 0 all)
     · rw [if_pos ⟨h4,h0⟩,eo,mul_zero_] at hx
       rw [hx]
       exact ⟨fun h=>absurd h (by decide),fun _=>cnt4z h4 h0⟩
     · have e0:initN vs g.1 g.2.1=1:=by unfold initN;rw [if_neg (by omega),if_pos (.inr h4)]
       rw [if_neg fun h=>h0 h.2,e0,eo] at hx
       have hpos:∀ y∈g.2.2.1.map (atL 0 all),1≤y:=fun y hy=>by
        have:=hnn y hy
        have:y≠0:=fun e=>h0 (e ▸ hy)
        omega
       have hxp:x=prodN ((g.2.2.1.take j).map (atL 0 all)):=hx
       have h1:=prodN_pos _ _ rfl fun y hy=>hpos y (by rw [hsp];exact List.mem_append_left _ hy)
       have h2:=prodN_le ((g.2.2.1.drop j).map (atL 0 all)) ((g.2.2.1.take j).map (atL 0 all)) (fun y hy=>hpos y (by rw [hsp];exact List.mem_append_right _ hy)) (by omega)
       rw [← hsp,← hxp] at h2
       have hc:cntG vs all g=(prodN (g.2.2.1.map (atL 0 all)),if 1000000000<prodN (g.2.2.1.map (atL 0 all)) then 2 else 0):=by
        unfold cntG
        rw [if_neg (by omega),if_neg (by omega),if_neg (by omega),if_pos h4,if_neg h0]
       refine ⟨fun h=>?_,fun h=>?_⟩
       · rw [hc,if_pos (Int.lt_of_lt_of_le h h2)]
       · have:=hful (hj.resolve_left h)
         rw [this] at hxp
         rw [hc,← hxp,if_neg h]
   · have e9:=hk (by unfold inner;omega)
     rw [if_neg fun h=>h4 h.1,e9] at hx
     have hx:x=initN vs g.1 g.2.1:=by rw [hx];simp
     unfold initN at hx
     by_cases h2:g.1=2
     · by_cases hv:g.2.1<(vs.length:Int)
       · rw [if_pos ⟨h2,hv⟩] at hx
         rw [hx]
         exact ⟨fun h=>cnt2b h2 hv h,fun h=>cnt2 h2 hv h⟩
       · rw [if_neg fun h=>hv h.2,if_neg (by omega)] at hx
         rw [hx]
         exact ⟨fun h=>absurd h (by decide),fun _=>cnt2n h2 hv⟩
     · rw [if_neg fun h=>h2 h.1] at hx
       by_cases h1:g.1=1
       · rw [if_pos (.inl h1)] at hx
         rw [hx]
         exact ⟨fun h=>absurd h (by decide),fun _=>cnt1 h1⟩
       · rw [if_neg (by omega)] at hx
         rw [hx]
         exact ⟨fun h=>absurd h (by decide),fun _=>cnt5 h1 h2 h3 h4⟩
structure ZerJ (all l:List Int) (gk x0 idx x:Int) (j:Nat):Prop where
 ix:idx=(j:Int)
 le:j≤l.length
 eq:x=if gk=4∧0∈(l.take j).map (atL 0 all) then 0 else x0
theorem ZerJ.start {all l:List Int} {gk x0:Int}:ZerJ all l gk x0 0 x0 0:=⟨rfl,Nat.zero_le _,(if_neg fun h=>by have:=h.2;simp at this).symm⟩
theorem zer_mem {all l:List Int} {j:Nat} (h:j<l.length):0∈(l.take (j+1)).map (atL 0 all)↔0∈(l.take j).map (atL 0 all)∨all.getD (l.getD j 0).toNat 0=0:=by
 rw [take_snoc h,List.mem_append,List.mem_singleton]
 exact ⟨fun h=>h.imp id Eq.symm,fun h=>h.imp id Eq.symm⟩
theorem ZerJ.hit {all l:List Int} {gk x0 x:Int} {j:Nat} (h:ZerJ all l gk x0 (j:Int) x j) (hj:(j:Int)<(l.length:Int)) (q:gk=4∧all.getD (l.getD j 0).toNat 0=0):ZerJ all l gk x0 ((j:Int)+1) 0 (j+1):=⟨rfl,Int.ofNat_lt.1 hj,(if_pos ⟨q.1,(zer_mem (Int.ofNat_lt.1 hj)).2 (.inr q.2)⟩).symm⟩
theorem ZerJ.miss {all l:List Int} {gk x0 x:Int} {j:Nat} (h:ZerJ all l gk x0 (j:Int) x j) (hj:(j:Int)<(l.length:Int)) (q:¬ (gk=4∧all.getD (l.getD j 0).toNat 0=0)):ZerJ all l gk x0 ((j:Int)+1) x (j+1):=⟨rfl,Int.ofNat_lt.1 hj,by
 rw [h.eq]
 have e:(gk=4∧0∈(l.take (j+1)).map (atL 0 all))↔(gk=4∧0∈(l.take j).map (atL 0 all)):=and_congr_right fun h4=>by
  rw [zer_mem (Int.ofNat_lt.1 hj)]
  exact ⟨fun h=>h.resolve_right fun z=>q ⟨h4,z⟩, .inl⟩
 by_cases c:gk=4∧0∈(l.take j).map (atL 0 all)
 · rw [if_pos c,if_pos (e.2 c)]
 · rw [if_neg c,if_neg fun z=>c (e.1 z)]⟩
theorem ZerJ.fin {all l:List Int} {gk x0 x:Int} {j:Nat} (h:ZerJ all l gk x0 (j:Int) x j) (hj:¬ (j:Int)<(l.length:Int)):x=if gk=4∧0∈l.map (atL 0 all) then 0 else x0:=by
 have:=h.eq
 rw [take_all hj] at this
 exact this
structure NumJ (all l:List Int) (gk x1 idx x:Int) (j:Nat):Prop where
 ix:idx=(j:Int)
 le:j≤l.length
 eq:x=((l.take j).map (atL 0 all)).foldl (opN gk) x1
 nn:0≤x
theorem NumJ.start {all l:List Int} {gk x1:Int} (h:0≤x1):NumJ all l gk x1 0 x1 0:=⟨rfl,Nat.zero_le _,rfl,h⟩
theorem NumJ.step {all l:List Int} {gk x1 x:Int} {j:Nat} (h:NumJ all l gk x1 (j:Int) x j) (hj:(j:Int)<(l.length:Int)) (hq:0≤all.getD (l.getD j 0).toNat 0) {x':Int} (e:x'=opN gk x (all.getD (l.getD j 0).toNat 0)):NumJ all l gk x1 ((j:Int)+1) x' (j+1):=⟨rfl,Int.ofNat_lt.1 hj,by rw [take_snoc (Int.ofNat_lt.1 hj),List.foldl_append,← h.eq,e];rfl,by
 rw [e]
 unfold opN
 have:=h.nn
 split
 · omega
 · exact Int.mul_nonneg this hq⟩
theorem numA {gk x y:Int} (h:gk=3):x+y=opN gk x y:=(if_pos h).symm
theorem numB {gk x y:Int} (h:¬ gk=3):x * y=opN gk x y:=(if_neg h).symm
theorem mulB {x y:Int} (h1:0≤x) (h2:x≤1000000000) (h3:0≤y) (h4:y≤1000000000):0≤x * y∧x * y≤1000000000000000000:=⟨Int.mul_nonneg h1 h3,Int.le_trans (Int.mul_le_mul h2 h4 h3 (by omega)) (by omega)⟩
def okN (gs:List Gate) (i:Int) (vs:List Int) (v:Nat):Prop:=GoodI gs i∧∀ x∈vs.take v,0≤x
theorem okN_step {gs:List Gate} {i:Int} {vs:List Int} {v:Nat} (h:(v:Int)<(vs.length:Int)):boolOf (okN gs i vs (v+1))=boolOf (boolOf (okN gs i vs v)=true∧0≤vs.getD v 0):=by
 refine congrArg boolOf (propext ?_)
 rw [boolOf_true]
 unfold okN
 rw [List.take_succ_eq_append_getElem (Int.ofNat_lt.1 h),getD_ok 0 (Int.ofNat_lt.1 h)]
 constructor
 · exact fun a=>⟨⟨a.1,fun x hx=>a.2 x (List.mem_append_left _ hx)⟩,a.2 _ (List.mem_append_right _ (List.mem_singleton.2 rfl))⟩
 · rintro ⟨⟨a,b⟩,c⟩
   refine ⟨a,fun x hx=>?_⟩
   rcases List.mem_append.1 hx with hx|hx
   · exact b x hx
   · rw [List.mem_singleton.1 hx];exact c
theorem okN_fin {gs:List Gate} {i:Int} {vs:List Int} {v:Nat} (h:¬ (v:Int)<(vs.length:Int)):okN gs i vs v↔GoodI gs i∧¬ (vs.any fun k=>decide (k<0))=true:=by
 unfold okN
 rw [take_all h,List.any_eq_true]
 refine and_congr_right fun _=>⟨fun a ⟨x,h1,h2⟩=>?_,fun a x hx=>Int.not_lt.1 fun q=>a ⟨x,hx,decide_eq_true q⟩⟩
 have:=a x h1
 have:=of_decide_eq_true h2
 omega
theorem cntV_no {gs:List Gate} {i:Int} {vs:List Int} (h:¬ (GoodI gs i∧¬ (vs.any fun k=>decide (k<0))=true)):cntV gs i vs=(0,1):=by
 unfold cntV
 by_cases e:(vs.any fun k=>decide (k<0))=true
 · exact if_pos e
 · rw [if_neg e]
   exact evC_bad (S:=geN vs) fun g=>h ⟨g,e⟩
@[reducible] noncomputable def S_z96:Spec:={ ins:=(.cons (.d tCirc) (.cons (.d tInt) (.cons (.d (.sl tInt)) .nil))),pre:=(fun x=>(fun c i vs=>SmallG c.1) x.1 x.2.1 x.2.2.1),alts:=[{ outs:=(.cons (.d tInt) (.cons (.d tInt) .nil)),res:=(fun x=>(fun c i vs=>((cntV c.1 i vs).1,(cntV c.1 i vs).2,())) x.1 x.2.1 x.2.2.1)}]}
noncomputable def c_z96:Cf:=(cf_z96 (Fl [(fi_z106,S_z106),(fi_z102,S_z102)]))
theorem g_z96:∀ x,S_z96.pre x→shOK S_z96.ins x→fnGoal c_z96 fn_z96 S_z96 x:=by
 rintro ⟨⟨gs,⟨⟩⟩,(i:Int),(vs:List Int),⟨⟩⟩ hpre hok
 try dsimp only [Dat,SDat,dflt,Ty.size,keepS,bkUpd,Gv.bk,backS,wayA,maxI,minI,negI] at hpre
 have hln:=shLn_of _ hok;replace hok:=Hd.mk hok;try simp only [shLn,datLn,inRng,lo,hi,maxLen,true_and,and_true] at hln
 have hsm:SmallG gs:=hpre
 first|refine fn_goal (w_head ?_)
 intro Kz kz;(conv=>whnf);(try dsimp+instances only);refine kz _ ?_;clear kz Kz;(conv=>(arg 2;whnf))
 repeat' (first|refine an ?_ ?_|((try refine gm ?_);first|((with_reducible show Kz _);(try dsimp+instances only);(with_reducible refine kz _ ?_);clear kz Kz)|refine st ?_|(refine sr ?_;intro Kz kz;conv=>whnf)|(refine cd ?_;(conv=>arg 2;whnf);refine st ?_)|refine blockK_y (by rfl) ?_|(refine sw ?_;conv=>whnf))|(refine gm ?_;conv=>whnf)|(intro hc;(try dsimp+instances only[Dat,SDat,dflt,Ty.size,keepS,bkUpd,Gv.bk,backS,wayA,maxI,minI,negI]at hc);try simp only[LS]at hc))
 all_goals (try ((fail_if_success refine nl ?_);(try dsimp only[Dat,SDat,dflt,Ty.size,keepS,bkUpd,Gv.bk,backS,wayA,maxI,minI,negI]);(try simp only[LS]);first|done|exact dsc|((try simp only[allP,lo,hi,room,true_and,and_true,implies_true]);(repeat' (first|refine an ?_ ?_|((with_reducible refine preA_t ?_ ?_);rotate_left;exact sameP_t)|intro hv))<;>(try omega))))
 all_goals (try ((fail_if_success refine nl ?_);(exact (by assumption:SmallG gs))))
 all_goals (try ((fail_if_success refine nl ?_);(exact hsm _ (by assumption))))
 refine w_loop [(8, .d .bool),(9, .d tInt)] [] (fun y=>∃ v:Nat,y.1.2.1=(v:Int)∧v≤vs.length∧y.1.1=boolOf (okN gs i vs v)) (fun y=>vs.length - y.1.2.1.toNat) ?_
 conv=>whnf
 refine And.intro ?_ ?_
 · exact ⟨0,rfl,Nat.zero_le _,congrArg boolOf (propext ⟨fun h=>⟨h,fun x hx=>by simp at hx⟩,fun h=>h.1⟩)⟩
 rintro ⟨⟨(ok:Bool),_,⟨⟩⟩,⟨⟩⟩ ⟨v,rfl,hv,hok⟩
 have hok:ok=boolOf (okN gs i vs v):=hok
 have hst:=fun (h:(v:Int)<(vs.length:Int))=>show ∃ v':Nat,(v:Int)+1=(v':Int)∧v'≤vs.length∧boolOf (ok=true∧0≤vs.getD v 0)=boolOf (okN gs i vs v') from ⟨v+1,rfl,by omega,by rw [hok,okN_step h]⟩
 have hgood:=fun (h:¬ (v:Int)<(vs.length:Int)) (q:¬ ok=false)=>(okN_fin h).1 (boolOf_true.1 (hok.symm.trans (Bool.not_eq_false _|>.mp q)))
 have hbad:=fun (h:¬ (v:Int)<(vs.length:Int)) (q:ok=false)=>cntV_no (gs:=gs) (i:=i) (vs:=vs) fun a=>by
  have:=boolOf_true.2 ((okN_fin h).2 a)
  rw [← hok,q] at this
  cases this
 repeat' (first|refine an ?_ ?_|((try refine gm ?_);first|((with_reducible show Kz _);(try dsimp+instances only);(with_reducible refine kz _ ?_);clear kz Kz)|refine st ?_|(refine sr ?_;intro Kz kz;conv=>whnf)|(refine cd ?_;(conv=>arg 2;whnf);refine st ?_)|refine blockK_y (by rfl) ?_|(refine sw ?_;conv=>whnf))|(refine gm ?_;conv=>whnf)|(intro hc;(try dsimp+instances only[Dat,SDat,dflt,Ty.size,keepS,bkUpd,Gv.bk,backS,wayA,maxI,minI,negI]at hc);try simp only[LS]at hc))
 all_goals (try ((fail_if_success refine nl ?_);(try dsimp only[Dat,SDat,dflt,Ty.size,keepS,bkUpd,Gv.bk,backS,wayA,maxI,minI,negI]);(try simp only[LS]);first|done|exact dsc|((try simp only[allP,lo,hi,room,true_and,and_true,implies_true]);(repeat' (first|refine an ?_ ?_|((with_reducible refine preA_t ?_ ?_);rotate_left;exact sameP_t)|intro hv))<;>(try omega))))
 all_goals (try ((fail_if_success refine nl ?_);(first|exact hst (by assumption)|exact (congrArg Prod.fst (hbad (by assumption) hc)).symm|exact (congrArg Prod.snd (hbad (by assumption) hc)).symm|exact (hgood (by assumption) (by assumption)).1|exact hsm _ (by assumption))))
 all_goals (try ((fail_if_success refine nl ?_);(have h1:=(hgood (by assumption) (by assumption)).1.lo;have h2:=(hgood (by assumption) (by assumption)).1.hi;have h3:=(hgood (by assumption) (by assumption)).1.v.1;omega)))
 obtain ⟨hg,hng⟩:=hgood (by assumption) (by assumption)
 clear hst hgood hbad
 have hnn:=neg_no hng
 obtain ⟨n,rfl⟩:∃ n:Nat,i=(n:Int):=⟨i.toNat,(Int.toNat_of_nonneg hg.lo).symm⟩
 have hn:n<gs.length:=by have:=hg.hi;omega
 have hV:=hg.v
 have hmx:=hV.1
 have hcv:cntV gs (n:Int) vs=evC (geN vs) gs (n:Int):=if_neg hng
 have hrl:=reachB_len gs (n:Int)
 refine w_loop [(11, .row tInt),(12, .d tInt)] [] (fun y=>∃ k:Nat,y.1.2.1=(k:Int)∧EvF (geN vs) rgN gs n k y.1.1) (fun y=>n+1 - y.1.2.1.toNat) ?_
 conv=>whnf
 refine And.intro ?_ ?_
 · exact ⟨0,rfl,EvF.start rgN_z⟩
 rintro ⟨⟨all,_,⟨⟩⟩,⟨⟩⟩ ⟨k,rfl,hA⟩
 have hA:EvF (geN vs) rgN gs n k (all:List Int):=hA
 have hle:=hA.le
 have hln:List.length (all:List Int)=n+1:=hA.ln
 have hkl:(k:Int)≤(n:Int)→k<gs.length:=fun h=>by omega
 have hkv:=fun (h:(k:Int)≤(n:Int))=>leaf_val hV (hkl h)
 have hks:=fun (h:(k:Int)≤(n:Int))=>hsm _ (getD_mem (d:=((0,0,[],()):Gate)) (hkl h))
 have hsk:=fun (h:(k:Int)≤(n:Int)) (q:(reachB gs (n:Int)).getD k false=false)=>show ∃ k':Nat,(k:Int)+1=(k':Int)∧EvF (geN vs) rgN gs n k' all from ⟨k+1,rfl,hA.skip (Int.ofNat_le.1 h) fun r=>by
  have:=(reachB_at (i:=(n:Int)) (hkl h)).2 r
  rw [q] at this
  cases this⟩
 repeat' (first|refine an ?_ ?_|((try refine gm ?_);first|((with_reducible show Kz _);(try dsimp+instances only);(with_reducible refine kz _ ?_);clear kz Kz)|refine st ?_|(refine sr ?_;intro Kz kz;conv=>whnf)|(refine cd ?_;(conv=>arg 2;whnf);refine st ?_)|refine blockK_y (by rfl) ?_|(refine sw ?_;conv=>whnf))|(refine gm ?_;conv=>whnf)|(intro hc;(try dsimp+instances only[Dat,SDat,dflt,Ty.size,keepS,bkUpd,Gv.bk,backS,wayA,maxI,minI,negI]at hc);try simp only[LS]at hc))
 all_goals (try ((fail_if_success refine nl ?_);(try dsimp only[Dat,SDat,dflt,Ty.size,keepS,bkUpd,Gv.bk,backS,wayA,maxI,minI,negI]);(try simp only[LS]);first|done|exact dsc|((try simp only[allP,lo,hi,room,true_and,and_true,implies_true]);(repeat' (first|refine an ?_ ?_|((with_reducible refine preA_t ?_ ?_);rotate_left;exact sameP_t)|intro hv))<;>(try omega))))
 all_goals (try ((fail_if_success refine nl ?_);(first|exact hsk (by assumption) hc|exact ((congrArg Prod.fst hcv).trans (congrArg Prod.fst (hA.fin hg hc))).symm|exact ((congrArg Prod.snd hcv).trans (congrArg Prod.snd (hA.fin hg hc))).symm)))
 all_goals (have hkn:k≤n:=Int.ofNat_le.1 (by assumption))
 all_goals (have hk9:=hkl (by assumption))
 all_goals (have hrc:Rch gs n k:=(reachB_at (i:=(n:Int)) hk9).1 (Bool.not_eq_false _|>.mp (by assumption)))
 all_goals (have hkr9:k<List.length (all:List Int):=Nat.lt_of_lt_of_eq (Nat.lt_succ_of_le hkn) hln.symm)
 all_goals (have hkid:=fun (j:Nat) (h:(j:Int)<(((List.getD gs k ((0,0,[],()):Gate))).2.2.1.length:Int))=>kid_j hV hk9 hkr9 h)
 all_goals (have hks9:=hks (by assumption))
 · exfalso
   omega
 · have he0:(1:Int)=initN vs ((List.getD gs k ((0,0,[],()):Gate))).1 ((List.getD gs k ((0,0,[],()):Gate))).2.1:=((if_neg hc).trans (if_pos (by assumption))).symm
   have hin0:(0:Int)≤1:=by decide
   refine w_loop [(14, .d tInt),(15, .d tInt)] [] (fun y=>∃ j:Nat,ZerJ all ((List.getD gs k ((0,0,[],()):Gate))).2.2.1 ((List.getD gs k ((0,0,[],()):Gate))).1 (1:Int) y.1.2.1 y.1.1 j) (fun y=>((List.getD gs k ((0,0,[],()):Gate))).2.2.1.length - y.1.2.1.toNat) ?_
   conv=>whnf
   refine And.intro ?_ ?_
   · exact ⟨0,ZerJ.start⟩
   rintro ⟨⟨(x:Int),(idx:Int),⟨⟩⟩,⟨⟩⟩ ⟨j,hJ⟩
   have hJ:ZerJ all ((List.getD gs k ((0,0,[],()):Gate))).2.2.1 ((List.getD gs k ((0,0,[],()):Gate))).1 (1:Int) idx x j:=hJ
   have hi9:=hJ.ix
   subst hi9
   have hle9:=hJ.le
   have hkj:=hkid j
   have hz1:=fun (h:(j:Int)<(((List.getD gs k ((0,0,[],()):Gate))).2.2.1.length:Int)) (q:((List.getD gs k ((0,0,[],()):Gate))).1=4∧List.getD (all:List Int) (((List.getD gs k ((0,0,[],()):Gate))).2.2.1.getD j 0).toNat 0=0)=>show ∃ j':Nat,ZerJ all ((List.getD gs k ((0,0,[],()):Gate))).2.2.1 ((List.getD gs k ((0,0,[],()):Gate))).1 (1:Int) ((j:Int)+1) 0 j' from ⟨j+1,hJ.hit h q⟩
   have hz2:=fun (h:(j:Int)<(((List.getD gs k ((0,0,[],()):Gate))).2.2.1.length:Int)) (q:¬ (((List.getD gs k ((0,0,[],()):Gate))).1=4∧List.getD (all:List Int) (((List.getD gs k ((0,0,[],()):Gate))).2.2.1.getD j 0).toNat 0=0))=>show ∃ j':Nat,ZerJ all ((List.getD gs k ((0,0,[],()):Gate))).2.2.1 ((List.getD gs k ((0,0,[],()):Gate))).1 (1:Int) ((j:Int)+1) x j' from ⟨j+1,hJ.miss h q⟩
   repeat' (first|refine an ?_ ?_|((try refine gm ?_);first|((with_reducible show Kz _);(try dsimp+instances only);(with_reducible refine kz _ ?_);clear kz Kz)|refine st ?_|(refine sr ?_;intro Kz kz;conv=>whnf)|(refine cd ?_;(conv=>arg 2;whnf);refine st ?_)|refine blockK_y (by rfl) ?_|(refine sw ?_;conv=>whnf))|(refine gm ?_;conv=>whnf)|(intro hc;(try dsimp+instances only[Dat,SDat,dflt,Ty.size,keepS,bkUpd,Gv.bk,backS,wayA,maxI,minI,negI]at hc);try simp only[LS]at hc))
   all_goals (try ((fail_if_success refine nl ?_);(try dsimp only[Dat,SDat,dflt,Ty.size,keepS,bkUpd,Gv.bk,backS,wayA,maxI,minI,negI]);(try simp only[LS]);first|done|exact dsc|((try simp only[allP,lo,hi,room,true_and,and_true,implies_true]);(repeat' (first|refine an ?_ ?_|((with_reducible refine preA_t ?_ ?_);rotate_left;exact sameP_t)|intro hv))<;>(try omega))))
   all_goals (try ((fail_if_success refine nl ?_);(first|exact hz1 (by assumption) hc|exact hz2 (by assumption) hc)))
   have hx1:=hJ.fin (by assumption)
   have hx0:0≤x:=by
    rw [hx1]
    split
    · exact Int.le_refl 0
    · exact hin0
   have hx1:x=if ((List.getD gs k ((0,0,[],()):Gate))).1=4∧0∈((List.getD gs k ((0,0,[],()):Gate))).2.2.1.map (atL 0 all) then 0 else initN vs ((List.getD gs k ((0,0,[],()):Gate))).1 ((List.getD gs k ((0,0,[],()):Gate))).2.1:=hx1.trans (congrArg (fun w=>if ((List.getD gs k ((0,0,[],()):Gate))).1=4∧0∈((List.getD gs k ((0,0,[],()):Gate))).2.2.1.map (atL 0 (all:List Int)) then 0 else w) he0)
   clear hz1 hz2
   refine w_loop [(14, .d tInt),(16, .d tInt)] [] (fun y=>∃ j:Nat,NumJ all ((List.getD gs k ((0,0,[],()):Gate))).2.2.1 ((List.getD gs k ((0,0,[],()):Gate))).1 x y.1.2.1 y.1.1 j) (fun y=>((List.getD gs k ((0,0,[],()):Gate))).2.2.1.length - y.1.2.1.toNat) ?_
   conv=>whnf
   refine And.intro ?_ ?_
   · exact ⟨0,NumJ.start hx0⟩
   rintro ⟨⟨(z:Int),(idx:Int),⟨⟩⟩,⟨⟩⟩ ⟨j,hN⟩
   have hN:NumJ all ((List.getD gs k ((0,0,[],()):Gate))).2.2.1 ((List.getD gs k ((0,0,[],()):Gate))).1 x idx z j:=hN
   have hi9:=hN.ix
   subst hi9
   have hle8:=hN.le
   have hkj:=hkid j
   have hy9:=hA.qs (((List.getD gs k ((0,0,[],()):Gate))).2.2.1.getD j 0).toNat
   have hy1:0≤List.getD (all:List Int) (((List.getD gs k ((0,0,[],()):Gate))).2.2.1.getD j 0).toNat 0:=hy9.1
   have hy2:List.getD (all:List Int) (((List.getD gs k ((0,0,[],()):Gate))).2.2.1.getD j 0).toNat 0≤1000000000:=hy9.2
   have hz0:=hN.nn
   have hs1: -9223372036854775808≤z+List.getD (all:List Int) (((List.getD gs k ((0,0,[],()):Gate))).2.2.1.getD j 0).toNat 0:=Int.le_trans (by decide) (Int.add_nonneg hz0 hy1)
   have hs2:=fun (h:z≤1000000000)=>show z+List.getD (all:List Int) (((List.getD gs k ((0,0,[],()):Gate))).2.2.1.getD j 0).toNat 0≤9223372036854775807 from Int.le_trans (Int.add_le_add h hy2) (by decide)
   have hs3: -9223372036854775808≤z * List.getD (all:List Int) (((List.getD gs k ((0,0,[],()):Gate))).2.2.1.getD j 0).toNat 0:=Int.le_trans (by decide) (Int.mul_nonneg hz0 hy1)
   have hs4:=fun (h:z≤1000000000)=>show z * List.getD (all:List Int) (((List.getD gs k ((0,0,[],()):Gate))).2.2.1.getD j 0).toNat 0≤9223372036854775807 from Int.le_trans (mulB hz0 h hy1 hy2).2 (by decide)
   have hon:=fun (h:(j:Int)<(((List.getD gs k ((0,0,[],()):Gate))).2.2.1.length:Int)) (x':Int) (e:x'=opN ((List.getD gs k ((0,0,[],()):Gate))).1 z (List.getD (all:List Int) (((List.getD gs k ((0,0,[],()):Gate))).2.2.1.getD j 0).toNat 0))=>show ∃ j':Nat,NumJ all ((List.getD gs k ((0,0,[],()):Gate))).2.2.1 ((List.getD gs k ((0,0,[],()):Gate))).1 x ((j:Int)+1) x' j' from ⟨j+1,hN.step h hy1 e⟩
   have hend:=fun (h:¬ ((j:Int)<(((List.getD gs k ((0,0,[],()):Gate))).2.2.1.length:Int)∧z≤1000000000))=>cnt_end (vs:=vs) (all:=(all:List Int)) (g:=(List.getD gs k ((0,0,[],()):Gate))) (j:=j) (x:=z) (fun m=>(hA.qs m).1) (fun h=>kids_nil hV hk9 h) (by rw [← hx1];exact hN.eq) (by omega)
   have hfin:=fun (h:¬ ((j:Int)<(((List.getD gs k ((0,0,[],()):Gate))).2.2.1.length:Int)∧z≤1000000000)) (q:¬ 1000000000<z)=>show ∃ k':Nat,(k:Int)+1=(k':Int)∧EvF (geN vs) rgN gs n k' (List.set all k z) from ⟨k+1,rfl,hA.step hkn hrc ((hend h).2 q) ⟨hz0,Int.not_lt.1 q⟩⟩
   have hbig:=fun (h:¬ ((j:Int)<(((List.getD gs k ((0,0,[],()):Gate))).2.2.1.length:Int)∧z≤1000000000)) (q:1000000000<z)=>show cntV gs (n:Int) vs=(0,2) from by
    have e2:=(hend h).1 q
    rw [hcv,hA.stop hg hkn hrc (by show ¬ (cntG vs all ((List.getD gs k ((0,0,[],()):Gate)))).2=0;rw [e2];decide)]
    exact Prod.ext rfl e2
   repeat' (first|refine an ?_ ?_|((try refine gm ?_);first|((with_reducible show Kz _);(try dsimp+instances only);(with_reducible refine kz _ ?_);clear kz Kz)|refine st ?_|(refine sr ?_;intro Kz kz;conv=>whnf)|(refine cd ?_;(conv=>arg 2;whnf);refine st ?_)|refine blockK_y (by rfl) ?_|(refine sw ?_;conv=>whnf))|(refine gm ?_;conv=>whnf)|(intro hc;(try dsimp+instances only[Dat,SDat,dflt,Ty.size,keepS,bkUpd,Gv.bk,backS,wayA,maxI,minI,negI]at hc);try simp only[LS]at hc))
   all_goals (try ((fail_if_success refine nl ?_);(try dsimp only[Dat,SDat,dflt,Ty.size,keepS,bkUpd,Gv.bk,backS,wayA,maxI,minI,negI]);(try simp only[LS]);first|done|exact dsc|((try simp only[allP,lo,hi,room,true_and,and_true,implies_true]);(repeat' (first|refine an ?_ ?_|((with_reducible refine preA_t ?_ ?_);rotate_left;exact sameP_t)|intro hv))<;>(try omega))))
   all_goals (try ((fail_if_success refine nl ?_);(first|with_reducible exact hs1|with_reducible exact hs2 (And.right (by assumption))|with_reducible exact hs3|with_reducible exact hs4 (And.right (by assumption))|exact hfin (by assumption) hc|exact (congrArg Prod.fst (hbig (by assumption) hc)).symm|exact (congrArg Prod.snd (hbig (by assumption) hc)).symm|exact hon (And.left (by assumption)) _ (numA hc)|exact hon (And.left (by assumption)) _ (numB hc)|with_reducible exact (hkj (And.left (by assumption))).1|with_reducible exact (hkj (And.left (by assumption))).2.1|with_reducible exact (hkj (And.left (by assumption))).2.2)))
 · have he0:List.getD vs ((List.getD gs k ((0,0,[],()):Gate))).2.1.toNat 0=initN vs ((List.getD gs k ((0,0,[],()):Gate))).1 ((List.getD gs k ((0,0,[],()):Gate))).2.1:=(if_pos hc).symm
   have hin0:=hnn ((List.getD gs k ((0,0,[],()):Gate))).2.1.toNat
   refine w_loop [(14, .d tInt),(15, .d tInt)] [] (fun y=>∃ j:Nat,ZerJ all ((List.getD gs k ((0,0,[],()):Gate))).2.2.1 ((List.getD gs k ((0,0,[],()):Gate))).1 (List.getD vs ((List.getD gs k ((0,0,[],()):Gate))).2.1.toNat 0) y.1.2.1 y.1.1 j) (fun y=>((List.getD gs k ((0,0,[],()):Gate))).2.2.1.length - y.1.2.1.toNat) ?_
   conv=>whnf
   refine And.intro ?_ ?_
   · exact ⟨0,ZerJ.start⟩
   rintro ⟨⟨(x:Int),(idx:Int),⟨⟩⟩,⟨⟩⟩ ⟨j,hJ⟩
   have hJ:ZerJ all ((List.getD gs k ((0,0,[],()):Gate))).2.2.1 ((List.getD gs k ((0,0,[],()):Gate))).1 (List.getD vs ((List.getD gs k ((0,0,[],()):Gate))).2.1.toNat 0) idx x j:=hJ
   have hi9:=hJ.ix
   subst hi9
   have hle9:=hJ.le
   have hkj:=hkid j
   have hz1:=fun (h:(j:Int)<(((List.getD gs k ((0,0,[],()):Gate))).2.2.1.length:Int)) (q:((List.getD gs k ((0,0,[],()):Gate))).1=4∧List.getD (all:List Int) (((List.getD gs k ((0,0,[],()):Gate))).2.2.1.getD j 0).toNat 0=0)=>show ∃ j':Nat,ZerJ all ((List.getD gs k ((0,0,[],()):Gate))).2.2.1 ((List.getD gs k ((0,0,[],()):Gate))).1 (List.getD vs ((List.getD gs k ((0,0,[],()):Gate))).2.1.toNat 0) ((j:Int)+1) 0 j' from ⟨j+1,hJ.hit h q⟩
   have hz2:=fun (h:(j:Int)<(((List.getD gs k ((0,0,[],()):Gate))).2.2.1.length:Int)) (q:¬ (((List.getD gs k ((0,0,[],()):Gate))).1=4∧List.getD (all:List Int) (((List.getD gs k ((0,0,[],()):Gate))).2.2.1.getD j 0).toNat 0=0))=>show ∃ j':Nat,ZerJ all ((List.getD gs k ((0,0,[],()):Gate))).2.2.1 ((List.getD gs k ((0,0,[],()):Gate))).1 (List.getD vs ((List.getD gs k ((0,0,[],()):Gate))).2.1.toNat 0) ((j:Int)+1) x j' from ⟨j+1,hJ.miss h q⟩
   repeat' (first|refine an ?_ ?_|((try refine gm ?_);first|((with_reducible show Kz _);(try dsimp+instances only);(with_reducible refine kz _ ?_);clear kz Kz)|refine st ?_|(refine sr ?_;intro Kz kz;conv=>whnf)|(refine cd ?_;(conv=>arg 2;whnf);refine st ?_)|refine blockK_y (by rfl) ?_|(refine sw ?_;conv=>whnf))|(refine gm ?_;conv=>whnf)|(intro hc;(try dsimp+instances only[Dat,SDat,dflt,Ty.size,keepS,bkUpd,Gv.bk,backS,wayA,maxI,minI,negI]at hc);try simp only[LS]at hc))
   all_goals (try ((fail_if_success refine nl ?_);(try dsimp only[Dat,SDat,dflt,Ty.size,keepS,bkUpd,Gv.bk,backS,wayA,maxI,minI,negI]);(try simp only[LS]);first|done|exact dsc|((try simp only[allP,lo,hi,room,true_and,and_true,implies_true]);(repeat' (first|refine an ?_ ?_|((with_reducible refine preA_t ?_ ?_);rotate_left;exact sameP_t)|intro hv))<;>(try omega))))
   all_goals (try ((fail_if_success refine nl ?_);(first|exact hz1 (by assumption) hc|exact hz2 (by assumption) hc)))
   have hx1:=hJ.fin (by assumption)
   have hx0:0≤x:=by
    rw [hx1]
    split
    · exact Int.le_refl 0
    · exact hin0
   have hx1:x=if ((List.getD gs k ((0,0,[],()):Gate))).1=4∧0∈((List.getD gs k ((0,0,[],()):Gate))).2.2.1.map (atL 0 all) then 0 else initN vs ((List.getD gs k ((0,0,[],()):Gate))).1 ((List.getD gs k ((0,0,[],()):Gate))).2.1:=hx1.trans (congrArg (fun w=>if ((List.getD gs k ((0,0,[],()):Gate))).1=4∧0∈((List.getD gs k ((0,0,[],()):Gate))).2.2.1.map (atL 0 (all:List Int)) then 0 else w) he0)
   clear hz1 hz2
   refine w_loop [(14, .d tInt),(16, .d tInt)] [] (fun y=>∃ j:Nat,NumJ all ((List.getD gs k ((0,0,[],()):Gate))).2.2.1 ((List.getD gs k ((0,0,[],()):Gate))).1 x y.1.2.1 y.1.1 j) (fun y=>((List.getD gs k ((0,0,[],()):Gate))).2.2.1.length - y.1.2.1.toNat) ?_
   conv=>whnf
   refine And.intro ?_ ?_
   · exact ⟨0,NumJ.start hx0⟩
   rintro ⟨⟨(z:Int),(idx:Int),⟨⟩⟩,⟨⟩⟩ ⟨j,hN⟩
   have hN:NumJ all ((List.getD gs k ((0,0,[],()):Gate))).2.2.1 ((List.getD gs k ((0,0,[],()):Gate))).1 x idx z j:=hN
   have hi9:=hN.ix
   subst hi9
   have hle8:=hN.le
   have hkj:=hkid j
   have hy9:=hA.qs (((List.getD gs k ((0,0,[],()):Gate))).2.2.1.getD j 0).toNat
   have hy1:0≤List.getD (all:List Int) (((List.getD gs k ((0,0,[],()):Gate))).2.2.1.getD j 0).toNat 0:=hy9.1
   have hy2:List.getD (all:List Int) (((List.getD gs k ((0,0,[],()):Gate))).2.2.1.getD j 0).toNat 0≤1000000000:=hy9.2
   have hz0:=hN.nn
   have hs1: -9223372036854775808≤z+List.getD (all:List Int) (((List.getD gs k ((0,0,[],()):Gate))).2.2.1.getD j 0).toNat 0:=Int.le_trans (by decide) (Int.add_nonneg hz0 hy1)
   have hs2:=fun (h:z≤1000000000)=>show z+List.getD (all:List Int) (((List.getD gs k ((0,0,[],()):Gate))).2.2.1.getD j 0).toNat 0≤9223372036854775807 from Int.le_trans (Int.add_le_add h hy2) (by decide)
   have hs3: -9223372036854775808≤z * List.getD (all:List Int) (((List.getD gs k ((0,0,[],()):Gate))).2.2.1.getD j 0).toNat 0:=Int.le_trans (by decide) (Int.mul_nonneg hz0 hy1)
   have hs4:=fun (h:z≤1000000000)=>show z * List.getD (all:List Int) (((List.getD gs k ((0,0,[],()):Gate))).2.2.1.getD j 0).toNat 0≤9223372036854775807 from Int.le_trans (mulB hz0 h hy1 hy2).2 (by decide)
   have hon:=fun (h:(j:Int)<(((List.getD gs k ((0,0,[],()):Gate))).2.2.1.length:Int)) (x':Int) (e:x'=opN ((List.getD gs k ((0,0,[],()):Gate))).1 z (List.getD (all:List Int) (((List.getD gs k ((0,0,[],()):Gate))).2.2.1.getD j 0).toNat 0))=>show ∃ j':Nat,NumJ all ((List.getD gs k ((0,0,[],()):Gate))).2.2.1 ((List.getD gs k ((0,0,[],()):Gate))).1 x ((j:Int)+1) x' j' from ⟨j+1,hN.step h hy1 e⟩
   have hend:=fun (h:¬ ((j:Int)<(((List.getD gs k ((0,0,[],()):Gate))).2.2.1.length:Int)∧z≤1000000000))=>cnt_end (vs:=vs) (all:=(all:List Int)) (g:=(List.getD gs k ((0,0,[],()):Gate))) (j:=j) (x:=z) (fun m=>(hA.qs m).1) (fun h=>kids_nil hV hk9 h) (by rw [← hx1];exact hN.eq) (by omega)
   have hfin:=fun (h:¬ ((j:Int)<(((List.getD gs k ((0,0,[],()):Gate))).2.2.1.length:Int)∧z≤1000000000)) (q:¬ 1000000000<z)=>show ∃ k':Nat,(k:Int)+1=(k':Int)∧EvF (geN vs) rgN gs n k' (List.set all k z) from ⟨k+1,rfl,hA.step hkn hrc ((hend h).2 q) ⟨hz0,Int.not_lt.1 q⟩⟩
   have hbig:=fun (h:¬ ((j:Int)<(((List.getD gs k ((0,0,[],()):Gate))).2.2.1.length:Int)∧z≤1000000000)) (q:1000000000<z)=>show cntV gs (n:Int) vs=(0,2) from by
    have e2:=(hend h).1 q
    rw [hcv,hA.stop hg hkn hrc (by show ¬ (cntG vs all ((List.getD gs k ((0,0,[],()):Gate)))).2=0;rw [e2];decide)]
    exact Prod.ext rfl e2
   repeat' (first|refine an ?_ ?_|((try refine gm ?_);first|((with_reducible show Kz _);(try dsimp+instances only);(with_reducible refine kz _ ?_);clear kz Kz)|refine st ?_|(refine sr ?_;intro Kz kz;conv=>whnf)|(refine cd ?_;(conv=>arg 2;whnf);refine st ?_)|refine blockK_y (by rfl) ?_|(refine sw ?_;conv=>whnf))|(refine gm ?_;conv=>whnf)|(intro hc;(try dsimp+instances only[Dat,SDat,dflt,Ty.size,keepS,bkUpd,Gv.bk,backS,wayA,maxI,minI,negI]at hc);try simp only[LS]at hc))
   all_goals (try ((fail_if_success refine nl ?_);(try dsimp only[Dat,SDat,dflt,Ty.size,keepS,bkUpd,Gv.bk,backS,wayA,maxI,minI,negI]);(try simp only[LS]);first|done|exact dsc|((try simp only[allP,lo,hi,room,true_and,and_true,implies_true]);(repeat' (first|refine an ?_ ?_|((with_reducible refine preA_t ?_ ?_);rotate_left;exact sameP_t)|intro hv))<;>(try omega))))
   all_goals (try ((fail_if_success refine nl ?_);(first|with_reducible exact hs1|with_reducible exact hs2 (And.right (by assumption))|with_reducible exact hs3|with_reducible exact hs4 (And.right (by assumption))|exact hfin (by assumption) hc|exact (congrArg Prod.fst (hbig (by assumption) hc)).symm|exact (congrArg Prod.snd (hbig (by assumption) hc)).symm|exact hon (And.left (by assumption)) _ (numA hc)|exact hon (And.left (by assumption)) _ (numB hc)|with_reducible exact (hkj (And.left (by assumption))).1|with_reducible exact (hkj (And.left (by assumption))).2.1|with_reducible exact (hkj (And.left (by assumption))).2.2)))
 · have he0:(0:Int)=initN vs ((List.getD gs k ((0,0,[],()):Gate))).1 ((List.getD gs k ((0,0,[],()):Gate))).2.1:=((if_neg hc).trans (if_neg (by assumption))).symm
   have hin0:(0:Int)≤0:=Int.le_refl 0
   refine w_loop [(14, .d tInt),(15, .d tInt)] [] (fun y=>∃ j:Nat,ZerJ all ((List.getD gs k ((0,0,[],()):Gate))).2.2.1 ((List.getD gs k ((0,0,[],()):Gate))).1 (0:Int) y.1.2.1 y.1.1 j) (fun y=>((List.getD gs k ((0,0,[],()):Gate))).2.2.1.length - y.1.2.1.toNat) ?_
   conv=>whnf
   refine And.intro ?_ ?_
   · exact ⟨0,ZerJ.start⟩
   rintro ⟨⟨(x:Int),(idx:Int),⟨⟩⟩,⟨⟩⟩ ⟨j,hJ⟩
   have hJ:ZerJ all ((List.getD gs k ((0,0,[],()):Gate))).2.2.1 ((List.getD gs k ((0,0,[],()):Gate))).1 (0:Int) idx x j:=hJ
   have hi9:=hJ.ix
   subst hi9
   have hle9:=hJ.le
   have hkj:=hkid j
   have hz1:=fun (h:(j:Int)<(((List.getD gs k ((0,0,[],()):Gate))).2.2.1.length:Int)) (q:((List.getD gs k ((0,0,[],()):Gate))).1=4∧List.getD (all:List Int) (((List.getD gs k ((0,0,[],()):Gate))).2.2.1.getD j 0).toNat 0=0)=>show ∃ j':Nat,ZerJ all ((List.getD gs k ((0,0,[],()):Gate))).2.2.1 ((List.getD gs k ((0,0,[],()):Gate))).1 (0:Int) ((j:Int)+1) 0 j' from ⟨j+1,hJ.hit h q⟩
   have hz2:=fun (h:(j:Int)<(((List.getD gs k ((0,0,[],()):Gate))).2.2.1.length:Int)) (q:¬ (((List.getD gs k ((0,0,[],()):Gate))).1=4∧List.getD (all:List Int) (((List.getD gs k ((0,0,[],()):Gate))).2.2.1.getD j 0).toNat 0=0))=>show ∃ j':Nat,ZerJ all ((List.getD gs k ((0,0,[],()):Gate))).2.2.1 ((List.getD gs k ((0,0,[],()):Gate))).1 (0:Int) ((j:Int)+1) x j' from ⟨j+1,hJ.miss h q⟩
   repeat' (first|refine an ?_ ?_|((try refine gm ?_);first|((with_reducible show Kz _);(try dsimp+instances only);(with_reducible refine kz _ ?_);clear kz Kz)|refine st ?_|(refine sr ?_;intro Kz kz;conv=>whnf)|(refine cd ?_;(conv=>arg 2;whnf);refine st ?_)|refine blockK_y (by rfl) ?_|(refine sw ?_;conv=>whnf))|(refine gm ?_;conv=>whnf)|(intro hc;(try dsimp+instances only[Dat,SDat,dflt,Ty.size,keepS,bkUpd,Gv.bk,backS,wayA,maxI,minI,negI]at hc);try simp only[LS]at hc))
   all_goals (try ((fail_if_success refine nl ?_);(try dsimp only[Dat,SDat,dflt,Ty.size,keepS,bkUpd,Gv.bk,backS,wayA,maxI,minI,negI]);(try simp only[LS]);first|done|exact dsc|((try simp only[allP,lo,hi,room,true_and,and_true,implies_true]);(repeat' (first|refine an ?_ ?_|((with_reducible refine preA_t ?_ ?_);rotate_left;exact sameP_t)|intro hv))<;>(try omega))))
   all_goals (try ((fail_if_success refine nl ?_);(first|exact hz1 (by assumption) hc|exact hz2 (by assumption) hc)))
   have hx1:=hJ.fin (by assumption)
   have hx0:0≤x:=by
    rw [hx1]
    split
    · exact Int.le_refl 0
    · exact hin0
   have hx1:x=if ((List.getD gs k ((0,0,[],()):Gate))).1=4∧0∈((List.getD gs k ((0,0,[],()):Gate))).2.2.1.map (atL 0 all) then 0 else initN vs ((List.getD gs k ((0,0,[],()):Gate))).1 ((List.getD gs k ((0,0,[],()):Gate))).2.1:=hx1.trans (congrArg (fun w=>if ((List.getD gs k ((0,0,[],()):Gate))).1=4∧0∈((List.getD gs k ((0,0,[],()):Gate))).2.2.1.map (atL 0 (all:List Int)) then 0 else w) he0)
   clear hz1 hz2
   refine w_loop [(14, .d tInt),(16, .d tInt)] [] (fun y=>∃ j:Nat,NumJ all ((List.getD gs k ((0,0,[],()):Gate))).2.2.1 ((List.getD gs k ((0,0,[],()):Gate))).1 x y.1.2.1 y.1.1 j) (fun y=>((List.getD gs k ((0,0,[],()):Gate))).2.2.1.length - y.1.2.1.toNat) ?_
   conv=>whnf
   refine And.intro ?_ ?_
   · exact ⟨0,NumJ.start hx0⟩
   rintro ⟨⟨(z:Int),(idx:Int),⟨⟩⟩,⟨⟩⟩ ⟨j,hN⟩
   have hN:NumJ all ((List.getD gs k ((0,0,[],()):Gate))).2.2.1 ((List.getD gs k ((0,0,[],()):Gate))).1 x idx z j:=hN
   have hi9:=hN.ix
   subst hi9
   have hle8:=hN.le
   have hkj:=hkid j
   have hy9:=hA.qs (((List.getD gs k ((0,0,[],()):Gate))).2.2.1.getD j 0).toNat
   have hy1:0≤List.getD (all:List Int) (((List.getD gs k ((0,0,[],()):Gate))).2.2.1.getD j 0).toNat 0:=hy9.1
   have hy2:List.getD (all:List Int) (((List.getD gs k ((0,0,[],()):Gate))).2.2.1.getD j 0).toNat 0≤1000000000:=hy9.2
   have hz0:=hN.nn
   have hs1: -9223372036854775808≤z+List.getD (all:List Int) (((List.getD gs k ((0,0,[],()):Gate))).2.2.1.getD j 0).toNat 0:=Int.le_trans (by decide) (Int.add_nonneg hz0 hy1)
   have hs2:=fun (h:z≤1000000000)=>show z+List.getD (all:List Int) (((List.getD gs k ((0,0,[],()):Gate))).2.2.1.getD j 0).toNat 0≤9223372036854775807 from Int.le_trans (Int.add_le_add h hy2) (by decide)
   have hs3: -9223372036854775808≤z * List.getD (all:List Int) (((List.getD gs k ((0,0,[],()):Gate))).2.2.1.getD j 0).toNat 0:=Int.le_trans (by decide) (Int.mul_nonneg hz0 hy1)
   have hs4:=fun (h:z≤1000000000)=>show z * List.getD (all:List Int) (((List.getD gs k ((0,0,[],()):Gate))).2.2.1.getD j 0).toNat 0≤9223372036854775807 from Int.le_trans (mulB hz0 h hy1 hy2).2 (by decide)
   have hon:=fun (h:(j:Int)<(((List.getD gs k ((0,0,[],()):Gate))).2.2.1.length:Int)) (x':Int) (e:x'=opN ((List.getD gs k ((0,0,[],()):Gate))).1 z (List.getD (all:List Int) (((List.getD gs k ((0,0,[],()):Gate))).2.2.1.getD j 0).toNat 0))=>show ∃ j':Nat,NumJ all ((List.getD gs k ((0,0,[],()):Gate))).2.2.1 ((List.getD gs k ((0,0,[],()):Gate))).1 x ((j:Int)+1) x' j' from ⟨j+1,hN.step h hy1 e⟩
   have hend:=fun (h:¬ ((j:Int)<(((List.getD gs k ((0,0,[],()):Gate))).2.2.1.length:Int)∧z≤1000000000))=>cnt_end (vs:=vs) (all:=(all:List Int)) (g:=(List.getD gs k ((0,0,[],()):Gate))) (j:=j) (x:=z) (fun m=>(hA.qs m).1) (fun h=>kids_nil hV hk9 h) (by rw [← hx1];exact hN.eq) (by omega)
   have hfin:=fun (h:¬ ((j:Int)<(((List.getD gs k ((0,0,[],()):Gate))).2.2.1.length:Int)∧z≤1000000000)) (q:¬ 1000000000<z)=>show ∃ k':Nat,(k:Int)+1=(k':Int)∧EvF (geN vs) rgN gs n k' (List.set all k z) from ⟨k+1,rfl,hA.step hkn hrc ((hend h).2 q) ⟨hz0,Int.not_lt.1 q⟩⟩
   have hbig:=fun (h:¬ ((j:Int)<(((List.getD gs k ((0,0,[],()):Gate))).2.2.1.length:Int)∧z≤1000000000)) (q:1000000000<z)=>show cntV gs (n:Int) vs=(0,2) from by
    have e2:=(hend h).1 q
    rw [hcv,hA.stop hg hkn hrc (by show ¬ (cntG vs all ((List.getD gs k ((0,0,[],()):Gate)))).2=0;rw [e2];decide)]
    exact Prod.ext rfl e2
   repeat' (first|refine an ?_ ?_|((try refine gm ?_);first|((with_reducible show Kz _);(try dsimp+instances only);(with_reducible refine kz _ ?_);clear kz Kz)|refine st ?_|(refine sr ?_;intro Kz kz;conv=>whnf)|(refine cd ?_;(conv=>arg 2;whnf);refine st ?_)|refine blockK_y (by rfl) ?_|(refine sw ?_;conv=>whnf))|(refine gm ?_;conv=>whnf)|(intro hc;(try dsimp+instances only[Dat,SDat,dflt,Ty.size,keepS,bkUpd,Gv.bk,backS,wayA,maxI,minI,negI]at hc);try simp only[LS]at hc))
   all_goals (try ((fail_if_success refine nl ?_);(try dsimp only[Dat,SDat,dflt,Ty.size,keepS,bkUpd,Gv.bk,backS,wayA,maxI,minI,negI]);(try simp only[LS]);first|done|exact dsc|((try simp only[allP,lo,hi,room,true_and,and_true,implies_true]);(repeat' (first|refine an ?_ ?_|((with_reducible refine preA_t ?_ ?_);rotate_left;exact sameP_t)|intro hv))<;>(try omega))))
   all_goals (try ((fail_if_success refine nl ?_);(first|with_reducible exact hs1|with_reducible exact hs2 (And.right (by assumption))|with_reducible exact hs3|with_reducible exact hs4 (And.right (by assumption))|exact hfin (by assumption) hc|exact (congrArg Prod.fst (hbig (by assumption) hc)).symm|exact (congrArg Prod.snd (hbig (by assumption) hc)).symm|exact hon (And.left (by assumption)) _ (numA hc)|exact hon (And.left (by assumption)) _ (numB hc)|with_reducible exact (hkj (And.left (by assumption))).1|with_reducible exact (hkj (And.left (by assumption))).2.1|with_reducible exact (hkj (And.left (by assumption))).2.2)))
theorem ok_z96:SpecOK SP glob fi_z96 S_z96:=mk_ok (c:=c_z96) (tab_ok _) mix_ok wf_z96 (by decide) (.cons ok_z106 (.cons ok_z102 .nil)) (fun x hx=>Nat.zero_lt_one) g_z96
end Go.Gv
