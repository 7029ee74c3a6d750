/- Chapter 16: the program: Poly, Holds, Cost and Count. -/
import Derived.Test.YtibnojoffhlekaaGreatDoorC16e
import Derived.Test.YtibnojoffhlekaaGreatDoorP16h
set_option linter.all false
namespace Go.Gv
open Go Go.Proofs Go.Proofs.YtibnojoffhlekaaGreatDoor
set_option maxRecDepth 100000
set_option maxHeartbeats 4000000
@[reducible] noncomputable def S_z10:Spec:={ ins:=(.cons (.d tCirc) (.cons (.d tInt) .nil)),pre:=(fun x=>(fun c i=>SmallG c.1) x.1 x.2.1),alts:=[{ outs:=(.cons (.d tPoly) (.cons (.d tInt) .nil)),res:=(fun x=>(fun c i=>((evC srP.ge c.1 i).1,(evC srP.ge c.1 i).2,())) x.1 x.2.1)}],noisy:=true}
noncomputable def c_z10:Cf:={ cf_z10 (Fl [(fi_z14,S_ev_poly)]) with nz:=true}
theorem g_z10:∀ x,S_z10.pre x→shOK S_z10.ins x→fnGoal c_z10 fn_z10 S_z10 x:=by
 rintro ⟨c,i,⟨⟩⟩ hpre hok
 try dsimp only [Dat,SDat,dflt,Ty.size,keepS,bkUpd,Gv.bk,backS,wayA,maxI,minI,negI] at hpre
 have hln:=shLn_of _ hok;replace hok:=Hd.mk hok;try simp only [shLn,datLn,inRng,lo,hi,maxLen,true_and,and_true] at hln
 first|refine fn_goal (w_head ?_)
 intro Kz kz;(conv=>whnf);(try dsimp+instances only);refine kz _ ?_;clear kz Kz;(conv=>(arg 2;whnf))
 repeat' (first|refine an ?_ ?_|((try refine gm ?_);first|((with_reducible show Kz _);(try dsimp+instances only);(with_reducible refine kz _ ?_);clear kz Kz)|refine st ?_|(refine sr ?_;intro Kz kz;conv=>whnf)|(refine cd ?_;(conv=>arg 2;whnf);refine st ?_)|refine blockK_y (by rfl) ?_|(refine sw ?_;conv=>whnf))|(refine gm ?_;conv=>whnf)|(intro hc;(try dsimp+instances only[Dat,SDat,dflt,Ty.size,keepS,bkUpd,Gv.bk,backS,wayA,maxI,minI,negI]at hc);try simp only[LS]at hc))
 all_goals (try ((fail_if_success refine nl ?_);(try dsimp only[Dat,SDat,dflt,Ty.size,keepS,bkUpd,Gv.bk,backS,wayA,maxI,minI,negI]);(try simp only[LS]);first|done|exact dsc|((try simp only[allP,lo,hi,room,true_and,and_true,implies_true]);(repeat' (first|refine an ?_ ?_|((with_reducible refine preA_t ?_ ?_);rotate_left;exact sameP_t)|intro hv))<;>(try omega))))
 exact hpre _ (by assumption)
theorem ok_z10:SpecOK SP glob fi_z10 S_z10:=mk_ok (c:=c_z10) (tab_ok _) mix_ok wf_z10 (by decide) (.cons ok_ev_poly .nil) (fun x hx=>Nat.zero_lt_one) g_z10
noncomputable def holdsV (gs:List Gate) (i:Int) (h:List Bool):Bool:=if (evC (srB h).ge gs i).2=0 then (evC (srB h).ge gs i).1 else false
@[reducible] noncomputable def S_z6:Spec:={ ins:=(.cons (.d tCirc) (.cons (.d tInt) (.cons (.d (.sl .bool)) .nil))),pre:=(fun x=>(fun c i h=>SmallG c.1) x.1 x.2.1 x.2.2.1),alts:=[{ outs:=(.cons (.d .bool) .nil),res:=(fun x=>(fun c i h=>(holdsV c.1 i h,())) x.1 x.2.1 x.2.2.1)}],noisy:=true}
noncomputable def c_z6:Cf:={ cf_z6 (Fl [(fi_z15,S_ev_bool)]) with nz:=true}
theorem g_z6:∀ x,S_z6.pre x→shOK S_z6.ins x→fnGoal c_z6 fn_z6 S_z6 x:=by
 rintro ⟨c,i,h,⟨⟩⟩ hpre hok
 try dsimp only [Dat,SDat,dflt,Ty.size,keepS,bkUpd,Gv.bk,backS,wayA,maxI,minI,negI] at hpre
 have hln:=shLn_of _ hok;replace hok:=Hd.mk hok;try simp only [shLn,datLn,inRng,lo,hi,maxLen,true_and,and_true] at hln
 first|refine fn_goal (w_head ?_)
 intro Kz kz;(conv=>whnf);(try dsimp+instances only);refine kz _ ?_;clear kz Kz;(conv=>(arg 2;whnf))
 repeat' (first|refine an ?_ ?_|((try refine gm ?_);first|((with_reducible show Kz _);(try dsimp+instances only);(with_reducible refine kz _ ?_);clear kz Kz)|refine st ?_|(refine sr ?_;intro Kz kz;conv=>whnf)|(refine cd ?_;(conv=>arg 2;whnf);refine st ?_)|refine blockK_y (by rfl) ?_|(refine sw ?_;conv=>whnf))|(refine gm ?_;conv=>whnf)|(intro hc;(try dsimp+instances only[Dat,SDat,dflt,Ty.size,keepS,bkUpd,Gv.bk,backS,wayA,maxI,minI,negI]at hc);try simp only[LS]at hc))
 all_goals (try ((fail_if_success refine nl ?_);(try dsimp only[Dat,SDat,dflt,Ty.size,keepS,bkUpd,Gv.bk,backS,wayA,maxI,minI,negI]);(try simp only[LS]);first|done|exact dsc|((try simp only[allP,lo,hi,room,true_and,and_true,implies_true]);(repeat' (first|refine an ?_ ?_|((with_reducible refine preA_t ?_ ?_);rotate_left;exact sameP_t)|intro hv))<;>(try omega))))
 all_goals (try ((fail_if_success refine nl ?_);(first|exact hpre _ (by assumption)|exact ⟨_,rfl⟩)))
 show boolOf ((evC (srB h).ge c.1 i).2=0∧(evC (srB h).ge c.1 i).1=true)=holdsV c.1 i h
 unfold holdsV
 by_cases e:(evC (srB h).ge c.1 i).2=0
 · rw [if_pos e]
   cases q:(evC (srB h).ge c.1 i).1
   · exact boolOf_false.2 fun a=>by cases a.2
   · exact boolOf_true.2 ⟨e,rfl⟩
 · rw [if_neg e]
   exact boolOf_false.2 fun a=>e a.1
theorem ok_z6:SpecOK SP glob fi_z6 S_z6:=mk_ok (c:=c_z6) (tab_ok _) mix_ok wf_z6 (by decide) (.cons ok_ev_bool .nil) (fun x hx=>Nat.zero_lt_one) g_z6
noncomputable def costV (gs:List Gate) (i:Int) (cs:List Int):Int × Bool:=if ¬ (evC (srC cs).ge gs i).2=0∨(evC (srC cs).ge gs i).1= -1 then (0,false) else ((evC (srC cs).ge gs i).1,true)
def cntR (vs:List Int) (gs:List Gate) (i:Int):Prop:=¬ (vs.any fun k=>decide (k<0))=true
noncomputable def cntV (gs:List Gate) (i:Int) (vs:List Int):Int × Int:=if vs.any (fun k=>decide (k<0))=true then (0,1) else evC (geN vs) gs i
def rgN (v:Int):Prop:=0≤v∧v≤1000000000
section
variable {vs all:List Int} {g:Gate}
theorem take_snoc {l:List Int} {j:Nat} (h:j<l.length):(l.take (j+1)).map (atL 0 all)=(l.take j).map (atL 0 all)++[all.getD (l.getD j 0).toNat 0]:=by
 rw [List.take_succ_eq_append_getElem h,List.map_append,getD_ok 0 h]
 rfl
theorem take_all {l:List Int} {j:Nat} (h:¬ (j:Int)<(l.length:Int)):l.take j=l:=List.take_of_length_le (by omega)
structure SumJ (all l:List Int) (idx n:Int) (lg:Bool) (j:Nat):Prop where
 ix:idx=(j:Int)
 le:j≤l.length
 eq:n=sumN ((l.take j).map (atL 0 all))
 lo:0≤n
 hi:n≤1000000001
 f:lg=false
theorem SumJ.start {l:List Int}:SumJ all l 0 0 false 0:=⟨rfl,Nat.zero_le _,rfl,by omega,by omega,rfl⟩
theorem SumJ.step {l:List Int} {n:Int} {lg:Bool} {j:Nat} (h:SumJ all l (j:Int) n lg j) (hj:(j:Int)<(l.length:Int)) (hq:0≤all.getD (l.getD j 0).toNat 0):SumJ all l ((j:Int)+1) (min (n+all.getD (l.getD j 0).toNat 0) 1000000001) lg (j+1):=by
 refine ⟨rfl,by omega,?_,?_,?_,h.f⟩
 · rw [take_snoc (by omega),sumN_snoc,← h.eq]
 · have:=h.lo;omega
 · omega
theorem SumJ.fin {l:List Int} {n:Int} {lg:Bool} {j:Nat} (h:SumJ all l (j:Int) n lg j) (hj:¬ (j:Int)<(l.length:Int)):n=sumN (l.map (atL 0 all)):=by
 have:=h.eq
 rw [take_all hj] at this
 exact this
structure TimJ (all l:List Int) (idx n:Int) (lg:Bool) (j:Nat):Prop where
 i:idx=(j:Int)
 le:j≤l.length
 t:TimN ((l.take j).map (atL 0 all)) n lg
theorem TimJ.start {l:List Int}:TimJ all l 0 1 false 0:=⟨rfl,Nat.zero_le _,TimN.nil⟩
theorem TimJ.step {l:List Int} {n:Int} {lg:Bool} {j:Nat} (h:TimJ all l (j:Int) n lg j) (hj:(j:Int)<(l.length:Int)) (hq:rgN (all.getD (l.getD j 0).toNat 0)) (h0:¬ all.getD (l.getD j 0).toNat 0=0) (hb:¬ 1000000000<n * all.getD (l.getD j 0).toNat 0):TimJ all l ((j:Int)+1) (n * all.getD (l.getD j 0).toNat 0) lg (j+1):=by
 refine ⟨rfl,by omega,?_⟩
 rw [take_snoc (by omega)]
 exact h.t.step (by have:=hq.1;omega) hb
theorem TimJ.fin {l:List Int} {n:Int} {lg:Bool} {j:Nat} (h:TimJ all l (j:Int) n lg j) (hj:¬ (j:Int)<(l.length:Int)):TimN (l.map (atL 0 all)) n lg:=by
 have:=h.t
 rw [take_all hj] at this
 exact this
end
end Go.Gv
