/- Chapter 17: the program's Holds. -/
import Derived.Test.YtoangeemlcbjlaaGreatDoorC16d
import Derived.Test.YtoangeemlcbjlaaGreatDoorP16f
set_option linter.all false
namespace Go.Gv
open Go Go.Proofs Go.Proofs.YtoangeemlcbjlaaGreatDoor
set_option maxRecDepth 100000
set_option maxHeartbeats 4000000
noncomputable def holdsV (gs:List Gate) (i:Int) (h:List Bool):Bool:=if (evC (srB h).ge gs i).2=0 then (evC (srB h).ge gs i).1 else false
@[reducible] noncomputable def S_z0:Spec:={ ins:=(.cons (.d tCirc) (.cons (.d tInt) (.cons (.d (.sl .bool)) .nil))),pre:=(fun x=>(fun c i h=>SmallG c.1) x.1 x.2.1 x.2.2.1),alts:=[{ outs:=(.cons (.d .bool) .nil),res:=(fun x=>(fun c i h=>(holdsV c.1 i h,())) x.1 x.2.1 x.2.2.1)}],noisy:=true}
noncomputable def c_z0:Cf:={ cf_z0 (Fl [(fi_z6,S_ev_bool)]) with nz:=true}
theorem g_z0:∀ x,S_z0.pre x→shOK S_z0.ins x→fnGoal c_z0 fn_z0 S_z0 x:=by
 rintro ⟨c,i,h,⟨⟩⟩ hpre hok
 try dsimp only [Dat,SDat,dflt,Ty.size,keepS,bkUpd,Gv.bk,backS,wayA,maxI,minI,negI] at hpre
 have hln:=shLn_of _ hok;replace hok:=Hd.mk hok;try simp only [shLn,datLn,inRng,lo,hi,maxLen,true_and,and_true] at hln
 first|refine fn_goal (w_head ?_)
 intro Kz kz;(conv=>whnf);(try dsimp+instances only);refine kz _ ?_;clear kz Kz;(conv=>(arg 2;whnf))
 repeat' (first|refine an ?_ ?_|((try refine gm ?_);first|((with_reducible show Kz _);(try dsimp+instances only);(with_reducible refine kz _ ?_);clear kz Kz)|refine st ?_|(refine sr ?_;intro Kz kz;conv=>whnf)|(refine cd ?_;(conv=>arg 2;whnf);refine st ?_)|refine blockK_y (by rfl) ?_|(refine sw ?_;conv=>whnf))|(refine gm ?_;conv=>whnf)|(intro hc;(try dsimp+instances only[Dat,SDat,dflt,Ty.size,keepS,bkUpd,Gv.bk,backS,wayA,maxI,minI,negI]at hc);try simp only[LS]at hc))
 all_goals (try ((fail_if_success refine nl ?_);(try dsimp only[Dat,SDat,dflt,Ty.size,keepS,bkUpd,Gv.bk,backS,wayA,maxI,minI,negI]);(try simp only[LS]);first|done|exact dsc|((try simp only[allP,lo,hi,room,true_and,and_true,implies_true]);(repeat' (first|refine an ?_ ?_|((with_reducible refine preA_t ?_ ?_);rotate_left;exact sameP_t)|intro hv))<;>(try omega))))
 all_goals (try ((fail_if_success refine nl ?_);(first|exact hpre _ (by assumption)|exact ⟨_,rfl⟩)))
 show boolOf ((evC (srB h).ge c.1 i).2=0∧(evC (srB h).ge c.1 i).1=true)=holdsV c.1 i h
 unfold holdsV
 by_cases e:(evC (srB h).ge c.1 i).2=0
 · rw [if_pos e]
   cases q:(evC (srB h).ge c.1 i).1
   · exact boolOf_false.2 fun a=>by cases a.2
   · exact boolOf_true.2 ⟨e,rfl⟩
 · rw [if_neg e]
   exact boolOf_false.2 fun a=>e a.1
theorem ok_z0:SpecOK SP glob fi_z0 S_z0:=mk_ok (c:=c_z0) (tab_ok _) mix_ok wf_z0 (by decide) (.cons ok_ev_bool .nil) (fun x hx=>Nat.zero_lt_one) g_z0
end Go.Gv
