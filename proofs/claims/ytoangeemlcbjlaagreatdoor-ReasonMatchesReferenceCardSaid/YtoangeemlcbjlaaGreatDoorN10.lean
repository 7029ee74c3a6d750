/- Decimal numerals: strconv.AppendInt at base 10, of numbers that are not negative. -/
import Derived.Test.YtoangeemlcbjlaaGreatDoorY
import Derived.Test.YtoangeemlcbjlaaGreatDoorB0
import Derived.Lib.ItoaLen
set_option linter.all false
namespace Go.Gv
open Go Go.Proofs Go.Proofs.YtoangeemlcbjlaaGreatDoor
set_option maxRecDepth 100000
set_option maxHeartbeats 4000000
def dig (n:Int):List Int:=(Lib.itoa n).map (fun b:UInt8=>(b.toNat:Int))
@[reducible] noncomputable def S_z28:Spec:=smallSpec
theorem ok_z28:SpecOK SP glob fi_z28 S_z28:=small_ok lays283 wf_z28
@[reducible] noncomputable def S_appU_small:Spec:={ ins:=(.cons (.spare tBy) (.cons (.d tU64) (.cons (.d tInt) .nil))),pre:=(fun x=>(fun dst i b=>(b=10∧dst.length≤1100000000)∧i<100) x.1 x.2.1 x.2.2.1),alts:=[{ outs:=(.cons (.spare tBy) .nil),res:=(fun x=>(fun dst i b=>(dst++digU i.toNat,())) x.1 x.2.1 x.2.2.1)}]}
noncomputable def c_appU_small:Cf:=(cf_z21 (Fl [(fi_z28,S_z28)]))
theorem g_appU_small:∀ x,S_appU_small.pre x→shOK S_appU_small.ins x→fnGoal c_appU_small fn_z21 S_appU_small x:=by
 rintro ⟨dst,i,b,⟨⟩⟩ hpre hok
 try dsimp only [Dat,SDat,dflt,Ty.size,keepS,bkUpd,Gv.bk,backS,wayA,maxI,minI,negI] at hpre
 have hln:=shLn_of _ hok;replace hok:=Hd.mk hok;try simp only [shLn,datLn,inRng,lo,hi,maxLen,true_and,and_true] at hln
 have hd:=decDigits_le i.toNat (by omega)
 first|refine fn_goal (w_head ?_)
 intro Kz kz;(conv=>whnf);(try dsimp+instances only);refine kz _ ?_;clear kz Kz;(conv=>(arg 2;whnf))
 repeat' (first|refine an ?_ ?_|((try refine gm ?_);first|((with_reducible show Kz _);(try dsimp+instances only);(with_reducible refine kz _ ?_);clear kz Kz)|refine st ?_|(refine sr ?_;intro Kz kz;conv=>whnf)|(refine cd ?_;(conv=>arg 2;whnf);refine st ?_)|refine blockK_y (by rfl) ?_|(refine sw ?_;conv=>whnf))|(refine gm ?_;conv=>whnf)|(intro hc;(try dsimp+instances only[Dat,SDat,dflt,Ty.size,keepS,bkUpd,Gv.bk,backS,wayA,maxI,minI,negI]at hc);try simp only[LS]at hc))
 all_goals (try ((fail_if_success refine nl ?_);(try dsimp only[Dat,SDat,dflt,Ty.size,keepS,bkUpd,Gv.bk,backS,wayA,maxI,minI,negI]);(try simp only[LS]);first|done|exact dsc|((try simp only[allP,lo,hi,room,true_and,and_true,implies_true]);(repeat' (first|refine an ?_ ?_|((with_reducible refine preA_t ?_ ?_);rotate_left;exact sameP_t)|intro hv))<;>(try omega))))
theorem ok_appU_small:SpecOK SP glob fi_z21 S_appU_small:=mk_ok (c:=c_appU_small) (tab_ok _) mix_ok wf_z21 (by decide) (.cons ok_z28 .nil) (fun x hx=>Nat.zero_lt_one) g_appU_small
theorem env_ok:(Env.mk tab [] [] []).ok SP=true:=tab_ok []
theorem env_by:(Env.mk tab [] [] []).ty (lays288_ren.t 37)=some (.sl tBy,((Env.mk tab [] [] []).ty (lays288_ren.t 37)).elim 0 (fun p=>p.2)):=rfl
@[reducible] noncomputable def S_z21:Spec:={ ins:= .cons (.spare tBy) (.cons (.d tU64) (.cons (.d tInt) .nil)),pre:=fun x=>x.2.2.1=10∧List.length x.1≤1100000000,alts:=[{ outs:= .cons (.spare tBy) .nil,res:=fun x=>(x.1++digU x.2.1.toNat,())}]}
theorem ok_z21:SpecOK SP glob fi_z21 S_z21:=
 SpecOK.either (q:=fun (x:List Int × Int × Int × Unit)=>x.2.1<100) ok_appU_small (appU_big lays288 env_ok env_by wf_z21 rfl)
@[reducible] noncomputable def S_z20:Spec:={ ins:=(.cons (.spare tBy) (.cons (.d tInt) (.cons (.d tInt) .nil))),pre:=(fun x=>(fun dst i b=>(b=10∧dst.length≤1100000000)∧0≤i) x.1 x.2.1 x.2.2.1),alts:=[{ outs:=(.cons (.spare tBy) .nil),res:=(fun x=>(fun dst i b=>(dst++dig i,())) x.1 x.2.1 x.2.2.1)}]}
noncomputable def c_z20:Cf:=(cf_z20 (Fl [(fi_z21,S_z21)]))
theorem g_z20:∀ x,S_z20.pre x→shOK S_z20.ins x→fnGoal c_z20 fn_z20 S_z20 x:=by
 rintro ⟨dst,i,b,⟨⟩⟩ hpre hok
 try dsimp only [Dat,SDat,dflt,Ty.size,keepS,bkUpd,Gv.bk,backS,wayA,maxI,minI,negI] at hpre
 have hln:=shLn_of _ hok;replace hok:=Hd.mk hok;try simp only [shLn,datLn,inRng,lo,hi,maxLen,true_and,and_true] at hln
 obtain ⟨n,rfl⟩:∃ n:Nat,i=(n:Int):=⟨i.toNat,(Int.toNat_of_nonneg hpre.2).symm⟩
 first|refine fn_goal (w_head ?_)
 intro Kz kz;(conv=>whnf);(try dsimp+instances only);refine kz _ ?_;clear kz Kz;(conv=>(arg 2;whnf))
 repeat' (first|refine an ?_ ?_|((try refine gm ?_);first|((with_reducible show Kz _);(try dsimp+instances only);(with_reducible refine kz _ ?_);clear kz Kz)|refine st ?_|(refine sr ?_;intro Kz kz;conv=>whnf)|(refine cd ?_;(conv=>arg 2;whnf);refine st ?_)|refine blockK_y (by rfl) ?_|(refine sw ?_;conv=>whnf))|(refine gm ?_;conv=>whnf)|(intro hc;(try dsimp+instances only[Dat,SDat,dflt,Ty.size,keepS,bkUpd,Gv.bk,backS,wayA,maxI,minI,negI]at hc);try simp only[LS]at hc))
 all_goals (try ((fail_if_success refine nl ?_);(try dsimp only[Dat,SDat,dflt,Ty.size,keepS,bkUpd,Gv.bk,backS,wayA,maxI,minI,negI]);(try simp only[LS]);first|done|exact dsc|((try simp only[allP,lo,hi,room,true_and,and_true,implies_true]);(repeat' (first|refine an ?_ ?_|((with_reducible refine preA_t ?_ ?_);rotate_left;exact sameP_t)|intro hv))<;>(try omega))))
theorem ok_z20:SpecOK SP glob fi_z20 S_z20:=mk_ok (c:=c_z20) (tab_ok _) mix_ok wf_z20 (by decide) (.cons ok_z21 .nil) (fun x hx=>Nat.zero_lt_one) g_z20
@[reducible] noncomputable def S_z132:Spec:={ ins:=(.cons (.spare tBy) (.cons (.d tInt) (.cons (.d tInt) .nil))),pre:=(fun x=>(fun dst i b=>(b=10∧dst.length≤1100000000)∧0≤i) x.1 x.2.1 x.2.2.1),alts:=[{ outs:=(.cons (.spare tBy) .nil),res:=(fun x=>(fun dst i b=>(dst++dig i,())) x.1 x.2.1 x.2.2.1)}]}
noncomputable def c_z132:Cf:=(cf_z132 (Fl [(fi_z20,S_z20)]))
theorem g_z132:∀ x,S_z132.pre x→shOK S_z132.ins x→fnGoal c_z132 fn_z132 S_z132 x:=by
 rintro ⟨dst,i,b,⟨⟩⟩ hpre hok
 try dsimp only [Dat,SDat,dflt,Ty.size,keepS,bkUpd,Gv.bk,backS,wayA,maxI,minI,negI] at hpre
 have hln:=shLn_of _ hok;replace hok:=Hd.mk hok;try simp only [shLn,datLn,inRng,lo,hi,maxLen,true_and,and_true] at hln
 first|refine fn_goal (w_head ?_)
 intro Kz kz;(conv=>whnf);(try dsimp+instances only);refine kz _ ?_;clear kz Kz;(conv=>(arg 2;whnf))
 repeat' (first|refine an ?_ ?_|((try refine gm ?_);first|((with_reducible show Kz _);(try dsimp+instances only);(with_reducible refine kz _ ?_);clear kz Kz)|refine st ?_|(refine sr ?_;intro Kz kz;conv=>whnf)|(refine cd ?_;(conv=>arg 2;whnf);refine st ?_)|refine blockK_y (by rfl) ?_|(refine sw ?_;conv=>whnf))|(refine gm ?_;conv=>whnf)|(intro hc;(try dsimp+instances only[Dat,SDat,dflt,Ty.size,keepS,bkUpd,Gv.bk,backS,wayA,maxI,minI,negI]at hc);try simp only[LS]at hc))
 all_goals (try ((fail_if_success refine nl ?_);(try dsimp only[Dat,SDat,dflt,Ty.size,keepS,bkUpd,Gv.bk,backS,wayA,maxI,minI,negI]);(try simp only[LS]);first|done|exact dsc|((try simp only[allP,lo,hi,room,true_and,and_true,implies_true]);(repeat' (first|refine an ?_ ?_|((with_reducible refine preA_t ?_ ?_);rotate_left;exact sameP_t)|intro hv))<;>(try omega))))
theorem ok_z132:SpecOK SP glob fi_z132 S_z132:=mk_ok (c:=c_z132) (tab_ok _) mix_ok wf_z132 (by decide) (.cons ok_z20 .nil) (fun x hx=>Nat.zero_lt_one) g_z132
end Go.Gv
