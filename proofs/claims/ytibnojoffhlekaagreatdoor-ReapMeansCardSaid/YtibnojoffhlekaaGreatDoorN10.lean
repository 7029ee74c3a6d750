/- Decimal numerals: strconv.AppendInt at base 10, of numbers that are not negative. -/
import Derived.Test.YtibnojoffhlekaaGreatDoorY
import Derived.Test.YtibnojoffhlekaaGreatDoorB0
import Derived.Lib.ItoaLen
set_option linter.all false
namespace Go.Gv
open Go Go.Proofs Go.Proofs.YtibnojoffhlekaaGreatDoor
set_option maxRecDepth 100000
set_option maxHeartbeats 4000000
def dig (n:Int):List Int:=(Lib.itoa n).map (fun b:UInt8=>(b.toNat:Int))
@[reducible] noncomputable def S_z40:Spec:=smallSpec
theorem ok_z40:SpecOK SP glob fi_z40 S_z40:=small_ok lays283 wf_z40
@[reducible] noncomputable def S_appU_small:Spec:={ ins:=(.cons (.spare tBy) (.cons (.d tU64) (.cons (.d tInt) .nil))),pre:=(fun x=>(fun dst i b=>(b=10∧dst.length≤1100000000)∧i<100) x.1 x.2.1 x.2.2.1),alts:=[{ outs:=(.cons (.spare tBy) .nil),res:=(fun x=>(fun dst i b=>(dst++digU i.toNat,())) x.1 x.2.1 x.2.2.1)}]}
noncomputable def c_appU_small:Cf:=(cf_z31 (Fl [(fi_z40,S_z40)]))
theorem g_appU_small:∀ x,S_appU_small.pre x→shOK S_appU_small.ins x→fnGoal c_appU_small fn_z31 S_appU_small x:=by
 rintro ⟨dst,i,b,⟨⟩⟩ hpre hok
 try dsimp only [Dat,SDat,dflt,Ty.size,keepS,bkUpd,Gv.bk,backS,wayA,maxI,minI,negI] at hpre
 have hln:=shLn_of _ hok;replace hok:=Hd.mk hok;try simp only [shLn,datLn,inRng,lo,hi,maxLen,true_and,and_true] at hln
 have hd:=decDigits_le i.toNat (by omega)
 first|refine fn_goal (w_head ?_)
 intro Kz kz;(conv=>whnf);(try dsimp+instances only);refine kz _ ?_;clear kz Kz;(conv=>(arg 2;whnf))
 repeat' (first|refine an ?_ ?_|((try refine gm ?_);first|((with_reducible show Kz _);(try dsimp+instances only);(with_reducible refine kz _ ?_);clear kz Kz)|refine st ?_|(refine sr ?_;intro Kz kz;conv=>whnf)|(refine cd ?_;(conv=>arg 2;whnf);refine st ?_)|refine blockK_y (by rfl) ?_|(refine sw ?_;conv=>whnf))|(refine gm ?_;conv=>whnf)|(intro hc;(try dsimp+instances only[Dat,SDat,dflt,Ty.size,keepS,bkUpd,Gv.bk,backS,wayA,maxI,minI,negI]at hc);try simp only[LS]at hc))
 all_goals (try ((fail_if_success refine nl ?_);(try dsimp only[Dat,SDat,dflt,Ty.size,keepS,bkUpd,Gv.bk,backS,wayA,maxI,minI,negI]);(try simp only[LS]);first|done|exact dsc|((try simp only[allP,lo,hi,room,true_and,and_true,implies_true]);(repeat' (first|refine an ?_ ?_|((with_reducible refine preA_t ?_ ?_);rotate_left;exact sameP_t)|intro hv))<;>(try omega))))
theorem ok_appU_small:SpecOK SP glob fi_z31 S_appU_small:=mk_ok (c:=c_appU_small) (tab_ok _) mix_ok wf_z31 (by decide) (.cons ok_z40 .nil) (fun x hx=>Nat.zero_lt_one) g_appU_small
theorem env_ok:(Env.mk tab [] [] []).ok SP=true:=tab_ok []
theorem env_by:(Env.mk tab [] [] []).ty (lays288_ren.t 37)=some (.sl tBy,((Env.mk tab [] [] []).ty (lays288_ren.t 37)).elim 0 (fun p=>p.2)):=rfl
@[reducible] noncomputable def S_z31:Spec:={ ins:= .cons (.spare tBy) (.cons (.d tU64) (.cons (.d tInt) .nil)),pre:=fun x=>x.2.2.1=10∧List.length x.1≤1100000000,alts:=[{ outs:= .cons (.spare tBy) .nil,res:=fun x=>(x.1++digU x.2.1.toNat,())}]}
theorem ok_z31:SpecOK SP glob fi_z31 S_z31:=
 SpecOK.either (q:=fun (x:List Int × Int × Int × Unit)=>x.2.1<100) ok_appU_small (appU_big lays288 env_ok env_by wf_z31 rfl)
@[reducible] noncomputable def S_z30:Spec:={ ins:=(.cons (.spare tBy) (.cons (.d tInt) (.cons (.d tInt) .nil))),pre:=(fun x=>(fun dst i b=>(b=10∧dst.length≤1100000000)∧0≤i) x.1 x.2.1 x.2.2.1),alts:=[{ outs:=(.cons (.spare tBy) .nil),res:=(fun x=>(fun dst i b=>(dst++dig i,())) x.1 x.2.1 x.2.2.1)}]}
noncomputable def c_z30:Cf:=(cf_z30 (Fl [(fi_z31,S_z31)]))
theorem g_z30:∀ x,S_z30.pre x→shOK S_z30.ins x→fnGoal c_z30 fn_z30 S_z30 x:=by
 rintro ⟨dst,i,b,⟨⟩⟩ hpre hok
 try dsimp only [Dat,SDat,dflt,Ty.size,keepS,bkUpd,Gv.bk,backS,wayA,maxI,minI,negI] at hpre
 have hln:=shLn_of _ hok;replace hok:=Hd.mk hok;try simp only [shLn,datLn,inRng,lo,hi,maxLen,true_and,and_true] at hln
 obtain ⟨n,rfl⟩:∃ n:Nat,i=(n:Int):=⟨i.toNat,(Int.toNat_of_nonneg hpre.2).symm⟩
 first|refine fn_goal (w_head ?_)
 intro Kz kz;(conv=>whnf);(try dsimp+instances only);refine kz _ ?_;clear kz Kz;(conv=>(arg 2;whnf))
 repeat' (first|refine an ?_ ?_|((try refine gm ?_);first|((with_reducible show Kz _);(try dsimp+instances only);(with_reducible refine kz _ ?_);clear kz Kz)|refine st ?_|(refine sr ?_;intro Kz kz;conv=>whnf)|(refine cd ?_;(conv=>arg 2;whnf);refine st ?_)|refine blockK_y (by rfl) ?_|(refine sw ?_;conv=>whnf))|(refine gm ?_;conv=>whnf)|(intro hc;(try dsimp+instances only[Dat,SDat,dflt,Ty.size,keepS,bkUpd,Gv.bk,backS,wayA,maxI,minI,negI]at hc);try simp only[LS]at hc))
 all_goals (try ((fail_if_success refine nl ?_);(try dsimp only[Dat,SDat,dflt,Ty.size,keepS,bkUpd,Gv.bk,backS,wayA,maxI,minI,negI]);(try simp only[LS]);first|done|exact dsc|((try simp only[allP,lo,hi,room,true_and,and_true,implies_true]);(repeat' (first|refine an ?_ ?_|((with_reducible refine preA_t ?_ ?_);rotate_left;exact sameP_t)|intro hv))<;>(try omega))))
theorem ok_z30:SpecOK SP glob fi_z30 S_z30:=mk_ok (c:=c_z30) (tab_ok _) mix_ok wf_z30 (by decide) (.cons ok_z31 .nil) (fun x hx=>Nat.zero_lt_one) g_z30
@[reducible] noncomputable def S_z156:Spec:={ ins:=(.cons (.spare tBy) (.cons (.d tInt) (.cons (.d tInt) .nil))),pre:=(fun x=>(fun dst i b=>(b=10∧dst.length≤1100000000)∧0≤i) x.1 x.2.1 x.2.2.1),alts:=[{ outs:=(.cons (.spare tBy) .nil),res:=(fun x=>(fun dst i b=>(dst++dig i,())) x.1 x.2.1 x.2.2.1)}]}
noncomputable def c_z156:Cf:=(cf_z156 (Fl [(fi_z30,S_z30)]))
theorem g_z156:∀ x,S_z156.pre x→shOK S_z156.ins x→fnGoal c_z156 fn_z156 S_z156 x:=by
 rintro ⟨dst,i,b,⟨⟩⟩ hpre hok
 try dsimp only [Dat,SDat,dflt,Ty.size,keepS,bkUpd,Gv.bk,backS,wayA,maxI,minI,negI] at hpre
 have hln:=shLn_of _ hok;replace hok:=Hd.mk hok;try simp only [shLn,datLn,inRng,lo,hi,maxLen,true_and,and_true] at hln
 first|refine fn_goal (w_head ?_)
 intro Kz kz;(conv=>whnf);(try dsimp+instances only);refine kz _ ?_;clear kz Kz;(conv=>(arg 2;whnf))
 repeat' (first|refine an ?_ ?_|((try refine gm ?_);first|((with_reducible show Kz _);(try dsimp+instances only);(with_reducible refine kz _ ?_);clear kz Kz)|refine st ?_|(refine sr ?_;intro Kz kz;conv=>whnf)|(refine cd ?_;(conv=>arg 2;whnf);refine st ?_)|refine blockK_y (by rfl) ?_|(refine sw ?_;conv=>whnf))|(refine gm ?_;conv=>whnf)|(intro hc;(try dsimp+instances only[Dat,SDat,dflt,Ty.size,keepS,bkUpd,Gv.bk,backS,wayA,maxI,minI,negI]at hc);try simp only[LS]at hc))
 all_goals (try ((fail_if_success refine nl ?_);(try dsimp only[Dat,SDat,dflt,Ty.size,keepS,bkUpd,Gv.bk,backS,wayA,maxI,minI,negI]);(try simp only[LS]);first|done|exact dsc|((try simp only[allP,lo,hi,room,true_and,and_true,implies_true]);(repeat' (first|refine an ?_ ?_|((with_reducible refine preA_t ?_ ?_);rotate_left;exact sameP_t)|intro hv))<;>(try omega))))
theorem ok_z156:SpecOK SP glob fi_z156 S_z156:=mk_ok (c:=c_z156) (tab_ok _) mix_ok wf_z156 (by decide) (.cons ok_z30 .nil) (fun x hx=>Nat.zero_lt_one) g_z156
end Go.Gv
