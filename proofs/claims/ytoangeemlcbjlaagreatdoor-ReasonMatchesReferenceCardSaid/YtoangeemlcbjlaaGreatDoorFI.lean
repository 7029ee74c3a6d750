/- Where a list's elements are found; comparisons of numbers. -/
import Derived.Test.YtoangeemlcbjlaaGreatDoorB0
set_option linter.all false
namespace Go.Gv
open Go Go.Proofs Go.Proofs.YtoangeemlcbjlaaGreatDoor
set_option maxRecDepth 100000
set_option maxHeartbeats 4000000
noncomputable def findI {α:Type} (p:α→Bool) (l:List α):Int:=if l.any p=true then (l.findIdx p:Int) else -1
theorem findI_ge {α:Type} {p:α→Bool} {l:List α}:0≤findI p l↔l.any p=true:=by
 unfold findI;split<;>simp_all<;>omega
theorem findI_miss {α:Type} {p:α→Bool} {l:List α} {k:Nat} (h:∀ x∈l.take k,p x=false) (hk:l.length≤k):findI p l= -1:=by
 have:=all_end h hk
 unfold findI
 rw [if_neg]
 rw [List.any_eq_true]
 rintro ⟨x,hx,hp⟩
 rw [this x hx] at hp;cases hp
theorem findI_hit {α:Type} {p:α→Bool} {l:List α} {k:Nat} {d:α} (h:∀ x∈l.take k,p x=false) (hk:k<l.length) (hp:p (List.getD l k d)=true):findI p l=k:=by
 have hm:=getD_mem (d:=d) hk
 unfold findI
 rw [if_pos (List.any_eq_true.2 ⟨_,hm,hp⟩)]
 congr 1
 rw [getD_ok d hk] at hp
 refine (List.findIdx_eq hk).2 ⟨hp,fun j hj=>?_⟩
 refine Bool.eq_false_iff.1 (h _ ?_)|>fun e=>by simpa using e
 rw [List.mem_take_iff_getElem]
 exact ⟨j,by omega,rfl⟩
@[reducible] noncomputable def S_z19:Spec:={ ins:=(.cons (.d tInt) .nil),pre:=fun _=>True,alts:=[{ outs:=(.cons (.d .bool) .nil),res:=(fun x=>(fun x=>(false,())) x.1)}]}
noncomputable def c_z19:Cf:=(cf_z19 (Fl []))
theorem g_z19:∀ x,S_z19.pre x→shOK S_z19.ins x→fnGoal c_z19 fn_z19 S_z19 x:=by
 rintro ⟨x,⟨⟩⟩ hpre hok
 clear hpre
 have hln:=shLn_of _ hok;replace hok:=Hd.mk hok;try simp only [shLn,datLn,inRng,lo,hi,maxLen,true_and,and_true] at hln
 first|refine fn_goal (w_head ?_)
 intro Kz kz;(conv=>whnf);(try dsimp+instances only);refine kz _ ?_;clear kz Kz;(conv=>(arg 2;whnf))
 repeat' (first|refine an ?_ ?_|((try refine gm ?_);first|((with_reducible show Kz _);(try dsimp+instances only);(with_reducible refine kz _ ?_);clear kz Kz)|refine st ?_|(refine sr ?_;intro Kz kz;conv=>whnf)|(refine cd ?_;(conv=>arg 2;whnf);refine st ?_)|refine blockK_y (by rfl) ?_|(refine sw ?_;conv=>whnf))|(refine gm ?_;conv=>whnf)|(intro hc;(try dsimp+instances only[Dat,SDat,dflt,Ty.size,keepS,bkUpd,Gv.bk,backS,wayA,maxI,minI,negI]at hc);try simp only[LS]at hc))
 all_goals (try ((fail_if_success refine nl ?_);(try dsimp only[Dat,SDat,dflt,Ty.size,keepS,bkUpd,Gv.bk,backS,wayA,maxI,minI,negI]);(try simp only[LS]);first|done|exact dsc|((try simp only[allP,lo,hi,room,true_and,and_true,implies_true]);(repeat' (first|refine an ?_ ?_|((with_reducible refine preA_t ?_ ?_);rotate_left;exact sameP_t)|intro hv))<;>(try omega))))
theorem ok_z19:SpecOK SP glob fi_z19 S_z19:=mk_ok (c:=c_z19) (tab_ok _) mix_ok wf_z19 (by decide) .nil (fun x hx=>Nat.zero_lt_one) g_z19
def cmpI (a b:Int):Int:=if a<b then -1 else if b<a then 1 else 0
@[reducible] noncomputable def S_z16:Spec:={ ins:=(.cons (.d tInt) (.cons (.d tInt) .nil)),pre:=fun _=>True,alts:=[{ outs:=(.cons (.d tInt) .nil),res:=(fun x=>(fun x y=>(cmpI x y,())) x.1 x.2.1)}]}
noncomputable def c_z16:Cf:=(cf_z16 (Fl [(fi_z19,S_z19)]))
theorem g_z16:∀ x,S_z16.pre x→shOK S_z16.ins x→fnGoal c_z16 fn_z16 S_z16 x:=by
 rintro ⟨x,y,⟨⟩⟩ hpre hok
 clear hpre
 have hln:=shLn_of _ hok;replace hok:=Hd.mk hok;try simp only [shLn,datLn,inRng,lo,hi,maxLen,true_and,and_true] at hln
 first|refine fn_goal (w_head ?_)
 intro Kz kz;(conv=>whnf);(try dsimp+instances only);refine kz _ ?_;clear kz Kz;(conv=>(arg 2;whnf))
 repeat' (first|refine an ?_ ?_|((try refine gm ?_);first|((with_reducible show Kz _);(try dsimp+instances only);(with_reducible refine kz _ ?_);clear kz Kz)|refine st ?_|(refine sr ?_;intro Kz kz;conv=>whnf)|(refine cd ?_;(conv=>arg 2;whnf);refine st ?_)|refine blockK_y (by rfl) ?_|(refine sw ?_;conv=>whnf))|(refine gm ?_;conv=>whnf)|(intro hc;(try dsimp+instances only[Dat,SDat,dflt,Ty.size,keepS,bkUpd,Gv.bk,backS,wayA,maxI,minI,negI]at hc);try simp only[LS]at hc))
 all_goals (try ((fail_if_success refine nl ?_);(try dsimp only[Dat,SDat,dflt,Ty.size,keepS,bkUpd,Gv.bk,backS,wayA,maxI,minI,negI]);(try simp only[LS]);first|done|exact dsc|((try simp only[allP,lo,hi,room,true_and,and_true,implies_true]);(repeat' (first|refine an ?_ ?_|((with_reducible refine preA_t ?_ ?_);rotate_left;exact sameP_t)|intro hv))<;>(try omega))))
 all_goals (unfold cmpI;first|(exfalso;simp at *;done)|(split<;>first|rfl|omega|(split<;>first|rfl|omega)))
theorem ok_z16:SpecOK SP glob fi_z16 S_z16:=mk_ok (c:=c_z16) (tab_ok _) mix_ok wf_z16 (by decide) (.cons ok_z19 .nil) (fun x hx=>Nat.zero_lt_one) g_z16
def orL:List Int→Int
 |[]=>0
 |x::l=>if x=0 then orL l else x
theorem orL_drop:∀ {k:Nat} {l:List Int},(∀ x∈l.take k,x=0)→orL l=orL (l.drop k)
 |0,_,_=>rfl
 |k+1,[],_=>rfl
 |k+1,x::l,h=>by
  have h1:=h x (by simp)
  simp only [orL,h1,if_true,List.drop_succ_cons]
  exact orL_drop fun y hy=>h y (by simp [hy])
@[reducible] noncomputable def S_z18:Spec:={ ins:=(.cons (.d (.sl tInt)) .nil),pre:=fun _=>True,alts:=[{ outs:=(.cons (.d tInt) .nil),res:=(fun x=>(fun l=>(orL l,())) x.1)}]}
noncomputable def c_z18:Cf:=(cf_z18 (Fl []))
theorem g_z18:∀ x,S_z18.pre x→shOK S_z18.ins x→fnGoal c_z18 fn_z18 S_z18 x:=by
 rintro ⟨l,⟨⟩⟩ hpre hok
 clear hpre
 have hln:=shLn_of _ hok;replace hok:=Hd.mk hok;try simp only [shLn,datLn,inRng,lo,hi,maxLen,true_and,and_true] at hln
 first|refine fn_goal (w_head ?_)
 intro Kz kz;(conv=>whnf);(try dsimp+instances only);refine kz _ ?_;clear kz Kz;(conv=>(arg 2;whnf))
 repeat' (first|refine an ?_ ?_|((try refine gm ?_);first|((with_reducible show Kz _);(try dsimp+instances only);(with_reducible refine kz _ ?_);clear kz Kz)|refine st ?_|(refine sr ?_;intro Kz kz;conv=>whnf)|(refine cd ?_;(conv=>arg 2;whnf);refine st ?_)|refine blockK_y (by rfl) ?_|(refine sw ?_;conv=>whnf))|(refine gm ?_;conv=>whnf)|(intro hc;(try dsimp+instances only[Dat,SDat,dflt,Ty.size,keepS,bkUpd,Gv.bk,backS,wayA,maxI,minI,negI]at hc);try simp only[LS]at hc))
 all_goals (try ((fail_if_success refine nl ?_);(try dsimp only[Dat,SDat,dflt,Ty.size,keepS,bkUpd,Gv.bk,backS,wayA,maxI,minI,negI]);(try simp only[LS]);first|done|exact dsc|((try simp only[allP,lo,hi,room,true_and,and_true,implies_true]);(repeat' (first|refine an ?_ ?_|((with_reducible refine preA_t ?_ ?_);rotate_left;exact sameP_t)|intro hv))<;>(try omega))))
 refine w_loop [(8, .d tInt)] [] (fun y=>∃ k:Nat,y.1.1=(k:Int)∧k≤l.length∧∀ x∈l.take k,x=0) (fun y=>l.length - y.1.1.toNat) ?_
 conv=>whnf
 refine And.intro ?_ ?_
 · exact ⟨0,by simp⟩
 rintro ⟨⟨_,⟨⟩⟩,⟨⟩⟩ ⟨k,rfl,hk,hj⟩
 repeat' (first|refine an ?_ ?_|((try refine gm ?_);first|((with_reducible show Kz _);(try dsimp+instances only);(with_reducible refine kz _ ?_);clear kz Kz)|refine st ?_|(refine sr ?_;intro Kz kz;conv=>whnf)|(refine cd ?_;(conv=>arg 2;whnf);refine st ?_)|refine blockK_y (by rfl) ?_|(refine sw ?_;conv=>whnf))|(refine gm ?_;conv=>whnf)|(intro hc;(try dsimp+instances only[Dat,SDat,dflt,Ty.size,keepS,bkUpd,Gv.bk,backS,wayA,maxI,minI,negI]at hc);try simp only[LS]at hc))
 all_goals (try ((fail_if_success refine nl ?_);(try dsimp only[Dat,SDat,dflt,Ty.size,keepS,bkUpd,Gv.bk,backS,wayA,maxI,minI,negI]);(try simp only[LS]);first|done|exact dsc|((try simp only[allP,lo,hi,room,true_and,and_true,implies_true]);(repeat' (first|refine an ?_ ?_|((with_reducible refine preA_t ?_ ?_);rotate_left;exact sameP_t)|intro hv))<;>(try omega))))
 · have h1:k<l.length:=by omega
   rw [getD_ok _ h1] at hc ⊢
   rw [orL_drop hj,List.drop_eq_getElem_cons h1]
   simp only [orL,hc,if_false]
 · exact ⟨k+1,by omega,by omega,all_step (d:=(0:Int)) hj (by omega) hc⟩
 · rw [orL_drop hj,List.drop_eq_nil_of_le (by omega)];rfl
theorem ok_z18:SpecOK SP glob fi_z18 S_z18:=mk_ok (c:=c_z18) (tab_ok _) mix_ok wf_z18 (by decide) .nil (fun x hx=>Nat.zero_lt_one) g_z18
end Go.Gv
