/- Chapter 17: the program: the reasons. -/
import Derived.Test.YtoangeemlcbjlaaGreatDoorC17c
import Derived.Test.YtoangeemlcbjlaaGreatDoorC17e
set_option linter.all false
namespace Go.Gv
open Go Go.Proofs Go.Proofs.YtoangeemlcbjlaaGreatDoor
set_option maxRecDepth 100000
set_option maxHeartbeats 4000000
noncomputable def k16:Nat:=Classical.choose (⟨16,rfl⟩:∃ n:Nat,n=16)
theorem k16_eq:k16=16:=Classical.choose_spec (⟨16,rfl⟩:∃ n:Nat,n=16)
theorem FewR.pre {gs:List Gate} (h:FewR gs) {i:Int} (hg:GoodI gs i):WPre gs k16 [] [[]] i:=⟨hg.lo,by have:=hg.hi;have:=h.1;rw [k16_eq];omega,hg.hi,hg.v,h.1,h.2,rfl,fun j l hl=>by cases hl⟩
@[reducible] noncomputable def S_why16:Spec:=S_z53 k16
theorem ok_why16:SpecOK SP glob fi_z53 S_why16:=ok_z53 k16
set_option maxHeartbeats 40000000
attribute [local irreducible] whyF
@[reducible] noncomputable def S_z52:Spec:={ ins:=(.cons (.d tCirc) (.cons (.d tInt) (.cons (.d (.sl .bool)) .nil))),pre:=(fun x=>(fun c i h=>FewR c.1) x.1 x.2.1 x.2.2.1),alts:=[{ outs:=(.cons (.row tIs) (.cons (.d tInt) .nil)),res:=(fun x=>(fun c i h=>((whyR h c.1 i).1,(whyR h c.1 i).2,())) x.1 x.2.1 x.2.2.1)}]}
noncomputable def c_z52:Cf:={ cf_z52 (Fl [(fi_z5,S_z5),(fi_z53,S_why16),(fi_z85,S_z85)]) with E:={ (cf_z52 (Fl [(fi_z5,S_z5),(fi_z53,S_why16),(fi_z85,S_z85)])).E with imm:=[]}}
theorem g_z52:∀ x,S_z52.pre x→shOK S_z52.ins x→fnGoal c_z52 fn_z52 S_z52 x:=by
 rintro ⟨⟨gs,⟨⟩⟩,(i:Int),(h:List Bool),⟨⟩⟩ hpre hok
 try dsimp only [Dat,SDat,dflt,Ty.size,keepS,bkUpd,Gv.bk,backS,wayA,maxI,minI,negI] at hpre
 have hln:=shLn_of _ hok;replace hok:=Hd.mk hok;try simp only [shLn,datLn,inRng,lo,hi,maxLen,true_and,and_true] at hln
 have hF:FewR gs:=hpre
 clear hpre
 have hg9:=hF.1
 have hsm:=hF.small
 have hno:((¬ ValidC gs∨i<0)∨(gs.length:Int)≤i)→whyR h gs i=([],1):=fun q=>whyR_bad fun g=>by
  have h1:=g.lo
  have h2:=g.hi
  rcases q with (q|q)|q
  · exact q g.v
  · omega
  · omega
 have hok:¬ ((¬ ValidC gs∨i<0)∨(gs.length:Int)≤i)→GoodI gs i:=fun q=>⟨by omega,by omega,Classical.byContradiction fun z=>q (.inl (.inl z))⟩
 have hk0:0<k16:=by rw [k16_eq];decide
 have hgood:=fun (g:GoodI gs i)=>whyF_is (h:=h) (n:=k16) g (by have:=g.hi;rw [k16_eq];omega)
 have hlen:=(whyF_bs (h:=h) hg9 k16 [] false i (fun j l hl=>by cases hl)).1.2
 have hyes:¬ ((¬ ValidC gs∨i<0)∨(gs.length:Int)≤i)→(whyF h gs k16 [] false i).2.2=true→whyR h gs i=([],3):=fun q b=>by rw [hgood (hok q),if_pos b]
 have hnot:¬ ((¬ ValidC gs∨i<0)∨(gs.length:Int)≤i)→(whyF h gs k16 [] false i).2.2=false→whyR h gs i=((whyF h gs k16 [] false i).1,0):=fun q b=>by rw [hgood (hok q),if_neg (by rw [b];decide)]
 have hpre9:¬ ((¬ ValidC gs∨i<0)∨(gs.length:Int)≤i)→WPre gs k16 [] [List.replicate 0 0] i:=fun q=>hF.pre (hok q)
 clear hgood
 first|refine fn_goal (w_head ?_)
 intro Kz kz;(conv=>whnf);(try dsimp+instances only);refine kz _ ?_;clear kz Kz;(conv=>(arg 2;whnf))
 repeat' (first|(with_reducible first|refine an ?_ ?_|((try refine gm ?_);refine st ?_))|((try (with_reducible refine gm ?_));first|((with_reducible show Kz _);(try dsimp+instances only);(with_reducible refine kz _ ?_);clear kz Kz)|((with_reducible refine sr ?_);intro Kz kz;conv=>whnf)|((with_reducible refine cd ?_);(conv=>arg 2;whnf);(with_reducible refine st ?_))|refine blockK_y (by rfl) ?_|((with_reducible refine sw ?_);conv=>whnf))|((with_reducible refine gm ?_);conv=>whnf)|(intro hc;(try dsimp+instances only[Dat,SDat,dflt,Ty.size,keepS,bkUpd,Gv.bk,backS,wayA,maxI,minI,negI]at hc);try simp only[LS]at hc))
 all_goals (try ((fail_if_success (with_reducible refine nl ?_));(try dsimp only[Dat,SDat,dflt,Ty.size,keepS,bkUpd,Gv.bk,backS,wayA,maxI,minI,negI]);(try simp only[LS]);first|done|exact dsc|((try simp only[allP,lo,hi,room,true_and,and_true,implies_true]);(repeat' (first|refine an ?_ ?_|((with_reducible refine preA_t ?_ ?_);rotate_left;exact sameP_t)|intro hv))<;>(try omega))))
 all_goals (first
  |exact hk0
  |exact hsm _ (by assumption)
  |with_reducible exact hpre9 (by assumption)
  |with_reducible exact hlen
  |(rw [hno (by with_reducible assumption)];done)
  |(rw [hyes (by with_reducible assumption) (by with_reducible assumption)];done)
  |(rw [hnot (by with_reducible assumption) (by with_reducible assumption)];done))
theorem ok_z52:SpecOK SP glob fi_z52 S_z52:=mk_ok (c:=c_z52) (tab_ok _) mix_ok wf_z52 (by decide) (.cons ok_z5 (.cons ok_why16 (.cons ok_z85 .nil))) (fun x hx=>Nat.zero_lt_one) g_z52
@[reducible] noncomputable def S_z51:Spec:={ ins:=(.cons (.d tCirc) (.cons (.d tInt) .nil)),pre:=(fun x=>(fun c i=>FewR c.1) x.1 x.2.1),alts:=[{ outs:=(.cons (.row tIs) (.cons (.d tInt) .nil)),res:=(fun x=>(fun c i=>((whyR [] c.1 i).1,(whyR [] c.1 i).2,())) x.1 x.2.1)}]}
noncomputable def c_z51:Cf:=(cf_z51 (Fl [(fi_z52,S_z52)]))
theorem g_z51:∀ x,S_z51.pre x→shOK S_z51.ins x→fnGoal c_z51 fn_z51 S_z51 x:=by
 rintro ⟨⟨gs,⟨⟩⟩,(i:Int),⟨⟩⟩ hpre hok
 try dsimp only [Dat,SDat,dflt,Ty.size,keepS,bkUpd,Gv.bk,backS,wayA,maxI,minI,negI] at hpre
 have hln:=shLn_of _ hok;replace hok:=Hd.mk hok;try simp only [shLn,datLn,inRng,lo,hi,maxLen,true_and,and_true] at hln
 first|refine fn_goal (w_head ?_)
 intro Kz kz;(conv=>whnf);(try dsimp+instances only);refine kz _ ?_;clear kz Kz;(conv=>(arg 2;whnf))
 repeat' (first|(with_reducible first|refine an ?_ ?_|((try refine gm ?_);refine st ?_))|((try (with_reducible refine gm ?_));first|((with_reducible show Kz _);(try dsimp+instances only);(with_reducible refine kz _ ?_);clear kz Kz)|((with_reducible refine sr ?_);intro Kz kz;conv=>whnf)|((with_reducible refine cd ?_);(conv=>arg 2;whnf);(with_reducible refine st ?_))|refine blockK_y (by rfl) ?_|((with_reducible refine sw ?_);conv=>whnf))|((with_reducible refine gm ?_);conv=>whnf)|(intro hc;(try dsimp+instances only[Dat,SDat,dflt,Ty.size,keepS,bkUpd,Gv.bk,backS,wayA,maxI,minI,negI]at hc);try simp only[LS]at hc))
 all_goals (try ((fail_if_success (with_reducible refine nl ?_));(try dsimp only[Dat,SDat,dflt,Ty.size,keepS,bkUpd,Gv.bk,backS,wayA,maxI,minI,negI]);(try simp only[LS]);first|done|exact dsc|((try simp only[allP,lo,hi,room,true_and,and_true,implies_true]);(repeat' (first|refine an ?_ ?_|((with_reducible refine preA_t ?_ ?_);rotate_left;exact sameP_t)|intro hv))<;>(try omega))))
theorem ok_z51:SpecOK SP glob fi_z51 S_z51:=mk_ok (c:=c_z51) (tab_ok _) mix_ok wf_z51 (by decide) (.cons ok_z52 .nil) (fun x hx=>Nat.zero_lt_one) g_z51
end Go.Gv
