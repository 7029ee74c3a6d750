/- Chapter 17: the reference: a circuit's reasons. -/
import Derived.Test.YtoangeemlcbjlaaGreatDoorR17b
import Derived.Test.YtoangeemlcbjlaaGreatDoorQ17f
import Derived.Test.YtoangeemlcbjlaaGreatDoorC17e
set_option linter.all false
namespace Go.Gv
open Go Go.Proofs Go.Proofs.YtoangeemlcbjlaaGreatDoor
set_option maxRecDepth 100000
set_option maxHeartbeats 4000000
theorem varR_bs {gs:List Gate} {h:List Bool} {g:Gate} (hg:g∈gs) (h2:g.1=2):BS gs (varR h g.2.1):=by
 unfold varR
 split
 · exact BS.empty gs
 · exact ⟨fun s hs=>by rw [List.mem_singleton.1 hs];exact ⟨inc_one _,fun x hx=>by rw [List.mem_singleton.1 hx];exact varW_mem.2 ⟨g,hg,h2,rfl⟩⟩,by simp⟩
theorem gateR_bs {gs:List Gate} {h:List Bool} {all:List (List Is)} {g:Gate} (hl:gs.length≤16) (hg:g∈gs) (hok:∀ m,BS gs (all.getD m [])):BS gs (gateR h all g):=by
 by_cases q1:g.1=1
 · rw [gateR_1 q1];exact BS.empty gs
 by_cases q2:g.1=2
 · unfold gateR;rw [if_neg q1,if_pos q2];exact varR_bs hg q2
 by_cases q3:g.1=3
 · rw [gateR_3 q1 q2 q3];exact BE.mins (flatK_be hok _) hl
 by_cases q4:g.1=4
 · rw [gateR_4 q1 q2 q3 q4];exact timesK_bs hl hok _ (Nat.le_refl _)
 rw [gateR_0 q1 q2 q3 q4];exact BS.nil gs
@[reducible] noncomputable def S_z78:Spec:={ ins:=(.cons (.d tCirc) (.cons (.d tInt) (.cons (.d (.sl .bool)) .nil))),pre:=(fun x=>(fun c i h=>FewR c.1) x.1 x.2.1 x.2.2.1),alts:=[{ outs:=(.cons (.d (.sl tIs)) (.cons (.d tInt) .nil)),res:=(fun x=>(fun c i h=>((whyR h c.1 i).1,(whyR h c.1 i).2,())) x.1 x.2.1 x.2.2.1)}],noisy:=true}
noncomputable def c_z78:Cf:={ cf_z78 (Fl [(fi_z66,S_z66),(fi_z65,S_z65),(fi_z80,S_z80)]) with nz:=true}
theorem g_z78:∀ x,S_z78.pre x→shOK S_z78.ins x→fnGoal c_z78 fn_z78 S_z78 x:=by
 rintro ⟨⟨gs,⟨⟩⟩,(i:Int),(h:List Bool),⟨⟩⟩ hpre hok
 try dsimp only [Dat,SDat,dflt,Ty.size,keepS,bkUpd,Gv.bk,backS,wayA,maxI,minI,negI] at hpre
 have hln:=shLn_of _ hok;replace hok:=Hd.mk hok;try simp only [shLn,datLn,inRng,lo,hi,maxLen,true_and,and_true] at hln
 have hF:FewR gs:=hpre
 clear hpre
 have hg9:=hF.1
 have hsm:=hF.small
 have hno:((¬ ValidC gs∨i<0)∨(gs.length:Int)≤i)→whyR h gs i=([],1):=fun q=>whyR_bad fun g=>by
  have h1:=g.lo
  have h2:=g.hi
  rcases q with (q|q)|q
  · exact q g.v
  · omega
  · omega
 have hok:¬ ((¬ ValidC gs∨i<0)∨(gs.length:Int)≤i)→GoodI gs i:=fun q=>⟨by omega,by omega,Classical.byContradiction fun z=>q (.inl (.inl z))⟩
 first|refine fn_goal (w_head ?_)
 intro Kz kz;(conv=>whnf);(try dsimp+instances only);refine kz _ ?_;clear kz Kz;(conv=>(arg 2;whnf))
 repeat' (first|refine an ?_ ?_|((try refine gm ?_);first|((with_reducible show Kz _);(try dsimp+instances only);(with_reducible refine kz _ ?_);clear kz Kz)|refine st ?_|(refine sr ?_;intro Kz kz;conv=>whnf)|(refine cd ?_;(conv=>arg 2;whnf);refine st ?_)|refine blockK_y (by rfl) ?_|(refine sw ?_;conv=>whnf))|(refine gm ?_;conv=>whnf)|(intro hc;(try dsimp+instances only[Dat,SDat,dflt,Ty.size,keepS,bkUpd,Gv.bk,backS,wayA,maxI,minI,negI]at hc);try simp only[LS]at hc))
 all_goals (try ((fail_if_success refine nl ?_);(try dsimp only[Dat,SDat,dflt,Ty.size,keepS,bkUpd,Gv.bk,backS,wayA,maxI,minI,negI]);(try simp only[LS]);first|done|exact dsc|((try simp only[allP,lo,hi,room,true_and,and_true,implies_true]);(repeat' (first|refine an ?_ ?_|((with_reducible refine preA_t ?_ ?_);rotate_left;exact sameP_t)|intro hv))<;>(try omega))))
 all_goals (try ((fail_if_success refine nl ?_);(first|exact (congrArg Prod.fst (hno (by assumption))).symm|exact (congrArg Prod.snd (hno (by assumption))).symm|exact hok (by assumption)|exact hsm _ (by assumption))))
 have hg:GoodI gs i:=hok (by assumption)
 obtain ⟨n,rfl⟩:∃ n:Nat,i=(n:Int):=⟨i.toNat,(Int.toNat_of_nonneg hg.lo).symm⟩
 have hn:n<gs.length:=by have:=hg.hi;omega
 have hV:=hg.v
 have hrl:=reachB_len gs (n:Int)
 refine w_loop [(9, .row (.sl tIs)),(10, .d tInt)] [] (fun y=>∃ k:Nat,y.1.2.1=(k:Int)∧EvF (geR h) (BS gs) gs n k y.1.1) (fun y=>n+1 - y.1.2.1.toNat) ?_
 conv=>whnf
 refine And.intro ?_ ?_
 · exact ⟨0,rfl,EvF.start (BS.nil gs)⟩
 rintro ⟨⟨all,_,⟨⟩⟩,⟨⟩⟩ ⟨k,rfl,hA⟩
 have hA:EvF (geR h) (BS gs) gs n k (all:List (List Is)):=hA
 have hle:=hA.le
 have hln:List.length (all:List (List Is))=n+1:=hA.ln
 have hkl:(k:Int)≤(n:Int)→k<gs.length:=fun h=>by omega
 have hpg:=fun (h9:(k:Int)≤(n:Int))=>show ∃ gs',GPre gs' ((List.getD gs k ((0,0,[],()):Gate))) (all:List (List Is)) from ⟨gs,hg9,hF.2 _ (getD_mem (d:=((0,0,[],()):Gate)) (hkl h9)),fun j hj=>by
  have:=kid_in hV (hkl h9) hj
  rw [hln]
  omega,hA.qs⟩
 have hbs:=fun (h9:(k:Int)≤(n:Int))=>gateR_bs (h:=h) hg9 (getD_mem (d:=((0,0,[],()):Gate)) (hkl h9)) hA.qs
 have hsk:=fun (h9:(k:Int)≤(n:Int)) (q:(reachB gs (n:Int)).getD k false=false)=>show ∃ k':Nat,(k:Int)+1=(k':Int)∧EvF (geR h) (BS gs) gs n k' all from ⟨k+1,rfl,hA.skip (Int.ofNat_le.1 h9) (fun r=>by
  have:=(reachB_at (i:=(n:Int)) (hkl h9)).2 r
  rw [q] at this
  cases this)⟩
 have hrc:=fun (h9:(k:Int)≤(n:Int)) (q:(reachB gs (n:Int)).getD k false=true)=>show Rch gs n k from (reachB_at (i:=(n:Int)) (hkl h9)).1 q
 have hse:=fun (h9:(k:Int)≤(n:Int))=>show (List.set (all:List (List Is)) k (gateR h all ((List.getD gs k ((0,0,[],()):Gate))))).getD k []=gateR h all ((List.getD gs k ((0,0,[],()):Gate))) from by rw [getD_set (by omega),if_pos rfl]
 have hst:=fun (h9:(k:Int)≤(n:Int)) (q:(reachB gs (n:Int)).getD k false=true) (q4:(400:Int)<(List.length ((List.set (all:List (List Is)) k (gateR h all ((List.getD gs k ((0,0,[],()):Gate))))).getD k []):Int))=>show whyR h gs (n:Int)=([],3) from by
  rw [hse h9] at q4
  have e:(geR h).G (all:List (List Is)) ((List.getD gs k ((0,0,[],()):Gate)))=(gateR h all ((List.getD gs k ((0,0,[],()):Gate))),3):=congrArg (fun z=>(gateR h all ((List.getD gs k ((0,0,[],()):Gate))),z)) (if_pos q4)
  have:=hA.stop hg (Int.ofNat_le.1 h9) (hrc h9 q) (by rw [e];exact (show ¬ (3:Int)=0 by omega))
  rw [e] at this
  exact this
 have hnx:=fun (h9:(k:Int)≤(n:Int)) (q:(reachB gs (n:Int)).getD k false=true) (q4:¬ (400:Int)<(List.length ((List.set (all:List (List Is)) k (gateR h all ((List.getD gs k ((0,0,[],()):Gate))))).getD k []):Int))=>show ∃ k':Nat,(k:Int)+1=(k':Int)∧EvF (geR h) (BS gs) gs n k' (List.set all k (gateR h all ((List.getD gs k ((0,0,[],()):Gate))))) from ⟨k+1,rfl,hA.step (Int.ofNat_le.1 h9) (hrc h9 q) (show (geR h).G (all:List (List Is)) ((List.getD gs k ((0,0,[],()):Gate)))=(gateR h all ((List.getD gs k ((0,0,[],()):Gate))),0) from congrArg (fun z=>(gateR h all ((List.getD gs k ((0,0,[],()):Gate))),z)) (if_neg (by rw [hse h9] at q4;exact q4))) (hbs h9)⟩
 have hfn:=fun (h9:¬ (k:Int)≤(n:Int))=>show whyR h gs (n:Int)=(List.getD (all:List (List Is)) n [],0) from hA.fin hg h9
 repeat' (first|refine an ?_ ?_|((try refine gm ?_);first|((with_reducible show Kz _);(try dsimp+instances only);(with_reducible refine kz _ ?_);clear kz Kz)|refine st ?_|(refine sr ?_;intro Kz kz;conv=>whnf)|(refine cd ?_;(conv=>arg 2;whnf);refine st ?_)|refine blockK_y (by rfl) ?_|(refine sw ?_;conv=>whnf))|(refine gm ?_;conv=>whnf)|(intro hc;(try dsimp+instances only[Dat,SDat,dflt,Ty.size,keepS,bkUpd,Gv.bk,backS,wayA,maxI,minI,negI]at hc);try simp only[LS]at hc))
 all_goals (try ((fail_if_success refine nl ?_);(try dsimp only[Dat,SDat,dflt,Ty.size,keepS,bkUpd,Gv.bk,backS,wayA,maxI,minI,negI]);(try simp only[LS]);first|done|exact dsc|((try simp only[allP,lo,hi,room,true_and,and_true,implies_true]);(repeat' (first|refine an ?_ ?_|((with_reducible refine preA_t ?_ ?_);rotate_left;exact sameP_t)|intro hv))<;>(try omega))))
 all_goals (first
  |exact hpg (by assumption)
  |exact hsk (by assumption) (by assumption)
  |exact hnx (by assumption) (by assumption) (by assumption)
  |exact (congrArg Prod.fst (hst (by assumption) (by assumption) (by assumption))).symm
  |exact (congrArg Prod.snd (hst (by assumption) (by assumption) (by assumption))).symm
  |exact (congrArg Prod.fst (hfn (by assumption))).symm
  |exact (congrArg Prod.snd (hfn (by assumption))).symm)
theorem ok_z78:SpecOK SP glob fi_z78 S_z78:=mk_ok (c:=c_z78) (tab_ok _) mix_ok wf_z78 (by decide) (.cons ok_z66 (.cons ok_z65 (.cons ok_z80 .nil))) (fun x hx=>Nat.zero_lt_one) g_z78
@[reducible] noncomputable def S_z77:Spec:={ ins:=(.cons (.d tCirc) (.cons (.d tInt) .nil)),pre:=(fun x=>(fun c i=>FewR c.1) x.1 x.2.1),alts:=[{ outs:=(.cons (.d (.sl tIs)) (.cons (.d tInt) .nil)),res:=(fun x=>(fun c i=>((whyR [] c.1 i).1,(whyR [] c.1 i).2,())) x.1 x.2.1)}],noisy:=true}
noncomputable def c_z77:Cf:={ cf_z77 (Fl [(fi_z78,S_z78)]) with nz:=true}
theorem g_z77:∀ x,S_z77.pre x→shOK S_z77.ins x→fnGoal c_z77 fn_z77 S_z77 x:=by
 rintro ⟨⟨gs,⟨⟩⟩,(i:Int),⟨⟩⟩ hpre hok
 try dsimp only [Dat,SDat,dflt,Ty.size,keepS,bkUpd,Gv.bk,backS,wayA,maxI,minI,negI] at hpre
 have hln:=shLn_of _ hok;replace hok:=Hd.mk hok;try simp only [shLn,datLn,inRng,lo,hi,maxLen,true_and,and_true] at hln
 first|refine fn_goal (w_head ?_)
 intro Kz kz;(conv=>whnf);(try dsimp+instances only);refine kz _ ?_;clear kz Kz;(conv=>(arg 2;whnf))
 repeat' (first|refine an ?_ ?_|((try refine gm ?_);first|((with_reducible show Kz _);(try dsimp+instances only);(with_reducible refine kz _ ?_);clear kz Kz)|refine st ?_|(refine sr ?_;intro Kz kz;conv=>whnf)|(refine cd ?_;(conv=>arg 2;whnf);refine st ?_)|refine blockK_y (by rfl) ?_|(refine sw ?_;conv=>whnf))|(refine gm ?_;conv=>whnf)|(intro hc;(try dsimp+instances only[Dat,SDat,dflt,Ty.size,keepS,bkUpd,Gv.bk,backS,wayA,maxI,minI,negI]at hc);try simp only[LS]at hc))
 all_goals (try ((fail_if_success refine nl ?_);(try dsimp only[Dat,SDat,dflt,Ty.size,keepS,bkUpd,Gv.bk,backS,wayA,maxI,minI,negI]);(try simp only[LS]);first|done|exact dsc|((try simp only[allP,lo,hi,room,true_and,and_true,implies_true]);(repeat' (first|refine an ?_ ?_|((with_reducible refine preA_t ?_ ?_);rotate_left;exact sameP_t)|intro hv))<;>(try omega))))
theorem ok_z77:SpecOK SP glob fi_z77 S_z77:=mk_ok (c:=c_z77) (tab_ok _) mix_ok wf_z77 (by decide) (.cons ok_z78 .nil) (fun x hx=>Nat.zero_lt_one) g_z77
end Go.Gv
