/- Chapter 16: the program: evaluate at polynomials; Poly, Holds and Cost. -/
import Derived.Test.YtibnojoffhlekaaGreatDoorC16d
import Derived.Test.YtibnojoffhlekaaGreatDoorC15l
import Derived.Test.YtibnojoffhlekaaGreatDoorP16g
set_option linter.all false
namespace Go.Gv
open Go Go.Proofs Go.Proofs.YtibnojoffhlekaaGreatDoor
set_option maxRecDepth 100000
set_option maxHeartbeats 4000000
@[reducible] noncomputable def S_z11:Spec:={ ins:=(.cons (.d tGate) .nil),pre:=(fun x=>(fun g=> -1000000000≤g.1∧g.1≤1000000000) x.1),alts:=[{ outs:=(.cons (.d tPoly) (.cons (.d tInt) .nil)),res:=(fun x=>(fun g=>((leafP g.1 g.2.1).1,(leafP g.1 g.2.1).2,())) x.1)}]}
noncomputable def c_z11:Cf:=(cf_z11 (Fl [(fi_z67,S_z67),(fi_z62,S_z62)]))
theorem g_z11:∀ x,S_z11.pre x→shOK S_z11.ins x→fnGoal c_z11 fn_z11 S_z11 x:=by
 rintro ⟨⟨(gk:Int),(gv:Int),gkids,⟨⟩⟩,⟨⟩⟩ hpre hok
 try dsimp only [Dat,SDat,dflt,Ty.size,keepS,bkUpd,Gv.bk,backS,wayA,maxI,minI,negI] at hpre
 have hln:=shLn_of _ hok;replace hok:=Hd.mk hok;try simp only [shLn,datLn,inRng,lo,hi,maxLen,true_and,and_true] at hln
 obtain ⟨hp1,hp2⟩:=hpre
 have hp1: -1000000000≤gk:=hp1
 have hp2:gk≤1000000000:=hp2
 first|refine fn_goal (w_head ?_)
 intro Kz kz;(conv=>whnf);(try dsimp+instances only);refine kz _ ?_;clear kz Kz;(conv=>(arg 2;whnf))
 repeat' (first|refine an ?_ ?_|((try refine gm ?_);first|((with_reducible show Kz _);(try dsimp+instances only);(with_reducible refine kz _ ?_);clear kz Kz)|refine st ?_|(refine sr ?_;intro Kz kz;conv=>whnf)|(refine cd ?_;(conv=>arg 2;whnf);refine st ?_)|refine blockK_y (by rfl) ?_|(refine sw ?_;conv=>whnf))|(refine gm ?_;conv=>whnf)|(intro hc;(try dsimp+instances only[Dat,SDat,dflt,Ty.size,keepS,bkUpd,Gv.bk,backS,wayA,maxI,minI,negI]at hc);try simp only[LS]at hc))
 all_goals (try ((fail_if_success refine nl ?_);(try dsimp only[Dat,SDat,dflt,Ty.size,keepS,bkUpd,Gv.bk,backS,wayA,maxI,minI,negI]);(try simp only[LS]);first|done|exact dsc|((try simp only[allP,lo,hi,room,true_and,and_true,implies_true]);(repeat' (first|refine an ?_ ?_|((with_reducible refine preA_t ?_ ?_);rotate_left;exact sameP_t)|intro hv))<;>(try omega))))
 all_goals (unfold leafP;first|rw [if_pos hc]|rw [if_neg hc,Int.sub_zero])
theorem ok_z11:SpecOK SP glob fi_z11 S_z11:=mk_ok (c:=c_z11) (tab_ok _) mix_ok wf_z11 (by decide) (.cons ok_z67 (.cons ok_z62 .nil)) (fun x hx=>Nat.zero_lt_one) g_z11
@[reducible] noncomputable def S_ev_poly:Spec:={ ins:=(.cons (.d tCirc) (.cons (.d tInt) (.cons (.agg (.cons (.clos fi_z11 .nil) (.cons (.clos fi_z61 .nil) (.cons (.clos fi_z65 .nil) .nil)))) .nil))),pre:=(fun x=>(fun c i s=>SmallG c.1∧True) x.1 x.2.1 x.2.2.1),alts:=[{ outs:=(.cons (.d tPoly) (.cons (.d tInt) .nil)),res:=(fun x=>(fun c i s=>((evC (srP).ge c.1 i).1,(evC (srP).ge c.1 i).2,())) x.1 x.2.1 x.2.2.1)}],noisy:=true}
noncomputable def c_ev_poly:Cf:={ cf_z14 (Fl [(fi_z13,S_z13),(fi_z19,S_z19),(fi_z24,S_z24),(fi_z11,S_z11),(fi_z61,S_z61),(fi_z65,S_z65)]) with nz:=true,eat:=Eats SP,I:=Il [(fi_z25,S_z25)]}
theorem g_ev_poly:∀ x,S_ev_poly.pre x→shOK S_ev_poly.ins x→fnGoal c_ev_poly fn_z14 S_ev_poly x:=by
 rintro ⟨⟨gs,⟨⟩⟩,(i:Int),s,⟨⟩⟩ hpre hok
 try dsimp only [Dat,SDat,dflt,Ty.size,keepS,bkUpd,Gv.bk,backS,wayA,maxI,minI,negI] at hpre
 have hln:=shLn_of _ hok;replace hok:=Hd.mk hok;try simp only [shLn,datLn,inRng,lo,hi,maxLen,true_and,and_true] at hln
 obtain ⟨hsm,hpr⟩:=hpre
 first|refine fn_goal (w_head ?_)|refine fnL_goal (w_head ?_)|refine fnI_goal (w_head ?_)
 intro Kz kz;(conv=>whnf);(try dsimp+instances only);refine kz _ ?_;clear kz Kz;(conv=>(arg 2;whnf))
 repeat' (first|refine an ?_ ?_|((try refine gm ?_);first|((with_reducible show Kz _);(try dsimp+instances only);(with_reducible refine kz _ ?_);clear kz Kz)|refine st ?_|(refine sr ?_;intro Kz kz;conv=>whnf)|(refine cd ?_;(conv=>arg 2;whnf);refine st ?_)|refine blockK_y (by rfl) ?_|(refine sw ?_;conv=>whnf))|(refine gm ?_;conv=>whnf)|(intro hc;(try dsimp+instances only[Dat,SDat,dflt,Ty.size,keepS,bkUpd,Gv.bk,backS,wayA,maxI,minI,negI]at hc);try simp only[LS]at hc))
 all_goals (try ((fail_if_success refine nl ?_);(try dsimp only[Dat,SDat,dflt,Ty.size,keepS,bkUpd,Gv.bk,backS,wayA,maxI,minI,negI]);(try simp only[LS]);first|done|exact dsc|((try simp only[allP,lo,hi,room,true_and,and_true,implies_true]);(repeat' (first|refine an ?_ ?_|((with_reducible refine preA_t ?_ ?_);rotate_left;exact sameP_t)|intro hv))<;>(try omega))))
 all_goals (try ((fail_if_success refine nl ?_);(exact hsm _ (by assumption))))
 all_goals (try ((fail_if_success refine nl ?_);(first|exact (congrArg Prod.fst (ev_bad_ (S:=(srP).ge) hc)).symm|exact (congrArg Prod.snd (ev_bad_ (S:=(srP).ge) hc)).symm)))
 all_goals (try ((fail_if_success refine nl ?_);(have h1:=(good_of_ hc).hi;have h2:=(good_of_ hc).v.1;omega)))
 have hg:=good_of_ hc
 have hg0:=hg.lo
 have hg1:=hg.hi
 have hV:=hg.v
 have hmx:=hV.1
 refine w_rf S_z25 [(4, .cons (.row tPoly) .nil)] (fun l y=>EvR (srP).ge (fun _=>True) gs i l y.1.1) (by rfl) (by rfl) (by rfl) (by rfl) (by rfl) (by rfl) (by rfl) ?_ ?_
 rotate_left
 conv=>whnf
 refine And.intro ?_ (And.intro ?_ ?_)
 · exact EvR.start hg (trivial)
 · rintro ⟨k',g',⟨⟩⟩ r ⟨⟨row,⟨⟩⟩,⟨⟩⟩ hR
   have hR:EvR (srP).ge (fun _=>True) gs i ((k',g',())::r) row:=hR
   obtain ⟨k,rest,rfl,rfl,rfl,hkr,hrr,hE⟩:=hR.cons
   have hln9:List.length (row:List (Dat tPoly))=i.toNat+1:=hR.ln
   have hki:=(reachT_mem.1 hkr).1
   have hkl:k<gs.length:=by omega
   have hlf:=leaf_kind hV hkl
   have hkr9:k<List.length (row:List (Dat tPoly)):=Nat.lt_of_lt_of_eq (Nat.lt_succ_of_le hki) hln9.symm
   have hkv:=leaf_val hV hkl
   have h20:inner ((List.getD gs k ((0,0,[],()):Gate))).1→2≤((List.getD gs k ((0,0,[],()):Gate))).2.2.1.length:=(hV.2 k hkl).2.1
   have hk0:=kid0_rng hV hkl hkr9
   have hlast:=fun (h:¬ inner ((List.getD gs k ((0,0,[],()):Gate))).1) (e:((srP).leaf ((List.getD gs k ((0,0,[],()):Gate))).1 ((List.getD gs k ((0,0,[],()):Gate))).2.1).2=0) (q:(fun _=>True) ((srP).leaf ((List.getD gs k ((0,0,[],()):Gate))).1 ((List.getD gs k ((0,0,[],()):Gate))).2.1).1)=>EvR.next (S:=(srP).ge) (Q:=fun _=>True) hln9 hR.qs hkr9 hrr hE q (show gateS (srP) row ((List.getD gs k ((0,0,[],()):Gate)))=(((srP).leaf ((List.getD gs k ((0,0,[],()):Gate))).1 ((List.getD gs k ((0,0,[],()):Gate))).2.1).1,0) from (gateS_leaf h).trans (Prod.ext rfl e))
   have hstop:=fun (h:¬ inner ((List.getD gs k ((0,0,[],()):Gate))).1) (e:¬ ((srP).leaf ((List.getD gs k ((0,0,[],()):Gate))).1 ((List.getD gs k ((0,0,[],()):Gate))).2.1).2=0)=>show evC (srP).ge gs i=((srP).z,((srP).leaf ((List.getD gs k ((0,0,[],()):Gate))).1 ((List.getD gs k ((0,0,[],()):Gate))).2.1).2) from leaf_stop hg hE h e
   have hks:=hsm _ (getD_mem (d:=((0,0,[],()):Gate)) hkl)
   have hks1:KL ((List.getD gs k ((0,0,[],()):Gate)))≤1000000:=by rw [KL_eq,List.length_drop];omega
   repeat' (first|refine an ?_ ?_|((try refine gm ?_);first|((with_reducible show Kz _);(try dsimp+instances only);(with_reducible refine kz _ ?_);clear kz Kz)|refine st ?_|(refine sr ?_;intro Kz kz;conv=>whnf)|(refine cd ?_;(conv=>arg 2;whnf);refine st ?_)|refine blockK_y (by rfl) ?_|(refine sw ?_;conv=>whnf))|(refine gm ?_;conv=>whnf)|(intro hc;(try dsimp+instances only[Dat,SDat,dflt,Ty.size,keepS,bkUpd,Gv.bk,backS,wayA,maxI,minI,negI]at hc);try simp only[LS]at hc))
   all_goals (try ((fail_if_success refine nl ?_);(try dsimp only[Dat,SDat,dflt,Ty.size,keepS,bkUpd,Gv.bk,backS,wayA,maxI,minI,negI]);(try simp only[LS]);first|done|exact dsc|((try simp only[allP,lo,hi,room,true_and,and_true,implies_true]);(repeat' (first|refine an ?_ ?_|((with_reducible refine preA_t ?_ ?_);rotate_left;exact sameP_t)|intro hv))<;>(try omega))))
   all_goals (try ((fail_if_success refine nl ?_);(first|exact hkv (by assumption)|exact (kind_rg hV hkl (by assumption)).1|exact (kind_rg hV hkl (by assumption)).2|(have hin:=h20 (by assumption);omega)|exact (hk0 (by assumption)).1|exact (hk0 (by assumption)).2.1|exact (hk0 (by assumption)).2.2|exact hlast (by assumption) (by first|rfl|assumption) (trivial)|exact (congrArg Prod.fst (hstop (by assumption) (by assumption))).symm|exact (congrArg Prod.snd (hstop (by assumption) (by assumption))).symm)))
   · have hin:inner ((List.getD gs k ((0,0,[],()):Gate))).1:=by assumption
     have h2:=h20 hin
     have hop:(srP).op ((List.getD gs k ((0,0,[],()):Gate)))=(srP).times:=if_pos hc
     refine w_loop [(78, .d tInt)] [(4, .cons (.row tPoly) .nil)] (fun y=>∃ j:Nat,y.1.1=(j:Int)∧j≤KL ((List.getD gs k ((0,0,[],()):Gate)))∧EvK (srP) (fun _=>True) (row:List (Dat tPoly)) ((List.getD gs k ((0,0,[],()):Gate))) k j y.2.1.1) (fun y=>KL ((List.getD gs k ((0,0,[],()):Gate))) - y.1.1.toNat) ?_
     conv=>whnf
     refine And.intro ?_ ?_
     · exact ⟨0,rfl,Nat.zero_le _,EvK.start hkr9 hR.qs hin h2⟩
     rintro ⟨⟨_,⟨⟩⟩,⟨⟨row',⟨⟩⟩,⟨⟩⟩⟩ ⟨j,rfl,hj,hK⟩
     have hK:EvK (srP) (fun _=>True) (row:List (Dat tPoly)) ((List.getD gs k ((0,0,[],()):Gate))) k j row':=hK
     have hrl:List.length (row':List (Dat tPoly))=i.toNat+1:=hK.len.trans hln9
     have hkr8:k<List.length (row':List (Dat tPoly)):=Nat.lt_of_lt_of_eq hkr9 hK.len.symm
     have hd1:KL ((List.getD gs k ((0,0,[],()):Gate)))≤1000000:=hks1
     have hjk:=fun (h:(j:Int)<(KL ((List.getD gs k ((0,0,[],()):Gate))):Int))=>kid_rng hV hkl hkr8 h
     have hfin:=fun (h:¬ (j:Int)<(KL ((List.getD gs k ((0,0,[],()):Gate))):Int))=>EvR.kids hln9 hR.qs hkr9 hrr hE hK h
     have hmu:=fun (h:(j:Int)<(KL ((List.getD gs k ((0,0,[],()):Gate))):Int))=>show KL ((List.getD gs k ((0,0,[],()):Gate))) - ((j:Int)+1).toNat<KL ((List.getD gs k ((0,0,[],()):Gate))) - j by omega
     have hon:=fun (h:(j:Int)<(KL ((List.getD gs k ((0,0,[],()):Gate))):Int)) (e:((srP).times (List.getD row' k (srP).z) (List.getD row' (KD ((List.getD gs k ((0,0,[],()):Gate))) j).toNat (srP).z)).2=0)=>show ∃ j':Nat,(j:Int)+1=(j':Int)∧j'≤KL ((List.getD gs k ((0,0,[],()):Gate)))∧EvK (srP) (fun _=>True) (row:List (Dat tPoly)) ((List.getD gs k ((0,0,[],()):Gate))) k j' (List.set row' k ((srP).times (List.getD row' k (srP).z) (List.getD row' (KD ((List.getD gs k ((0,0,[],()):Gate))) j).toNat (srP).z)).1) from ⟨j+1,rfl,(hjk h).ln,hK.on hkr9 (hjk h) (trivial) (by rw [hop];exact Prod.ext rfl e)⟩
     have hoff:=fun (h:(j:Int)<(KL ((List.getD gs k ((0,0,[],()):Gate))):Int)) (e:¬ ((srP).times (List.getD row' k (srP).z) (List.getD row' (KD ((List.getD gs k ((0,0,[],()):Gate))) j).toNat (srP).z)).2=0)=>show evC (srP).ge gs i=((srP).z,((srP).times (List.getD row' k (srP).z) (List.getD row' (KD ((List.getD gs k ((0,0,[],()):Gate))) j).toNat (srP).z)).2) from by rw [← hop];exact ev_stopK hg hE hK hkr9 (hjk h) (by rw [hop];exact e)
     repeat' (first|refine an ?_ ?_|((try refine gm ?_);first|((with_reducible show Kz _);(try dsimp+instances only);(with_reducible refine kz _ ?_);clear kz Kz)|refine st ?_|(refine sr ?_;intro Kz kz;conv=>whnf)|(refine cd ?_;(conv=>arg 2;whnf);refine st ?_)|refine blockK_y (by rfl) ?_|(refine sw ?_;conv=>whnf))|(refine gm ?_;conv=>whnf)|(intro hc;(try dsimp+instances only[Dat,SDat,dflt,Ty.size,keepS,bkUpd,Gv.bk,backS,wayA,maxI,minI,negI]at hc);try simp only[LS]at hc))
     all_goals (try ((fail_if_success refine nl ?_);(try dsimp only[Dat,SDat,dflt,Ty.size,keepS,bkUpd,Gv.bk,backS,wayA,maxI,minI,negI]);(try simp only[LS]);first|done|exact dsc|((try simp only[allP,lo,hi,room,true_and,and_true,implies_true]);(repeat' (first|refine an ?_ ?_|((with_reducible refine preA_t ?_ ?_);rotate_left;exact sameP_t)|intro hv))<;>(try omega))))
     all_goals (try ((fail_if_success refine nl ?_);(first|exact (hjk (by assumption)).lo|exact (hjk (by assumption)).hi|exact (hjk (by assumption)).nt|exact hfin (by assumption)|exact hmu (by assumption)|exact hon (by assumption) (by first|rfl|assumption)|exact ⟨hK.qs _,hK.qs _⟩|exact hK.qs _|exact (congrArg Prod.fst (hoff (by assumption) (by assumption))).symm|exact (congrArg Prod.snd (hoff (by assumption) (by assumption))).symm)))
   · have hin:inner ((List.getD gs k ((0,0,[],()):Gate))).1:=by assumption
     have h2:=h20 hin
     have hop:(srP).op ((List.getD gs k ((0,0,[],()):Gate)))=(srP).plus:=if_neg hc
     refine w_loop [(78, .d tInt)] [(4, .cons (.row tPoly) .nil)] (fun y=>∃ j:Nat,y.1.1=(j:Int)∧j≤KL ((List.getD gs k ((0,0,[],()):Gate)))∧EvK (srP) (fun _=>True) (row:List (Dat tPoly)) ((List.getD gs k ((0,0,[],()):Gate))) k j y.2.1.1) (fun y=>KL ((List.getD gs k ((0,0,[],()):Gate))) - y.1.1.toNat) ?_
     conv=>whnf
     refine And.intro ?_ ?_
     · exact ⟨0,rfl,Nat.zero_le _,EvK.start hkr9 hR.qs hin h2⟩
     rintro ⟨⟨_,⟨⟩⟩,⟨⟨row',⟨⟩⟩,⟨⟩⟩⟩ ⟨j,rfl,hj,hK⟩
     have hK:EvK (srP) (fun _=>True) (row:List (Dat tPoly)) ((List.getD gs k ((0,0,[],()):Gate))) k j row':=hK
     have hrl:List.length (row':List (Dat tPoly))=i.toNat+1:=hK.len.trans hln9
     have hkr8:k<List.length (row':List (Dat tPoly)):=Nat.lt_of_lt_of_eq hkr9 hK.len.symm
     have hd1:KL ((List.getD gs k ((0,0,[],()):Gate)))≤1000000:=hks1
     have hjk:=fun (h:(j:Int)<(KL ((List.getD gs k ((0,0,[],()):Gate))):Int))=>kid_rng hV hkl hkr8 h
     have hfin:=fun (h:¬ (j:Int)<(KL ((List.getD gs k ((0,0,[],()):Gate))):Int))=>EvR.kids hln9 hR.qs hkr9 hrr hE hK h
     have hmu:=fun (h:(j:Int)<(KL ((List.getD gs k ((0,0,[],()):Gate))):Int))=>show KL ((List.getD gs k ((0,0,[],()):Gate))) - ((j:Int)+1).toNat<KL ((List.getD gs k ((0,0,[],()):Gate))) - j by omega
     have hon:=fun (h:(j:Int)<(KL ((List.getD gs k ((0,0,[],()):Gate))):Int)) (e:((srP).plus (List.getD row' k (srP).z) (List.getD row' (KD ((List.getD gs k ((0,0,[],()):Gate))) j).toNat (srP).z)).2=0)=>show ∃ j':Nat,(j:Int)+1=(j':Int)∧j'≤KL ((List.getD gs k ((0,0,[],()):Gate)))∧EvK (srP) (fun _=>True) (row:List (Dat tPoly)) ((List.getD gs k ((0,0,[],()):Gate))) k j' (List.set row' k ((srP).plus (List.getD row' k (srP).z) (List.getD row' (KD ((List.getD gs k ((0,0,[],()):Gate))) j).toNat (srP).z)).1) from ⟨j+1,rfl,(hjk h).ln,hK.on hkr9 (hjk h) (trivial) (by rw [hop];exact Prod.ext rfl e)⟩
     have hoff:=fun (h:(j:Int)<(KL ((List.getD gs k ((0,0,[],()):Gate))):Int)) (e:¬ ((srP).plus (List.getD row' k (srP).z) (List.getD row' (KD ((List.getD gs k ((0,0,[],()):Gate))) j).toNat (srP).z)).2=0)=>show evC (srP).ge gs i=((srP).z,((srP).plus (List.getD row' k (srP).z) (List.getD row' (KD ((List.getD gs k ((0,0,[],()):Gate))) j).toNat (srP).z)).2) from by rw [← hop];exact ev_stopK hg hE hK hkr9 (hjk h) (by rw [hop];exact e)
     repeat' (first|refine an ?_ ?_|((try refine gm ?_);first|((with_reducible show Kz _);(try dsimp+instances only);(with_reducible refine kz _ ?_);clear kz Kz)|refine st ?_|(refine sr ?_;intro Kz kz;conv=>whnf)|(refine cd ?_;(conv=>arg 2;whnf);refine st ?_)|refine blockK_y (by rfl) ?_|(refine sw ?_;conv=>whnf))|(refine gm ?_;conv=>whnf)|(intro hc;(try dsimp+instances only[Dat,SDat,dflt,Ty.size,keepS,bkUpd,Gv.bk,backS,wayA,maxI,minI,negI]at hc);try simp only[LS]at hc))
     all_goals (try ((fail_if_success refine nl ?_);(try dsimp only[Dat,SDat,dflt,Ty.size,keepS,bkUpd,Gv.bk,backS,wayA,maxI,minI,negI]);(try simp only[LS]);first|done|exact dsc|((try simp only[allP,lo,hi,room,true_and,and_true,implies_true]);(repeat' (first|refine an ?_ ?_|((with_reducible refine preA_t ?_ ?_);rotate_left;exact sameP_t)|intro hv))<;>(try omega))))
     all_goals (try ((fail_if_success refine nl ?_);(first|exact (hjk (by assumption)).lo|exact (hjk (by assumption)).hi|exact (hjk (by assumption)).nt|exact hfin (by assumption)|exact hmu (by assumption)|exact hon (by assumption) (by first|rfl|assumption)|exact ⟨hK.qs _,hK.qs _⟩|exact hK.qs _|exact (congrArg Prod.fst (hoff (by assumption) (by assumption))).symm|exact (congrArg Prod.snd (hoff (by assumption) (by assumption))).symm)))
 · rintro ⟨⟨row,⟨⟩⟩,⟨⟩⟩ hR
   have hR:EvR (srP).ge (fun _=>True) gs i [] row:=hR
   have hf:=hR.fin hg
   have hln9:List.length (row:List (Dat tPoly))=i.toNat+1:=hR.ln
   repeat' (first|refine an ?_ ?_|((try refine gm ?_);first|((with_reducible show Kz _);(try dsimp+instances only);(with_reducible refine kz _ ?_);clear kz Kz)|refine st ?_|(refine sr ?_;intro Kz kz;conv=>whnf)|(refine cd ?_;(conv=>arg 2;whnf);refine st ?_)|refine blockK_y (by rfl) ?_|(refine sw ?_;conv=>whnf))|(refine gm ?_;conv=>whnf)|(intro hc;(try dsimp+instances only[Dat,SDat,dflt,Ty.size,keepS,bkUpd,Gv.bk,backS,wayA,maxI,minI,negI]at hc);try simp only[LS]at hc))
   all_goals (try ((fail_if_success refine nl ?_);(try dsimp only[Dat,SDat,dflt,Ty.size,keepS,bkUpd,Gv.bk,backS,wayA,maxI,minI,negI]);(try simp only[LS]);first|done|exact dsc|((try simp only[allP,lo,hi,room,true_and,and_true,implies_true]);(repeat' (first|refine an ?_ ?_|((with_reducible refine preA_t ?_ ?_);rotate_left;exact sameP_t)|intro hv))<;>(try omega))))
   all_goals (try ((fail_if_success refine nl ?_);(first|(rw [hf];done)|(rw [hf];rfl))))
 · exact ⟨i,gs,rfl,rfl,hg,hsm⟩
theorem ok_ev_poly:SpecOK SP glob fi_z14 S_ev_poly:=mk_ok (c:=c_ev_poly) (tab_ok _) mix_ok wf_z14 (by decide) (.cons ok_z13 (.cons ok_z19 (.cons ok_z24 (.cons ok_z11 (.cons ok_z61 (.cons ok_z65 .nil)))))) (fun x hx=>Nat.zero_lt_one) g_ev_poly (hL:=(LateOK.of rfl .nil (.cons ok_z25 .nil)))
end Go.Gv
