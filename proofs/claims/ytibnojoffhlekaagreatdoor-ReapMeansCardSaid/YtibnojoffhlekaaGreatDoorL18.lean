/- The statements of chapter 18. -/
import Derived.Test.YtibnojoffhlekaaGreatDoorC18c
set_option linter.all false
namespace Go.Gv
open Go Go.Proofs Go.Proofs.YtibnojoffhlekaaGreatDoor
set_option maxRecDepth 100000
set_option maxHeartbeats 4000000
def gsS:List Gate:=[(2,0,[],()),(2,1,[],()),(3,0,[0,1],()),(4,0,[0,2],()),(2,2,[],())]
@[reducible] noncomputable def S_z54:Spec:={ ins:= .nil,pre:=fun _=>True,alts:=[{ outs:=(.cons (.d tCirc) .nil),res:=(fun _=>((gsS,()),()))}]}
noncomputable def c_z54:Cf:=(cf_z54 (Fl []))
theorem g_z54:∀ x,S_z54.pre x→shOK S_z54.ins x→fnGoal c_z54 fn_z54 S_z54 x:=by
 rintro ⟨⟩ hpre hok
 clear hpre
 have hln:=shLn_of _ hok;replace hok:=Hd.mk hok;try simp only [shLn,datLn,inRng,lo,hi,maxLen,true_and,and_true] at hln
 first|refine fn_goal (w_head ?_)
 intro Kz kz;(conv=>whnf);(try dsimp+instances only);refine kz _ ?_;clear kz Kz;(conv=>(arg 2;whnf))
 repeat' (first|refine an ?_ ?_|((try refine gm ?_);first|((with_reducible show Kz _);(try dsimp+instances only);(with_reducible refine kz _ ?_);clear kz Kz)|refine st ?_|(refine sr ?_;intro Kz kz;conv=>whnf)|(refine cd ?_;(conv=>arg 2;whnf);refine st ?_)|refine blockK_y (by rfl) ?_|(refine sw ?_;conv=>whnf))|(refine gm ?_;conv=>whnf)|(intro hc;(try dsimp+instances only[Dat,SDat,dflt,Ty.size,keepS,bkUpd,Gv.bk,backS,wayA,maxI,minI,negI]at hc);try simp only[LS]at hc))
 all_goals (try ((fail_if_success refine nl ?_);(try dsimp only[Dat,SDat,dflt,Ty.size,keepS,bkUpd,Gv.bk,backS,wayA,maxI,minI,negI]);(try simp only[LS]);first|done|exact dsc|((try simp only[allP,lo,hi,room,true_and,and_true,implies_true]);(repeat' (first|refine an ?_ ?_|((with_reducible refine preA_t ?_ ?_);rotate_left;exact sameP_t)|intro hv))<;>(try omega))))
theorem ok_z54:SpecOK SP glob fi_z54 S_z54:=mk_ok (c:=c_z54) (tab_ok _) mix_ok wf_z54 (by decide) .nil (fun x hx=>Nat.zero_lt_one) g_z54
@[reducible] def tOp:Ty:= .st (.cs .bool (.cs (.int .i64) .nl))
def FewP (gs:List Gate) (roots:List Int) (n:Nat):Prop:=(gs.length≤60∧∀ g∈gs,g.2.2.1.length≤20)∧roots.length≤60∧n≤40
@[reducible] noncomputable def S_z52:Spec:={ ins:=(.cons (.d tCirc) (.cons (.d (.sl tInt)) (.cons (.d (.sl tOp)) .nil))),pre:=fun _=>True,alts:=[{ outs:=(.cons (.d .bool) .nil),res:=(fun x=>(fun c roots l=>(boolOf (FewP c.1 roots l.length),())) x.1 x.2.1 x.2.2.1)}]}
noncomputable def c_z52:Cf:=(cf_z52 (Fl [(fi_z98,S_z98)]))
theorem g_z52:∀ x,S_z52.pre x→shOK S_z52.ins x→fnGoal c_z52 fn_z52 S_z52 x:=by
 rintro ⟨⟨gs,⟨⟩⟩,roots,l,⟨⟩⟩ hpre hok
 clear hpre
 have hln:=shLn_of _ hok;replace hok:=Hd.mk hok;try simp only [shLn,datLn,inRng,lo,hi,maxLen,true_and,and_true] at hln
 first|refine fn_goal (w_head ?_)
 intro Kz kz;(conv=>whnf);(try dsimp+instances only);refine kz _ ?_;clear kz Kz;(conv=>(arg 2;whnf))
 repeat' (first|refine an ?_ ?_|((try refine gm ?_);first|((with_reducible show Kz _);(try dsimp+instances only);(with_reducible refine kz _ ?_);clear kz Kz)|refine st ?_|(refine sr ?_;intro Kz kz;conv=>whnf)|(refine cd ?_;(conv=>arg 2;whnf);refine st ?_)|refine blockK_y (by rfl) ?_|(refine sw ?_;conv=>whnf))|(refine gm ?_;conv=>whnf)|(intro hc;(try dsimp+instances only[Dat,SDat,dflt,Ty.size,keepS,bkUpd,Gv.bk,backS,wayA,maxI,minI,negI]at hc);try simp only[LS]at hc))
 all_goals (try ((fail_if_success refine nl ?_);(try dsimp only[Dat,SDat,dflt,Ty.size,keepS,bkUpd,Gv.bk,backS,wayA,maxI,minI,negI]);(try simp only[LS]);first|done|exact dsc|((try simp only[allP,lo,hi,room,true_and,and_true,implies_true]);(repeat' (first|refine an ?_ ?_|((with_reducible refine preA_t ?_ ?_);rotate_left;exact sameP_t)|intro hv))<;>(try omega))))
 refine bC ⟨fun ⟨⟨⟨h1,h2⟩,h3⟩,h4⟩=>⟨⟨by omega,h2⟩,by omega,by omega⟩,fun ⟨⟨h1,h2⟩,h3,h4⟩=>⟨⟨⟨by omega,h2⟩,by omega⟩,by omega⟩⟩
theorem ok_z52:SpecOK SP glob fi_z52 S_z52:=mk_ok (c:=c_z52) (tab_ok _) mix_ok wf_z52 (by decide) (.cons ok_z98 .nil) (fun x hx=>Nat.zero_lt_one) g_z52
theorem validS:ValidC gsS:=by
 refine ⟨by decide,fun m hm=>?_⟩
 have hm:m=0∨m=1∨m=2∨m=3∨m=4:=by
  have:gsS.length=5:=rfl
  omega
 rcases hm with rfl|rfl|rfl|rfl|rfl<;>
  (refine ⟨⟨?_,?_⟩,?_,?_,?_⟩
   · unfold kidsIn;decide
   · unfold inner;decide
   · unfold inner;decide
   · unfold KidOK kindAt;decide
   · decide)
theorem smallS:∀ g∈gsS,g.2.2.1.length≤1000000:=by decide
theorem rightS {roots:List Int} (h:∀ r∈roots,0≤r∧r<(gsS.length:Int)):RightP gsS roots:=⟨h,validS⟩
noncomputable def keepC (gs:List Gate) (roots:List Int):List Gate × List Int:=(pickG gs (ksM gs (stepF gs gs.length (pushL ([],[]) roots)).1) (fM (ksM gs (stepF gs gs.length (pushL ([],[]) roots)).1)) gs.length,roots.map (fM (ksM gs (stepF gs gs.length (pushL ([],[]) roots)).1)))
theorem keepC_eq {gs:List Gate} {roots:List Int} (h:RightP gs roots):keepG gs roots=(keepC gs roots).1∧keepL gs roots=(keepC gs roots).2:=by
 unfold keepC
 rw [(run_all h).2,(keep_eq h).1,(keep_eq h).2]
 exact ⟨rfl,rfl⟩
def mS:List (Int × Bool):=[(3,true),(0,true),(2,true),(1,true)]
theorem sS0:pushL ([],[]) [3]=([(3,true)],[3]):=rfl
theorem sS3:stepF gsS 3 ([(3,true)],[3])=(mS,[1]):=rfl
theorem sS4:stepF gsS 1 (mS,[1])=(mS,[]):=rfl
theorem sS5:pushF (mS,[]) 4=(mS++[(4,true)],[4]):=rfl
theorem sS6:stepF gsS 0 (mS++[(4,true)],[4])=(mS++[(4,true)],[4]):=rfl
theorem sS7:stepF gsS 1 (mS++[(4,true)],[4])=(mS++[(4,true)],[]):=rfl
theorem lenS:gsS.length=5:=rfl
theorem c45:((0:Int)≤4∧(4:Int)<((5:Nat):Int))=True:=by simp
theorem i3:Int.toNat 3=3:=rfl
theorem i4:Int.toNat 4=4:=rfl
theorem mw3:MWok gsS ([(3,true)],[3]):=(Inv.start (rightS (roots:=[3]) (by decide))).mwok
theorem mwS (w:List Int) (m:List (Int × Bool)) (h:w.Nodup∧(∀ i∈w,0≤i∧i<(gsS.length:Int))∧∀ i∈w,@mget (Dat tInt) (Dat .bool) (instDecidableEqDat tInt) m i=some true):MWok gsS (m,w):=⟨h.1,h.2.1,h.2.2⟩
theorem ifT {α:Type} {b:Bool} {x y z:α} (hb:b=true) (h:x=z):(if b=true then x else y)=z:=by rw [if_pos hb];exact h
theorem ifT1 {α:Type} {b:Bool} {x y:α × Unit} {z:α} (hb:b=true) (h:x.1=z):(if b=true then x else y).1=z:=by rw [if_pos hb];exact h
@[reducible] noncomputable def S_z53:Spec:={ ins:= .nil,pre:=fun _=>True,alts:=[{ outs:=(.cons (.d .bool) .nil),res:=(fun _=>(true,()))}]}
noncomputable def c_z53:Cf:=(cf_z53 (Fl [(fi_z54,S_z54),(fi_z76,S_z76),(fi_z77,S_z77),(fi_z80,S_z80),(fi_z82,S_z82),(fi_z79,S_z79),(fi_z103,S_z103),(fi_z84,S_z84)]))
theorem g_z53:∀ x,S_z53.pre x→shOK S_z53.ins x→fnGoal c_z53 fn_z53 S_z53 x:=by
 rintro ⟨⟩ hpre hok
 clear hpre
 have hln:=shLn_of _ hok;replace hok:=Hd.mk hok;try simp only [shLn,datLn,inRng,lo,hi,maxLen,true_and,and_true] at hln
 have r2:RightP gsS [2]:=rightS (by decide)
 have r40:RightP gsS [4,0]:=rightS (by decide)
 have r3:RightP gsS [3]:=rightS (by decide)
 have r5:¬ RightP gsS [5]:=fun h=>by have:=h.1 5 (by simp);rw [lenS] at this;omega
 have b2:=boolOf_true.2 r2
 have b40:=boolOf_true.2 r40
 have b5:=boolOf_false.2 r5
 have e2:=keepC_eq r2
 have e40:=keepC_eq r40
 first|refine fn_goal (w_head ?_)
 intro Kz kz;(conv=>whnf);(try dsimp+instances only);refine kz _ ?_;clear kz Kz;(conv=>(arg 2;whnf))
 repeat' (first|refine an ?_ ?_|((try refine gm ?_);first|((with_reducible show Kz _);(try dsimp+instances only);(with_reducible refine kz _ ?_);clear kz Kz)|refine st ?_|(refine sr ?_;intro Kz kz;conv=>whnf)|(refine cd ?_;(conv=>arg 2;whnf);refine st ?_)|refine blockK_y (by rfl) ?_|(refine sw ?_;conv=>whnf))|(refine gm ?_;conv=>whnf)|(intro hc;(try dsimp+instances only[Dat,SDat,dflt,Ty.size,keepS,bkUpd,Gv.bk,backS,wayA,maxI,minI,negI]at hc);try simp only[LS]at hc))
 all_goals (try ((fail_if_success refine nl ?_);(try dsimp only[Dat,SDat,dflt,Ty.size,keepS,bkUpd,Gv.bk,backS,wayA,maxI,minI,negI]);(try simp only[LS]);first|done|exact dsc|((try simp only[allP,lo,hi,room,true_and,and_true,implies_true]);(repeat' (first|refine an ?_ ?_|((with_reducible refine preA_t ?_ ?_);rotate_left;exact sameP_t)|intro hv))<;>(try omega))))
 all_goals (try simp only [sS0,sS3,sS4,sS5,sS6,sS7,lenS,i3,i4,b2,b40,b5,c45,if_true,ite_true] at *)
 all_goals (try simp only [sS6,sS7,if_true,ite_true] at *)
 all_goals (first|exact smallS _ (by assumption)|exact validS|(rename ¬RightP gsS [3]=>hn;exact (hn r3).elim)|exact mw3|(exact mwS _ _ (by decide))|omega|rfl|skip)
 all_goals (try (rename_i hm;revert hm;simp;done))
 all_goals (try (simp;done))
 all_goals (try (simp_all;done))
 all_goals (try rw [e2.1])
 all_goals (try rw [e2.2])
 all_goals (try rw [e40.1])
 all_goals (try rw [e40.2])
 all_goals (first|rfl|exact ifT1 (boolOf_true.2 (rightS (roots:=[2]) (by decide))) rfl|exact ifT (boolOf_true.2 (rightS (roots:=[2]) (by decide))) rfl|exact ifT1 (boolOf_true.2 (rightS (roots:=[4,0]) (by decide))) rfl|exact ifT (boolOf_true.2 (rightS (roots:=[4,0]) (by decide))) rfl)
theorem ok_z53:SpecOK SP glob fi_z53 S_z53:=mk_ok (c:=c_z53) (tab_ok _) mix_ok wf_z53 (by decide) (.cons ok_z54 (.cons ok_z76 (.cons ok_z77 (.cons ok_z80 (.cons ok_z82 (.cons ok_z79 (.cons ok_z103 (.cons ok_z84 .nil)))))))) (fun x hx=>Nat.zero_lt_one) g_z53
theorem Inv.steps {gs:List Gate} {R pr:List Int} {s:MW} (hI:Inv gs R pr s) (hR:RightP gs R) (n:Int):∃ pr',Inv gs R pr' (stepF gs n.toNat s)∧(pr'.length:Int)=pr.length+max 0 (min n (cntK gs R - pr.length)):=by
 obtain ⟨pr',g1,g2,g3,g4⟩:=hI.step hR.2 n.toNat
 refine ⟨pr',g1,?_⟩
 have h1:=hI.le
 have h2:=g1.le
 rcases g4 with h|h
 · omega
 · have:=(g1.done hR).1 h
   omega
theorem Inv.res {gs:List Gate} {R pr:List Int} {m:List (Int × Bool)} {w:List Int} (hI:Inv gs R pr (m,w)) (hR:RightP gs R):(w=[]↔¬ ((pr.length:Int)<cntK gs R))∧(w=[]→pickG gs (ksM gs m) (fM (ksM gs m)) gs.length=keepG gs R∧R.map (fM (ksM gs m))=keepL gs R):=by
 have h1:=hI.le
 have h2:=hI.done hR
 refine ⟨⟨fun h=>by have:=h2.1 h;omega,fun h=>h2.2 (by omega)⟩,fun h=>?_⟩
 rw [hI.ks h hR]
 exact keep_eq hR
theorem Reach.mono {gs:List Gate} {R R':List Int} (h:∀ r∈R,r∈R') {k:Nat} (hk:Reach gs R k):Reach gs R' k:=by
 induction hk with
 |root hr=>exact .root (h _ hr)
 |kid _ hk hj ih=>exact .kid ih hk hj
theorem Inv.add {gs:List Gate} {R pr:List Int} {s:MW} (hI:Inv gs R pr s) {r:Int} (hr:0≤r∧r<gs.length):Inv gs (R++[r]) pr (pushF s r):=by
 have h0:Inv0 gs (R++[r]) pr s:=⟨hI.nd,hI.mg,fun i hi=>⟨(hI.rng i hi).1,(hI.rng i hi).2.mono (fun x hx=>List.mem_append_left _ hx)⟩⟩
 obtain ⟨h1,h2,h3⟩:=h0.push ⟨hr, .root (by simp)⟩
 refine ⟨h1.nd,h1.mg,h1.rng,fun x hx=>?_,fun i hi k hk=>h3 k (hI.kid i hi k hk)⟩
 rcases List.mem_append.1 hx with hx|hx
 · exact h3 x (hI.rts x hx)
 · simp at hx;subst hx;exact h2
theorem keepG_len (gs:List Gate) (Q:List Int):(((keepG gs Q).length:Nat):Int)=cntK gs Q:=by
 unfold keepG cntK
 rw [pickG_len _ _ _ _ (by rw [keptL_len];exact Nat.le_refl _)];unfold rank
 rw [List.take_of_length_le (by rw [keptL_len];exact Nat.le_refl _)]
theorem RightP.add {gs:List Gate} {R:List Int} (hR:RightP gs R) {r:Int} (hr:0≤r∧r<gs.length):RightP gs (R++[r]):=⟨fun x hx=>by
 rcases List.mem_append.1 hx with hx|hx
 · exact hR.1 x hx
 · simp at hx;rw [hx];exact hr,hR.2⟩
end Go.Gv
