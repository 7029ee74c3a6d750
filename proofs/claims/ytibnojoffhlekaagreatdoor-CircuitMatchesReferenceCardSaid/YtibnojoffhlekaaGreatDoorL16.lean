/- The statements of chapter 16: the fixed examples. -/
import Derived.Test.YtibnojoffhlekaaGreatDoorR16e
set_option linter.all false
namespace Go.Gv
open Go Go.Proofs Go.Proofs.YtibnojoffhlekaaGreatDoor
set_option maxRecDepth 100000
set_option maxHeartbeats 4000000
instance (l:List Pw) (j:Nat):Decidable (okAt l j):=by unfold okAt;infer_instance
instance (l:List Pw):Decidable (okP l):=by unfold okP;infer_instance
instance (p:List Mo) (i:Nat):Decidable (okM p i):=by unfold okM;infer_instance
instance (p:List Mo):Decidable (ValidP p):=by unfold ValidP;infer_instance
instance (p:List Mo):Decidable (overC p):=by unfold overC;infer_instance
instance (l:List Int) (n:Int):Decidable (kidsIn l n):=by unfold kidsIn;infer_instance
instance (g:Gate) (n:Int):Decidable (formed g n):=by unfold formed;infer_instance
instance (gs:List Gate) (g:Gate) (j:Nat):Decidable (KidOK gs g j):=by unfold KidOK;infer_instance
instance (gs:List Gate) (m:Nat) (g:Gate):Decidable (GoodAt gs m g):=by unfold GoodAt;infer_instance
def exG:List Gate:=[(2,0,[],()),(2,1,[],()),(3,0,[0,1],()),(4,0,[0,2],())]
theorem exV:ValidC exG:=by
 refine ⟨by decide,fun m hm=>?_⟩
 have hm:m=0∨m=1∨m=2∨m=3:=by
  have:exG.length=4:=rfl
  omega
 rcases hm with rfl|rfl|rfl|rfl<;>decide
theorem ex3:GoodI exG 3:=⟨by decide,by decide,exV⟩
theorem ex4:¬ GoodI exG 4:=fun h=>absurd h.hi (by decide)
theorem exE {T:Type} {S:GE T} {v:T} (h0:(vlE S exG 0).2=0) (h1:(vlE S exG 1).2=0) (h2:(vlE S exG 2).2=0) (h3:vlE S exG 3=(v,0)):evC S exG 3=(v,0):=by
 have he:errL S exG 3=0:=errL_zero.2 fun k hk=>by
  have:=(reachT_mem.1 hk).1
  have hm:k=0∨k=1∨k=2∨k=3:=by omega
  rcases hm with rfl|rfl|rfl|rfl
  · exact h0
  · exact h1
  · exact h2
  · rw [h3]
 rw [evC_good ex3]
 show (if errL S exG 3=0 then ((vlE S exG 3).1,0) else (S.z,errL S exG 3))=(v,0)
 rw [if_pos he,h3]
theorem exN:cntV exG 3 [2,3]=(10,0):=by
 unfold cntV
 rw [if_neg (by decide)]
 exact exE rfl rfl rfl rfl
theorem exCo:costV exG 3 [2,1]=(3,true):=by
 have h:=costV_pos (gs:=exG) (i:=3) (h:=[2,1]) ex3 (by decide)
 rw [h]
 rfl
theorem exB:holdsV exG 3 [false,true]=false:=by
 rw [holdsV_good ex3];rfl
theorem exB':holdsV exG 3 [true]=true:=by
 rw [holdsV_good ex3];rfl
def hX:List Mo:=[(1,[(0,1,())],())]
def hY:List Mo:=[(1,[(1,1,())],())]
def hXY:List Mo:=[(1,[(0,1,())],()),(1,[(1,1,())],())]
def hW:List Mo:=[(1,[(0,1,()),(1,1,())],()),(1,[(0,2,())],())]
theorem hsum {p q l r:List Mo} (hp:ValidP p) (hq:ValidP q) (hl:l=r) (ho:¬ overC r) (hn:¬ 400<r.length):sumV p q l=r∧sumE p q l=0:=by
 subst hl
 have h1:=sumV_yes (l:=l) ⟨hp,hq⟩
 have h2:=done_no ho
 rw [h1.1,h1.2,h2.1,h2.2,if_neg hn,if_neg hn]
 exact ⟨rfl,rfl⟩
theorem exS2:sumV hX hY (addL hX hY)=hXY∧sumE hX hY (addL hX hY)=0:=hsum (by decide) (by decide) (by decide) (by decide) (by decide)
theorem exS3:sumV hX hXY (addL [] (prods hX hXY))=hW∧sumE hX hXY (addL [] (prods hX hXY))=0:=hsum (by decide) (by decide) (by
 have:prods hX hXY=[(1,[(0,2,())],()),(1,[(0,1,()),(1,1,())],())]:=by
  simp [prods,hX,hXY,mulM,mulP];decide
 rw [this];decide) (by decide) (by decide)
theorem exP0:vlE srP.ge exG 0=(hX,0):=rfl
theorem exP1:vlE srP.ge exG 1=(hY,0):=rfl
theorem exP2:vlE srP.ge exG 2=(hXY,0):=by
 have e:vlE srP.ge exG 2=if sumE hX hY (addL hX hY)=0 then (sumV hX hY (addL hX hY),0) else ([],sumE hX hY (addL hX hY)):=rfl
 rw [e,exS2.1,exS2.2]
 rfl
theorem exP3:vlE srP.ge exG 3=(hW,0):=by
 have e:vlE srP.ge exG 3=if sumE hX (vlE srP.ge exG 2).1 (addL [] (prods hX (vlE srP.ge exG 2).1))=0 then (sumV hX (vlE srP.ge exG 2).1 (addL [] (prods hX (vlE srP.ge exG 2).1)),0) else ([],sumE hX (vlE srP.ge exG 2).1 (addL [] (prods hX (vlE srP.ge exG 2).1))):=rfl
 rw [e,exP2]
 show (if sumE hX hXY (addL [] (prods hX hXY))=0 then (sumV hX hXY (addL [] (prods hX hXY)),0) else ([],sumE hX hXY (addL [] (prods hX hXY))))=(hW,0)
 rw [exS3.1,exS3.2]
 rfl
theorem exP:evC srP.ge exG 3=(hW,0):=exE (by rw [exP0]) (by rw [exP1]) (by rw [exP2]) exP3
theorem exQ:(evC srP.ge exG 4).2=1:=by rw [evC_bad ex4]
theorem exPut1:putC exG (3,0,[1,0],())=(exG,2,0):=by
 have hP:PutOK exG (3,0,[1,0],()):=⟨exV,by decide⟩
 have hs:sortI [1,0]=[0,1]:=(sortI_uniq (by decide) (by decide)).symm
 have hk:keptK exG (3,0,[1,0],())=[0,1]:=by
  unfold keptK
  show (sortI [1,0]).filter _=_
  rw [hs]
  decide
 have hn:=nrm_many (gs:=exG) (g:=(3,0,[1,0],())) (by decide) (fun h=>h.elim (fun z=>absurd z.1 (by decide)) fun z=>by have:=z.2;rw [hk] at this;cases this) (by rw [hk];decide) (by rw [hk];decide)
 rw [hk] at hn
 have hi:=idxG_is exV (k:=2) (g:=(3,0,[0,1],())) (by decide) rfl
 rw [put_hit hP hn.2 (by rw [hn.1];exact hi.1),hn.1,hi.2]
 rfl
theorem exPut2:putC exG (4,0,[3],())=(exG,3,0):=by
 have hP:PutOK exG (4,0,[3],()):=⟨exV,by decide⟩
 have hs:sortI [3]=[3]:=(sortI_uniq (by decide) (by decide)).symm
 have hk:keptK exG (4,0,[3],())=[3]:=by
  unfold keptK
  show (sortI [3]).filter _=_
  rw [hs]
  decide
 have hO:OneK exG (4,0,[3],()):=⟨by decide,fun z=>by
  obtain ⟨k,h1,h2⟩:=z.2
  have:k=3:=List.mem_singleton.1 h1
  subst this
  revert h2;decide,by rw [hk];rfl⟩
 rw [put_one hP hO,hk]
 rfl
theorem exPut3:putC exG (3,0,[],())=(exG++[(0,0,[],())],4,0):=by
 have hP:PutOK exG (3,0,[],()):=⟨exV,by decide⟩
 have hs:sortI []=[]:=(sortI_uniq (by decide) (by decide)).symm
 have hk:keptK exG (3,0,[],())=[]:=by
  unfold keptK
  show (sortI []).filter _=_
  rw [hs]
  rfl
 have hn:=nrm_zero (gs:=exG) (g:=(3,0,[],())) (by decide) (.inr ⟨rfl,by rw [hk];rfl⟩)
 rw [put_new hP hn.2 (by rw [hn.1];decide) (by decide),hn.1]
 rfl
theorem exS:∀ g∈exG,g.2.2.1.length≤1000000:=by decide
@[reducible] noncomputable def S_z48:Spec:={ ins:= .nil,pre:=fun _=>True,alts:=[{ outs:=(.cons (.d tCirc) .nil),res:=(fun _=>((exG,()),()))}]}
noncomputable def c_z48:Cf:=(cf_z48 (Fl []))
theorem g_z48:∀ x,S_z48.pre x→shOK S_z48.ins x→fnGoal c_z48 fn_z48 S_z48 x:=by
 rintro ⟨⟩ hpre hok
 clear hpre
 have hln:=shLn_of _ hok;replace hok:=Hd.mk hok;try simp only [shLn,datLn,inRng,lo,hi,maxLen,true_and,and_true] at hln
 first|refine fn_goal (w_head ?_)
 intro Kz kz;(conv=>whnf);(try dsimp+instances only);refine kz _ ?_;clear kz Kz;(conv=>(arg 2;whnf))
 repeat' (first|refine an ?_ ?_|((try refine gm ?_);first|((with_reducible show Kz _);(try dsimp+instances only);(with_reducible refine kz _ ?_);clear kz Kz)|refine st ?_|(refine sr ?_;intro Kz kz;conv=>whnf)|(refine cd ?_;(conv=>arg 2;whnf);refine st ?_)|refine blockK_y (by rfl) ?_|(refine sw ?_;conv=>whnf))|(refine gm ?_;conv=>whnf)|(intro hc;(try dsimp+instances only[Dat,SDat,dflt,Ty.size,keepS,bkUpd,Gv.bk,backS,wayA,maxI,minI,negI]at hc);try simp only[LS]at hc))
 all_goals (try ((fail_if_success refine nl ?_);(try dsimp only[Dat,SDat,dflt,Ty.size,keepS,bkUpd,Gv.bk,backS,wayA,maxI,minI,negI]);(try simp only[LS]);first|done|exact dsc|((try simp only[allP,lo,hi,room,true_and,and_true,implies_true]);(repeat' (first|refine an ?_ ?_|((with_reducible refine preA_t ?_ ?_);rotate_left;exact sameP_t)|intro hv))<;>(try omega))))
theorem ok_z48:SpecOK SP glob fi_z48 S_z48:=mk_ok (c:=c_z48) (tab_ok _) mix_ok wf_z48 (by decide) .nil (fun x hx=>Nat.zero_lt_one) g_z48
@[reducible] noncomputable def S_z50:Spec:={ ins:= .nil,pre:=fun _=>True,alts:=[{ outs:=(.cons (.d .bool) .nil),res:=(fun _=>(true,()))}],noisy:=true}
noncomputable def c_z50:Cf:={ cf_z50 (Fl [(fi_z48,S_z48),(fi_z4,S_z4),(fi_z0,S_z0),(fi_z12,S_z12),(fi_z10,S_z10),(fi_z13,S_z13),(fi_z6,S_z6),(fi_z103,S_z103),(fi_z89,S_z89)]) with nz:=true}
theorem g_z50:∀ x,S_z50.pre x→shOK S_z50.ins x→fnGoal c_z50 fn_z50 S_z50 x:=by
 rintro ⟨⟩ hpre hok
 clear hpre
 have hln:=shLn_of _ hok;replace hok:=Hd.mk hok;try simp only [shLn,datLn,inRng,lo,hi,maxLen,true_and,and_true] at hln
 first|refine fn_goal (w_head ?_)
 intro Kz kz;(conv=>whnf);(try dsimp+instances only);refine kz _ ?_;clear kz Kz;(conv=>(arg 2;whnf))
 repeat' (first|refine an ?_ ?_|((try refine gm ?_);first|((with_reducible show Kz _);(try dsimp+instances only);(with_reducible refine kz _ ?_);clear kz Kz)|refine st ?_|(refine sr ?_;intro Kz kz;conv=>whnf)|(refine cd ?_;(conv=>arg 2;whnf);refine st ?_)|refine blockK_y (by rfl) ?_|(refine sw ?_;conv=>whnf))|(refine gm ?_;conv=>whnf)|(intro hc;(try dsimp+instances only[Dat,SDat,dflt,Ty.size,keepS,bkUpd,Gv.bk,backS,wayA,maxI,minI,negI]at hc);try simp only[LS]at hc))
 all_goals (try ((fail_if_success refine nl ?_);(try dsimp only[Dat,SDat,dflt,Ty.size,keepS,bkUpd,Gv.bk,backS,wayA,maxI,minI,negI]);(try simp only[LS]);first|done|exact dsc|((try simp only[allP,lo,hi,room,true_and,and_true,implies_true]);(repeat' (first|refine an ?_ ?_|((with_reducible refine preA_t ?_ ?_);rotate_left;exact sameP_t)|intro hv))<;>(try omega))))
 all_goals (first
  |exact exS _ (by assumption)
  |exact exV
  |(rw [exN];done)
  |(rw [exCo];done)
  |(rw [exPut1];done)
  |(rw [exPut2];done)
  |(rw [exPut3];done)
  |(rw [exPut3];rfl)
  |(rw [exP];done)
  |(rw [exP];rfl)
  |exact exQ
  |exact exB
  |exact exB'
  |skip)
theorem ok_z50:SpecOK SP glob fi_z50 S_z50:=mk_ok (c:=c_z50) (tab_ok _) mix_ok wf_z50 (by decide) (.cons ok_z48 (.cons ok_z4 (.cons ok_z0 (.cons ok_z12 (.cons ok_z10 (.cons ok_z13 (.cons ok_z6 (.cons ok_z103 (.cons ok_z89 .nil))))))))) (fun x hx=>Nat.zero_lt_one) g_z50
def FewG (gs:List Gate) (n:Int):Prop:=(gs.length:Int)≤n∧∀ g∈gs,g.2.2.1.length≤20
theorem few_small {gs:List Gate} (h:∀ g∈gs,g.2.2.1.length≤20):∀ g∈gs,g.2.2.1.length≤1000000:=fun g hg=>Nat.le_trans (h g hg) (by decide)
theorem few_of4 {A B C D:Prop} (h:¬ (((¬ A∨B)∨C)∨D)):A:=Classical.byContradiction fun a=>h (.inl (.inl (.inl a)))
@[reducible] noncomputable def S_z42:Spec:={ ins:=(.cons (.d tCirc) (.cons (.d tGate) (.cons (.d tInt) (.cons (.d (.sl .bool)) (.cons (.d (.sl tInt)) .nil))))),pre:=fun _=>True,alts:=[{ outs:=(.cons (.d .bool) .nil),res:=(fun x=>(fun c g i h vs=>(true,())) x.1 x.2.1 x.2.2.1 x.2.2.2.1 x.2.2.2.2.1)}],noisy:=true}
noncomputable def c_z42:Cf:={ cf_z42 (Fl [(fi_z50,S_z50),(fi_z98,S_z98),(fi_z12,S_z12),(fi_z101,S_z101),(fi_z4,S_z4),(fi_z96,S_z96),(fi_z0,S_z0),(fi_z95,S_z95),(fi_z103,S_z103),(fi_z13,S_z13),(fi_z104,S_z104),(fi_z6,S_z6),(fi_z99,S_z99)]) with nz:=true}
theorem g_z42:∀ x,S_z42.pre x→shOK S_z42.ins x→fnGoal c_z42 fn_z42 S_z42 x:=by
 rintro ⟨⟨gs,⟨⟩⟩,⟨gk,gv,gkids,⟨⟩⟩,(i:Int),h,vs,⟨⟩⟩ hpre hok
 clear hpre
 have hln:=shLn_of _ hok;replace hok:=Hd.mk hok;try simp only [shLn,datLn,inRng,lo,hi,maxLen,true_and,and_true] at hln
 first|refine fn_goal (w_head ?_)
 intro Kz kz;(conv=>whnf);(try dsimp+instances only);refine kz _ ?_;clear kz Kz;(conv=>(arg 2;whnf))
 repeat' (first|refine an ?_ ?_|((try refine gm ?_);first|((with_reducible show Kz _);(try dsimp+instances only);(with_reducible refine kz _ ?_);clear kz Kz)|refine st ?_|(refine sr ?_;intro Kz kz;conv=>whnf)|(refine cd ?_;(conv=>arg 2;whnf);refine st ?_)|refine blockK_y (by rfl) ?_|(refine sw ?_;conv=>whnf))|(refine gm ?_;conv=>whnf)|(intro hc;(try dsimp+instances only[Dat,SDat,dflt,Ty.size,keepS,bkUpd,Gv.bk,backS,wayA,maxI,minI,negI]at hc);try simp only[LS]at hc))
 all_goals (try ((fail_if_success refine nl ?_);(try dsimp only[Dat,SDat,dflt,Ty.size,keepS,bkUpd,Gv.bk,backS,wayA,maxI,minI,negI]);(try simp only[LS]);first|done|exact dsc|((try simp only[allP,lo,hi,room,true_and,and_true,implies_true]);(repeat' (first|refine an ?_ ?_|((with_reducible refine preA_t ?_ ?_);rotate_left;exact sameP_t)|intro hv))<;>(try omega))))
 all_goals (exact few_small (few_of4 (by assumption:¬ (((¬ ((List.length gs:Int)≤60∧∀ g∈gs,g.2.2.1.length≤20)∨20<(List.length gkids:Int))∨100<(List.length h:Int))∨100<(List.length vs:Int)))).2 _ (by assumption))
theorem ok_z42:SpecOK SP glob fi_z42 S_z42:=mk_ok (c:=c_z42) (tab_ok _) mix_ok wf_z42 (by decide) (.cons ok_z50 (.cons ok_z98 (.cons ok_z12 (.cons ok_z101 (.cons ok_z4 (.cons ok_z96 (.cons ok_z0 (.cons ok_z95 (.cons ok_z103 (.cons ok_z13 (.cons ok_z104 (.cons ok_z6 (.cons ok_z99 .nil))))))))))))) (fun x hx=>Nat.zero_lt_one) g_z42
end Go.Gv
