/- The statements of chapter 17: the fixed examples. -/
import Derived.Test.YtoangeemlcbjlaaGreatDoorR17d
import Derived.Test.YtoangeemlcbjlaaGreatDoorC17d
set_option linter.all false
namespace Go.Gv
open Go Go.Proofs Go.Proofs.YtoangeemlcbjlaaGreatDoor
set_option maxRecDepth 100000
set_option maxHeartbeats 4000000
instance (l:List Int) (n:Int):Decidable (kidsIn l n):=by unfold kidsIn;infer_instance
instance (g:Gate) (n:Int):Decidable (formed g n):=by unfold formed;infer_instance
instance (gs:List Gate) (g:Gate) (j:Nat):Decidable (KidOK gs g j):=by unfold KidOK;infer_instance
instance (gs:List Gate) (m:Nat) (g:Gate):Decidable (GoodAt gs m g):=by unfold GoodAt;infer_instance
instance (s:Is):Decidable (Inc s):=by unfold Inc;infer_instance
instance (a b:Is):Decidable (bef a b):=by unfold bef;infer_instance
def exG:List Gate:=[(2,3,[],()),(2,5,[],()),(2,7,[],()),(4,0,[0,1],()),(3,0,[2,3],()),(1,0,[],()),(0,0,[],())]
theorem exV:ValidC exG:=by
 refine ⟨by decide,fun m hm=>?_⟩
 have hm:m=0∨m=1∨m=2∨m=3∨m=4∨m=5∨m=6:=by
  have:exG.length=7:=rfl
  omega
 rcases hm with rfl|rfl|rfl|rfl|rfl|rfl|rfl<;>decide
theorem exI {i:Int} (h0:0≤i) (h1:i<7):GoodI exG i:=⟨h0,h1,exV⟩
theorem exF:FewR exG:=⟨by decide,by decide⟩
theorem exN:¬ GoodI exG 7:=fun h=>absurd h.hi (by decide)
theorem exU3 {h:List Bool} {T:Is}:up (valR h exG 3) T↔(3∈T∨hadB h 3=true)∧(5∈T∨hadB h 5=true):=by
 rw [up_times (k:=3) exV (by decide) rfl]
 have h0:up (valR h exG 0) T↔3∈T∨hadB h 3=true:=up_var (gs:=exG) (k:=0) rfl
 have h1:up (valR h exG 1) T↔5∈T∨hadB h 5=true:=up_var (gs:=exG) (k:=1) rfl
 constructor
 · exact fun q=>⟨h0.1 (q 0 (by decide)),h1.1 (q 1 (by decide))⟩
 · intro q j hj
   have hj:j∈([0,1]:List Int):=hj
   simp only [List.mem_cons,List.not_mem_nil,or_false] at hj
   rcases hj with rfl|rfl
   · exact h0.2 q.1
   · exact h1.2 q.2
theorem exU4 {h:List Bool} {T:Is}:up (valR h exG 4) T↔(7∈T∨hadB h 7=true)∨((3∈T∨hadB h 3=true)∧(5∈T∨hadB h 5=true)):=by
 rw [up_plus (k:=4) exV (by decide) rfl]
 have h0:up (valR h exG 2) T↔7∈T∨hadB h 7=true:=up_var (gs:=exG) (k:=2) rfl
 constructor
 · rintro ⟨j,hj,q⟩
   have hj:j∈([2,3]:List Int):=hj
   simp only [List.mem_cons,List.not_mem_nil,or_false] at hj
   rcases hj with rfl|rfl
   · exact .inl (h0.1 q)
   · exact .inr (exU3.1 q)
 · rintro (q|q)
   · exact ⟨2,by decide,h0.2 q⟩
   · exact ⟨3,by decide,exU3.2 q⟩
theorem exA:whyR [] exG 4=([[7],[3,5]],0):=by
 rw [whyR_few (exI (by decide) (by decide)) (by decide)]
 refine congrArg (fun l=>(l,(0:Int))) ((can_is (exI (by decide) (by decide))).uniq ⟨by decide,by decide,by decide⟩ fun T _=>?_)
 rw [show (4:Int).toNat=4 from rfl,exU4]
 simp [up,sub,hadB_nil]
theorem exB:whyR [false,false,false,true] exG 4=([[5],[7]],0):=by
 rw [whyR_few (exI (by decide) (by decide)) (by decide)]
 refine congrArg (fun l=>(l,(0:Int))) ((can_is (exI (by decide) (by decide))).uniq ⟨by decide,by decide,by decide⟩ fun T _=>?_)
 have e3:hadB [false,false,false,true] 3=true:=by decide
 have e5:¬ hadB [false,false,false,true] 5=true:=by decide
 have e7:¬ hadB [false,false,false,true] 7=true:=by decide
 rw [show (4:Int).toNat=4 from rfl,exU4]
 simp [up,sub,e3,e5,e7]
 exact Or.comm
theorem exC:whyR [] exG 5=([[]],0):=by
 rw [whyR_few (exI (by decide) (by decide)) (by decide)]
 rw [valR_leaf (by decide)];rfl
theorem exD:whyR [] exG 6=([],0):=by
 rw [whyR_few (exI (by decide) (by decide)) (by decide)]
 rw [valR_leaf (by decide)];rfl
theorem exE:whyR [] exG 7=([],1):=whyR_bad exN
theorem exA3:valR [] exG 3=[[3,5]]:=(can_is (i:=3) (exI (by decide) (by decide))).uniq ⟨by decide,by decide,by decide⟩ fun T _=>by
 rw [show (3:Int).toNat=3 from rfl,exU3]
 simp [up,sub,hadB_nil]
theorem exA4:valR [] exG 4=[[7],[3,5]]:=by
 have h:=exA
 rw [whyR_few (exI (by decide) (by decide)) (by decide)] at h
 exact congrArg Prod.fst h
theorem exN3:needV exG 3=[3,5]:=inc_ext (needV_inc _ _) (by decide) fun v=>by
 rw [needV_mem (exI (by decide) (by decide)),show (3:Int).toNat=3 from rfl,exA3]
 simp
theorem exN4:needV exG 4=[]:=inc_ext (needV_inc _ _) (by decide) fun v=>by
 rw [needV_mem (exI (by decide) (by decide)),show (4:Int).toNat=4 from rfl,exA4]
 simp
 intro h;subst h;decide
theorem exEf (rem:List Int):effV exG [3,4] rem=(if effB exG rem 3=true then [0] else [])++if effB exG rem 4=true then [1] else []:=by
 unfold effV
 rw [if_pos (boolOf_true.2 ⟨exV,by unfold RootsIn;decide⟩)]
 have e1:=effL_snoc (gs:=exG) (rem:=rem) (l:=[3,4]) (k:=1) (by decide)
 have e0:=effL_snoc (gs:=exG) (rem:=rem) (l:=[3,4]) (k:=0) (by decide)
 rw [show effL exG rem [3,4]=effL exG rem ([3,4].take (1+1)) from rfl,e1,e0]
 rfl
theorem exB3 (rem:List Int):effB exG rem 3=true↔3∈rem∨5∈rem:=by
 rw [effB_iff (exI (by decide) (by decide)),show (3:Int).toNat=3 from rfl,exA3]
 simp
theorem exB4 (rem:List Int):effB exG rem 4=true↔7∈rem∧(3∈rem∨5∈rem):=by
 rw [effB_iff (exI (by decide) (by decide)),show (4:Int).toNat=4 from rfl,exA4]
 simp
theorem exE1:effV exG [3,4] [3]=[0]:=by
 rw [exEf,if_pos ((exB3 _).2 (by decide)),if_neg (fun h=>absurd ((exB4 _).1 h) (by decide))];rfl
theorem exE2:effV exG [3,4] [5,7]=[0,1]:=by
 rw [exEf,if_pos ((exB3 _).2 (by decide)),if_pos ((exB4 _).2 (by decide))];rfl
@[reducible] noncomputable def S_z39:Spec:={ ins:=(.cons (.d tInt) .nil),pre:=fun _=>True,alts:=[{ outs:=(.cons (.d tGate) .nil),res:=(fun x=>(fun v=>((2,v,[],()),())) x.1)}]}
noncomputable def c_z39:Cf:=(cf_z39 (Fl []))
theorem g_z39:∀ x,S_z39.pre x→shOK S_z39.ins x→fnGoal c_z39 fn_z39 S_z39 x:=by
 rintro ⟨v,⟨⟩⟩ hpre hok
 clear hpre
 have hln:=shLn_of _ hok;replace hok:=Hd.mk hok;try simp only [shLn,datLn,inRng,lo,hi,maxLen,true_and,and_true] at hln
 first|refine fn_goal (w_head ?_)
 intro Kz kz;(conv=>whnf);(try dsimp+instances only);refine kz _ ?_;clear kz Kz;(conv=>(arg 2;whnf))
 repeat' (first|refine an ?_ ?_|((try refine gm ?_);first|((with_reducible show Kz _);(try dsimp+instances only);(with_reducible refine kz _ ?_);clear kz Kz)|refine st ?_|(refine sr ?_;intro Kz kz;conv=>whnf)|(refine cd ?_;(conv=>arg 2;whnf);refine st ?_)|refine blockK_y (by rfl) ?_|(refine sw ?_;conv=>whnf))|(refine gm ?_;conv=>whnf)|(intro hc;(try dsimp+instances only[Dat,SDat,dflt,Ty.size,keepS,bkUpd,Gv.bk,backS,wayA,maxI,minI,negI]at hc);try simp only[LS]at hc))
 all_goals (try ((fail_if_success refine nl ?_);(try dsimp only[Dat,SDat,dflt,Ty.size,keepS,bkUpd,Gv.bk,backS,wayA,maxI,minI,negI]);(try simp only[LS]);first|done|exact dsc|((try simp only[allP,lo,hi,room,true_and,and_true,implies_true]);(repeat' (first|refine an ?_ ?_|((with_reducible refine preA_t ?_ ?_);rotate_left;exact sameP_t)|intro hv))<;>(try omega))))
theorem ok_z39:SpecOK SP glob fi_z39 S_z39:=mk_ok (c:=c_z39) (tab_ok _) mix_ok wf_z39 (by decide) .nil (fun x hx=>Nat.zero_lt_one) g_z39
@[reducible] noncomputable def S_z36:Spec:={ ins:= .nil,pre:=fun _=>True,alts:=[{ outs:=(.cons (.d tCirc) .nil),res:=(fun _=>((exG,()),()))}]}
noncomputable def c_z36:Cf:=(cf_z36 (Fl [(fi_z39,S_z39)]))
theorem g_z36:∀ x,S_z36.pre x→shOK S_z36.ins x→fnGoal c_z36 fn_z36 S_z36 x:=by
 rintro ⟨⟩ hpre hok
 clear hpre
 have hln:=shLn_of _ hok;replace hok:=Hd.mk hok;try simp only [shLn,datLn,inRng,lo,hi,maxLen,true_and,and_true] at hln
 first|refine fn_goal (w_head ?_)
 intro Kz kz;(conv=>whnf);(try dsimp+instances only);refine kz _ ?_;clear kz Kz;(conv=>(arg 2;whnf))
 repeat' (first|refine an ?_ ?_|((try refine gm ?_);first|((with_reducible show Kz _);(try dsimp+instances only);(with_reducible refine kz _ ?_);clear kz Kz)|refine st ?_|(refine sr ?_;intro Kz kz;conv=>whnf)|(refine cd ?_;(conv=>arg 2;whnf);refine st ?_)|refine blockK_y (by rfl) ?_|(refine sw ?_;conv=>whnf))|(refine gm ?_;conv=>whnf)|(intro hc;(try dsimp+instances only[Dat,SDat,dflt,Ty.size,keepS,bkUpd,Gv.bk,backS,wayA,maxI,minI,negI]at hc);try simp only[LS]at hc))
 all_goals (try ((fail_if_success refine nl ?_);(try dsimp only[Dat,SDat,dflt,Ty.size,keepS,bkUpd,Gv.bk,backS,wayA,maxI,minI,negI]);(try simp only[LS]);first|done|exact dsc|((try simp only[allP,lo,hi,room,true_and,and_true,implies_true]);(repeat' (first|refine an ?_ ?_|((with_reducible refine preA_t ?_ ?_);rotate_left;exact sameP_t)|intro hv))<;>(try omega))))
theorem ok_z36:SpecOK SP glob fi_z36 S_z36:=mk_ok (c:=c_z36) (tab_ok _) mix_ok wf_z36 (by decide) (.cons ok_z39 .nil) (fun x hx=>Nat.zero_lt_one) g_z36
@[reducible] noncomputable def S_z38:Spec:={ ins:= .nil,pre:=fun _=>True,alts:=[{ outs:=(.cons (.d .bool) .nil),res:=(fun _=>(true,()))}],noisy:=true}
noncomputable def c_z38:Cf:={ cf_z38 (Fl [(fi_z36,S_z36),(fi_z51,S_z51),(fi_z52,S_z52),(fi_z50,S_z50),(fi_z49,S_z49),(fi_z75,S_z75),(fi_z61,S_z61)]) with nz:=true}
theorem g_z38:∀ x,S_z38.pre x→shOK S_z38.ins x→fnGoal c_z38 fn_z38 S_z38 x:=by
 rintro ⟨⟩ hpre hok
 clear hpre
 have hln:=shLn_of _ hok;replace hok:=Hd.mk hok;try simp only [shLn,datLn,inRng,lo,hi,maxLen,true_and,and_true] at hln
 have hB:whyR ((List.replicate 4 false).set 3 true) exG 4=([[5],[7]],0):=exB
 have hr:List.replicate 0 (0:Int)=[]:=rfl
 have hsm:=exF.small
 have hcn:=fun h i=>(whyR_can (gs:=exG) (h:=h) (i:=i) exF.1).inc
 first|refine fn_goal (w_head ?_)
 intro Kz kz;(conv=>whnf);(try dsimp+instances only);refine kz _ ?_;clear kz Kz;(conv=>(arg 2;whnf))
 repeat' (first|refine an ?_ ?_|((try refine gm ?_);first|((with_reducible show Kz _);(try dsimp+instances only);(with_reducible refine kz _ ?_);clear kz Kz)|refine st ?_|(refine sr ?_;intro Kz kz;conv=>whnf)|(refine cd ?_;(conv=>arg 2;whnf);refine st ?_)|refine blockK_y (by rfl) ?_|(refine sw ?_;conv=>whnf))|(refine gm ?_;conv=>whnf)|(intro hc;(try dsimp+instances only[Dat,SDat,dflt,Ty.size,keepS,bkUpd,Gv.bk,backS,wayA,maxI,minI,negI]at hc);try simp only[LS]at hc))
 all_goals (try ((fail_if_success refine nl ?_);(try dsimp only[Dat,SDat,dflt,Ty.size,keepS,bkUpd,Gv.bk,backS,wayA,maxI,minI,negI]);(try simp only[LS]);first|done|exact dsc|((try simp only[allP,lo,hi,room,true_and,and_true,implies_true]);(repeat' (first|refine an ?_ ?_|((with_reducible refine preA_t ?_ ?_);rotate_left;exact sameP_t)|intro hv))<;>(try omega))))
 all_goals (try ((fail_if_success refine nl ?_);exact exF))
 all_goals (try ((fail_if_success refine nl ?_);exact hsm _ (by assumption)))
 all_goals (try ((fail_if_success refine nl ?_);(first|exact hcn _ _ _ (by assumption)|exact (show ∀ s∈([[7],[3,5]]:List Is),Inc s by decide) _ (by assumption)|exact (show ∀ s∈([[5],[7]]:List Is),Inc s by decide) _ (by assumption)|exact (show ∀ s∈([List.replicate 0 0]:List Is),Inc s by decide) _ (by assumption))))
 all_goals (first
  |(rw [exA];done)
  |(rw [hB];done)
  |exact congrArg Prod.fst exC
  |exact exN3
  |exact exE1
  |exact exE2
  |(simp only [exA,hB,exC,exD,exE,exN3,exN4,exE1,exE2];first|done|rfl|decide)
  |(exfalso;revert hc;simp only [exA,hB,exC,exD,exE,exN3,exN4,exE1,exE2,hr];simp;done)
  |skip)
theorem ok_z38:SpecOK SP glob fi_z38 S_z38:=mk_ok (c:=c_z38) (tab_ok _) mix_ok wf_z38 (by decide) (.cons ok_z36 (.cons ok_z51 (.cons ok_z52 (.cons ok_z50 (.cons ok_z49 (.cons ok_z75 (.cons ok_z61 .nil))))))) (fun x hx=>Nat.zero_lt_one) g_z38
def FewN (gs:List Gate) (n:Int):Prop:=(gs.length:Int)≤n∧∀ g∈gs,g.2.2.1.length≤20
theorem FewN.r {gs:List Gate} (h:(gs.length:Int)≤16∧∀ g∈gs,g.2.2.1.length≤20):FewR gs:=⟨by have:=h.1;omega,h.2⟩
structure LawI (gs:List Gate) (i:Int):Prop where
 f:FewR gs
 lo:0≤i
 hi:i<gs.length
theorem LawI.good {gs:List Gate} {i:Int} (h:LawI gs i) {H:List Bool} (e:(whyR H gs i).2=0):GoodI gs i:=Classical.byContradiction fun n=>by
 rw [whyR_bad n] at e
 cases e
theorem LawI.val {gs:List Gate} {i:Int} (h:LawI gs i) {H:List Bool} (e:(whyR H gs i).2=0):(whyR H gs i).1=valR H gs i.toNat:=by rw [whyR_few (h.good e) h.f.1]
@[reducible] noncomputable def S_z37:Spec:={ ins:=(.cons (.d tCirc) .nil),pre:=fun _=>True,alts:=[{ outs:=(.cons (.d .bool) .nil),res:=(fun x=>(fun c=>(boolOf ((c.1.length:Int)≤16∧∀ g∈c.1,g.2.2.1.length≤20),())) x.1)}]}
noncomputable def c_z37:Cf:=(cf_z37 (Fl [(fi_z63,S_z63)]))
theorem g_z37:∀ x,S_z37.pre x→shOK S_z37.ins x→fnGoal c_z37 fn_z37 S_z37 x:=by
 rintro ⟨c,⟨⟩⟩ hpre hok
 clear hpre
 have hln:=shLn_of _ hok;replace hok:=Hd.mk hok;try simp only [shLn,datLn,inRng,lo,hi,maxLen,true_and,and_true] at hln
 first|refine fn_goal (w_head ?_)
 intro Kz kz;(conv=>whnf);(try dsimp+instances only);refine kz _ ?_;clear kz Kz;(conv=>(arg 2;whnf))
 repeat' (first|refine an ?_ ?_|((try refine gm ?_);first|((with_reducible show Kz _);(try dsimp+instances only);(with_reducible refine kz _ ?_);clear kz Kz)|refine st ?_|(refine sr ?_;intro Kz kz;conv=>whnf)|(refine cd ?_;(conv=>arg 2;whnf);refine st ?_)|refine blockK_y (by rfl) ?_|(refine sw ?_;conv=>whnf))|(refine gm ?_;conv=>whnf)|(intro hc;(try dsimp+instances only[Dat,SDat,dflt,Ty.size,keepS,bkUpd,Gv.bk,backS,wayA,maxI,minI,negI]at hc);try simp only[LS]at hc))
 all_goals (try ((fail_if_success refine nl ?_);(try dsimp only[Dat,SDat,dflt,Ty.size,keepS,bkUpd,Gv.bk,backS,wayA,maxI,minI,negI]);(try simp only[LS]);first|done|exact dsc|((try simp only[allP,lo,hi,room,true_and,and_true,implies_true]);(repeat' (first|refine an ?_ ?_|((with_reducible refine preA_t ?_ ?_);rotate_left;exact sameP_t)|intro hv))<;>(try omega))))
theorem ok_z37:SpecOK SP glob fi_z37 S_z37:=mk_ok (c:=c_z37) (tab_ok _) mix_ok wf_z37 (by decide) (.cons ok_z63 .nil) (fun x hx=>Nat.zero_lt_one) g_z37
@[reducible] noncomputable def S_z32:Spec:={ ins:=(.cons (.d tCirc) (.cons (.d tInt) (.cons (.d (.sl .bool)) (.cons (.d (.sl tInt)) (.cons (.d (.sl tInt)) .nil))))),pre:=fun _=>True,alts:=[{ outs:=(.cons (.d .bool) .nil),res:=(fun x=>(fun c i h roots removed=>(true,())) x.1 x.2.1 x.2.2.1 x.2.2.2.1 x.2.2.2.2.1)}],noisy:=true}
noncomputable def c_z32:Cf:={ cf_z32 (Fl [(fi_z38,S_z38),(fi_z37,S_z37),(fi_z51,S_z51),(fi_z77,S_z77),(fi_z52,S_z52),(fi_z78,S_z78),(fi_z75,S_z75),(fi_z50,S_z50),(fi_z73,S_z73),(fi_z61,S_z61),(fi_z49,S_z49),(fi_z72,S_z72)]) with nz:=true}
theorem g_z32:∀ x,S_z32.pre x→shOK S_z32.ins x→fnGoal c_z32 fn_z32 S_z32 x:=by
 rintro ⟨⟨gs,⟨⟩⟩,(i:Int),(h:List Bool),(roots:List Int),(removed:List Int),⟨⟩⟩ hpre hok
 clear hpre
 have hln:=shLn_of _ hok;replace hok:=Hd.mk hok;try simp only [shLn,datLn,inRng,lo,hi,maxLen,true_and,and_true] at hln
 have hr:¬ (((¬ ((gs.length:Int)≤16∧∀ g∈gs,g.2.2.1.length≤20)∨(50:Int)<(h.length:Int))∨(30:Int)<(roots.length:Int))∨(30:Int)<(removed.length:Int))→FewR gs:=fun q=>FewN.r (Classical.byContradiction fun z=>q (.inl (.inl (.inl z))))
 have hcn:=fun (q:FewR gs) h i=>(whyR_can (gs:=gs) (h:=h) (i:=i) q.1).inc
 first|refine fn_goal (w_head ?_)
 intro Kz kz;(conv=>whnf);(try dsimp+instances only);refine kz _ ?_;clear kz Kz;(conv=>(arg 2;whnf))
 repeat' (first|refine an ?_ ?_|((try refine gm ?_);first|((with_reducible show Kz _);(try dsimp+instances only);(with_reducible refine kz _ ?_);clear kz Kz)|refine st ?_|(refine sr ?_;intro Kz kz;conv=>whnf)|(refine cd ?_;(conv=>arg 2;whnf);refine st ?_)|refine blockK_y (by rfl) ?_|(refine sw ?_;conv=>whnf))|(refine gm ?_;conv=>whnf)|(intro hc;(try dsimp+instances only[Dat,SDat,dflt,Ty.size,keepS,bkUpd,Gv.bk,backS,wayA,maxI,minI,negI]at hc);try simp only[LS]at hc))
 all_goals (try ((fail_if_success refine nl ?_);(try dsimp only[Dat,SDat,dflt,Ty.size,keepS,bkUpd,Gv.bk,backS,wayA,maxI,minI,negI]);(try simp only[LS]);first|done|exact dsc|((try simp only[allP,lo,hi,room,true_and,and_true,implies_true]);(repeat' (first|refine an ?_ ?_|((with_reducible refine preA_t ?_ ?_);rotate_left;exact sameP_t)|intro hv))<;>(try omega))))
 all_goals (first
  |exact hr (by assumption)
  |exact (hr (by assumption)).small _ (by assumption)
  |exact hcn (hr (by assumption)) _ _ _ (by assumption)
  |(exfalso;simp at hc;done)
  |(exfalso;simp_all;done))
theorem ok_z32:SpecOK SP glob fi_z32 S_z32:=mk_ok (c:=c_z32) (tab_ok _) mix_ok wf_z32 (by decide) (.cons ok_z38 (.cons ok_z37 (.cons ok_z51 (.cons ok_z77 (.cons ok_z52 (.cons ok_z78 (.cons ok_z75 (.cons ok_z50 (.cons ok_z73 (.cons ok_z61 (.cons ok_z49 (.cons ok_z72 .nil)))))))))))) (fun x hx=>Nat.zero_lt_one) g_z32
end Go.Gv
