/- Chapter 17: the reference: what is needed, and what a removal changes. -/
import Derived.Test.YtoangeemlcbjlaaGreatDoorR17c
import Derived.Test.YtoangeemlcbjlaaGreatDoorQ17h
set_option linter.all false
namespace Go.Gv
open Go Go.Proofs Go.Proofs.YtoangeemlcbjlaaGreatDoor
set_option maxRecDepth 100000
set_option maxHeartbeats 4000000
theorem rep_set {n k:Nat} (h:k<n):(List.replicate k true++List.replicate (n - k) false).set k true=List.replicate (k+1) true++List.replicate (n - (k+1)) false:=by
 refine List.ext_getElem (by simp;omega) fun v h1 h2=>?_
 rw [List.getElem_set,List.getElem_append,List.getElem_append]
 simp only [List.length_replicate,List.getElem_replicate]
 by_cases q:k=v
 · subst q;simp
 · rw [if_neg q]
   by_cases c:v<k
   · rw [dif_pos c,dif_pos (by omega)]
   · rw [dif_neg c,dif_neg (by omega)]
@[reducible] noncomputable def S_z70:Spec:={ ins:=(.cons (.d tCirc) (.cons (.d (.sl tInt)) .nil)),pre:=(fun x=>(fun c w=>ValidC c.1) x.1 x.2.1),alts:=[{ outs:=(.cons (.d (.sl .bool)) .nil),res:=(fun x=>(fun c w=>(allB c.1 w,())) x.1 x.2.1)}],noisy:=true}
noncomputable def c_z70:Cf:={ cf_z70 (Fl []) with nz:=true}
theorem g_z70:∀ x,S_z70.pre x→shOK S_z70.ins x→fnGoal c_z70 fn_z70 S_z70 x:=by
 rintro ⟨⟨gs,⟨⟩⟩,(w:List Int),⟨⟩⟩ hpre hok
 try dsimp only [Dat,SDat,dflt,Ty.size,keepS,bkUpd,Gv.bk,backS,wayA,maxI,minI,negI] at hpre
 have hln:=shLn_of _ hok;replace hok:=Hd.mk hok;try simp only [shLn,datLn,inRng,lo,hi,maxLen,true_and,and_true] at hln
 have hV:ValidC gs:=hpre
 clear hpre
 have hmx:=hV.1
 first|refine fn_goal (w_head ?_)
 intro Kz kz;(conv=>whnf);(try dsimp+instances only);refine kz _ ?_;clear kz Kz;(conv=>(arg 2;whnf))
 repeat' (first|refine an ?_ ?_|((try refine gm ?_);first|((with_reducible show Kz _);(try dsimp+instances only);(with_reducible refine kz _ ?_);clear kz Kz)|refine st ?_|(refine sr ?_;intro Kz kz;conv=>whnf)|(refine cd ?_;(conv=>arg 2;whnf);refine st ?_)|refine blockK_y (by rfl) ?_|(refine sw ?_;conv=>whnf))|(refine gm ?_;conv=>whnf)|(intro hc;(try dsimp+instances only[Dat,SDat,dflt,Ty.size,keepS,bkUpd,Gv.bk,backS,wayA,maxI,minI,negI]at hc);try simp only[LS]at hc))
 all_goals (try ((fail_if_success refine nl ?_);(try dsimp only[Dat,SDat,dflt,Ty.size,keepS,bkUpd,Gv.bk,backS,wayA,maxI,minI,negI]);(try simp only[LS]);first|done|exact dsc|((try simp only[allP,lo,hi,room,true_and,and_true,implies_true]);(repeat' (first|refine an ?_ ?_|((with_reducible refine preA_t ?_ ?_);rotate_left;exact sameP_t)|intro hv))<;>(try omega))))
 refine w_loop [(5, .d tInt),(6, .d tInt)] [] (fun y=>∃ k:Nat,y.1.2.1=(k:Int)∧k≤gs.length∧y.1.1=maxV (gs.take k)) (fun y=>gs.length - y.1.2.1.toNat) ?_
 conv=>whnf
 refine And.intro ?_ ?_
 · exact ⟨0,rfl,Nat.zero_le _,rfl⟩
 rintro ⟨⟨n,_,⟨⟩⟩,⟨⟩⟩ ⟨k,rfl,hk,hn⟩
 have hn:n=maxV (gs.take k):=hn
 subst hn
 have hn0:=maxV_nn (gs.take k)
 have hn1:=maxV_le hV k
 have hvv:=fun (h:k<gs.length)=>valid_var hV h
 have hnf:=fun (h:¬ k<gs.length)=>show maxV (gs.take k)=maxV gs from by rw [List.take_of_length_le (by omega)]
 have hnx:=fun (h:k<gs.length)=>(maxV_snoc h).symm
 repeat' (first|refine an ?_ ?_|((try refine gm ?_);first|((with_reducible show Kz _);(try dsimp+instances only);(with_reducible refine kz _ ?_);clear kz Kz)|refine st ?_|(refine sr ?_;intro Kz kz;conv=>whnf)|(refine cd ?_;(conv=>arg 2;whnf);refine st ?_)|refine blockK_y (by rfl) ?_|(refine sw ?_;conv=>whnf))|(refine gm ?_;conv=>whnf)|(intro hc;(try dsimp+instances only[Dat,SDat,dflt,Ty.size,keepS,bkUpd,Gv.bk,backS,wayA,maxI,minI,negI]at hc);try simp only[LS]at hc))
 all_goals (try ((fail_if_success refine nl ?_);(try dsimp only[Dat,SDat,dflt,Ty.size,keepS,bkUpd,Gv.bk,backS,wayA,maxI,minI,negI]);(try simp only[LS]);first|done|exact dsc|((try simp only[allP,lo,hi,room,true_and,and_true,implies_true]);(repeat' (first|refine an ?_ ?_|((with_reducible refine preA_t ?_ ?_);rotate_left;exact sameP_t)|intro hv))<;>(try omega))))
 all_goals (try ((fail_if_success refine nl ?_);(first|exact ⟨k+1,rfl,by omega,hnx (by omega)⟩)))
 have ek:gs.take k=gs:=List.take_of_length_le (by omega)
 rw [ek] at hn0 hn1
 obtain ⟨n,hn⟩:∃ n:Nat,maxV gs=(n:Int):=⟨(maxV gs).toNat,(Int.toNat_of_nonneg hn0).symm⟩
 rw [ek,hn]
 rw [hn] at hn1
 have hnn:(maxV gs).toNat=n:=by omega
 refine w_loop [(7, .row .bool),(8, .d tInt)] [] (fun y=>∃ k:Nat,y.1.2.1=(k:Int)∧k≤n∧y.1.1=List.replicate k true++List.replicate (n - k) false) (fun y=>n - y.1.2.1.toNat) ?_
 conv=>whnf
 refine And.intro ?_ ?_
 · exact ⟨0,rfl,Nat.zero_le _,rfl⟩
 rintro ⟨⟨(ou:List Bool),_,⟨⟩⟩,⟨⟩⟩ ⟨k1,rfl,hk1,hou⟩
 have hou:ou=List.replicate k1 true++List.replicate (n - k1) false:=hou
 have hol:List.length ou=n:=by rw [hou];simp;omega
 have hon:=fun (h:k1<n)=>show ou.set k1 true=List.replicate (k1+1) true++List.replicate (n - (k1+1)) false from by rw [hou,rep_set h]
 have hof:=fun (h:¬ k1<n)=>show ou=allB gs [] from by
  have:k1=n:=by omega
  subst this
  rw [hou,allB_nil,hnn];simp
 have hk8:=fun (h:k1<n)=>show (k1:Int)+1≤9223372036854775807 from by omega
 repeat' (first|refine an ?_ ?_|((try refine gm ?_);first|((with_reducible show Kz _);(try dsimp+instances only);(with_reducible refine kz _ ?_);clear kz Kz)|refine st ?_|(refine sr ?_;intro Kz kz;conv=>whnf)|(refine cd ?_;(conv=>arg 2;whnf);refine st ?_)|refine blockK_y (by rfl) ?_|(refine sw ?_;conv=>whnf))|(refine gm ?_;conv=>whnf)|(intro hc;(try dsimp+instances only[Dat,SDat,dflt,Ty.size,keepS,bkUpd,Gv.bk,backS,wayA,maxI,minI,negI]at hc);try simp only[LS]at hc))
 all_goals (try ((fail_if_success refine nl ?_);(try dsimp only[Dat,SDat,dflt,Ty.size,keepS,bkUpd,Gv.bk,backS,wayA,maxI,minI,negI]);(try simp only[LS]);first|done|exact dsc|((try simp only[allP,lo,hi,room,true_and,and_true,implies_true]);(repeat' (first|refine an ?_ ?_|((with_reducible refine preA_t ?_ ?_);rotate_left;exact sameP_t)|intro hv))<;>(try omega))))
 all_goals (try ((fail_if_success refine nl ?_);(first|exact ⟨k1+1,rfl,by omega,hon (by omega)⟩|exact hk8 (by omega))))
 have hof:=hof (by omega)
 refine w_loop [(7, .row .bool),(9, .d tInt)] [] (fun y=>∃ k:Nat,y.1.2.1=(k:Int)∧k≤w.length∧y.1.1=allB gs (w.take k)) (fun y=>w.length - y.1.2.1.toNat) ?_
 conv=>whnf
 refine And.intro ?_ ?_
 · exact ⟨0,rfl,Nat.zero_le _,hof⟩
 rintro ⟨⟨(ou:List Bool),_,⟨⟩⟩,⟨⟩⟩ ⟨k2,rfl,hk2,hou⟩
 have hou:ou=allB gs (w.take k2):=hou
 have hol:List.length ou=n:=by rw [hou,allB_len,hnn]
 have hsn:=fun (h:k2<w.length)=>show w.take (k2+1)=w.take k2++[w.getD k2 0] from by rw [List.take_succ_eq_append_getElem h,getD_ok 0 h]
 have e1:=fun (h:k2<w.length) (q:0≤w.getD k2 0)=>show ou.set (w.getD k2 0).toNat false=allB gs (w.take (k2+1)) from by rw [hsn h,allB_set q,hou]
 have e0:=fun (h:k2<w.length) (q:¬ (0≤w.getD k2 0∧w.getD k2 0<(n:Int)))=>show ou=allB gs (w.take (k2+1)) from by rw [hsn h,allB_no (by rw [hn];exact q),hou]
 have hfin:=fun (h:¬ k2<w.length)=>show ou=allB gs w from by rw [hou,List.take_of_length_le (by omega)]
 repeat' (first|refine an ?_ ?_|((try refine gm ?_);first|((with_reducible show Kz _);(try dsimp+instances only);(with_reducible refine kz _ ?_);clear kz Kz)|refine st ?_|(refine sr ?_;intro Kz kz;conv=>whnf)|(refine cd ?_;(conv=>arg 2;whnf);refine st ?_)|refine blockK_y (by rfl) ?_|(refine sw ?_;conv=>whnf))|(refine gm ?_;conv=>whnf)|(intro hc;(try dsimp+instances only[Dat,SDat,dflt,Ty.size,keepS,bkUpd,Gv.bk,backS,wayA,maxI,minI,negI]at hc);try simp only[LS]at hc))
 all_goals (try ((fail_if_success refine nl ?_);(try dsimp only[Dat,SDat,dflt,Ty.size,keepS,bkUpd,Gv.bk,backS,wayA,maxI,minI,negI]);(try simp only[LS]);first|done|exact dsc|((try simp only[allP,lo,hi,room,true_and,and_true,implies_true]);(repeat' (first|refine an ?_ ?_|((with_reducible refine preA_t ?_ ?_);rotate_left;exact sameP_t)|intro hv))<;>(try omega))))
 all_goals (first
  |exact ⟨k2+1,rfl,by omega,e1 (by omega) (by omega)⟩
  |exact ⟨k2+1,rfl,by omega,e0 (by omega) (by omega)⟩
  |exact hfin (by omega))
theorem ok_z70:SpecOK SP glob fi_z70 S_z70:=mk_ok (c:=c_z70) (tab_ok _) mix_ok wf_z70 (by decide) .nil (fun x hx=>Nat.zero_lt_one) g_z70
@[reducible] noncomputable def S_z73:Spec:={ ins:=(.cons (.d tCirc) (.cons (.d tInt) .nil)),pre:=(fun x=>(fun c i=>SmallG c.1) x.1 x.2.1),alts:=[{ outs:=(.cons (.d (.sl tInt)) .nil),res:=(fun x=>(fun c i=>(needV c.1 i,())) x.1 x.2.1)}],noisy:=true}
noncomputable def c_z73:Cf:={ cf_z73 (Fl [(fi_z66,S_z66),(fi_z70,S_z70),(fi_z64,S_z64)]) with spl:=[64],nz:=true}
theorem g_z73:∀ x,S_z73.pre x→shOK S_z73.ins x→fnGoal c_z73 fn_z73 S_z73 x:=by
 rintro ⟨⟨gs,⟨⟩⟩,(i:Int),⟨⟩⟩ hpre hok
 try dsimp only [Dat,SDat,dflt,Ty.size,keepS,bkUpd,Gv.bk,backS,wayA,maxI,minI,negI] at hpre
 have hln:=shLn_of _ hok;replace hok:=Hd.mk hok;try simp only [shLn,datLn,inRng,lo,hi,maxLen,true_and,and_true] at hln
 have hsm:SmallG gs:=hpre
 clear hpre
 have hok:¬ ((¬ ValidC gs∨i<0)∨(gs.length:Int)≤i)→GoodI gs i:=fun q=>⟨by omega,by omega,Classical.byContradiction fun z=>q (.inl (.inl z))⟩
 have hno:((¬ ValidC gs∨i<0)∨(gs.length:Int)≤i)→needV gs i=[]:=fun q=>needV_bad fun g=>by
  have h1:=g.lo
  have h2:=g.hi
  rcases q with (q|q)|q
  · exact q g.v
  · omega
  · omega
 have hn0:=fun (q:holdsV gs i (allB gs [])=false)=>show needV gs i=[] from needV_no fun z=>by
  rw [holds_allB] at q
  rw [q] at z
  cases z.2
 first|refine fn_goal (w_head ?_)
 intro Kz kz;(conv=>whnf);(try dsimp+instances only);refine kz _ ?_;clear kz Kz;(conv=>(arg 2;whnf))
 repeat' (first|refine an ?_ ?_|((try refine gm ?_);first|((with_reducible show Kz _);(try dsimp+instances only);(with_reducible refine kz _ ?_);clear kz Kz)|refine st ?_|(refine sr ?_;intro Kz kz;conv=>whnf)|(refine cd ?_;(conv=>arg 2;whnf);refine st ?_)|refine blockK_y (by rfl) ?_|(refine sw ?_;conv=>whnf))|(refine gm ?_;conv=>whnf)|(intro hc;(try dsimp+instances only[Dat,SDat,dflt,Ty.size,keepS,bkUpd,Gv.bk,backS,wayA,maxI,minI,negI]at hc);try simp only[LS]at hc))
 all_goals (try ((fail_if_success refine nl ?_);(try dsimp only[Dat,SDat,dflt,Ty.size,keepS,bkUpd,Gv.bk,backS,wayA,maxI,minI,negI]);(try simp only[LS]);first|done|exact dsc|((try simp only[allP,lo,hi,room,true_and,and_true,implies_true]);(repeat' (first|refine an ?_ ?_|((with_reducible refine preA_t ?_ ?_);rotate_left;exact sameP_t)|intro hv))<;>(try omega))))
 all_goals (try ((fail_if_success refine nl ?_);(first|exact (hno (by assumption)).symm|exact (hok (by assumption)).v|exact hsm _ (by assumption)|exact (hn0 hc).symm)))
 have hg:=hok (by assumption)
 have hV:=hg.v
 have hmx:=hV.1
 have hyes:needV gs i=needL gs i (varsI gs):=needV_yes hV (by rename ¬ holdsV gs i (allB gs [])=false=>hq;rw [holds_allB,Bool.not_eq_false] at hq;exact hq)
 have hl8:=allB_len gs []
 have hl9:=maxV_le hV gs.length
 rw [List.take_length] at hl9
 refine w_loop [(6, .row tInt),(7, .d tInt)] [] (fun y=>∃ v:Nat,y.1.2.1=(v:Int)∧v≤(maxV gs).toNat∧y.1.1=needR gs i v) (fun y=>(maxV gs).toNat - y.1.2.1.toNat) ?_
 conv=>whnf
 refine And.intro ?_ ?_
 · exact ⟨0,rfl,Nat.zero_le _,rfl⟩
 rintro ⟨⟨(ou:List Int),_,⟨⟩⟩,⟨⟩⟩ ⟨v,rfl,hv,hou⟩
 have hou:ou=needR gs i v:=hou
 have hol:List.length ou≤4000:=by
  rw [hou]
  unfold needR
  rw [List.length_map]
  refine Nat.le_trans (List.length_filter_le _ _) ?_
  rw [List.length_range];omega
 have hfin:=fun (h:¬ v<(maxV gs).toNat)=>show ou=needV gs i from by
  have:v=(maxV gs).toNat:=by omega
  rw [hou,hyes,this,needR_is hV]
 have e1:=fun (q1:InV gs [] (v:Int)) (q:holdsV gs i (allB gs [(v:Int)])=false)=>show ou++[(v:Int)]=needR gs i (v+1) from by rw [holds_allB] at q;rw [needR_snoc,if_pos ⟨q1,q⟩,hou]
 have e0:=fun (q:¬ (InV gs [] (v:Int)∧holdsV gs i (allB gs [(v:Int)])=false))=>show ou=needR gs i (v+1) from by rw [holds_allB] at q;rw [needR_snoc,if_neg q,hou,List.append_nil]
 repeat' (first|refine an ?_ ?_|((try refine gm ?_);first|((with_reducible show Kz _);(try dsimp+instances only);(with_reducible refine kz _ ?_);clear kz Kz)|refine st ?_|(refine sr ?_;intro Kz kz;conv=>whnf)|(refine cd ?_;(conv=>arg 2;whnf);refine st ?_)|refine blockK_y (by rfl) ?_|(refine sw ?_;conv=>whnf))|(refine gm ?_;conv=>whnf)|(intro hc;(try dsimp+instances only[Dat,SDat,dflt,Ty.size,keepS,bkUpd,Gv.bk,backS,wayA,maxI,minI,negI]at hc);try simp only[LS]at hc))
 all_goals (try ((fail_if_success refine nl ?_);(try dsimp only[Dat,SDat,dflt,Ty.size,keepS,bkUpd,Gv.bk,backS,wayA,maxI,minI,negI]);(try simp only[LS]);first|done|exact dsc|((try simp only[allP,lo,hi,room,true_and,and_true,implies_true]);(repeat' (first|refine an ?_ ?_|((with_reducible refine preA_t ?_ ?_);rotate_left;exact sameP_t)|intro hv))<;>(try omega))))
 all_goals (try ((fail_if_success refine nl ?_);exact hfin (by omega)))
 refine w_loop [(8, .d .bool),(9, .d tInt)] [] (fun y=>∃ k:Nat,y.1.2.1=(k:Int)∧k≤gs.length∧y.1.1=boolOf (InV (gs.take k) [] (v:Int))) (fun y=>gs.length - y.1.2.1.toNat) ?_
 conv=>whnf
 refine And.intro ?_ ?_
 · exact ⟨0,rfl,Nat.zero_le _,(boolOf_false.2 fun ⟨g,hg,_⟩=>by rw [List.take_zero] at hg;cases hg).symm⟩
 rintro ⟨⟨(us:Bool),_,⟨⟩⟩,⟨⟩⟩ ⟨k,rfl,hk,hus⟩
 have hus:us=boolOf (InV (gs.take k) [] (v:Int)):=hus
 have hin:=fun (h:k<gs.length)=>InV.take (v:=(v:Int)) h
 have hu1:us=true↔InV (gs.take k) [] (v:Int):=by rw [hus];exact boolOf_true
 have hall:=fun (h:¬ k<gs.length)=>show us=true↔InV gs [] (v:Int) from by rw [hu1,List.take_of_length_le (by omega)]
 clear hus
 have hst:=fun (h:k<gs.length)=>show boolOf (us=true∨(((List.getD gs k ((0,0,[],()):Gate))).1=2∧((List.getD gs k ((0,0,[],()):Gate))).2.1=(v:Int)))=boolOf (InV (gs.take (k+1)) [] (v:Int)) from bC (by rw [hin h,hu1])
 repeat' (first|refine an ?_ ?_|((try refine gm ?_);first|((with_reducible show Kz _);(try dsimp+instances only);(with_reducible refine kz _ ?_);clear kz Kz)|refine st ?_|(refine sr ?_;intro Kz kz;conv=>whnf)|(refine cd ?_;(conv=>arg 2;whnf);refine st ?_)|refine blockK_y (by rfl) ?_|(refine sw ?_;conv=>whnf))|(refine gm ?_;conv=>whnf)|(intro hc;(try dsimp+instances only[Dat,SDat,dflt,Ty.size,keepS,bkUpd,Gv.bk,backS,wayA,maxI,minI,negI]at hc);try simp only[LS]at hc))
 all_goals (try ((fail_if_success refine nl ?_);(try dsimp only[Dat,SDat,dflt,Ty.size,keepS,bkUpd,Gv.bk,backS,wayA,maxI,minI,negI]);(try simp only[LS]);first|done|exact dsc|((try simp only[allP,lo,hi,room,true_and,and_true,implies_true]);(repeat' (first|refine an ?_ ?_|((with_reducible refine preA_t ?_ ?_);rotate_left;exact sameP_t)|intro hv))<;>(try omega))))
 all_goals (try ((fail_if_success refine nl ?_);exact hsm _ (by assumption)))
 all_goals (first
  |exact ⟨k+1,rfl,by omega,hst (by omega)⟩
  |exact ⟨v+1,rfl,by omega,e1 ((hall (by omega)).1 (by assumption)) (by assumption)⟩
  |exact ⟨v+1,rfl,by omega,e0 (fun z=>by first|exact hc z.2|(have:=(hall (by omega)).2 z.1;rw [hc] at this;cases this))⟩)
theorem ok_z73:SpecOK SP glob fi_z73 S_z73:=mk_ok (c:=c_z73) (tab_ok _) mix_ok wf_z73 (by decide) (.cons ok_z66 (.cons ok_z70 (.cons ok_z64 .nil))) (fun x hx=>Nat.zero_lt_one) g_z73
@[reducible] noncomputable def S_z72:Spec:={ ins:=(.cons (.d tCirc) (.cons (.d (.sl tInt)) (.cons (.d (.sl tInt)) .nil))),pre:=(fun x=>(fun c roots removed=>SmallG c.1∧roots.length≤1000000) x.1 x.2.1 x.2.2.1),alts:=[{ outs:=(.cons (.d (.sl tInt)) .nil),res:=(fun x=>(fun c roots removed=>(effV c.1 roots removed,())) x.1 x.2.1 x.2.2.1)}],noisy:=true}
noncomputable def c_z72:Cf:={ cf_z72 (Fl [(fi_z66,S_z66),(fi_z70,S_z70),(fi_z64,S_z64)]) with spl:=[46],nz:=true}
theorem g_z72:∀ x,S_z72.pre x→shOK S_z72.ins x→fnGoal c_z72 fn_z72 S_z72 x:=by
 rintro ⟨⟨gs,⟨⟩⟩,(l:List Int),(rem:List Int),⟨⟩⟩ hpre hok
 try dsimp only [Dat,SDat,dflt,Ty.size,keepS,bkUpd,Gv.bk,backS,wayA,maxI,minI,negI] at hpre
 have hln:=shLn_of _ hok;replace hok:=Hd.mk hok;try simp only [shLn,datLn,inRng,lo,hi,maxLen,true_and,and_true] at hln
 obtain ⟨hsm,hl9⟩:=hpre
 have hsm:SmallG gs:=hsm
 have hl9:l.length≤1000000:=hl9
 first|refine fn_goal (w_head ?_)
 intro Kz kz;(conv=>whnf);(try dsimp+instances only);refine kz _ ?_;clear kz Kz;(conv=>(arg 2;whnf))
 repeat' (first|refine an ?_ ?_|((try refine gm ?_);first|((with_reducible show Kz _);(try dsimp+instances only);(with_reducible refine kz _ ?_);clear kz Kz)|refine st ?_|(refine sr ?_;intro Kz kz;conv=>whnf)|(refine cd ?_;(conv=>arg 2;whnf);refine st ?_)|refine blockK_y (by rfl) ?_|(refine sw ?_;conv=>whnf))|(refine gm ?_;conv=>whnf)|(intro hc;(try dsimp+instances only[Dat,SDat,dflt,Ty.size,keepS,bkUpd,Gv.bk,backS,wayA,maxI,minI,negI]at hc);try simp only[LS]at hc))
 all_goals (try ((fail_if_success refine nl ?_);(try dsimp only[Dat,SDat,dflt,Ty.size,keepS,bkUpd,Gv.bk,backS,wayA,maxI,minI,negI]);(try simp only[LS]);first|done|exact dsc|((try simp only[allP,lo,hi,room,true_and,and_true,implies_true]);(repeat' (first|refine an ?_ ?_|((with_reducible refine preA_t ?_ ?_);rotate_left;exact sameP_t)|intro hv))<;>(try omega))))
 all_goals (try ((fail_if_success refine nl ?_);exact hsm _ (by assumption)))
 all_goals (try (unfold effV;rw [if_neg (fun h=>hc (boolOf_true.1 h).1)];done))
 have hV:ValidC gs:=by assumption
 have hmx:=hV.1
 refine w_loop [(9, .row tInt),(10, .d tInt)] [] (fun y=>∃ k:Nat,y.1.2.1=(k:Int)∧k≤l.length∧RootsIn gs (l.take k)∧y.1.1=effL gs rem (l.take k)) (fun y=>l.length - y.1.2.1.toNat) ?_
 conv=>whnf
 refine And.intro ?_ ?_
 · exact ⟨0,rfl,Nat.zero_le _,(fun x hx=>by cases hx),rfl⟩
 rintro ⟨⟨(ou:List Int),_,⟨⟩⟩,⟨⟩⟩ ⟨k,rfl,hk,hR,hou⟩
 have hou:ou=effL gs rem (l.take k):=hou
 have hR:RootsIn gs (l.take k):=hR
 have hol:List.length ou≤l.length:=by
  rw [hou]
  refine Nat.le_trans effL_len ?_
  rw [List.length_take];omega
 have hx:=fun (h:k<l.length) (q:¬ (l.getD k 0<0∨(gs.length:Int)≤l.getD k 0))=>all_step (p:=fun x:Int=>0≤x∧x<(gs.length:Int)) (d:=(0:Int)) hR h (by omega)
 have e1:=fun (h:k<l.length) (q:effB gs rem (l.getD k 0)=true)=>show ou++[(k:Int)]=effL gs rem (l.take (k+1)) from by rw [effL_snoc h,if_pos q,hou]
 have e0:=fun (h:k<l.length) (q:¬ effB gs rem (l.getD k 0)=true)=>show ou=effL gs rem (l.take (k+1)) from by rw [effL_snoc h,if_neg q,hou,List.append_nil]
 have ha:=fun (q:holdsV gs (l.getD k 0) (allB gs [])=true) (q2:holdsV gs (l.getD k 0) (allB gs rem)=false)=>show effB gs rem (l.getD k 0)=true from by rw [holds_allB] at q q2;exact effB_1 q q2
 have hb:=fun (q2:¬ holdsV gs (l.getD k 0) (allB gs rem)=false)=>show ¬ effB gs rem (l.getD k 0)=true from by rw [holds_allB] at q2;exact effB_0 q2
 have hc9:=fun (q2:holdsV gs (l.getD k 0) (allB gs [])=false)=>show ¬ effB gs rem (l.getD k 0)=true from by rw [holds_allB] at q2;exact effB_2 q2
 repeat' (first|refine an ?_ ?_|((try refine gm ?_);first|((with_reducible show Kz _);(try dsimp+instances only);(with_reducible refine kz _ ?_);clear kz Kz)|refine st ?_|(refine sr ?_;intro Kz kz;conv=>whnf)|(refine cd ?_;(conv=>arg 2;whnf);refine st ?_)|refine blockK_y (by rfl) ?_|(refine sw ?_;conv=>whnf))|(refine gm ?_;conv=>whnf)|(intro hc;(try dsimp+instances only[Dat,SDat,dflt,Ty.size,keepS,bkUpd,Gv.bk,backS,wayA,maxI,minI,negI]at hc);try simp only[LS]at hc))
 all_goals (try ((fail_if_success refine nl ?_);(try dsimp only[Dat,SDat,dflt,Ty.size,keepS,bkUpd,Gv.bk,backS,wayA,maxI,minI,negI]);(try simp only[LS]);first|done|exact dsc|((try simp only[allP,lo,hi,room,true_and,and_true,implies_true]);(repeat' (first|refine an ?_ ?_|((with_reducible refine preA_t ?_ ?_);rotate_left;exact sameP_t)|intro hv))<;>(try omega))))
 all_goals (try ((fail_if_success refine nl ?_);exact hsm _ (by assumption)))
 all_goals (first
  |(unfold effV;rw [if_neg (fun h=>by have:=(boolOf_true.1 h).2 _ (getD_mem (d:=(0:Int)) (show k<l.length by omega));omega)];done)
  |exact ⟨k+1,rfl,by omega,hx (by omega) (by omega),e1 (by omega) (ha (by assumption) (by assumption))⟩
  |exact ⟨k+1,rfl,by omega,hx (by omega) (by omega),e0 (by omega) (hb (by assumption))⟩
  |exact ⟨k+1,rfl,by omega,hx (by omega) (by omega),e0 (by omega) (hc9 (by assumption))⟩
  |(rw [List.take_of_length_le (by omega)] at hou hR;unfold effV;rw [if_pos (boolOf_true.2 ⟨hV,hR⟩)];exact hou)
  |skip)
theorem ok_z72:SpecOK SP glob fi_z72 S_z72:=mk_ok (c:=c_z72) (tab_ok _) mix_ok wf_z72 (by decide) (.cons ok_z66 (.cons ok_z70 (.cons ok_z64 .nil))) (fun x hx=>Nat.zero_lt_one) g_z72
end Go.Gv
