/- Chapter 17: the program: what a removal changes. -/
import Derived.Test.YtoangeemlcbjlaaGreatDoorC17b
import Derived.Test.YtoangeemlcbjlaaGreatDoorR17a
set_option linter.all false
namespace Go.Gv
open Go Go.Proofs Go.Proofs.YtoangeemlcbjlaaGreatDoor
set_option maxRecDepth 100000
set_option maxHeartbeats 4000000
@[reducible] noncomputable def S_z96:Spec:={ ins:=(.cons (.d (.sl tInt)) (.cons (.d tInt) .nil)),pre:=fun _=>True,alts:=[{ outs:=(.cons (.d tInt) .nil),res:=(fun x=>(fun s v=>(findI (fun x:Int=>decide (v=x)) s,())) x.1 x.2.1)}]}
noncomputable def c_z96:Cf:=(cf_z96 (Fl []))
theorem g_z96:∀ x,S_z96.pre x→shOK S_z96.ins x→fnGoal c_z96 fn_z96 S_z96 x:=by
 rintro ⟨(s:List Int),(v:Int),⟨⟩⟩ hpre hok
 clear hpre
 have hln:=shLn_of _ hok;replace hok:=Hd.mk hok;try simp only [shLn,datLn,inRng,lo,hi,maxLen,true_and,and_true] at hln
 first|refine fn_goal (w_head ?_)
 intro Kz kz;(conv=>whnf);(try dsimp+instances only);refine kz _ ?_;clear kz Kz;(conv=>(arg 2;whnf))
 repeat' (first|refine an ?_ ?_|((try refine gm ?_);first|((with_reducible show Kz _);(try dsimp+instances only);(with_reducible refine kz _ ?_);clear kz Kz)|refine st ?_|(refine sr ?_;intro Kz kz;conv=>whnf)|(refine cd ?_;(conv=>arg 2;whnf);refine st ?_)|refine blockK_y (by rfl) ?_|(refine sw ?_;conv=>whnf))|(refine gm ?_;conv=>whnf)|(intro hc;(try dsimp+instances only[Dat,SDat,dflt,Ty.size,keepS,bkUpd,Gv.bk,backS,wayA,maxI,minI,negI]at hc);try simp only[LS]at hc))
 all_goals (try ((fail_if_success refine nl ?_);(try dsimp only[Dat,SDat,dflt,Ty.size,keepS,bkUpd,Gv.bk,backS,wayA,maxI,minI,negI]);(try simp only[LS]);first|done|exact dsc|((try simp only[allP,lo,hi,room,true_and,and_true,implies_true]);(repeat' (first|refine an ?_ ?_|((with_reducible refine preA_t ?_ ?_);rotate_left;exact sameP_t)|intro hv))<;>(try omega))))
 refine w_loop [(8, .d tInt)] [] (fun y=>∃ k:Nat,y.1.1=(k:Int)∧k≤s.length∧∀ x∈s.take k,decide (v=x)=false) (fun y=>s.length - y.1.1.toNat) ?_
 conv=>whnf
 refine And.intro ?_ ?_
 · exact ⟨0,by simp⟩
 rintro ⟨⟨_,⟨⟩⟩,⟨⟩⟩ ⟨k,rfl,hk,hj⟩
 repeat' (first|refine an ?_ ?_|((try refine gm ?_);first|((with_reducible show Kz _);(try dsimp+instances only);(with_reducible refine kz _ ?_);clear kz Kz)|refine st ?_|(refine sr ?_;intro Kz kz;conv=>whnf)|(refine cd ?_;(conv=>arg 2;whnf);refine st ?_)|refine blockK_y (by rfl) ?_|(refine sw ?_;conv=>whnf))|(refine gm ?_;conv=>whnf)|(intro hc;(try dsimp+instances only[Dat,SDat,dflt,Ty.size,keepS,bkUpd,Gv.bk,backS,wayA,maxI,minI,negI]at hc);try simp only[LS]at hc))
 all_goals (try ((fail_if_success refine nl ?_);(try dsimp only[Dat,SDat,dflt,Ty.size,keepS,bkUpd,Gv.bk,backS,wayA,maxI,minI,negI]);(try simp only[LS]);first|done|exact dsc|((try simp only[allP,lo,hi,room,true_and,and_true,implies_true]);(repeat' (first|refine an ?_ ?_|((with_reducible refine preA_t ?_ ?_);rotate_left;exact sameP_t)|intro hv))<;>(try omega))))
 · exact (findI_hit (p:=fun x:Int=>decide (v=x)) (d:=(0:Int)) hj (by omega) (decide_eq_true hc)).symm
 · exact ⟨k+1,by omega,by omega,fun x hx=>of_decide_eq_false (all_step (p:=fun x:Int=>decide (v=x)=false) (d:=(0:Int)) hj (by omega) (decide_eq_false hc) x hx)⟩
 · exact (findI_miss (p:=fun x:Int=>decide (v=x)) hj (by omega)).symm
theorem ok_z96:SpecOK SP glob fi_z96 S_z96:=mk_ok (c:=c_z96) (tab_ok _) mix_ok wf_z96 (by decide) .nil (fun x hx=>Nat.zero_lt_one) g_z96
@[reducible] noncomputable def S_z92:Spec:={ ins:=(.cons (.d (.sl tInt)) (.cons (.d tInt) .nil)),pre:=fun _=>True,alts:=[{ outs:=(.cons (.d .bool) .nil),res:=(fun x=>(fun s v=>(boolOf (v∈s),())) x.1 x.2.1)}]}
noncomputable def c_z92:Cf:=(cf_z92 (Fl [(fi_z96,S_z96)]))
theorem g_z92:∀ x,S_z92.pre x→shOK S_z92.ins x→fnGoal c_z92 fn_z92 S_z92 x:=by
 rintro ⟨(s:List Int),(v:Int),⟨⟩⟩ hpre hok
 clear hpre
 have hln:=shLn_of _ hok;replace hok:=Hd.mk hok;try simp only [shLn,datLn,inRng,lo,hi,maxLen,true_and,and_true] at hln
 first|refine fn_goal (w_head ?_)
 intro Kz kz;(conv=>whnf);(try dsimp+instances only);refine kz _ ?_;clear kz Kz;(conv=>(arg 2;whnf))
 repeat' (first|refine an ?_ ?_|((try refine gm ?_);first|((with_reducible show Kz _);(try dsimp+instances only);(with_reducible refine kz _ ?_);clear kz Kz)|refine st ?_|(refine sr ?_;intro Kz kz;conv=>whnf)|(refine cd ?_;(conv=>arg 2;whnf);refine st ?_)|refine blockK_y (by rfl) ?_|(refine sw ?_;conv=>whnf))|(refine gm ?_;conv=>whnf)|(intro hc;(try dsimp+instances only[Dat,SDat,dflt,Ty.size,keepS,bkUpd,Gv.bk,backS,wayA,maxI,minI,negI]at hc);try simp only[LS]at hc))
 all_goals (try ((fail_if_success refine nl ?_);(try dsimp only[Dat,SDat,dflt,Ty.size,keepS,bkUpd,Gv.bk,backS,wayA,maxI,minI,negI]);(try simp only[LS]);first|done|exact dsc|((try simp only[allP,lo,hi,room,true_and,and_true,implies_true]);(repeat' (first|refine an ?_ ?_|((with_reducible refine preA_t ?_ ?_);rotate_left;exact sameP_t)|intro hv))<;>(try omega))))
 exact bC (findI_ge.trans (by rw [List.any_eq_true];exact ⟨fun ⟨x,hx,e⟩=>of_decide_eq_true e ▸ hx,fun h=>⟨v,h,decide_eq_true rfl⟩⟩))
theorem ok_z92:SpecOK SP glob fi_z92 S_z92:=mk_ok (c:=c_z92) (tab_ok _) mix_ok wf_z92 (by decide) (.cons ok_z96 .nil) (fun x hx=>Nat.zero_lt_one) g_z92
def FewR (gs:List Gate):Prop:=gs.length≤16∧∀ g∈gs,g.2.2.1.length≤20
theorem FewR.small {gs:List Gate} (h:FewR gs):SmallG gs:=fun g hg=>Nat.le_trans (h.2 g hg) (by decide)
def InV (gs:List Gate) (rem:List Int) (v:Int):Prop:=∃ g∈gs,g.1=2∧g.2.1=v∧v ∉ rem
noncomputable def varsV (gs:List Gate) (rem:List Int):List Bool:=(List.range 4000).map fun v:Nat=>boolOf (InV gs rem (v:Int))
theorem varsV_len (gs:List Gate) (rem:List Int):(varsV gs rem).length=4000:=by unfold varsV;rw [List.length_map,List.length_range]
theorem varsV_at {gs:List Gate} {rem:List Int} {v:Nat} (h:v<4000):(varsV gs rem).getD v false=boolOf (InV gs rem (v:Int)):=by
 unfold varsV
 rw [getD_ok false (by rw [List.length_map,List.length_range];exact h),List.getElem_map,List.getElem_range]
theorem varsV_nil (rem:List Int):varsV [] rem=List.replicate 4000 false:=by
 refine List.ext_getElem (by rw [varsV_len,List.length_replicate]) fun v h1 h2=>?_
 rw [varsV_len] at h1
 have:=varsV_at (gs:=[]) (rem:=rem) h1
 rw [getD_ok false (by rw [varsV_len];exact h1)] at this
 rw [this,List.getElem_replicate]
 exact boolOf_false.2 fun ⟨g,hg,_⟩=>by cases hg
theorem varsV_no {gs:List Gate} {rem:List Int} {k:Nat} (hk:k<gs.length) (h:¬ (((List.getD gs k ((0,0,[],()):Gate))).1=2∧((List.getD gs k ((0,0,[],()):Gate))).2.1 ∉ rem)):varsV (gs.take (k+1)) rem=varsV (gs.take k) rem:=by
 unfold varsV
 refine List.map_congr_left fun v _=>bC ?_
 unfold InV
 rw [List.take_succ_eq_append_getElem hk,← getD_ok ((0,0,[],()):Gate) hk]
 refine ⟨fun ⟨g,hg,h1,h2,h3⟩=>?_,fun ⟨g,hg,h1⟩=>⟨g,List.mem_append_left _ hg,h1⟩⟩
 rcases List.mem_append.1 hg with hg|hg
 · exact ⟨g,hg,h1,h2,h3⟩
 · rw [List.mem_singleton.1 hg] at h1 h2
   exact absurd ⟨h1,by rw [h2];exact h3⟩ h
theorem varsV_set {gs:List Gate} {rem:List Int} {k:Nat} (hk:k<gs.length) (h:((List.getD gs k ((0,0,[],()):Gate))).1=2∧((List.getD gs k ((0,0,[],()):Gate))).2.1 ∉ rem) (h0:0≤((List.getD gs k ((0,0,[],()):Gate))).2.1):varsV (gs.take (k+1)) rem=(varsV (gs.take k) rem).set ((List.getD gs k ((0,0,[],()):Gate))).2.1.toNat true:=by
 refine List.ext_getElem (by rw [List.length_set,varsV_len,varsV_len]) fun v h1 h2=>?_
 rw [varsV_len] at h1
 have e1:=varsV_at (gs:=gs.take (k+1)) (rem:=rem) h1
 have e2:=varsV_at (gs:=gs.take k) (rem:=rem) h1
 rw [getD_ok false (by rw [varsV_len];exact h1)] at e1 e2
 rw [e1,List.getElem_set,e2]
 have hin:(List.getD gs k ((0,0,[],()):Gate))∈gs.take (k+1):=by
  rw [List.take_succ_eq_append_getElem hk,← getD_ok ((0,0,[],()):Gate) hk]
  exact List.mem_append_right _ (List.mem_singleton.2 rfl)
 by_cases q:((List.getD gs k ((0,0,[],()):Gate))).2.1.toNat=v
 · rw [if_pos q]
   have e:((List.getD gs k ((0,0,[],()):Gate))).2.1=(v:Int):=by omega
   exact boolOf_true.2 ⟨_,hin,h.1,e,by rw [← e];exact h.2⟩
 · rw [if_neg q]
   refine bC ⟨fun ⟨g,hg,a1,a2,a3⟩=>?_,fun ⟨g,hg,a⟩=>⟨g,?_,a⟩⟩
   · rw [List.take_succ_eq_append_getElem hk,← getD_ok ((0,0,[],()):Gate) hk] at hg
     rcases List.mem_append.1 hg with hg|hg
     · exact ⟨g,hg,a1,a2,a3⟩
     · rw [List.mem_singleton.1 hg] at a2
       omega
   · rw [List.take_succ_eq_append_getElem hk]
     exact List.mem_append_left _ hg
@[reducible] noncomputable def S_z59:Spec:={ ins:=(.cons (.d tCirc) (.cons (.d (.sl tInt)) .nil)),pre:=(fun x=>(fun c removed=>ValidC c.1) x.1 x.2.1),alts:=[{ outs:=(.cons (.row .bool) .nil),res:=(fun x=>(fun c removed=>(varsV c.1 removed,())) x.1 x.2.1)}],noisy:=true}
noncomputable def c_z59:Cf:={ cf_z59 (Fl [(fi_z92,S_z92)]) with nz:=true}
theorem g_z59:∀ x,S_z59.pre x→shOK S_z59.ins x→fnGoal c_z59 fn_z59 S_z59 x:=by
 rintro ⟨⟨gs,⟨⟩⟩,(rem:List Int),⟨⟩⟩ hpre hok
 try dsimp only [Dat,SDat,dflt,Ty.size,keepS,bkUpd,Gv.bk,backS,wayA,maxI,minI,negI] at hpre
 have hln:=shLn_of _ hok;replace hok:=Hd.mk hok;try simp only [shLn,datLn,inRng,lo,hi,maxLen,true_and,and_true] at hln
 have hV:ValidC gs:=hpre
 have hmax:=hV.1
 clear hpre
 first|refine fn_goal (w_head ?_)
 intro Kz kz;(conv=>whnf);(try dsimp+instances only);refine kz _ ?_;clear kz Kz;(conv=>(arg 2;whnf))
 repeat' (first|refine an ?_ ?_|((try refine gm ?_);first|((with_reducible show Kz _);(try dsimp+instances only);(with_reducible refine kz _ ?_);clear kz Kz)|refine st ?_|(refine sr ?_;intro Kz kz;conv=>whnf)|(refine cd ?_;(conv=>arg 2;whnf);refine st ?_)|refine blockK_y (by rfl) ?_|(refine sw ?_;conv=>whnf))|(refine gm ?_;conv=>whnf)|(intro hc;(try dsimp+instances only[Dat,SDat,dflt,Ty.size,keepS,bkUpd,Gv.bk,backS,wayA,maxI,minI,negI]at hc);try simp only[LS]at hc))
 all_goals (try ((fail_if_success refine nl ?_);(try dsimp only[Dat,SDat,dflt,Ty.size,keepS,bkUpd,Gv.bk,backS,wayA,maxI,minI,negI]);(try simp only[LS]);first|done|exact dsc|((try simp only[allP,lo,hi,room,true_and,and_true,implies_true]);(repeat' (first|refine an ?_ ?_|((with_reducible refine preA_t ?_ ?_);rotate_left;exact sameP_t)|intro hv))<;>(try omega))))
 refine w_loop [(12, .d tInt),(5, .row .bool)] [] (fun y=>∃ k:Nat,y.1.1=(k:Int)∧k≤gs.length∧y.1.2.1=varsV (gs.take k) rem) (fun y=>gs.length - y.1.1.toNat) ?_
 conv=>whnf
 refine And.intro ?_ ?_
 · exact ⟨0,rfl,Nat.zero_le _,by rw [List.take_zero];exact (varsV_nil rem).symm⟩
 rintro ⟨⟨_,(ou:List Bool),⟨⟩⟩,⟨⟩⟩ ⟨k,rfl,hk,hou⟩
 have hou:ou=varsV (gs.take k) rem:=hou
 have hol:List.length ou=4000:=by rw [hou];exact varsV_len _ _
 have hleaf:=fun (h:k<gs.length) (h2:((List.getD gs k ((0,0,[],()):Gate))).1=2)=>leaf_kind hV h (by rw [h2];unfold inner;omega)
 have hvar:k<gs.length→((List.getD gs k ((0,0,[],()):Gate))).1=2→0≤((List.getD gs k ((0,0,[],()):Gate))).2.1∧((List.getD gs k ((0,0,[],()):Gate))).2.1<4000:=fun h h2=>by
  rcases hleaf h h2 with e|e|e
  · rw [h2] at e;cases e
  · rw [h2] at e;cases e
  · exact e.2
 have hv4:=fun (h:k<gs.length) (h2:((List.getD gs k ((0,0,[],()):Gate))).1=2)=>show ((List.getD gs k ((0,0,[],()):Gate))).2.1<(List.length ou:Int)∧((List.getD gs k ((0,0,[],()):Gate))).2.1.toNat<List.length ou from by
  rw [hol]
  exact ⟨(hvar h h2).2,(Int.toNat_lt (hvar h h2).1).2 (hvar h h2).2⟩
 repeat' (first|refine an ?_ ?_|((try refine gm ?_);first|((with_reducible show Kz _);(try dsimp+instances only);(with_reducible refine kz _ ?_);clear kz Kz)|refine st ?_|(refine sr ?_;intro Kz kz;conv=>whnf)|(refine cd ?_;(conv=>arg 2;whnf);refine st ?_)|refine blockK_y (by rfl) ?_|(refine sw ?_;conv=>whnf))|(refine gm ?_;conv=>whnf)|(intro hc;(try dsimp+instances only[Dat,SDat,dflt,Ty.size,keepS,bkUpd,Gv.bk,backS,wayA,maxI,minI,negI]at hc);try simp only[LS]at hc))
 all_goals (try ((fail_if_success refine nl ?_);(try dsimp only[Dat,SDat,dflt,Ty.size,keepS,bkUpd,Gv.bk,backS,wayA,maxI,minI,negI]);(try simp only[LS]);first|done|exact dsc|((try simp only[allP,lo,hi,room,true_and,and_true,implies_true]);(repeat' (first|refine an ?_ ?_|((with_reducible refine preA_t ?_ ?_);rotate_left;exact sameP_t)|intro hv))<;>(try omega))))
 all_goals (first
  |exact (hvar (by omega) hc.1).1
  |exact (hv4 (by omega) hc.1).1
  |exact (hv4 (by omega) hc.1).2
  |exact ⟨k+1,rfl,by omega,by rw [varsV_set (by omega) hc (hvar (by omega) hc.1).1,← hou]⟩
  |exact ⟨k+1,rfl,by omega,by rw [varsV_no (by omega) hc,← hou]⟩
  |(rw [List.take_of_length_le (by omega)] at hou;exact hou))
theorem ok_z59:SpecOK SP glob fi_z59 S_z59:=mk_ok (c:=c_z59) (tab_ok _) mix_ok wf_z59 (by decide) (.cons ok_z92 .nil) (fun x hx=>Nat.zero_lt_one) g_z59
noncomputable def effB (gs:List Gate) (rem:List Int) (x:Int):Bool:=holdsV gs x (varsV gs []) && !holdsV gs x (varsV gs rem)
noncomputable def effL (gs:List Gate) (rem l:List Int):List Int:=((List.range l.length).filter fun k=>effB gs rem (l.getD k 0)).map fun k:Nat=>(k:Int)
def RootsIn (gs:List Gate) (l:List Int):Prop:=∀ x∈l,0≤x∧x<(gs.length:Int)
noncomputable def effV (gs:List Gate) (l rem:List Int):List Int:=if boolOf (ValidC gs∧RootsIn gs l)=true then effL gs rem l else []
theorem effL_snoc {gs:List Gate} {rem l:List Int} {k:Nat} (hk:k<l.length):effL gs rem (l.take (k+1))=effL gs rem (l.take k)++if effB gs rem (l.getD k 0)=true then [(k:Int)] else []:=by
 unfold effL
 rw [List.length_take,List.length_take,Nat.min_eq_left (by omega),Nat.min_eq_left (by omega),List.range_succ,List.filter_append,List.map_append]
 have e:∀ j,j≤k→(l.take (k+1)).getD j 0=l.getD j 0:=fun j hj=>by
  rw [getD_ok 0 (by rw [List.length_take];omega),getD_ok 0 (by omega),List.getElem_take]
 have e1:∀ j,j<k→(l.take k).getD j 0=l.getD j 0:=fun j hj=>by
  rw [getD_ok 0 (by rw [List.length_take];omega),getD_ok 0 (by omega),List.getElem_take]
 congr 1
 · congr 1
   refine List.filter_congr fun j hj=>?_
   have:=List.mem_range.1 hj
   rw [e j (by omega),e1 j this]
 · by_cases q:effB gs rem (l.getD k 0)=true
   · rw [if_pos q,List.filter_cons_of_pos (by rw [e k (Nat.le_refl _)];exact q)];rfl
   · rw [if_neg q,List.filter_cons_of_neg (by rw [e k (Nat.le_refl _)];exact q)];rfl
theorem effL_len {gs:List Gate} {rem l:List Int}:(effL gs rem l).length≤l.length:=by
 unfold effL
 rw [List.length_map]
 exact Nat.le_trans (List.length_filter_le _ _) (by rw [List.length_range];exact Nat.le_refl _)
theorem effB_1 {gs:List Gate} {rem:List Int} {x:Int} (h:holdsV gs x (varsV gs [])=true) (q:holdsV gs x (varsV gs rem)=false):effB gs rem x=true:=by unfold effB;rw [h,q];rfl
theorem effB_0 {gs:List Gate} {rem:List Int} {x:Int} (q:¬ holdsV gs x (varsV gs rem)=false):¬ effB gs rem x=true:=by unfold effB;rw [Bool.not_eq_false] at q;rw [q];simp
theorem effB_2 {gs:List Gate} {rem:List Int} {x:Int} (h:holdsV gs x (varsV gs [])=false):¬ effB gs rem x=true:=by unfold effB;rw [h];simp
@[reducible] noncomputable def S_z49:Spec:={ ins:=(.cons (.d tCirc) (.cons (.d (.sl tInt)) (.cons (.d (.sl tInt)) .nil))),pre:=(fun x=>(fun c roots removed=>SmallG c.1∧roots.length≤1000000) x.1 x.2.1 x.2.2.1),alts:=[{ outs:=(.cons (.d (.sl tInt)) .nil),res:=(fun x=>(fun c roots removed=>(effV c.1 roots removed,())) x.1 x.2.1 x.2.2.1)}],noisy:=true}
noncomputable def c_z49:Cf:={ cf_z49 (Fl [(fi_z5,S_z5),(fi_z0,S_z0),(fi_z59,S_z59)]) with spl:=[33],nz:=true}
theorem g_z49:∀ x,S_z49.pre x→shOK S_z49.ins x→fnGoal c_z49 fn_z49 S_z49 x:=by
 rintro ⟨⟨gs,⟨⟩⟩,(l:List Int),(rem:List Int),⟨⟩⟩ hpre hok
 try dsimp only [Dat,SDat,dflt,Ty.size,keepS,bkUpd,Gv.bk,backS,wayA,maxI,minI,negI] at hpre
 have hln:=shLn_of _ hok;replace hok:=Hd.mk hok;try simp only [shLn,datLn,inRng,lo,hi,maxLen,true_and,and_true] at hln
 obtain ⟨hsm,hl9⟩:=hpre
 have hsm:SmallG gs:=hsm
 have hl9:l.length≤1000000:=hl9
 first|refine fn_goal (w_head ?_)
 intro Kz kz;(conv=>whnf);(try dsimp+instances only);refine kz _ ?_;clear kz Kz;(conv=>(arg 2;whnf))
 repeat' (first|refine an ?_ ?_|((try refine gm ?_);first|((with_reducible show Kz _);(try dsimp+instances only);(with_reducible refine kz _ ?_);clear kz Kz)|refine st ?_|(refine sr ?_;intro Kz kz;conv=>whnf)|(refine cd ?_;(conv=>arg 2;whnf);refine st ?_)|refine blockK_y (by rfl) ?_|(refine sw ?_;conv=>whnf))|(refine gm ?_;conv=>whnf)|(intro hc;(try dsimp+instances only[Dat,SDat,dflt,Ty.size,keepS,bkUpd,Gv.bk,backS,wayA,maxI,minI,negI]at hc);try simp only[LS]at hc))
 all_goals (try ((fail_if_success refine nl ?_);(try dsimp only[Dat,SDat,dflt,Ty.size,keepS,bkUpd,Gv.bk,backS,wayA,maxI,minI,negI]);(try simp only[LS]);first|done|exact dsc|((try simp only[allP,lo,hi,room,true_and,and_true,implies_true]);(repeat' (first|refine an ?_ ?_|((with_reducible refine preA_t ?_ ?_);rotate_left;exact sameP_t)|intro hv))<;>(try omega))))
 all_goals (try ((fail_if_success refine nl ?_);exact hsm _ (by assumption)))
 all_goals (try (unfold effV;rw [if_neg (fun h=>hc (boolOf_true.1 h).1)];done))
 refine w_loop [(15, .d tInt),(7, .row tInt)] [] (fun y=>∃ k:Nat,y.1.1=(k:Int)∧k≤l.length∧RootsIn gs (l.take k)∧y.1.2.1=effL gs rem (l.take k)) (fun y=>l.length - y.1.1.toNat) ?_
 conv=>whnf
 refine And.intro ?_ ?_
 · exact ⟨0,rfl,Nat.zero_le _,(fun x hx=>by cases hx),rfl⟩
 rintro ⟨⟨_,(ou:List Int),⟨⟩⟩,⟨⟩⟩ ⟨k,rfl,hk,hR,hou⟩
 have hou:ou=effL gs rem (l.take k):=hou
 have hR:RootsIn gs (l.take k):=hR
 have hol:List.length ou≤l.length:=by
  rw [hou]
  refine Nat.le_trans effL_len ?_
  rw [List.length_take];omega
 have hx:=fun (h:k<l.length) (q:¬ (l.getD k 0<0∨(l.length:Int)<0∨(gs.length:Int)≤l.getD k 0))=>all_step (p:=fun x:Int=>0≤x∧x<(gs.length:Int)) (d:=(0:Int)) hR h (by omega)
 have e1:=fun (h:k<l.length) (q:effB gs rem (l.getD k 0)=true)=>show ou++[(k:Int)]=effL gs rem (l.take (k+1)) from by rw [effL_snoc h,if_pos q,hou]
 have e0:=fun (h:k<l.length) (q:¬ effB gs rem (l.getD k 0)=true)=>show ou=effL gs rem (l.take (k+1)) from by rw [effL_snoc h,if_neg q,hou,List.append_nil]
 repeat' (first|refine an ?_ ?_|((try refine gm ?_);first|((with_reducible show Kz _);(try dsimp+instances only);(with_reducible refine kz _ ?_);clear kz Kz)|refine st ?_|(refine sr ?_;intro Kz kz;conv=>whnf)|(refine cd ?_;(conv=>arg 2;whnf);refine st ?_)|refine blockK_y (by rfl) ?_|(refine sw ?_;conv=>whnf))|(refine gm ?_;conv=>whnf)|(intro hc;(try dsimp+instances only[Dat,SDat,dflt,Ty.size,keepS,bkUpd,Gv.bk,backS,wayA,maxI,minI,negI]at hc);try simp only[LS]at hc))
 all_goals (try ((fail_if_success refine nl ?_);(try dsimp only[Dat,SDat,dflt,Ty.size,keepS,bkUpd,Gv.bk,backS,wayA,maxI,minI,negI]);(try simp only[LS]);first|done|exact dsc|((try simp only[allP,lo,hi,room,true_and,and_true,implies_true]);(repeat' (first|refine an ?_ ?_|((with_reducible refine preA_t ?_ ?_);rotate_left;exact sameP_t)|intro hv))<;>(try omega))))
 all_goals (try ((fail_if_success refine nl ?_);exact hsm _ (by assumption)))
 all_goals (first
  |(unfold effV;rw [if_neg (fun h=>by have:=(boolOf_true.1 h).2 _ (getD_mem (d:=(0:Int)) (show k<l.length by omega));omega)];done)
  |exact ⟨k+1,rfl,by omega,hx (by omega) (by omega),e1 (by omega) (effB_1 (by assumption) (by assumption))⟩
  |exact ⟨k+1,rfl,by omega,hx (by omega) (by omega),e0 (by omega) (effB_0 (by assumption))⟩
  |exact ⟨k+1,rfl,by omega,hx (by omega) (by omega),e0 (by omega) (effB_2 (by assumption))⟩
  |(rw [List.take_of_length_le (by omega)] at hou hR;unfold effV;rw [if_pos (boolOf_true.2 ⟨by assumption,hR⟩)];exact hou))
theorem ok_z49:SpecOK SP glob fi_z49 S_z49:=mk_ok (c:=c_z49) (tab_ok _) mix_ok wf_z49 (by decide) (.cons ok_z5 (.cons ok_z0 (.cons ok_z59 .nil))) (fun x hx=>Nat.zero_lt_one) g_z49
end Go.Gv
