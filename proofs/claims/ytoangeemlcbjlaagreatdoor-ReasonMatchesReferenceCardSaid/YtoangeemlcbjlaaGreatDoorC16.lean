/- Chapter 16: gates and circuits: the reference's functions and the program's. -/
import Derived.Test.YtoangeemlcbjlaaGreatDoorB0
set_option linter.all false
namespace Go.Gv
open Go Go.Proofs Go.Proofs.YtoangeemlcbjlaaGreatDoor
set_option maxRecDepth 100000
set_option maxHeartbeats 4000000
@[reducible] def gateF:Ty:= .cs (.int .i64) (.cs (.int .i64) (.cs (.sl (.int .i64)) .nl))
@[reducible] def tGate:Ty:= .st gateF
abbrev Gate:Type:=Int × Int × List Int × Unit
@[reducible] def tCirc:Ty:= .st (.cs (.sl tGate) .nl)
@[reducible] noncomputable def S_z62:Spec:={ ins:=(.cons (.d tGate) (.cons (.d tGate) .nil)),pre:=fun _=>True,alts:=[{ outs:=(.cons (.d .bool) .nil),res:=(fun x=>(fun a b=>(decide (a=b),())) x.1 x.2.1)}]}
noncomputable def c_z62:Cf:=(cf_z62 (Fl []))
theorem g_z62:∀ x,S_z62.pre x→shOK S_z62.ins x→fnGoal c_z62 fn_z62 S_z62 x:=by
 rintro ⟨⟨ak,av,akids,⟨⟩⟩,⟨bk,bv,bkids,⟨⟩⟩,⟨⟩⟩ hpre hok
 clear hpre
 have hln:=shLn_of _ hok;replace hok:=Hd.mk hok;try simp only [shLn,datLn,inRng,lo,hi,maxLen,true_and,and_true] at hln
 first|refine fn_goal (w_head ?_)
 intro Kz kz;(conv=>whnf);(try dsimp+instances only);refine kz _ ?_;clear kz Kz;(conv=>(arg 2;whnf))
 repeat' (first|refine an ?_ ?_|((try refine gm ?_);first|((with_reducible show Kz _);(try dsimp+instances only);(with_reducible refine kz _ ?_);clear kz Kz)|refine st ?_|(refine sr ?_;intro Kz kz;conv=>whnf)|(refine cd ?_;(conv=>arg 2;whnf);refine st ?_)|refine blockK_y (by rfl) ?_|(refine sw ?_;conv=>whnf))|(refine gm ?_;conv=>whnf)|(intro hc;(try dsimp+instances only[Dat,SDat,dflt,Ty.size,keepS,bkUpd,Gv.bk,backS,wayA,maxI,minI,negI]at hc);try simp only[LS]at hc))
 all_goals (try ((fail_if_success refine nl ?_);(try dsimp only[Dat,SDat,dflt,Ty.size,keepS,bkUpd,Gv.bk,backS,wayA,maxI,minI,negI]);(try simp only[LS]);first|done|exact dsc|((try simp only[allP,lo,hi,room,true_and,and_true,implies_true]);(repeat' (first|refine an ?_ ?_|((with_reducible refine preA_t ?_ ?_);rotate_left;exact sameP_t)|intro hv))<;>(try omega))))
 rotate_left
 refine w_loop [(5, .d tInt)] [] (fun y=>∃ k:Nat,y.1.1=(k:Int)∧k≤akids.length∧akids.take k=bkids.take k) (fun y=>akids.length - y.1.1.toNat) ?_
 conv=>whnf
 refine And.intro ?_ ?_
 · exact ⟨0,by simp⟩
 rintro ⟨⟨_,⟨⟩⟩,⟨⟩⟩ ⟨k,rfl,hk,hj⟩
 repeat' (first|refine an ?_ ?_|((try refine gm ?_);first|((with_reducible show Kz _);(try dsimp+instances only);(with_reducible refine kz _ ?_);clear kz Kz)|refine st ?_|(refine sr ?_;intro Kz kz;conv=>whnf)|(refine cd ?_;(conv=>arg 2;whnf);refine st ?_)|refine blockK_y (by rfl) ?_|(refine sw ?_;conv=>whnf))|(refine gm ?_;conv=>whnf)|(intro hc;(try dsimp+instances only[Dat,SDat,dflt,Ty.size,keepS,bkUpd,Gv.bk,backS,wayA,maxI,minI,negI]at hc);try simp only[LS]at hc))
 all_goals (try ((fail_if_success refine nl ?_);(try dsimp only[Dat,SDat,dflt,Ty.size,keepS,bkUpd,Gv.bk,backS,wayA,maxI,minI,negI]);(try simp only[LS]);first|done|exact dsc|((try simp only[allP,lo,hi,room,true_and,and_true,implies_true]);(repeat' (first|refine an ?_ ?_|((with_reducible refine preA_t ?_ ?_);rotate_left;exact sameP_t)|intro hv))<;>(try omega))))
 · have:akids≠bkids:=fun e=>by subst e;exact hc rfl
   simp [this]
 · exact ⟨k+1,by omega,by omega,take_eq_step hj (by omega) (by omega) hc⟩
 · have:akids=bkids:=take_eq_end hj (by omega) (by omega)
   simp [this];omega
 · have:¬ (ak=bk∧av=bv∧akids=bkids):=fun ⟨e1,e2,e3⟩=>by subst e1 e2 e3;simp at hc
   simp [this]
theorem ok_z62:SpecOK SP glob fi_z62 S_z62:=mk_ok (c:=c_z62) (tab_ok _) mix_ok wf_z62 (by decide) .nil (fun x hx=>Nat.zero_lt_one) g_z62
def inner (k:Int):Prop:=k=3∨k=4
instance (k:Int):Decidable (inner k):=inferInstanceAs (Decidable (k=3∨k=4))
def kidsIn (l:List Int) (n:Int):Prop:=∀ k∈l,0≤k∧k<n
def formed (g:Gate) (n:Int):Prop:=kidsIn g.2.2.1 n∧((g.1=2∧g.2.2.1=[]∧0≤g.2.1∧g.2.1<4000)∨((g.1=0∨g.1=1)∧g.2.2.1=[]∧g.2.1=0)∨(inner g.1∧g.2.1=0))
def kindAt (gs:List Gate) (k:Int):Int:=(gs.getD k.toNat ((0,0,[],()):Gate)).1
def KidOK (gs:List Gate) (g:Gate) (j:Nat):Prop:=(0<j→g.2.2.1.getD (j - 1) 0≤g.2.2.1.getD j 0)∧kindAt gs (g.2.2.1.getD j 0)≠0∧¬ (g.1=4∧kindAt gs (g.2.2.1.getD j 0)=1)
def GoodAt (gs:List Gate) (m:Nat) (g:Gate):Prop:=formed g m∧(inner g.1→2≤g.2.2.1.length)∧(∀ j,j<g.2.2.1.length→KidOK gs g j)∧∀ k,k<m→gs.getD k ((0,0,[],()):Gate)≠g
def SmallG (gs:List Gate):Prop:=∀ g∈gs,g.2.2.1.length≤1000000
def ValidC (gs:List Gate):Prop:=gs.length≤100000∧∀ m,m<gs.length→GoodAt gs m (gs.getD m ((0,0,[],()):Gate))
@[reducible] noncomputable def S_z69:Spec:={ ins:=(.cons (.d tInt) .nil),pre:=fun _=>True,alts:=[{ outs:=(.cons (.d .bool) .nil),res:=(fun x=>(fun k=>(decide (inner k),())) x.1)}]}
noncomputable def c_z69:Cf:=(cf_z69 (Fl []))
theorem g_z69:∀ x,S_z69.pre x→shOK S_z69.ins x→fnGoal c_z69 fn_z69 S_z69 x:=by
 rintro ⟨k,⟨⟩⟩ hpre hok
 clear hpre
 have hln:=shLn_of _ hok;replace hok:=Hd.mk hok;try simp only [shLn,datLn,inRng,lo,hi,maxLen,true_and,and_true] at hln
 first|refine fn_goal (w_head ?_)
 intro Kz kz;(conv=>whnf);(try dsimp+instances only);refine kz _ ?_;clear kz Kz;(conv=>(arg 2;whnf))
 repeat' (first|refine an ?_ ?_|((try refine gm ?_);first|((with_reducible show Kz _);(try dsimp+instances only);(with_reducible refine kz _ ?_);clear kz Kz)|refine st ?_|(refine sr ?_;intro Kz kz;conv=>whnf)|(refine cd ?_;(conv=>arg 2;whnf);refine st ?_)|refine blockK_y (by rfl) ?_|(refine sw ?_;conv=>whnf))|(refine gm ?_;conv=>whnf)|(intro hc;(try dsimp+instances only[Dat,SDat,dflt,Ty.size,keepS,bkUpd,Gv.bk,backS,wayA,maxI,minI,negI]at hc);try simp only[LS]at hc))
 all_goals (try ((fail_if_success refine nl ?_);(try dsimp only[Dat,SDat,dflt,Ty.size,keepS,bkUpd,Gv.bk,backS,wayA,maxI,minI,negI]);(try simp only[LS]);first|done|exact dsc|((try simp only[allP,lo,hi,room,true_and,and_true,implies_true]);(repeat' (first|refine an ?_ ?_|((with_reducible refine preA_t ?_ ?_);rotate_left;exact sameP_t)|intro hv))<;>(try omega))))
theorem ok_z69:SpecOK SP glob fi_z69 S_z69:=mk_ok (c:=c_z69) (tab_ok _) mix_ok wf_z69 (by decide) .nil (fun x hx=>Nat.zero_lt_one) g_z69
@[reducible] noncomputable def S_z67:Spec:={ ins:=(.cons (.d tGate) (.cons (.d tInt) .nil)),pre:=fun _=>True,alts:=[{ outs:=(.cons (.d .bool) .nil),res:=(fun x=>(fun g n=>(boolOf (formed g n),())) x.1 x.2.1)}]}
noncomputable def c_z67:Cf:=(cf_z67 (Fl [(fi_z69,S_z69)]))
theorem g_z67:∀ x,S_z67.pre x→shOK S_z67.ins x→fnGoal c_z67 fn_z67 S_z67 x:=by
 rintro ⟨⟨gk,gv,kids,⟨⟩⟩,n,⟨⟩⟩ hpre hok
 clear hpre
 have hln:=shLn_of _ hok;replace hok:=Hd.mk hok;try simp only [shLn,datLn,inRng,lo,hi,maxLen,true_and,and_true] at hln
 first|refine fn_goal (w_head ?_)
 intro Kz kz;(conv=>whnf);(try dsimp+instances only);refine kz _ ?_;clear kz Kz;(conv=>(arg 2;whnf))
 repeat' (first|refine an ?_ ?_|((try refine gm ?_);first|((with_reducible show Kz _);(try dsimp+instances only);(with_reducible refine kz _ ?_);clear kz Kz)|refine st ?_|(refine sr ?_;intro Kz kz;conv=>whnf)|(refine cd ?_;(conv=>arg 2;whnf);refine st ?_)|refine blockK_y (by rfl) ?_|(refine sw ?_;conv=>whnf))|(refine gm ?_;conv=>whnf)|(intro hc;(try dsimp+instances only[Dat,SDat,dflt,Ty.size,keepS,bkUpd,Gv.bk,backS,wayA,maxI,minI,negI]at hc);try simp only[LS]at hc))
 all_goals (try ((fail_if_success refine nl ?_);(try dsimp only[Dat,SDat,dflt,Ty.size,keepS,bkUpd,Gv.bk,backS,wayA,maxI,minI,negI]);(try simp only[LS]);first|done|exact dsc|((try simp only[allP,lo,hi,room,true_and,and_true,implies_true]);(repeat' (first|refine an ?_ ?_|((with_reducible refine preA_t ?_ ?_);rotate_left;exact sameP_t)|intro hv))<;>(try omega))))
 refine w_loop [(5, .d tInt)] [] (fun y=>∃ k:Nat,y.1.1=(k:Int)∧k≤kids.length∧∀ x∈kids.take k,0≤x∧x<n) (fun y=>kids.length - y.1.1.toNat) ?_
 conv=>whnf
 refine And.intro ?_ ?_
 · exact ⟨0,by simp⟩
 rintro ⟨⟨_,⟨⟩⟩,⟨⟩⟩ ⟨k,rfl,hk,hj⟩
 repeat' (first|refine an ?_ ?_|((try refine gm ?_);first|((with_reducible show Kz _);(try dsimp+instances only);(with_reducible refine kz _ ?_);clear kz Kz)|refine st ?_|(refine sr ?_;intro Kz kz;conv=>whnf)|(refine cd ?_;(conv=>arg 2;whnf);refine st ?_)|refine blockK_y (by rfl) ?_|(refine sw ?_;conv=>whnf))|(refine gm ?_;conv=>whnf)|(intro hc;(try dsimp+instances only[Dat,SDat,dflt,Ty.size,keepS,bkUpd,Gv.bk,backS,wayA,maxI,minI,negI]at hc);try simp only[LS]at hc))
 all_goals (try ((fail_if_success refine nl ?_);(try dsimp only[Dat,SDat,dflt,Ty.size,keepS,bkUpd,Gv.bk,backS,wayA,maxI,minI,negI]);(try simp only[LS]);first|done|exact dsc|((try simp only[allP,lo,hi,room,true_and,and_true,implies_true]);(repeat' (first|refine an ?_ ?_|((with_reducible refine preA_t ?_ ?_);rotate_left;exact sameP_t)|intro hv))<;>(try omega))))
 · refine bF fun h=>?_
   have:=h.1 _ (getD_mem (l:=kids) (d:=0) (k:=k) (by omega))
   omega
 · exact ⟨k+1,by omega,by omega,all_step (d:=0) hj (by omega) (by omega)⟩
 · have h1:kidsIn kids n:=all_end hj (by omega)
   refine bC ?_
   subst hc
   simp only [formed,h1,inner,List.length_eq_zero_iff,Int.natCast_eq_zero]
   grind
 · have h1:kidsIn kids n:=all_end hj (by omega)
   refine bC ?_
   simp only [formed,h1,hc,inner,List.length_eq_zero_iff,Int.natCast_eq_zero]
   grind
theorem ok_z67:SpecOK SP glob fi_z67 S_z67:=mk_ok (c:=c_z67) (tab_ok _) mix_ok wf_z67 (by decide) (.cons ok_z69 .nil) (fun x hx=>Nat.zero_lt_one) g_z67
@[reducible] noncomputable def S_z63:Spec:={ ins:=(.cons (.d tCirc) (.cons (.d tInt) .nil)),pre:=fun _=>True,alts:=[{ outs:=(.cons (.d .bool) .nil),res:=(fun x=>(fun c n=>(boolOf (c.1.length≤n∧∀ g∈c.1,g.2.2.1.length≤20),())) x.1 x.2.1)}]}
noncomputable def c_z63:Cf:=(cf_z63 (Fl []))
theorem g_z63:∀ x,S_z63.pre x→shOK S_z63.ins x→fnGoal c_z63 fn_z63 S_z63 x:=by
 rintro ⟨⟨gs,⟨⟩⟩,n,⟨⟩⟩ hpre hok
 clear hpre
 have hln:=shLn_of _ hok;replace hok:=Hd.mk hok;try simp only [shLn,datLn,inRng,lo,hi,maxLen,true_and,and_true] at hln
 first|refine fn_goal (w_head ?_)
 intro Kz kz;(conv=>whnf);(try dsimp+instances only);refine kz _ ?_;clear kz Kz;(conv=>(arg 2;whnf))
 repeat' (first|refine an ?_ ?_|((try refine gm ?_);first|((with_reducible show Kz _);(try dsimp+instances only);(with_reducible refine kz _ ?_);clear kz Kz)|refine st ?_|(refine sr ?_;intro Kz kz;conv=>whnf)|(refine cd ?_;(conv=>arg 2;whnf);refine st ?_)|refine blockK_y (by rfl) ?_|(refine sw ?_;conv=>whnf))|(refine gm ?_;conv=>whnf)|(intro hc;(try dsimp+instances only[Dat,SDat,dflt,Ty.size,keepS,bkUpd,Gv.bk,backS,wayA,maxI,minI,negI]at hc);try simp only[LS]at hc))
 all_goals (try ((fail_if_success refine nl ?_);(try dsimp only[Dat,SDat,dflt,Ty.size,keepS,bkUpd,Gv.bk,backS,wayA,maxI,minI,negI]);(try simp only[LS]);first|done|exact dsc|((try simp only[allP,lo,hi,room,true_and,and_true,implies_true]);(repeat' (first|refine an ?_ ?_|((with_reducible refine preA_t ?_ ?_);rotate_left;exact sameP_t)|intro hv))<;>(try omega))))
 rotate_left
 refine w_loop [(5, .d tInt)] [] (fun y=>∃ k:Nat,y.1.1=(k:Int)∧k≤gs.length∧∀ g∈gs.take k,g.2.2.1.length≤20) (fun y=>gs.length - y.1.1.toNat) ?_
 conv=>whnf
 refine And.intro ?_ ?_
 · exact ⟨0,by simp⟩
 rintro ⟨⟨_,⟨⟩⟩,⟨⟩⟩ ⟨k,rfl,hk,hj⟩
 repeat' (first|refine an ?_ ?_|((try refine gm ?_);first|((with_reducible show Kz _);(try dsimp+instances only);(with_reducible refine kz _ ?_);clear kz Kz)|refine st ?_|(refine sr ?_;intro Kz kz;conv=>whnf)|(refine cd ?_;(conv=>arg 2;whnf);refine st ?_)|refine blockK_y (by rfl) ?_|(refine sw ?_;conv=>whnf))|(refine gm ?_;conv=>whnf)|(intro hc;(try dsimp+instances only[Dat,SDat,dflt,Ty.size,keepS,bkUpd,Gv.bk,backS,wayA,maxI,minI,negI]at hc);try simp only[LS]at hc))
 all_goals (try ((fail_if_success refine nl ?_);(try dsimp only[Dat,SDat,dflt,Ty.size,keepS,bkUpd,Gv.bk,backS,wayA,maxI,minI,negI]);(try simp only[LS]);first|done|exact dsc|((try simp only[allP,lo,hi,room,true_and,and_true,implies_true]);(repeat' (first|refine an ?_ ?_|((with_reducible refine preA_t ?_ ?_);rotate_left;exact sameP_t)|intro hv))<;>(try omega))))
 · refine bF fun h=>?_
   have:=h.2 _ (getD_mem (d:=((0,0,[],()):Gate)) (k:=k) (by omega))
   omega
 · exact ⟨k+1,by omega,by omega,all_step (d:=((0,0,[],()):Gate)) hj (by omega) (by omega)⟩
 · exact bT ⟨by omega,all_end hj (by omega)⟩
 · exact bF fun h=>by omega
theorem ok_z63:SpecOK SP glob fi_z63 S_z63:=mk_ok (c:=c_z63) (tab_ok _) mix_ok wf_z63 (by decide) .nil (fun x hx=>Nat.zero_lt_one) g_z63
@[reducible] noncomputable def S_z66:Spec:={ ins:=(.cons (.d tCirc) .nil),pre:=fun _=>True,alts:=[{ outs:=(.cons (.d .bool) .nil),res:=(fun x=>(fun c=>(boolOf (ValidC c.1),())) x.1)}]}
noncomputable def c_z66:Cf:=(cf_z66 (Fl [(fi_z67,S_z67),(fi_z69,S_z69),(fi_z62,S_z62)]))
theorem g_z66:∀ x,S_z66.pre x→shOK S_z66.ins x→fnGoal c_z66 fn_z66 S_z66 x:=by
 rintro ⟨⟨gs,⟨⟩⟩,⟨⟩⟩ hpre hok
 clear hpre
 have hln:=shLn_of _ hok;replace hok:=Hd.mk hok;try simp only [shLn,datLn,inRng,lo,hi,maxLen,true_and,and_true] at hln
 first|refine fn_goal (w_head ?_)
 intro Kz kz;(conv=>whnf);(try dsimp+instances only);refine kz _ ?_;clear kz Kz;(conv=>(arg 2;whnf))
 repeat' (first|refine an ?_ ?_|((try refine gm ?_);first|((with_reducible show Kz _);(try dsimp+instances only);(with_reducible refine kz _ ?_);clear kz Kz)|refine st ?_|(refine sr ?_;intro Kz kz;conv=>whnf)|(refine cd ?_;(conv=>arg 2;whnf);refine st ?_)|refine blockK_y (by rfl) ?_|(refine sw ?_;conv=>whnf))|(refine gm ?_;conv=>whnf)|(intro hc;(try dsimp+instances only[Dat,SDat,dflt,Ty.size,keepS,bkUpd,Gv.bk,backS,wayA,maxI,minI,negI]at hc);try simp only[LS]at hc))
 all_goals (try ((fail_if_success refine nl ?_);(try dsimp only[Dat,SDat,dflt,Ty.size,keepS,bkUpd,Gv.bk,backS,wayA,maxI,minI,negI]);(try simp only[LS]);first|done|exact dsc|((try simp only[allP,lo,hi,room,true_and,and_true,implies_true]);(repeat' (first|refine an ?_ ?_|((with_reducible refine preA_t ?_ ?_);rotate_left;exact sameP_t)|intro hv))<;>(try omega))))
 rotate_left
 refine w_loop [(3, .d tInt)] [] (fun y=>∃ n:Nat,y.1.1=(n:Int)∧n≤gs.length∧∀ m,m<n→GoodAt gs m (gs.getD m ((0,0,[],()):Gate))) (fun y=>gs.length - y.1.1.toNat) ?_
 conv=>whnf
 refine And.intro ?_ ?_
 · exact ⟨0,by simp⟩
 rintro ⟨⟨_,⟨⟩⟩,⟨⟩⟩ ⟨n,rfl,hn,hG⟩
 repeat' (first|refine an ?_ ?_|((try refine gm ?_);first|((with_reducible show Kz _);(try dsimp+instances only);(with_reducible refine kz _ ?_);clear kz Kz)|refine st ?_|(refine sr ?_;intro Kz kz;conv=>whnf)|(refine cd ?_;(conv=>arg 2;whnf);refine st ?_)|refine blockK_y (by rfl) ?_|(refine sw ?_;conv=>whnf))|(refine gm ?_;conv=>whnf)|(intro hc;(try dsimp+instances only[Dat,SDat,dflt,Ty.size,keepS,bkUpd,Gv.bk,backS,wayA,maxI,minI,negI]at hc);try simp only[LS]at hc))
 all_goals (try ((fail_if_success refine nl ?_);(try dsimp only[Dat,SDat,dflt,Ty.size,keepS,bkUpd,Gv.bk,backS,wayA,maxI,minI,negI]);(try simp only[LS]);first|done|exact dsc|((try simp only[allP,lo,hi,room,true_and,and_true,implies_true]);(repeat' (first|refine an ?_ ?_|((with_reducible refine preA_t ?_ ?_);rotate_left;exact sameP_t)|intro hv))<;>(try omega))))
 · refine bF fun h=>?_
   have:=h.2 n (by omega)
   unfold GoodAt at this
   grind
 · have hgl:(List.getD gs n ((0,0,[],()):Gate)).2.2.1.length≤2 ^ 63 - 1:=(hok.out.1.1.2 (List.getD gs n ((0,0,[],()):Gate)) (getD_mem (l:=gs) (by omega))).2.2.1.1
   have hf:formed (List.getD gs n ((0,0,[],()):Gate)) n∧¬ (inner (List.getD gs n ((0,0,[],()):Gate)).1∧(List.getD gs n ((0,0,[],()):Gate)).2.2.1.length<2):=by grind
   refine w_loop [(5, .d tInt)] [] (fun y=>∃ j:Nat,y.1.1=(j:Int)∧j≤(List.getD gs n ((0,0,[],()):Gate)).2.2.1.length∧∀ i,i<j→KidOK gs (List.getD gs n ((0,0,[],()):Gate)) i) (fun y=>(List.getD gs n ((0,0,[],()):Gate)).2.2.1.length - y.1.1.toNat) ?_
   conv=>whnf
   refine And.intro ?_ ?_
   · exact ⟨0,by simp⟩
   rintro ⟨⟨_,⟨⟩⟩,⟨⟩⟩ ⟨j,rfl,hj,hK⟩
   repeat' (first|refine an ?_ ?_|((try refine gm ?_);first|((with_reducible show Kz _);(try dsimp+instances only);(with_reducible refine kz _ ?_);clear kz Kz)|refine st ?_|(refine sr ?_;intro Kz kz;conv=>whnf)|(refine cd ?_;(conv=>arg 2;whnf);refine st ?_)|refine blockK_y (by rfl) ?_|(refine sw ?_;conv=>whnf))|(refine gm ?_;conv=>whnf)|(intro hc;(try dsimp+instances only[Dat,SDat,dflt,Ty.size,keepS,bkUpd,Gv.bk,backS,wayA,maxI,minI,negI]at hc);try simp only[LS]at hc))
   all_goals (try ((fail_if_success refine nl ?_);(try dsimp only[Dat,SDat,dflt,Ty.size,keepS,bkUpd,Gv.bk,backS,wayA,maxI,minI,negI]);(try simp only[LS]);first|done|exact dsc|((try simp only[allP,lo,hi,room,true_and,and_true,implies_true]);(repeat' (first|refine an ?_ ?_|((with_reducible refine preA_t ?_ ?_);rotate_left;exact sameP_t)|intro hv))<;>(try omega))))
   · have:=hf.1.1 _ (getD_mem (l:=(List.getD gs n ((0,0,[],()):Gate)).2.2.1) (d:=0) (k:=j) (by omega))
     omega
   · have:=hf.1.1 _ (getD_mem (l:=(List.getD gs n ((0,0,[],()):Gate)).2.2.1) (d:=0) (k:=j) (by omega))
     omega
   · refine bF fun h=>?_
     have:=(h.2 n (by omega)).2.2.1 j (by omega)
     have h1:=this.1;have h2:=this.2.1;have h3:=this.2.2
     have e:((j:Int) - 1).toNat=j - 1:=by omega
     rw [e] at hc
     unfold kindAt at h2 h3
     omega
   · refine ⟨j+1,by omega,by omega,lt_step hK ?_⟩
     have e:((j:Int) - 1).toNat=j - 1:=by omega
     rw [e] at hc
     exact ⟨by omega,by unfold kindAt;omega,by unfold kindAt;omega⟩
   · have hA:=hK;clear hK
     refine w_loop [(7, .d tInt)] [] (fun y=>∃ j:Nat,y.1.1=(j:Int)∧j≤n∧∀ i,i<j→gs.getD i ((0,0,[],()):Gate)≠(List.getD gs n ((0,0,[],()):Gate))) (fun y=>n - y.1.1.toNat) ?_
     conv=>whnf
     refine And.intro ?_ ?_
     · exact ⟨0,by simp⟩
     rintro ⟨⟨_,⟨⟩⟩,⟨⟩⟩ ⟨k,rfl,hk,hD⟩
     repeat' (first|refine an ?_ ?_|((try refine gm ?_);first|((with_reducible show Kz _);(try dsimp+instances only);(with_reducible refine kz _ ?_);clear kz Kz)|refine st ?_|(refine sr ?_;intro Kz kz;conv=>whnf)|(refine cd ?_;(conv=>arg 2;whnf);refine st ?_)|refine blockK_y (by rfl) ?_|(refine sw ?_;conv=>whnf))|(refine gm ?_;conv=>whnf)|(intro hc;(try dsimp+instances only[Dat,SDat,dflt,Ty.size,keepS,bkUpd,Gv.bk,backS,wayA,maxI,minI,negI]at hc);try simp only[LS]at hc))
     all_goals (try ((fail_if_success refine nl ?_);(try dsimp only[Dat,SDat,dflt,Ty.size,keepS,bkUpd,Gv.bk,backS,wayA,maxI,minI,negI]);(try simp only[LS]);first|done|exact dsc|((try simp only[allP,lo,hi,room,true_and,and_true,implies_true]);(repeat' (first|refine an ?_ ?_|((with_reducible refine preA_t ?_ ?_);rotate_left;exact sameP_t)|intro hv))<;>(try omega))))
     · refine bF fun h=>?_
       exact (h.2 n (by omega)).2.2.2 k (by omega) hc
     · exact ⟨k+1,by omega,by omega,lt_step hD hc⟩
     · refine ⟨n+1,by omega,by omega,lt_step hG ⟨hf.1,fun h=>?_,fun i hi=>hA i (by omega),fun i hi=>hD i (by omega)⟩⟩
       have:=hf.2;grind
 · exact bT ⟨by omega,fun m hm=>hG m (by omega)⟩
 · exact bF fun h=>by have:=h.1;omega
theorem ok_z66:SpecOK SP glob fi_z66 S_z66:=mk_ok (c:=c_z66) (tab_ok _) mix_ok wf_z66 (by decide) (.cons ok_z67 (.cons ok_z69 (.cons ok_z62 .nil))) (fun x hx=>Nat.zero_lt_one) g_z66
end Go.Gv
