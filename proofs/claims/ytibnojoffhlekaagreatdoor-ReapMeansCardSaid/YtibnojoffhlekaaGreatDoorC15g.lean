/- Chapter 15: the program's texts. -/
import Derived.Test.YtibnojoffhlekaaGreatDoorC15e
import Derived.Test.YtibnojoffhlekaaGreatDoorJ15
set_option linter.all false
namespace Go.Gv
open Go Go.Proofs Go.Proofs.YtibnojoffhlekaaGreatDoor
set_option maxRecDepth 100000
set_option maxHeartbeats 4000000
def okY (x:Pw):Prop:=0≤x.1∧x.1<4000∧1≤x.2.1∧x.2.1≤200
def wkP (l:List Pw):Prop:=l.length≤100000∧∀ x∈l,okY x
theorem wkP_of {l:List Pw} (h:okP l):wkP l:=⟨by have:=okP_len h;omega,fun x hx=>by have:=okP_mem h hx;exact ⟨this.1,this.2.1,this.2.2.1,by omega⟩⟩
theorem okY_len {x:Pw} (h:okY x):(Lib.itoa x.1).length≤21∧(Lib.itoa x.2.1).length≤21∧(itemX x).length≤50:=by
 unfold okY at h
 have h1:=Lib.itoa_length_le x.1 (by omega) (by omega)
 have h2:=Lib.itoa_length_le x.2.1 (by omega) (by omega)
 refine ⟨h1,h2,?_⟩
 unfold itemX
 split<;>simp only [List.length_append,List.length_cons,List.length_nil]<;>omega
theorem facT_len {l:List Pw} (h:wkP l):(facT l).length≤10000000:=by
 have:=join_len [42] 50 (l.map itemX) (by
  intro x hx
  obtain ⟨y,hy,rfl⟩:=List.mem_map.1 hx
  exact (okY_len (h.2 y hy)).2.2)
 have h3:(l.map itemX).length≤100000:=by rw [List.length_map];exact h.1
 have h4:(l.map itemX).length * (50+[(42:UInt8)].length)≤100000 * 51:=Nat.mul_le_mul h3 (by simp)
 unfold facT
 omega
theorem map_step {α β:Type} {f:α→β} {l:List α} {k:Nat} {d:α} (h:k<l.length):(l.take (k+1)).map f=(l.take k).map f++[f (l.getD k d)]:=by
 rw [List.take_succ_eq_append_getElem h,List.map_append,getD_ok d h];rfl
theorem itemX_one {x:Pw} (h:x.2.1=1):itemX x=[120]++Lib.itoa x.1:=by unfold itemX;rw [if_pos h,List.append_nil]
theorem itemX_more {x:Pw} (h:¬ x.2.1=1):itemX x=[120]++Lib.itoa x.1++([94]++Lib.itoa x.2.1):=by unfold itemX;rw [if_neg h]
@[reducible] noncomputable def S_z68:Spec:={ ins:=(.cons (.d (.sl tPw)) .nil),pre:=(fun x=>(fun l=>wkP l) x.1),alts:=[{ outs:=(.cons (.d .str) .nil),res:=(fun x=>(fun l=>(facT l,())) x.1)}],noisy:=true}
noncomputable def c_z68:Cf:={ cf_z68 (Fl [(fi_z157,S_z157),(fi_z163,S_z163)]) with nz:=true}
theorem g_z68:∀ x,S_z68.pre x→shOK S_z68.ins x→fnGoal c_z68 fn_z68 S_z68 x:=by
 rintro ⟨l,⟨⟩⟩ hpre hok
 try dsimp only [Dat,SDat,dflt,Ty.size,keepS,bkUpd,Gv.bk,backS,wayA,maxI,minI,negI] at hpre
 have hln:=shLn_of _ hok;replace hok:=Hd.mk hok;try simp only [shLn,datLn,inRng,lo,hi,maxLen,true_and,and_true] at hln
 have hw:wkP l:=hpre
 have hl1:=hw.1
 have hfl:=facT_len hw
 first|refine fn_goal (w_head ?_)
 intro Kz kz;(conv=>whnf);(try dsimp+instances only);refine kz _ ?_;clear kz Kz;(conv=>(arg 2;whnf))
 repeat' (first|refine an ?_ ?_|((try refine gm ?_);first|((with_reducible show Kz _);(try dsimp+instances only);(with_reducible refine kz _ ?_);clear kz Kz)|refine st ?_|(refine sr ?_;intro Kz kz;conv=>whnf)|(refine cd ?_;(conv=>arg 2;whnf);refine st ?_)|refine blockK_y (by rfl) ?_|(refine sw ?_;conv=>whnf))|(refine gm ?_;conv=>whnf)|(intro hc;(try dsimp+instances only[Dat,SDat,dflt,Ty.size,keepS,bkUpd,Gv.bk,backS,wayA,maxI,minI,negI]at hc);try simp only[LS]at hc))
 all_goals (try ((fail_if_success refine nl ?_);(try dsimp only[Dat,SDat,dflt,Ty.size,keepS,bkUpd,Gv.bk,backS,wayA,maxI,minI,negI]);(try simp only[LS]);first|done|exact dsc|((try simp only[allP,lo,hi,room,true_and,and_true,implies_true]);(repeat' (first|refine an ?_ ?_|((with_reducible refine preA_t ?_ ?_);rotate_left;exact sameP_t)|intro hv))<;>(try omega))))
 refine w_loop [(9, .d tInt),(3, .spare .str)] [] (fun y=>∃ k:Nat,y.1.1=(k:Int)∧k≤l.length∧y.1.2.1=(l.take k).map itemX) (fun y=>l.length - y.1.1.toNat) ?_
 conv=>whnf
 refine And.intro ?_ ?_
 · exact ⟨0,rfl,by omega,rfl⟩
 rintro ⟨⟨_,ou,⟨⟩⟩,⟨⟩⟩ ⟨k,rfl,hk,hou⟩
 have hou:@Eq (List (List UInt8)) ou ((l.take k).map itemX):=hou
 subst hou
 have hX:k<l.length→okY (List.getD l k ((0,0,()):Pw)):=fun h=>hw.2 _ (getD_mem h)
 have htl:(l.take k).length≤100000:=by rw [List.length_take];omega
 repeat' (first|refine an ?_ ?_|((try refine gm ?_);first|((with_reducible show Kz _);(try dsimp+instances only);(with_reducible refine kz _ ?_);clear kz Kz)|refine st ?_|(refine sr ?_;intro Kz kz;conv=>whnf)|(refine cd ?_;(conv=>arg 2;whnf);refine st ?_)|refine blockK_y (by rfl) ?_|(refine sw ?_;conv=>whnf))|(refine gm ?_;conv=>whnf)|(intro hc;(try dsimp+instances only[Dat,SDat,dflt,Ty.size,keepS,bkUpd,Gv.bk,backS,wayA,maxI,minI,negI]at hc);try simp only[LS]at hc))
 all_goals (try ((fail_if_success refine nl ?_);(try dsimp only[Dat,SDat,dflt,Ty.size,keepS,bkUpd,Gv.bk,backS,wayA,maxI,minI,negI]);(try simp only[LS]);first|done|exact dsc|((try simp only[allP,lo,hi,room,true_and,and_true,implies_true]);(repeat' (first|refine an ?_ ?_|((with_reducible refine preA_t ?_ ?_);rotate_left;exact sameP_t)|intro hv))<;>(try omega))))
 all_goals (first
  |(have h:=okY_len (hX (by omega));simp only [maxLen];omega)
  |omega
  |(refine ⟨k+1,by omega,by omega,?_⟩
    rw [map_step (d:=((0,0,()):Pw)) (by omega)]
    first|rw [itemX_one hc]|rw [itemX_more hc])
  |(have hT:l.take k=l:=List.take_of_length_le (by omega)
    rw [hT]
    first|exact Nat.le_trans hfl (by decide)|omega|rfl))
theorem ok_z68:SpecOK SP glob fi_z68 S_z68:=mk_ok (c:=c_z68) (tab_ok _) mix_ok wf_z68 (by decide) (.cons ok_z157 (.cons ok_z163 .nil)) (fun x hx=>Nat.zero_lt_one) g_z68
theorem facT_nil {l:List Pw}:facT l=[]↔l=[]:=by
 constructor
 · intro h
   cases l with
   |nil=>rfl
   |cons x r=>
    unfold facT at h
    rw [List.map_cons,Lib.join_cons] at h
    simp [itemX] at h
 · rintro rfl;rfl
end Go.Gv
