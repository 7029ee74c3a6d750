/- ReapMeans: its function answers true. -/
import Derived.Test.YtibnojoffhlekaaGreatDoorP18k
import Derived.Test.YtibnojoffhlekaaGreatDoorC16f
set_option linter.all false
namespace Go.Gv
open Go Go.Proofs Go.Proofs.YtibnojoffhlekaaGreatDoor
set_option maxRecDepth 100000
set_option maxHeartbeats 4000000
theorem keep_small {gs:List Gate} {R:List Int} {n:Nat} (h:∀ g∈gs,g.2.2.1.length≤n):∀ g∈keepG gs R,g.2.2.1.length≤n:=fun g hg=>by
 obtain ⟨i,hi,rfl⟩:=List.getElem_of_mem hg
 obtain ⟨k,h1,h2,h3,h4⟩:=keep_pos hi
 rw [getD_ok ((0,0,[],()):Gate) hi] at h4
 rw [h4]
 have:=h _ (getD_mem (d:=((0,0,[],()):Gate)) h1)
 unfold mapG
 simpa using this
theorem keep_ev_at {T:Type} {gs:List Gate} {R:List Int} (hR:RightP gs R) (S:GE T) {k:Nat} (hk:k<R.length):evC S (keepG gs R) ((keepL gs R).getD k 0)=evC S gs (R.getD k 0):=by
 rw [keepL_at hk]
 exact keep_ev hR (getD_mem hk) S
theorem keep_hold_at {gs:List Gate} {R:List Int} (hR:RightP gs R) (h:List Bool) {k:Nat} (hk:k<R.length):holdsV (keepG gs R) ((keepL gs R).getD k 0) h=holdsV gs (R.getD k 0) h:=by
 unfold holdsV
 rw [keep_ev_at hR _ hk]
theorem keepL_len (gs:List Gate) (R:List Int):(keepL gs R).length=R.length:=by unfold keepL;rw [List.length_map]
@[reducible] noncomputable def S_z51:Spec:={ ins:=(.cons (.d tCirc) (.cons (.d (.sl tInt)) (.cons (.d (.sl .bool)) .nil))),pre:=fun _=>True,alts:=[{ outs:=(.cons (.d .bool) .nil),res:=(fun x=>(fun c roots h=>(true,())) x.1 x.2.1 x.2.2.1)}],noisy:=true}
noncomputable def c_z51:Cf:={ cf_z51 (Fl [(fi_z53,S_z53),(fi_z52,S_z52),(fi_z76,S_keep_two),(fi_z10,S_z10),(fi_z89,S_z89),(fi_z6,S_z6)]) with nz:=true}
theorem g_z51:∀ x,S_z51.pre x→shOK S_z51.ins x→fnGoal c_z51 fn_z51 S_z51 x:=by
 rintro ⟨⟨gs,⟨⟩⟩,(R:List Int),(h:List Bool),⟨⟩⟩ hpre hok
 clear hpre
 have hln:=shLn_of _ hok;replace hok:=Hd.mk hok;try simp only [shLn,datLn,inRng,lo,hi,maxLen,true_and,and_true] at hln
 first|refine fn_goal (w_head ?_)
 intro Kz kz;(conv=>whnf);(try dsimp+instances only);refine kz _ ?_;clear kz Kz;(conv=>(arg 2;whnf))
 repeat' (first|refine an ?_ ?_|((try refine gm ?_);first|((with_reducible show Kz _);(try dsimp+instances only);(with_reducible refine kz _ ?_);clear kz Kz)|refine st ?_|(refine sr ?_;intro Kz kz;conv=>whnf)|(refine cd ?_;(conv=>arg 2;whnf);refine st ?_)|refine blockK_y (by rfl) ?_|(refine sw ?_;conv=>whnf))|(refine gm ?_;conv=>whnf)|(intro hc;(try dsimp+instances only[Dat,SDat,dflt,Ty.size,keepS,bkUpd,Gv.bk,backS,wayA,maxI,minI,negI]at hc);try simp only[LS]at hc))
 all_goals (try ((fail_if_success refine nl ?_);(try dsimp only[Dat,SDat,dflt,Ty.size,keepS,bkUpd,Gv.bk,backS,wayA,maxI,minI,negI]);(try simp only[LS]);first|done|exact dsc|((try simp only[allP,lo,hi,room,true_and,and_true,implies_true]);(repeat' (first|refine an ?_ ?_|((with_reducible refine preA_t ?_ ?_);rotate_left;exact sameP_t)|intro hv))<;>(try omega))))
 all_goals (try ((fail_if_success refine nl ?_);rename ¬ (_∨_)=>hq;have hF:FewP gs R 0:=Classical.byContradiction (fun h=>hq (.inl (.inl h)));first|exact Nat.le_trans (hF.1.2 _ (by assumption)) (by decide)|(have:=hF.2.1;omega)))
 · exact absurd (by assumption:(1:Int)=0) (by decide)
 · exact absurd (congrArg Int.ofNat (keepL_len gs R)) (by assumption)
 have hR:RightP gs R:=by assumption
 have hF:FewP gs R 0:=by rename ¬ ((_∨_)∨_)=>hq;exact Classical.byContradiction (fun h=>hq (.inl (.inl h)))
 have hsm:∀ g∈gs,g.2.2.1.length≤1000000:=fun g hg=>Nat.le_trans (hF.1.2 g hg) (by decide)
 have hsk:=keep_small (R:=R) hsm
 have hkl:=keepL_len gs R
 have hRl:R.length≤60:=hF.2.1
 refine w_loop [(11, .d tInt)] [] (fun y=>∃ k:Nat,y.1.1=(k:Int)∧k≤R.length) (fun y=>R.length - y.1.1.toNat) ?_
 conv=>whnf
 refine And.intro ?_ ?_
 · exact ⟨0,rfl,Nat.zero_le _⟩
 rintro ⟨⟨_,⟨⟩⟩,⟨⟩⟩ ⟨k,rfl,hk⟩
 have he:=fun (h:k<R.length)=>keep_ev_at (S:=srP.ge) hR h
 have hh:=fun (hv:List Bool) (h:k<R.length)=>keep_hold_at hR hv h
 repeat' (first|refine an ?_ ?_|((try refine gm ?_);first|((with_reducible show Kz _);(try dsimp+instances only);(with_reducible refine kz _ ?_);clear kz Kz)|refine st ?_|(refine sr ?_;intro Kz kz;conv=>whnf)|(refine cd ?_;(conv=>arg 2;whnf);refine st ?_)|refine blockK_y (by rfl) ?_|(refine sw ?_;conv=>whnf))|(refine gm ?_;conv=>whnf)|(intro hc;(try dsimp+instances only[Dat,SDat,dflt,Ty.size,keepS,bkUpd,Gv.bk,backS,wayA,maxI,minI,negI]at hc);try simp only[LS]at hc))
 all_goals (try ((fail_if_success refine nl ?_);(try dsimp only[Dat,SDat,dflt,Ty.size,keepS,bkUpd,Gv.bk,backS,wayA,maxI,minI,negI]);(try simp only[LS]);first|done|exact dsc|((try simp only[allP,lo,hi,room,true_and,and_true,implies_true]);(repeat' (first|refine an ?_ ?_|((with_reducible refine preA_t ?_ ?_);rotate_left;exact sameP_t)|intro hv))<;>(try omega))))
 all_goals (first
  |exact hsm _ (by assumption)
  |exact hsk _ (by assumption)
  |exact ⟨k+1,rfl,by omega⟩
  |(exfalso
    have hkR:k<R.length:=by omega
    rw [he hkR,hh h hkR] at hc
    simp at hc;done))
theorem ok_z51:SpecOK SP glob fi_z51 S_z51:=mk_ok (c:=c_z51) (tab_ok _) mix_ok wf_z51 (by decide) (.cons ok_z53 (.cons ok_z52 (.cons ok_keep_two (.cons ok_z10 (.cons ok_z89 (.cons ok_z6 .nil)))))) (fun x hx=>Nat.zero_lt_one) g_z51
end Go.Gv
