/- Chapter 48: the program's snapshots. -/
import Derived.Test.YtklcfpomppgblaaGreatDoorC48d
set_option linter.all false
namespace Go.Gv
open Go Go.Proofs Go.Proofs.YtklcfpomppgblaaGreatDoor
set_option maxRecDepth 100000
set_option maxHeartbeats 4000000
@[reducible] noncomputable def S_snap_New : Spec := { ins := .nil, pre := fun _ => True, alts := [{ outs := (.cons (.box (.cons (.d tInt) (.cons (.map tInt (.sl tEv)) (.cons (.d tInt) (.cons (.map tInt tInt) .nil))))) .nil), res := (fun _ => ((0, [(0, [])], 0, [], ()), ())) }] }
noncomputable def c_snap_New : Cf := (cf_snap_New (Fl []))
theorem g_snap_New : ∀ x, S_snap_New.pre x → shOK S_snap_New.ins x → fnGoal c_snap_New fn_snap_New S_snap_New x := by
  rintro ⟨⟩ hpre hok
  clear hpre
  have hln := shLn_of _ hok; replace hok := Hd.mk hok; try simp only [shLn, datLn, inRng, lo, hi, maxLen, true_and, and_true] at hln
  first | refine fn_goal (w_head ?_)
  intro Kz kz;(conv=>whnf);(try dsimp +instances only);refine kz _ ?_;clear kz Kz;(conv=>(arg 2;whnf))
  repeat' (first|(with_reducible first|refine an ?_ ?_|((try refine gm ?_);refine st ?_))|((try (with_reducible refine gm ?_));first|((with_reducible show Kz _);(try dsimp +instances only);(with_reducible refine kz _ ?_);clear kz Kz)|((with_reducible refine sr ?_);intro Kz kz;conv=>whnf)|((with_reducible refine cd ?_);(conv=>arg 2;whnf);(with_reducible refine st ?_))|refine blockK_y (by rfl) ?_|refine blockR_y (by rfl) ?_|((with_reducible refine sw ?_);conv=>whnf))|((with_reducible refine gm ?_);conv=>whnf)|(intro hc;(try dsimp +instances only[Dat,SDat,dflt,Ty.size,keepS,bkUpd,Gv.bk,backS,wayA,maxI,minI,negI]at hc);try simp only[LS]at hc))
  all_goals (try ((fail_if_success (with_reducible refine nl ?_));(try dsimp only[Dat,SDat,dflt,Ty.size,keepS,bkUpd,Gv.bk,backS,wayA,maxI,minI,negI]);(try simp only[LS]);first|done|exact dsc|((try simp only[allP,lo,hi,room,true_and,and_true,implies_true]);(repeat' (first|refine an ?_ ?_|((with_reducible refine preA_t ?_ ?_);rotate_left;exact sameP_t)|intro hv))<;>(try omega))))
theorem ok_snap_New : SpecOK SP glob fi_snap_New S_snap_New := mk_ok (c := c_snap_New) (tab_ok _) mix_ok wf_snap_New (by decide) .nil (fun x hx => Nat.zero_lt_one) g_snap_New
@[reducible] noncomputable def S_snap_Open_nil : Spec := { ins := (.cons (.nilp) .nil), pre := fun _ => True, alts := [{ outs := (.cons (.d tInt) (.cons (.d tInt) .nil)), res := (fun x => (fun s => (0, 1, ())) x.1) }] }
noncomputable def c_snap_Open_nil : Cf := (cf_snap_Snap_Open (Fl []))
theorem g_snap_Open_nil : ∀ x, S_snap_Open_nil.pre x → shOK S_snap_Open_nil.ins x → fnGoal c_snap_Open_nil fn_snap_Snap_Open S_snap_Open_nil x := by
  rintro ⟨s, ⟨⟩⟩ hpre hok
  clear hpre
  have hln := shLn_of _ hok; replace hok := Hd.mk hok; try simp only [shLn, datLn, inRng, lo, hi, maxLen, true_and, and_true] at hln
  first | refine fn_goal (w_head ?_)
  intro Kz kz;(conv=>whnf);(try dsimp +instances only);refine kz _ ?_;clear kz Kz;(conv=>(arg 2;whnf))
  repeat' (first|(with_reducible first|refine an ?_ ?_|((try refine gm ?_);refine st ?_))|((try (with_reducible refine gm ?_));first|((with_reducible show Kz _);(try dsimp +instances only);(with_reducible refine kz _ ?_);clear kz Kz)|((with_reducible refine sr ?_);intro Kz kz;conv=>whnf)|((with_reducible refine cd ?_);(conv=>arg 2;whnf);(with_reducible refine st ?_))|refine blockK_y (by rfl) ?_|refine blockR_y (by rfl) ?_|((with_reducible refine sw ?_);conv=>whnf))|((with_reducible refine gm ?_);conv=>whnf)|(intro hc;(try dsimp +instances only[Dat,SDat,dflt,Ty.size,keepS,bkUpd,Gv.bk,backS,wayA,maxI,minI,negI]at hc);try simp only[LS]at hc))
  all_goals (try ((fail_if_success (with_reducible refine nl ?_));(try dsimp only[Dat,SDat,dflt,Ty.size,keepS,bkUpd,Gv.bk,backS,wayA,maxI,minI,negI]);(try simp only[LS]);first|done|exact dsc|((try simp only[allP,lo,hi,room,true_and,and_true,implies_true]);(repeat' (first|refine an ?_ ?_|((with_reducible refine preA_t ?_ ?_);rotate_left;exact sameP_t)|intro hv))<;>(try omega))))
theorem ok_snap_Open_nil : SpecOK SP glob fi_snap_Snap_Open S_snap_Open_nil := mk_ok (c := c_snap_Open_nil) (tab_ok _) mix_ok wf_snap_Snap_Open (by decide) .nil (fun x hx => Nat.zero_lt_one) g_snap_Open_nil
@[reducible] noncomputable def S_snap_Collect_nil : Spec := { ins := (.cons (.nilp) .nil), pre := fun _ => True, alts := [{ outs := (.cons (.d tInt) .nil), res := (fun x => (fun s => (0, ())) x.1) }] }
noncomputable def c_snap_Collect_nil : Cf := (cf_snap_Snap_Collect (Fl []))
theorem g_snap_Collect_nil : ∀ x, S_snap_Collect_nil.pre x → shOK S_snap_Collect_nil.ins x → fnGoal c_snap_Collect_nil fn_snap_Snap_Collect S_snap_Collect_nil x := by
  rintro ⟨s, ⟨⟩⟩ hpre hok
  clear hpre
  have hln := shLn_of _ hok; replace hok := Hd.mk hok; try simp only [shLn, datLn, inRng, lo, hi, maxLen, true_and, and_true] at hln
  first | refine fn_goal (w_head ?_)
  intro Kz kz;(conv=>whnf);(try dsimp +instances only);refine kz _ ?_;clear kz Kz;(conv=>(arg 2;whnf))
  repeat' (first|(with_reducible first|refine an ?_ ?_|((try refine gm ?_);refine st ?_))|((try (with_reducible refine gm ?_));first|((with_reducible show Kz _);(try dsimp +instances only);(with_reducible refine kz _ ?_);clear kz Kz)|((with_reducible refine sr ?_);intro Kz kz;conv=>whnf)|((with_reducible refine cd ?_);(conv=>arg 2;whnf);(with_reducible refine st ?_))|refine blockK_y (by rfl) ?_|refine blockR_y (by rfl) ?_|((with_reducible refine sw ?_);conv=>whnf))|((with_reducible refine gm ?_);conv=>whnf)|(intro hc;(try dsimp +instances only[Dat,SDat,dflt,Ty.size,keepS,bkUpd,Gv.bk,backS,wayA,maxI,minI,negI]at hc);try simp only[LS]at hc))
  all_goals (try ((fail_if_success (with_reducible refine nl ?_));(try dsimp only[Dat,SDat,dflt,Ty.size,keepS,bkUpd,Gv.bk,backS,wayA,maxI,minI,negI]);(try simp only[LS]);first|done|exact dsc|((try simp only[allP,lo,hi,room,true_and,and_true,implies_true]);(repeat' (first|refine an ?_ ?_|((with_reducible refine preA_t ?_ ?_);rotate_left;exact sameP_t)|intro hv))<;>(try omega))))
theorem ok_snap_Collect_nil : SpecOK SP glob fi_snap_Snap_Collect S_snap_Collect_nil := mk_ok (c := c_snap_Collect_nil) (tab_ok _) mix_ok wf_snap_Snap_Collect (by decide) .nil (fun x hx => Nat.zero_lt_one) g_snap_Collect_nil
@[reducible] noncomputable def S_snap_Snap_Open : Spec := { ins := (.cons (.box (.cons (.d tInt) (.cons (.map tInt (.sl tEv)) (.cons (.d tInt) (.cons (.map tInt tInt) .nil))))) .nil), pre := (fun x => (fun s => 0 ≤ s.2.2.1 ∧ s.2.2.1 ≤ 1000000 ∧ List.length s.2.2.2.1 ≤ 100) x.1), alts := [{ outs := (.cons (.d tInt) (.cons (.d tInt) .nil)), res := (fun x => (fun s => (if List.length s.2.2.2.1 = 100 then 0 else s.2.2.1 + 1, if List.length s.2.2.2.1 = 100 then 3 else 0, ())) x.1), upd := (fun x => (fun s => ((s.1, s.2.1, if List.length s.2.2.2.1 = 100 then s.2.2.1 else s.2.2.1 + 1, if List.length s.2.2.2.1 = 100 then s.2.2.2.1 else @mput (Dat tInt) (Dat tInt) (instDecidableEqDat tInt) s.2.2.2.1 (s.2.2.1 + 1) s.1, ()), ())) x.1) }] }
noncomputable def c_snap_Snap_Open : Cf := (cf_snap_Snap_Open (Fl []))
theorem g_snap_Snap_Open : ∀ x, S_snap_Snap_Open.pre x → shOK S_snap_Snap_Open.ins x → fnGoal c_snap_Snap_Open fn_snap_Snap_Open S_snap_Snap_Open x := by
  rintro ⟨⟨n, vs, o, om, ⟨⟩⟩, ⟨⟩⟩ hpre hok
  try dsimp only [Dat,SDat,dflt,Ty.size,keepS,bkUpd,Gv.bk,backS,wayA,maxI,minI,negI] at hpre
  have hln := shLn_of _ hok; replace hok := Hd.mk hok; try simp only [shLn, datLn, inRng, lo, hi, maxLen, true_and, and_true] at hln
  have h1 : (0 : Int) ≤ o := hpre.1
  have h2 : o ≤ (1000000 : Int) := hpre.2.1
  have h3 : List.length om ≤ 100 := hpre.2.2
  first | refine fn_goal (w_head ?_)
  intro Kz kz;(conv=>whnf);(try dsimp +instances only);refine kz _ ?_;clear kz Kz;(conv=>(arg 2;whnf))
  repeat' (first|(with_reducible first|refine an ?_ ?_|((try refine gm ?_);refine st ?_))|((try (with_reducible refine gm ?_));first|((with_reducible show Kz _);(try dsimp +instances only);(with_reducible refine kz _ ?_);clear kz Kz)|((with_reducible refine sr ?_);intro Kz kz;conv=>whnf)|((with_reducible refine cd ?_);(conv=>arg 2;whnf);(with_reducible refine st ?_))|refine blockK_y (by rfl) ?_|refine blockR_y (by rfl) ?_|((with_reducible refine sw ?_);conv=>whnf))|((with_reducible refine gm ?_);conv=>whnf)|(intro hc;(try dsimp +instances only[Dat,SDat,dflt,Ty.size,keepS,bkUpd,Gv.bk,backS,wayA,maxI,minI,negI]at hc);try simp only[LS]at hc))
  all_goals (try ((fail_if_success (with_reducible refine nl ?_));(try dsimp only[Dat,SDat,dflt,Ty.size,keepS,bkUpd,Gv.bk,backS,wayA,maxI,minI,negI]);(try simp only[LS]);first|done|exact dsc|((try simp only[allP,lo,hi,room,true_and,and_true,implies_true]);(repeat' (first|refine an ?_ ?_|((with_reducible refine preA_t ?_ ?_);rotate_left;exact sameP_t)|intro hv))<;>(try omega))))
  · unfold maxLen; omega
  · rw [if_pos (by omega)]
  · rw [if_neg (by omega)]
theorem ok_snap_Snap_Open : SpecOK SP glob fi_snap_Snap_Open S_snap_Snap_Open := mk_ok (c := c_snap_Snap_Open) (tab_ok _) mix_ok wf_snap_Snap_Open (by decide) .nil (fun x hx => Nat.zero_lt_one) g_snap_Snap_Open
@[reducible] noncomputable def S_snap_Snap_Close : Spec := { ins := (.cons (.box (.cons (.d tInt) (.cons (.map tInt (.sl tEv)) (.cons (.d tInt) (.cons (.map tInt tInt) .nil))))) (.cons (.d tInt) .nil)), pre := fun _ => True, alts := [{ outs := (.cons (.d tInt) .nil), res := (fun x => (fun s k => (if (@mget (Dat tInt) (Dat tInt) (instDecidableEqDat tInt) s.2.2.2.1 k).isSome = true then 0 else 22, ())) x.1 x.2.1), upd := (fun x => (fun s k => ((s.1, s.2.1, s.2.2.1, if (@mget (Dat tInt) (Dat tInt) (instDecidableEqDat tInt) s.2.2.2.1 k).isSome = true then @mdel (Dat tInt) (Dat tInt) (instDecidableEqDat tInt) s.2.2.2.1 k else s.2.2.2.1, ()), k, ())) x.1 x.2.1) }] }
noncomputable def c_snap_Snap_Close : Cf := (cf_snap_Snap_Close (Fl []))
theorem g_snap_Snap_Close : ∀ x, S_snap_Snap_Close.pre x → shOK S_snap_Snap_Close.ins x → fnGoal c_snap_Snap_Close fn_snap_Snap_Close S_snap_Snap_Close x := by
  rintro ⟨⟨n, vs, o, om, ⟨⟩⟩, k, ⟨⟩⟩ hpre hok
  clear hpre
  have hln := shLn_of _ hok; replace hok := Hd.mk hok; try simp only [shLn, datLn, inRng, lo, hi, maxLen, true_and, and_true] at hln
  first | refine fn_goal (w_head ?_)
  intro Kz kz;(conv=>whnf);(try dsimp +instances only);refine kz _ ?_;clear kz Kz;(conv=>(arg 2;whnf))
  repeat' (first|(with_reducible first|refine an ?_ ?_|((try refine gm ?_);refine st ?_))|((try (with_reducible refine gm ?_));first|((with_reducible show Kz _);(try dsimp +instances only);(with_reducible refine kz _ ?_);clear kz Kz)|((with_reducible refine sr ?_);intro Kz kz;conv=>whnf)|((with_reducible refine cd ?_);(conv=>arg 2;whnf);(with_reducible refine st ?_))|refine blockK_y (by rfl) ?_|refine blockR_y (by rfl) ?_|((with_reducible refine sw ?_);conv=>whnf))|((with_reducible refine gm ?_);conv=>whnf)|(intro hc;(try dsimp +instances only[Dat,SDat,dflt,Ty.size,keepS,bkUpd,Gv.bk,backS,wayA,maxI,minI,negI]at hc);try simp only[LS]at hc))
  all_goals (try ((fail_if_success (with_reducible refine nl ?_));(try dsimp only[Dat,SDat,dflt,Ty.size,keepS,bkUpd,Gv.bk,backS,wayA,maxI,minI,negI]);(try simp only[LS]);first|done|exact dsc|((try simp only[allP,lo,hi,room,true_and,and_true,implies_true]);(repeat' (first|refine an ?_ ?_|((with_reducible refine preA_t ?_ ?_);rotate_left;exact sameP_t)|intro hv))<;>(try omega))))
  · rw [if_neg (by rw [hc]; exact Bool.false_ne_true)]
  · rw [if_neg (by rw [hc]; exact Bool.false_ne_true)]
  · rw [if_pos (eq_true_of_ne_false hc)]
  · rw [if_pos (eq_true_of_ne_false hc)]
theorem ok_snap_Snap_Close : SpecOK SP glob fi_snap_Snap_Close S_snap_Snap_Close := mk_ok (c := c_snap_Snap_Close) (tab_ok _) mix_ok wf_snap_Snap_Close (by decide) .nil (fun x hx => Nat.zero_lt_one) g_snap_Snap_Close
@[reducible] noncomputable def S_snap_Snap_Read : Spec := { ins := (.cons (.box (.cons (.d tInt) (.cons (.map tInt (.sl tEv)) (.cons (.d tInt) (.cons (.map tInt tInt) .nil))))) (.cons (.d tInt) .nil)), pre := (fun x => (fun s k => ∀ v : Int, ((@mget (Dat tInt) (Dat (.sl tEv)) (instDecidableEqDat tInt) s.2.1 v).getD []).length ≤ 1000000) x.1 x.2.1), alts := [{ outs := (.cons (.d (.sl tEv)) (.cons (.d tInt) (.cons (.d tInt) .nil))), res := (fun x => (fun s k => (if (@mget (Dat tInt) (Dat tInt) (instDecidableEqDat tInt) s.2.2.2.1 k).isSome = true then (@mget (Dat tInt) (Dat (.sl tEv)) (instDecidableEqDat tInt) s.2.1 ((@mget (Dat tInt) (Dat tInt) (instDecidableEqDat tInt) s.2.2.2.1 k).getD 0)).getD [] else [], if (@mget (Dat tInt) (Dat tInt) (instDecidableEqDat tInt) s.2.2.2.1 k).isSome = true then (@mget (Dat tInt) (Dat tInt) (instDecidableEqDat tInt) s.2.2.2.1 k).getD 0 else 0, if (@mget (Dat tInt) (Dat tInt) (instDecidableEqDat tInt) s.2.2.2.1 k).isSome = true then 0 else 22, ())) x.1 x.2.1) }], ro := true }
noncomputable def c_snap_Snap_Read : Cf := (cf_snap_Snap_Read (Fl [(fi_slices_Clone_sl_api_Event_api_Event, S_slices_Clone_sl_api_Event_api_Event)]))
theorem g_snap_Snap_Read : ∀ x, S_snap_Snap_Read.pre x → shOK S_snap_Snap_Read.ins x → fnGoal c_snap_Snap_Read fn_snap_Snap_Read S_snap_Snap_Read x := by
  rintro ⟨⟨n, vs, o, om, ⟨⟩⟩, k, ⟨⟩⟩ hpre hok
  try dsimp only [Dat,SDat,dflt,Ty.size,keepS,bkUpd,Gv.bk,backS,wayA,maxI,minI,negI] at hpre
  have hln := shLn_of _ hok; replace hok := Hd.mk hok; try simp only [shLn, datLn, inRng, lo, hi, maxLen, true_and, and_true] at hln
  first | refine fn_goal (w_head ?_)
  intro Kz kz;(conv=>whnf);(try dsimp +instances only);refine kz _ ?_;clear kz Kz;(conv=>(arg 2;whnf))
  repeat' (first|(with_reducible first|refine an ?_ ?_|((try refine gm ?_);refine st ?_))|((try (with_reducible refine gm ?_));first|((with_reducible show Kz _);(try dsimp +instances only);(with_reducible refine kz _ ?_);clear kz Kz)|((with_reducible refine sr ?_);intro Kz kz;conv=>whnf)|((with_reducible refine cd ?_);(conv=>arg 2;whnf);(with_reducible refine st ?_))|refine blockK_y (by rfl) ?_|refine blockR_y (by rfl) ?_|((with_reducible refine sw ?_);conv=>whnf))|((with_reducible refine gm ?_);conv=>whnf)|(intro hc;(try dsimp +instances only[Dat,SDat,dflt,Ty.size,keepS,bkUpd,Gv.bk,backS,wayA,maxI,minI,negI]at hc);try simp only[LS]at hc))
  all_goals (try ((fail_if_success (with_reducible refine nl ?_));(try dsimp only[Dat,SDat,dflt,Ty.size,keepS,bkUpd,Gv.bk,backS,wayA,maxI,minI,negI]);(try simp only[LS]);first|done|exact dsc|((try simp only[allP,lo,hi,room,true_and,and_true,implies_true]);(repeat' (first|refine an ?_ ?_|((with_reducible refine preA_t ?_ ?_);rotate_left;exact sameP_t)|intro hv))<;>(try omega))))
  · rw [if_neg (by rw [hc]; exact Bool.false_ne_true)]
  · rw [if_neg (by rw [hc]; exact Bool.false_ne_true)]
  · rw [if_neg (by rw [hc]; exact Bool.false_ne_true)]
  · exact hpre _
  · rw [if_pos (eq_true_of_ne_false hc)]
  · rw [if_pos (eq_true_of_ne_false hc)]
  · rw [if_pos (eq_true_of_ne_false hc)]
theorem ok_snap_Snap_Read : SpecOK SP glob fi_snap_Snap_Read S_snap_Snap_Read := mk_ok (c := c_snap_Snap_Read) (tab_ok _) mix_ok wf_snap_Snap_Read (by decide) (.cons ok_slices_Clone_sl_api_Event_api_Event .nil) (fun x hx => Nat.zero_lt_one) g_snap_Snap_Read
def badL (l : List EvD) : Bool := l.any fun e => decide (¬ e.1 = 7)
@[reducible] noncomputable def S_snap_Snap_Write : Spec := { ins := (.cons (.box (.cons (.d tInt) (.cons (.map tInt (.sl tEv)) (.cons (.d tInt) (.cons (.map tInt tInt) .nil))))) (.cons (.d (.sl tEv)) .nil)), pre := (fun x => (fun s l => (∀ e ∈ l, okE e) ∧ (badL l = false → okM ((@mget (Dat tInt) (Dat (.sl tEv)) (instDecidableEqDat tInt) s.2.1 s.1).getD [] ++ l)) ∧ 0 ≤ s.1 ∧ s.1 ≤ 1000000 ∧ List.length s.2.1 ≤ 100) x.1 x.2.1), alts := [{ outs := (.cons (.d tInt) (.cons (.d tInt) .nil)), res := (fun x => (fun s l => (if badL l = true then 0 else s.1 + 1, if badL l = true then 1 else 0, ())) x.1 x.2.1), upd := (fun x => (fun s l => ((if badL l = true then s.1 else s.1 + 1, if badL l = true then s.2.1 else @mput (Dat tInt) (Dat (.sl tEv)) (instDecidableEqDat tInt) s.2.1 (s.1 + 1) ((@mget (Dat tInt) (Dat (.sl tEv)) (instDecidableEqDat tInt) s.2.1 s.1).getD [] ++ l), s.2.2.1, s.2.2.2.1, ()), l, ())) x.1 x.2.1) }], noisy := true }
noncomputable def c_snap_Snap_Write : Cf := { cf_snap_Snap_Write (Fl [(fi_slices_ContainsFunc_sl_api_Event_api_Event, S_con_wr_1), (fi_ledger_Merge, S_ledger_Merge)]) with nz := true }
theorem g_snap_Snap_Write : ∀ x, S_snap_Snap_Write.pre x → shOK S_snap_Snap_Write.ins x → fnGoal c_snap_Snap_Write fn_snap_Snap_Write S_snap_Snap_Write x := by
  rintro ⟨⟨n, vs, o, om, ⟨⟩⟩, l, ⟨⟩⟩ hpre hok
  try dsimp only [Dat,SDat,dflt,Ty.size,keepS,bkUpd,Gv.bk,backS,wayA,maxI,minI,negI] at hpre
  have hln := shLn_of _ hok; replace hok := Hd.mk hok; try simp only [shLn, datLn, inRng, lo, hi, maxLen, true_and, and_true] at hln
  have h1 : (0 : Int) ≤ n := hpre.2.2.1
  have h2 : n ≤ (1000000 : Int) := hpre.2.2.2.1
  have h3 : List.length vs ≤ 100 := hpre.2.2.2.2
  have hbd : badL l = l.any fun e => decide (¬ e.1 = 7) := rfl
  first | refine fn_goal (w_head ?_)
  intro Kz kz;(conv=>whnf);(try dsimp +instances only);refine kz _ ?_;clear kz Kz;(conv=>(arg 2;whnf))
  repeat' (first|(with_reducible first|refine an ?_ ?_|((try refine gm ?_);refine st ?_))|((try (with_reducible refine gm ?_));first|((with_reducible show Kz _);(try dsimp +instances only);(with_reducible refine kz _ ?_);clear kz Kz)|((with_reducible refine sr ?_);intro Kz kz;conv=>whnf)|((with_reducible refine cd ?_);(conv=>arg 2;whnf);(with_reducible refine st ?_))|refine blockK_y (by rfl) ?_|refine blockR_y (by rfl) ?_|((with_reducible refine sw ?_);conv=>whnf))|((with_reducible refine gm ?_);conv=>whnf)|(intro hc;(try dsimp +instances only[Dat,SDat,dflt,Ty.size,keepS,bkUpd,Gv.bk,backS,wayA,maxI,minI,negI]at hc);try simp only[LS]at hc))
  all_goals (try ((fail_if_success (with_reducible refine nl ?_));(try dsimp only[Dat,SDat,dflt,Ty.size,keepS,bkUpd,Gv.bk,backS,wayA,maxI,minI,negI]);(try simp only[LS]);first|done|exact dsc|((try simp only[allP,lo,hi,room,true_and,and_true,implies_true]);(repeat' (first|refine an ?_ ?_|((with_reducible refine preA_t ?_ ?_);rotate_left;exact sameP_t)|intro hv))<;>(try omega))))
  · exact hpre.1 _ hc
  · rw [if_pos (hbd.trans hc)]
  · rw [if_pos (hbd.trans hc)]
  · rw [if_pos (hbd.trans hc)]
  · rw [if_pos (hbd.trans hc)]
  · exact hpre.2.1 (hbd.trans hc)
  iterate 4
    · rename_i hq
      have h9 := okM_len (hpre.2.1 (hbd.trans hq))
      rw [List.length_append] at h9
      omega
  iterate 4
    · rename_i hq
      rw [if_neg (by rw [hbd.trans hq]; exact Bool.false_ne_true)]
theorem ok_snap_Snap_Write : SpecOK SP glob fi_snap_Snap_Write S_snap_Snap_Write := mk_ok (c := c_snap_Snap_Write) (tab_ok _) mix_ok wf_snap_Snap_Write (by decide) (.cons ok_con_wr_1 (.cons ok_ledger_Merge .nil)) (fun x hx => Nat.zero_lt_one) g_snap_Snap_Write
abbrev VsD : Type := List (Int × List EvD)
abbrev OmD : Type := List (Int × Int)
def needB (n : Int) (om : OmD) (v : Int) : Bool := decide (v = n) || om.any fun e => decide (e.2 = v)
def keepV (n : Int) (vs : VsD) (om : OmD) : VsD := vs.filter fun e => needB n om e.1
theorem mem_er {α : Type} {d : α} : ∀ {l : List α} {i : Nat} {e : α}, e ∈ l → e ∈ l.eraseIdx i ∨ e = l.getD i d
  | a :: l, 0, e, h => by
    rcases List.mem_cons.1 h with h | h
    · exact .inr h
    · exact .inl h
  | a :: l, i + 1, e, h => by
    rcases List.mem_cons.1 h with h | h
    · exact .inl (by rw [List.eraseIdx_cons_succ, h]; exact List.mem_cons_self)
    · rcases mem_er (i := i) (d := d) h with h | h
      · exact .inl (by rw [List.eraseIdx_cons_succ]; exact List.mem_cons_of_mem _ h)
      · exact .inr h
theorem mput_len1 {α β : Type} [DecidableEq α] (x : α) (y : β) : ∀ m : List (α × β), (mput m x y).length ≤ m.length + 1
  | [] => by simp [mput]
  | (k, v) :: m => by
    have := mput_len1 x y m
    unfold mput
    split <;> simp <;> omega
theorem mget1 {α β : Type} [DecidableEq α] (k x : α) (v : β) : mget [(k, v)] x = if k = x then some v else none := by simp only [mget]
theorem need_n (n : Int) (om : OmD) : needB n om n = true := by simp [needB]
theorem need_mem {n : Int} {om : OmD} {e : Int × Int} (h : e ∈ om) : needB n om e.2 = true := by
  unfold needB
  rw [Bool.or_eq_true]
  exact .inr (List.any_eq_true.2 ⟨e, h, by simp⟩)
theorem mdel_fil {α β : Type} [DecidableEq α] {y : α} : ∀ {m : List (α × β)}, (m.map Prod.fst).Nodup → mdel m y = m.filter fun e => !decide (e.1 = y)
  | [], _ => rfl
  | (k, v) :: m, h => by
    obtain ⟨h1, h2⟩ := List.nodup_cons.1 h
    unfold mdel
    split
    · rename_i hk
      rw [List.filter_cons_of_neg (by simp [hk])]
      refine (List.filter_eq_self.2 fun e he => ?_).symm
      have : ¬ e.1 = y := fun hy => h1 (by show k ∈ _; rw [hk, ← hy]; exact List.mem_map_of_mem he)
      simp [this]
    · rename_i hk
      rw [List.filter_cons_of_pos (by simp [hk]), mdel_fil h2]
def leftV (n : Int) (om : OmD) (vs left : VsD) : VsD := vs.filter fun e => needB n om e.1 || decide (e.1 ∈ left.map Prod.fst)
theorem leftV_nd {n : Int} {om : OmD} {vs left : VsD} (h : (vs.map Prod.fst).Nodup) : ((leftV n om vs left).map Prod.fst).Nodup := by
  unfold leftV
  exact h.sublist (List.filter_sublist.map _)
theorem leftV_all (n : Int) (om : OmD) (vs : VsD) : leftV n om vs vs = vs := by
  unfold leftV
  refine List.filter_eq_self.2 fun e he => ?_
  rw [Bool.or_eq_true]
  exact .inr (decide_eq_true (List.mem_map_of_mem he))
theorem leftV_nil (n : Int) (om : OmD) (vs : VsD) : leftV n om vs [] = keepV n vs om := by
  unfold leftV keepV
  congr 1
  funext e
  simp
theorem leftV_keep {n : Int} {om : OmD} {vs left : VsD} {i : Nat} {d : Int × List EvD} (h : needB n om (left.getD i d).1 = true) : leftV n om vs (left.eraseIdx i) = leftV n om vs left := by
  unfold leftV
  congr 1
  funext e
  rw [Bool.eq_iff_iff, Bool.or_eq_true, Bool.or_eq_true, decide_eq_true_eq, decide_eq_true_eq]
  constructor
  · rintro (h1 | h1)
    · exact .inl h1
    · obtain ⟨x, hx, hx2⟩ := List.mem_map.1 h1
      exact .inr (List.mem_map.2 ⟨x, List.mem_of_mem_eraseIdx hx, hx2⟩)
  · rintro (h1 | h1)
    · exact .inl h1
    · obtain ⟨x, hx, hx2⟩ := List.mem_map.1 h1
      rcases mem_er (i := i) (d := d) hx with hx | hx
      · exact .inr (List.mem_map.2 ⟨x, hx, hx2⟩)
      · rw [← hx2, hx]; exact .inl h
theorem leftV_drop {n : Int} {om : OmD} {vs left : VsD} {i : Nat} {d : Int × List EvD} (hv : (vs.map Prod.fst).Nodup) (h : needB n om (left.getD i d).1 = false) : leftV n om vs ((left.eraseIdx i).filter fun e => !decide (e.1 = (left.getD i d).1)) = mdel (leftV n om vs left) (left.getD i d).1 := by
  rw [mdel_fil (leftV_nd hv)]
  unfold leftV
  rw [List.filter_filter]
  congr 1
  funext e
  by_cases he : e.1 = (left.getD i d).1
  · rw [he, h]
    simp
  · rw [Bool.eq_iff_iff]
    simp only [Bool.or_eq_true, Bool.and_eq_true, decide_eq_true_eq, he, decide_false, Bool.not_false, true_and]
    constructor
    · rintro (h1 | h1)
      · exact .inl h1
      · obtain ⟨x, hx, hx2⟩ := List.mem_map.1 h1
        exact .inr (List.mem_map.2 ⟨x, List.mem_of_mem_eraseIdx (List.mem_filter.1 hx).1, hx2⟩)
    · rintro (h1 | h1)
      · exact .inl h1
      · obtain ⟨x, hx, hx2⟩ := List.mem_map.1 h1
        rcases mem_er (i := i) (d := d) hx with hx | hx
        · exact .inr (List.mem_map.2 ⟨x, List.mem_filter.2 ⟨hx, by rw [hx2, decide_eq_false he]; rfl⟩, hx2⟩)
        · exact (he (by rw [← hx2, hx])).elim
@[reducible] noncomputable def S_snap_Snap_Collect : Spec := { ins := (.cons (.box (.cons (.d tInt) (.cons (.map tInt (.sl tEv)) (.cons (.d tInt) (.cons (.map tInt tInt) .nil))))) .nil), pre := (fun x => (fun s => (s.2.1.map Prod.fst).Nodup ∧ List.length s.2.1 ≤ 100 ∧ List.length s.2.2.2.1 ≤ 100) x.1), alts := [{ outs := (.cons (.d tInt) .nil), res := (fun x => (fun s => (((keepV s.1 s.2.1 s.2.2.2.1).length : Int), ())) x.1), upd := (fun x => (fun s => ((s.1, keepV s.1 s.2.1 s.2.2.2.1, s.2.2.1, s.2.2.2.1, ()), ())) x.1) }] }
noncomputable def c_snap_Snap_Collect : Cf := { cf_snap_Snap_Collect (Fl []) with live := [19, 30] }
theorem g_snap_Snap_Collect : ∀ x, S_snap_Snap_Collect.pre x → shOK S_snap_Snap_Collect.ins x → fnGoal c_snap_Snap_Collect fn_snap_Snap_Collect S_snap_Snap_Collect x := by
  rintro ⟨⟨n, vs, o, om, ⟨⟩⟩, ⟨⟩⟩ hpre hok
  try dsimp only [Dat,SDat,dflt,Ty.size,keepS,bkUpd,Gv.bk,backS,wayA,maxI,minI,negI] at hpre
  have hln := shLn_of _ hok; replace hok := Hd.mk hok; try simp only [shLn, datLn, inRng, lo, hi, maxLen, true_and, and_true] at hln
  have hnd : (vs.map Prod.fst).Nodup := hpre.1
  have h1 : List.length vs ≤ 100 := hpre.2.1
  have h2 : List.length om ≤ 100 := hpre.2.2
  first | refine fn_goal (w_head ?_)
  intro Kz kz;(conv=>whnf);(try dsimp +instances only);refine kz _ ?_;clear kz Kz;(conv=>(arg 2;whnf))
  repeat' (first|(with_reducible first|refine an ?_ ?_|((try refine gm ?_);refine st ?_))|((try (with_reducible refine gm ?_));first|((with_reducible show Kz _);(try dsimp +instances only);(with_reducible refine kz _ ?_);clear kz Kz)|((with_reducible refine sr ?_);intro Kz kz;conv=>whnf)|((with_reducible refine cd ?_);(conv=>arg 2;whnf);(with_reducible refine st ?_))|refine blockK_y (by rfl) ?_|refine blockR_y (by rfl) ?_|((with_reducible refine sw ?_);conv=>whnf))|((with_reducible refine gm ?_);conv=>whnf)|(intro hc;(try dsimp +instances only[Dat,SDat,dflt,Ty.size,keepS,bkUpd,Gv.bk,backS,wayA,maxI,minI,negI]at hc);try simp only[LS]at hc))
  all_goals (try ((fail_if_success (with_reducible refine nl ?_));(try dsimp only[Dat,SDat,dflt,Ty.size,keepS,bkUpd,Gv.bk,backS,wayA,maxI,minI,negI]);(try simp only[LS]);first|done|exact dsc|((try simp only[allP,lo,hi,room,true_and,and_true,implies_true]);(repeat' (first|refine an ?_ ?_|((with_reducible refine preA_t ?_ ?_);rotate_left;exact sameP_t)|intro hv))<;>(try omega))))
  rename_i r
  refine w_loop [(3, .map tInt .bool)] [(0, .cons (.d tInt) (.cons (.map tInt (.sl tEv)) (.cons (.d tInt) (.cons (.ob (.wk tInt tInt)) .nil))))] (fun y => y.2.1.1 = n ∧ y.2.1.2.1 = vs ∧ y.2.1.2.2.1 = o ∧ y.2.1.2.2.2.1.1 = om ∧ y.2.1.2.2.2.1.2.2.2.2 = r ∧ (∀ e ∈ y.2.1.2.2.2.1.2.1, e ∈ om) ∧ (∀ e ∈ om, e ∈ y.2.1.2.2.2.1.2.1 ∨ @mget (Dat tInt) (Dat .bool) (instDecidableEqDat tInt) y.1.1 e.2 = some true) ∧ (∀ v, @mget (Dat tInt) (Dat .bool) (instDecidableEqDat tInt) y.1.1 v = none ∨ @mget (Dat tInt) (Dat .bool) (instDecidableEqDat tInt) y.1.1 v = some true ∧ needB n om v = true) ∧ @mget (Dat tInt) (Dat .bool) (instDecidableEqDat tInt) y.1.1 n = some true ∧ List.length y.1.1 + List.length y.2.1.2.2.2.1.2.1 ≤ 101) (fun y => List.length y.2.1.2.2.2.1.2.1) ?_
  conv => whnf
  refine And.intro ?_ ?_
  · refine ⟨rfl, rfl, rfl, rfl, rfl, fun e he => he, fun e he => .inl he, fun v => ?_, ?_, ?_⟩
    · show @mget Int Bool (instDecidableEqDat tInt) [(n, true)] v = none ∨ @mget Int Bool (instDecidableEqDat tInt) [(n, true)] v = some true ∧ needB n om v = true
      rw [mget1]
      split
      · rename_i h
        exact .inr ⟨rfl, by rw [← h]; exact need_n _ _⟩
      · exact .inl rfl
    · show @mget Int Bool (instDecidableEqDat tInt) [(n, true)] n = some true
      rw [mget1, if_pos rfl]
    · show (1 : Nat) + List.length om ≤ 101
      omega
  rintro ⟨⟨nd, ⟨⟩⟩, ⟨n', vs', o', ⟨om', left, cu, q, r'⟩, ⟨⟩⟩, ⟨⟩⟩ ⟨e1, e2, e3, e4, e5, hsub, hdone, hnd1, hndn, hlen⟩
  dsimp only [SDat, Dat] at e1 e2 e3 e4 e5 hsub hdone hnd1 hndn hlen
  subst e1 e2 e3 e4 e5
  repeat' (first|(with_reducible first|refine an ?_ ?_|((try refine gm ?_);refine st ?_))|((try (with_reducible refine gm ?_));first|((with_reducible show Kz _);(try dsimp +instances only);(with_reducible refine kz _ ?_);clear kz Kz)|((with_reducible refine sr ?_);intro Kz kz;conv=>whnf)|((with_reducible refine cd ?_);(conv=>arg 2;whnf);(with_reducible refine st ?_))|refine blockK_y (by rfl) ?_|refine blockR_y (by rfl) ?_|((with_reducible refine sw ?_);conv=>whnf))|((with_reducible refine gm ?_);conv=>whnf)|(intro hc;(try dsimp +instances only[Dat,SDat,dflt,Ty.size,keepS,bkUpd,Gv.bk,backS,wayA,maxI,minI,negI]at hc);try simp only[LS]at hc))
  all_goals (try ((fail_if_success (with_reducible refine nl ?_));(try dsimp only[Dat,SDat,dflt,Ty.size,keepS,bkUpd,Gv.bk,backS,wayA,maxI,minI,negI]);(try simp only[LS]);first|done|exact dsc|((try simp only[allP,lo,hi,room,true_and,and_true,implies_true]);(repeat' (first|refine an ?_ ?_|((with_reducible refine preA_t ?_ ?_);rotate_left;exact sameP_t)|intro hv))<;>(try omega))))
  · contradiction
  · exact hsub _ (List.mem_of_mem_eraseIdx hc)
  · rename_i i hi hne u t e
    rcases hdone e hc with h | h
    · rcases mem_er (d := ((0, 0) : Int × Int)) (i := i) h with h | h
      · exact .inl h
      · right; rw [← h, mget_mput, if_pos rfl]
    · right; rw [mget_mput]; split
      · rfl
      · exact h
  · rename_i i hi hne u t
    rw [mget_mput]
    split
    · rename_i h
      refine .inr ⟨rfl, ?_⟩
      rw [← h]
      exact need_mem (hsub _ (getD_mem (hi hne)))
    · exact hnd1 hc
  · rw [mget_mput]; split
    · rfl
    · exact hndn
  · rename_i i hi hne u
    have h1 := @mput_len1 Int Bool (instDecidableEqDat tInt) (List.getD left i ((0, 0) : Int × Int)).2 true nd
    have h2 := List.length_eraseIdx_of_lt (hi hne)
    have h3 := hi hne
    omega
  · rename_i i hi hne u
    have h2 := List.length_eraseIdx_of_lt (hi hne)
    have h3 := hi hne
    omega
  rename_i i0 hi0 hl0 r2
  subst hl0
  have hneed : ∀ v, (@mget (Dat tInt) (Dat .bool) (instDecidableEqDat tInt) nd v).getD false = needB n' om' v := fun v => by
    rcases hnd1 v with h | ⟨h, h2⟩
    · rw [h]
      refine (Bool.eq_false_iff.2 fun hn => ?_).symm
      unfold needB at hn
      rw [Bool.or_eq_true, decide_eq_true_eq, List.any_eq_true] at hn
      rcases hn with hn | ⟨e, he, he2⟩
      · rw [hn, hndn] at h; cases h
      · rcases hdone e he with h5 | h5
        · cases h5
        · rw [← of_decide_eq_true he2, h5] at h; cases h
    · rw [h, h2]; rfl
  refine w_loop [(3, .map tInt .bool)] [(0, .cons (.d tInt) (.cons (.ob (.wk tInt (.sl tEv))) (.cons (.d tInt) (.cons (.map tInt tInt) .nil))))] (fun y => y.1.1 = nd ∧ y.2.1.1 = n' ∧ y.2.1.2.2.1 = o' ∧ y.2.1.2.2.2.1 = om' ∧ y.2.1.2.1.2.2.2.2 = r2 ∧ y.2.1.2.1.1 = leftV n' om' vs' y.2.1.2.1.2.1 ∧ List.length y.2.1.2.1.2.1 ≤ 100) (fun y => List.length y.2.1.2.1.2.1) ?_
  conv => whnf
  refine And.intro ?_ ?_
  · exact ⟨rfl, rfl, rfl, rfl, rfl, (leftV_all _ _ _).symm, h1⟩
  rintro ⟨⟨nd2, ⟨⟩⟩, ⟨n2', ⟨vs2, left, cu, q, r3⟩, o2, om2, ⟨⟩⟩, ⟨⟩⟩ ⟨e1, e2, e3, e4, e5, e6, e7⟩
  dsimp only [SDat, Dat] at e1 e2 e3 e4 e5 e6 e7
  subst e1 e2 e3 e4 e5 e6
  repeat' (first|(with_reducible first|refine an ?_ ?_|((try refine gm ?_);refine st ?_))|((try (with_reducible refine gm ?_));first|((with_reducible show Kz _);(try dsimp +instances only);(with_reducible refine kz _ ?_);clear kz Kz)|((with_reducible refine sr ?_);intro Kz kz;conv=>whnf)|((with_reducible refine cd ?_);(conv=>arg 2;whnf);(with_reducible refine st ?_))|refine blockK_y (by rfl) ?_|refine blockR_y (by rfl) ?_|((with_reducible refine sw ?_);conv=>whnf))|((with_reducible refine gm ?_);conv=>whnf)|(intro hc;(try dsimp +instances only[Dat,SDat,dflt,Ty.size,keepS,bkUpd,Gv.bk,backS,wayA,maxI,minI,negI]at hc);try simp only[LS]at hc))
  all_goals (try ((fail_if_success (with_reducible refine nl ?_));(try dsimp only[Dat,SDat,dflt,Ty.size,keepS,bkUpd,Gv.bk,backS,wayA,maxI,minI,negI]);(try simp only[LS]);first|done|exact dsc|((try simp only[allP,lo,hi,room,true_and,and_true,implies_true]);(repeat' (first|refine an ?_ ?_|((with_reducible refine preA_t ?_ ?_);rotate_left;exact sameP_t)|intro hv))<;>(try omega))))
  · contradiction
  · exact leftV_nd hnd
  · rename_i i hi hne u t hnb _
    exact (leftV_drop hnd ((hneed _).symm.trans hnb)).symm
  · rename_i i hi hne u t hnb _
    refine Nat.le_trans (List.length_filter_le _ _) ?_
    rw [List.length_eraseIdx_of_lt (hi hne)]; omega
  · rename_i i hi hne u t hnb _
    refine Nat.lt_of_le_of_lt (List.length_filter_le _ _) ?_
    rw [List.length_eraseIdx_of_lt (hi hne)]; have := hi hne; omega
  · exact (leftV_keep ((hneed _).symm.trans (eq_true_of_ne_false hc))).symm
  · rename_i i hi hne u t
    rw [List.length_eraseIdx_of_lt (hi hne)]; omega
  · rename_i i hi hne u t
    rw [List.length_eraseIdx_of_lt (hi hne)]; have := hi hne; omega
  · unfold leftV maxLen
    exact Nat.le_trans (List.length_filter_le _ _) (by omega)
  · rw [hc, leftV_nil]
  · rw [hc, leftV_nil]
theorem ok_snap_Snap_Collect : SpecOK SP glob fi_snap_Snap_Collect S_snap_Snap_Collect := mk_ok (c := c_snap_Snap_Collect) (tab_ok _) mix_ok wf_snap_Snap_Collect (by decide) .nil (fun x hx => Nat.zero_lt_one) g_snap_Snap_Collect
end Go.Gv
