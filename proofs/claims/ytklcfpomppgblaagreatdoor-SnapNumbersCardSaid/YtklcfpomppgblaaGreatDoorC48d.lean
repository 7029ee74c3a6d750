/- Chapter 48: merging lists of erasures. -/
import Derived.Test.YtklcfpomppgblaaGreatDoorC48c
set_option linter.all false
namespace Go.Gv
open Go Go.Proofs Go.Proofs.YtklcfpomppgblaaGreatDoor
set_option maxRecDepth 100000
set_option maxHeartbeats 4000000
theorem flat_take_le {α : Type} (l : List (List α)) (k : Nat) : (List.flatten (l.take k)).length ≤ (List.flatten l).length := by
  conv => rhs; rw [← List.take_append_drop k l, List.flatten_append, List.length_append]
  omega
theorem flat_step {α : Type} {l : List (List α)} {k : Nat} (h : k < l.length) : List.flatten (l.take (k + 1)) = List.flatten (l.take k) ++ l.getD k [] := by
  rw [List.take_succ_eq_append_getElem h, List.flatten_append, getD_ok _ h]; simp
@[reducible] noncomputable def S_slices_Grow_sl_api_Event_api_Event : Spec := { ins := (.cons (.nils) (.cons (.d tInt) .nil)), pre := (fun x => (fun s n => 0 ≤ n ∧ n ≤ 1000000000) x.1 x.2.1), alts := [{ outs := (.cons (.row tEv) .nil), res := (fun x => (fun s n => ([], ())) x.1 x.2.1) }] }
noncomputable def c_slices_Grow_sl_api_Event_api_Event : Cf := { cf_slices_Grow_sl_api_Event_api_Event (Fl []) with E := { (cf_slices_Grow_sl_api_Event_api_Event (Fl [])).E with rows := [22] } }
theorem g_slices_Grow_sl_api_Event_api_Event : ∀ x, S_slices_Grow_sl_api_Event_api_Event.pre x → shOK S_slices_Grow_sl_api_Event_api_Event.ins x → fnGoal c_slices_Grow_sl_api_Event_api_Event fn_slices_Grow_sl_api_Event_api_Event S_slices_Grow_sl_api_Event_api_Event x := by
  rintro ⟨s, n, ⟨⟩⟩ hpre hok
  try dsimp only [Dat,SDat,dflt,Ty.size,keepS,bkUpd,Gv.bk,backS,wayA,maxI,minI,negI] at hpre
  have hln := shLn_of _ hok; replace hok := Hd.mk hok; try simp only [shLn, datLn, inRng, lo, hi, maxLen, true_and, and_true] at hln
  have h0 : 0 ≤ n := hpre.1
  have h1 : n ≤ 1000000000 := hpre.2
  first | refine fn_goal (w_head ?_)
  intro Kz kz;(conv=>whnf);(try dsimp +instances only);refine kz _ ?_;clear kz Kz;(conv=>(arg 2;whnf))
  repeat' (first|(with_reducible first|refine an ?_ ?_|((try refine gm ?_);refine st ?_))|((try (with_reducible refine gm ?_));first|((with_reducible show Kz _);(try dsimp +instances only);(with_reducible refine kz _ ?_);clear kz Kz)|((with_reducible refine sr ?_);intro Kz kz;conv=>whnf)|((with_reducible refine cd ?_);(conv=>arg 2;whnf);(with_reducible refine st ?_))|refine blockK_y (by rfl) ?_|refine blockR_y (by rfl) ?_|((with_reducible refine sw ?_);conv=>whnf))|((with_reducible refine gm ?_);conv=>whnf)|(intro hc;(try dsimp +instances only[Dat,SDat,dflt,Ty.size,keepS,bkUpd,Gv.bk,backS,wayA,maxI,minI,negI]at hc);try simp only[LS]at hc))
  all_goals (try ((fail_if_success (with_reducible refine nl ?_));(try dsimp only[Dat,SDat,dflt,Ty.size,keepS,bkUpd,Gv.bk,backS,wayA,maxI,minI,negI]);(try simp only[LS]);first|done|exact dsc|((try simp only[allP,lo,hi,room,true_and,and_true,implies_true]);(repeat' (first|refine an ?_ ?_|((with_reducible refine preA_t ?_ ?_);rotate_left;exact sameP_t)|intro hv))<;>(try omega))))
theorem ok_slices_Grow_sl_api_Event_api_Event : SpecOK SP glob fi_slices_Grow_sl_api_Event_api_Event S_slices_Grow_sl_api_Event_api_Event := mk_ok (c := c_slices_Grow_sl_api_Event_api_Event) (tab_ok _) mix_ok wf_slices_Grow_sl_api_Event_api_Event (by decide) .nil (fun x hx => Nat.zero_lt_one) g_slices_Grow_sl_api_Event_api_Event

@[reducible] noncomputable def S_slices_Concat_sl_api_Event_api_Event : Spec := { ins := (.cons (.d (.sl (.sl tEv))) .nil), pre := (fun x => (fun l => (List.flatten l).length ≤ 1000000000 ∧ l.length ≤ 1000) x.1), alts := [{ outs := (.cons (.d (.sl tEv)) .nil), res := (fun x => (fun l => (List.flatten l, ())) x.1) }] }
noncomputable def c_slices_Concat_sl_api_Event_api_Event : Cf := (cf_slices_Concat_sl_api_Event_api_Event (Fl [(fi_slices_Grow_sl_api_Event_api_Event, S_slices_Grow_sl_api_Event_api_Event)]))
theorem g_slices_Concat_sl_api_Event_api_Event : ∀ x, S_slices_Concat_sl_api_Event_api_Event.pre x → shOK S_slices_Concat_sl_api_Event_api_Event.ins x → fnGoal c_slices_Concat_sl_api_Event_api_Event fn_slices_Concat_sl_api_Event_api_Event S_slices_Concat_sl_api_Event_api_Event x := by
  rintro ⟨l, ⟨⟩⟩ hpre hok
  try dsimp only [Dat,SDat,dflt,Ty.size,keepS,bkUpd,Gv.bk,backS,wayA,maxI,minI,negI] at hpre
  have hln := shLn_of _ hok; replace hok := Hd.mk hok; try simp only [shLn, datLn, inRng, lo, hi, maxLen, true_and, and_true] at hln
  have hl0 : (List.flatten l).length ≤ 1000000000 := hpre.1
  have hl1 : l.length ≤ 1000 := hpre.2
  first | refine fn_goal (w_head ?_)
  intro Kz kz;(conv=>whnf);(try dsimp +instances only);refine kz _ ?_;clear kz Kz;(conv=>(arg 2;whnf))
  repeat' (first|(with_reducible first|refine an ?_ ?_|((try refine gm ?_);refine st ?_))|((try (with_reducible refine gm ?_));first|((with_reducible show Kz _);(try dsimp +instances only);(with_reducible refine kz _ ?_);clear kz Kz)|((with_reducible refine sr ?_);intro Kz kz;conv=>whnf)|((with_reducible refine cd ?_);(conv=>arg 2;whnf);(with_reducible refine st ?_))|refine blockK_y (by rfl) ?_|refine blockR_y (by rfl) ?_|((with_reducible refine sw ?_);conv=>whnf))|((with_reducible refine gm ?_);conv=>whnf)|(intro hc;(try dsimp +instances only[Dat,SDat,dflt,Ty.size,keepS,bkUpd,Gv.bk,backS,wayA,maxI,minI,negI]at hc);try simp only[LS]at hc))
  all_goals (try ((fail_if_success (with_reducible refine nl ?_));(try dsimp only[Dat,SDat,dflt,Ty.size,keepS,bkUpd,Gv.bk,backS,wayA,maxI,minI,negI]);(try simp only[LS]);first|done|exact dsc|((try simp only[allP,lo,hi,room,true_and,and_true,implies_true]);(repeat' (first|refine an ?_ ?_|((with_reducible refine preA_t ?_ ?_);rotate_left;exact sameP_t)|intro hv))<;>(try omega))))
  refine w_loop [(3, .d tInt), (11, .d tInt)] [] (fun y => ∃ k : Nat, y.1.2.1 = (k : Int) ∧ k ≤ l.length ∧ y.1.1 = ((List.flatten (l.take k)).length : Int)) (fun y => l.length - y.1.2.1.toNat) ?_
  conv => whnf
  refine And.intro ?_ ?_
  · exact ⟨0, by simp⟩
  rintro ⟨⟨_, _, ⟨⟩⟩, ⟨⟩⟩ ⟨k, rfl, hk, rfl⟩
  have hfl : (List.flatten (l.take k)).length ≤ 1000000000 := Nat.le_trans (flat_take_le l k) hl0
  have hfs : k < l.length → (List.flatten (l.take (k + 1))).length = (List.flatten (l.take k)).length + (List.getD l k []).length ∧ (List.flatten (l.take (k + 1))).length ≤ 1000000000 := fun h => ⟨by rw [flat_step h, List.length_append], Nat.le_trans (flat_take_le l (k + 1)) hl0⟩
  repeat' (first|(with_reducible first|refine an ?_ ?_|((try refine gm ?_);refine st ?_))|((try (with_reducible refine gm ?_));first|((with_reducible show Kz _);(try dsimp +instances only);(with_reducible refine kz _ ?_);clear kz Kz)|((with_reducible refine sr ?_);intro Kz kz;conv=>whnf)|((with_reducible refine cd ?_);(conv=>arg 2;whnf);(with_reducible refine st ?_))|refine blockK_y (by rfl) ?_|refine blockR_y (by rfl) ?_|((with_reducible refine sw ?_);conv=>whnf))|((with_reducible refine gm ?_);conv=>whnf)|(intro hc;(try dsimp +instances only[Dat,SDat,dflt,Ty.size,keepS,bkUpd,Gv.bk,backS,wayA,maxI,minI,negI]at hc);try simp only[LS]at hc))
  all_goals (try ((fail_if_success (with_reducible refine nl ?_));(try dsimp only[Dat,SDat,dflt,Ty.size,keepS,bkUpd,Gv.bk,backS,wayA,maxI,minI,negI]);(try simp only[LS]);first|done|exact dsc|((try simp only[allP,lo,hi,room,true_and,and_true,implies_true]);(repeat' (first|refine an ?_ ?_|((with_reducible refine preA_t ?_ ?_);rotate_left;exact sameP_t)|intro hv))<;>(try omega))))
  · exact ⟨k + 1, rfl, by omega, by have := hfs (by omega); omega⟩
  refine w_loop [(6, .row tEv), (27, .d tInt)] [] (fun y => ∃ i : Nat, y.1.2.1 = (i : Int) ∧ i ≤ l.length ∧ y.1.1 = List.flatten (l.take i)) (fun y => l.length - y.1.2.1.toNat) ?_
  conv => whnf
  refine And.intro ?_ ?_
  · exact ⟨0, by simp⟩
  rintro ⟨⟨ou, _, ⟨⟩⟩, ⟨⟩⟩ ⟨i, rfl, hi, hou⟩
  have hou : ou = List.flatten (l.take i) := hou
  subst hou
  have hgl : (List.flatten (l.take i)).length ≤ 1000000000 := Nat.le_trans (flat_take_le l i) hl0
  have hgs : i < l.length → (List.flatten (l.take (i + 1))).length = (List.flatten (l.take i)).length + (List.getD l i []).length ∧ (List.flatten (l.take (i + 1))).length ≤ 1000000000 := fun h => ⟨by rw [flat_step h, List.length_append], Nat.le_trans (flat_take_le l (i + 1)) hl0⟩
  repeat' (first|(with_reducible first|refine an ?_ ?_|((try refine gm ?_);refine st ?_))|((try (with_reducible refine gm ?_));first|((with_reducible show Kz _);(try dsimp +instances only);(with_reducible refine kz _ ?_);clear kz Kz)|((with_reducible refine sr ?_);intro Kz kz;conv=>whnf)|((with_reducible refine cd ?_);(conv=>arg 2;whnf);(with_reducible refine st ?_))|refine blockK_y (by rfl) ?_|refine blockR_y (by rfl) ?_|((with_reducible refine sw ?_);conv=>whnf))|((with_reducible refine gm ?_);conv=>whnf)|(intro hc;(try dsimp +instances only[Dat,SDat,dflt,Ty.size,keepS,bkUpd,Gv.bk,backS,wayA,maxI,minI,negI]at hc);try simp only[LS]at hc))
  all_goals (try ((fail_if_success (with_reducible refine nl ?_));(try dsimp only[Dat,SDat,dflt,Ty.size,keepS,bkUpd,Gv.bk,backS,wayA,maxI,minI,negI]);(try simp only[LS]);first|done|exact dsc|((try simp only[allP,lo,hi,room,true_and,and_true,implies_true]);(repeat' (first|refine an ?_ ?_|((with_reducible refine preA_t ?_ ?_);rotate_left;exact sameP_t)|intro hv))<;>(try omega))))
  · simp only [Gv.hi]; omega
  · exact ⟨i + 1, rfl, by omega, by rw [flat_step (by omega)]⟩
  · rw [List.take_of_length_le (by omega)]
theorem ok_slices_Concat_sl_api_Event_api_Event : SpecOK SP glob fi_slices_Concat_sl_api_Event_api_Event S_slices_Concat_sl_api_Event_api_Event := mk_ok (c := c_slices_Concat_sl_api_Event_api_Event) (tab_ok _) mix_ok wf_slices_Concat_sl_api_Event_api_Event (by decide) (.cons ok_slices_Grow_sl_api_Event_api_Event .nil) (fun x hx => Nat.zero_lt_one) g_slices_Concat_sl_api_Event_api_Event
def enE (e : EvD) : EnD := (e, textV e, ())
def okM (l : List EvD) : Prop := l = [ev1] ∨ l = [ev1, ev2]
theorem okM_len {l : List EvD} (h : okM l) : l.length ≤ 2 := by rcases h with h | h <;> rw [h] <;> decide
theorem okM_pre {l : List EvD} (h : okM l) : preN (l.map enE) := by
  rcases h with h | h <;> rw [h]
  · exact .inr (.inl rfl)
  · exact .inr (.inr (.inr rfl))
theorem okM_ev {l : List EvD} (h : okM l) {e : EvD} (he : e ∈ l) : okV e := by
  rcases h with h | h <;> rw [h] at he
  · exact .inl (List.mem_singleton.1 he)
  · rcases List.mem_cons.1 he with he | he
    · exact .inl he
    · exact .inr (List.mem_singleton.1 he)
theorem textV_ne (e : EvD) : textV e ≠ [] := by unfold textV; split <;> exact List.cons_ne_nil _ _
@[reducible] noncomputable def S_ledger_Merge : Spec := { ins := (.cons (.d (.sl tEv)) (.cons (.d (.sl tEv)) .nil)), pre := (fun x => (fun a b => okM (a ++ b)) x.1 x.2.1), alts := [{ outs := (.cons (.d (.sl tEv)) .nil), res := (fun x => (fun a b => (a ++ b, ())) x.1 x.2.1) }], noisy := true }
noncomputable def c_ledger_Merge : Cf := { cf_ledger_Merge (Fl [(fi_slices_Concat_sl_api_Event_api_Event, S_slices_Concat_sl_api_Event_api_Event), (fi_ledger_Text, S_ledger_Text), (fi_slices_SortFunc_sl_ledger_entry_ledger_entry, S_slices_SortFunc_sl_ledger_entry_ledger_entry), (fi_slices_CompactFunc_sl_ledger_entry_ledger_entry, S_slices_CompactFunc_sl_ledger_entry_ledger_entry)]) with nz := true }
theorem g_ledger_Merge : ∀ x, S_ledger_Merge.pre x → shOK S_ledger_Merge.ins x → fnGoal c_ledger_Merge fn_ledger_Merge S_ledger_Merge x := by
  rintro ⟨a, b, ⟨⟩⟩ hpre hok
  try dsimp only [Dat,SDat,dflt,Ty.size,keepS,bkUpd,Gv.bk,backS,wayA,maxI,minI,negI] at hpre
  have hln := shLn_of _ hok; replace hok := Hd.mk hok; try simp only [shLn, datLn, inRng, lo, hi, maxLen, true_and, and_true] at hln
  have hM : okM (List.flatten [a, b]) := by simpa using hpre
  have hl := okM_len hM
  have hlm : (List.map enE (List.flatten [a, b])).length ≤ 2 := by rw [List.length_map]; exact hl
  first | refine fn_goal (w_head ?_)
  intro Kz kz;(conv=>whnf);(try dsimp +instances only);refine kz _ ?_;clear kz Kz;(conv=>(arg 2;whnf))
  repeat' (first|(with_reducible first|refine an ?_ ?_|((try refine gm ?_);refine st ?_))|((try (with_reducible refine gm ?_));first|((with_reducible show Kz _);(try dsimp +instances only);(with_reducible refine kz _ ?_);clear kz Kz)|((with_reducible refine sr ?_);intro Kz kz;conv=>whnf)|((with_reducible refine cd ?_);(conv=>arg 2;whnf);(with_reducible refine st ?_))|refine blockK_y (by rfl) ?_|refine blockR_y (by rfl) ?_|((with_reducible refine sw ?_);conv=>whnf))|((with_reducible refine gm ?_);conv=>whnf)|(intro hc;(try dsimp +instances only[Dat,SDat,dflt,Ty.size,keepS,bkUpd,Gv.bk,backS,wayA,maxI,minI,negI]at hc);try simp only[LS]at hc))
  all_goals (try ((fail_if_success (with_reducible refine nl ?_));(try dsimp only[Dat,SDat,dflt,Ty.size,keepS,bkUpd,Gv.bk,backS,wayA,maxI,minI,negI]);(try simp only[LS]);first|done|exact dsc|((try simp only[allP,lo,hi,room,true_and,and_true,implies_true]);(repeat' (first|refine an ?_ ?_|((with_reducible refine preA_t ?_ ?_);rotate_left;exact sameP_t)|intro hv))<;>(try omega))))
  refine w_loop [(5, .row tEn), (17, .d tInt)] [] (fun y => ∃ k : Nat, y.1.2.1 = (k : Int) ∧ k ≤ (List.flatten [a, b]).length ∧ y.1.1 = ((List.flatten [a, b]).take k).map enE) (fun y => (List.flatten [a, b]).length - y.1.2.1.toNat) ?_
  conv => whnf
  refine And.intro ?_ ?_
  · exact ⟨0, by simp⟩
  rintro ⟨⟨r, _, ⟨⟩⟩, ⟨⟩⟩ ⟨k, rfl, hk, hj⟩
  dsimp only [SDat, Dat] at hj
  subst hj
  have hst : k < (List.flatten [a, b]).length → ((List.flatten [a, b]).take (k + 1)).map enE = ((List.flatten [a, b]).take k).map enE ++ [enE (List.getD (List.flatten [a, b]) k ev0)] := fun h => by rw [List.take_succ_eq_append_getElem h, List.map_append, getD_ok _ h]; rfl
  have hev : k < (List.flatten [a, b]).length → okV (List.getD (List.flatten [a, b]) k ev0) := fun h => okM_ev hM (getD_mem h)
  have hlt : (List.take k (List.flatten [a, b])).length ≤ 2 := by rw [List.length_take]; omega
  repeat' (first|(with_reducible first|refine an ?_ ?_|((try refine gm ?_);refine st ?_))|((try (with_reducible refine gm ?_));first|((with_reducible show Kz _);(try dsimp +instances only);(with_reducible refine kz _ ?_);clear kz Kz)|((with_reducible refine sr ?_);intro Kz kz;conv=>whnf)|((with_reducible refine cd ?_);(conv=>arg 2;whnf);(with_reducible refine st ?_))|refine blockK_y (by rfl) ?_|refine blockR_y (by rfl) ?_|((with_reducible refine sw ?_);conv=>whnf))|((with_reducible refine gm ?_);conv=>whnf)|(intro hc;(try dsimp +instances only[Dat,SDat,dflt,Ty.size,keepS,bkUpd,Gv.bk,backS,wayA,maxI,minI,negI]at hc);try simp only[LS]at hc))
  all_goals (try ((fail_if_success (with_reducible refine nl ?_));(try dsimp only[Dat,SDat,dflt,Ty.size,keepS,bkUpd,Gv.bk,backS,wayA,maxI,minI,negI]);(try simp only[LS]);first|done|exact dsc|((try simp only[allP,lo,hi,room,true_and,and_true,implies_true]);(repeat' (first|refine an ?_ ?_|((with_reducible refine preA_t ?_ ?_);rotate_left;exact sameP_t)|intro hv))<;>(try omega))))
  · exact hev (by omega)
  · exact ⟨k + 1, by omega, by omega, (hst (by omega)).symm⟩
  · exact (textV_ne _ hc).elim
  · rw [List.take_of_length_le (by omega)]; exact okM_pre hM
  · rw [List.take_of_length_le (by omega)]; exact okM_pre hM
  have hfull : List.take k (List.flatten [a, b]) = List.flatten [a, b] := List.take_of_length_le (by omega)
  have hlk : (List.map enE (List.take k (List.flatten [a, b]))).length = (List.flatten [a, b]).length := by rw [hfull, List.length_map]
  refine w_loop [(9, .row tEv), (38, .d tInt)] [] (fun y => ∃ i : Nat, y.1.2.1 = (i : Int) ∧ i ≤ (List.flatten [a, b]).length ∧ y.1.1 = (List.flatten [a, b]).take i) (fun y => (List.flatten [a, b]).length - y.1.2.1.toNat) ?_
  conv => whnf
  refine And.intro ?_ ?_
  · exact ⟨0, by simp⟩
  rintro ⟨⟨r, _, ⟨⟩⟩, ⟨⟩⟩ ⟨i, rfl, hi, hj⟩
  dsimp only [SDat, Dat] at hj
  subst hj
  have hs2 : i < (List.flatten [a, b]).length → ((List.flatten [a, b]).take (i + 1)) = ((List.flatten [a, b]).take i) ++ [(List.getD (List.map enE (List.take k (List.flatten [a, b]))) i (ev0, [], ())).1] := fun h => by
    rw [hfull, getD_ok _ (by rw [List.length_map]; exact h), List.getElem_map, List.take_succ_eq_append_getElem h]; rfl
  have hlt : (List.take i (List.flatten [a, b])).length ≤ 2 := by rw [List.length_take]; omega
  have hlf : (List.take k (List.flatten [a, b])).length = (List.flatten [a, b]).length := by rw [hfull]
  repeat' (first|(with_reducible first|refine an ?_ ?_|((try refine gm ?_);refine st ?_))|((try (with_reducible refine gm ?_));first|((with_reducible show Kz _);(try dsimp +instances only);(with_reducible refine kz _ ?_);clear kz Kz)|((with_reducible refine sr ?_);intro Kz kz;conv=>whnf)|((with_reducible refine cd ?_);(conv=>arg 2;whnf);(with_reducible refine st ?_))|refine blockK_y (by rfl) ?_|refine blockR_y (by rfl) ?_|((with_reducible refine sw ?_);conv=>whnf))|((with_reducible refine gm ?_);conv=>whnf)|(intro hc;(try dsimp +instances only[Dat,SDat,dflt,Ty.size,keepS,bkUpd,Gv.bk,backS,wayA,maxI,minI,negI]at hc);try simp only[LS]at hc))
  all_goals (try ((fail_if_success (with_reducible refine nl ?_));(try dsimp only[Dat,SDat,dflt,Ty.size,keepS,bkUpd,Gv.bk,backS,wayA,maxI,minI,negI]);(try simp only[LS]);first|done|exact dsc|((try simp only[allP,lo,hi,room,true_and,and_true,implies_true]);(repeat' (first|refine an ?_ ?_|((with_reducible refine preA_t ?_ ?_);rotate_left;exact sameP_t)|intro hv))<;>(try omega))))
  · simp only [Gv.hi]; omega
  · exact ⟨i + 1, by omega, by omega, (hs2 (by omega)).symm⟩
  · rw [List.take_of_length_le (by omega)]; simp
theorem ok_ledger_Merge : SpecOK SP glob fi_ledger_Merge S_ledger_Merge := mk_ok (c := c_ledger_Merge) (tab_ok _) mix_ok wf_ledger_Merge (by decide) (.cons ok_slices_Concat_sl_api_Event_api_Event (.cons ok_ledger_Text (.cons ok_slices_SortFunc_sl_ledger_entry_ledger_entry (.cons ok_slices_CompactFunc_sl_ledger_entry_ledger_entry .nil)))) (fun x hx => Nat.zero_lt_one) g_ledger_Merge
@[reducible] noncomputable def S_slices_Clone_sl_api_Event_api_Event : Spec := { ins := .cons (.d (.sl tEv)) .nil, pre := fun x => List.length x.1 ≤ 1000000, alts := [{ outs := .cons (.spare tEv) .nil, res := fun x => (x.1, ()) }] }
set_option maxRecDepth 100000 in
theorem ok_slices_Clone_sl_api_Event_api_Event : SpecOK SP glob fi_slices_Clone_sl_api_Event_api_Event S_slices_Clone_sl_api_Event_api_Event := by
  refine nil_ok (c := cf_slices_Clone_sl_api_Event_api_Event (Fl [])) (t := tEv) (tab_ok _) mix_ok wf_slices_Clone_sl_api_Event_api_Event .nil (fun _ _ => Nat.zero_lt_one) rfl (by decide) ?_
  rintro ⟨xs, ⟨⟩⟩ ys h hpre hok X hX
  have h' : (xs, PUnit.unit) = (ys, ()) := eq_of_heq h
  simp only [Prod.mk.injEq, and_true] at h'
  subst h'
  have hln : List.length xs ≤ 1000000 := hpre
  clear hpre
  rcases hX with ⟨rfl, h0⟩ | ⟨rfl, rfl⟩ | ⟨a, k, rfl, h1, h2, rfl⟩
  · conv => (arg 2; whnf)
    repeat' (first|(with_reducible first|refine an ?_ ?_|((try refine gm ?_);refine st ?_))|((try (with_reducible refine gm ?_));first|((with_reducible show Kz _);(try dsimp +instances only);(with_reducible refine kz _ ?_);clear kz Kz)|((with_reducible refine sr ?_);intro Kz kz;conv=>whnf)|((with_reducible refine cd ?_);(conv=>arg 2;whnf);(with_reducible refine st ?_))|refine blockK_y (by rfl) ?_|refine blockR_y (by rfl) ?_|((with_reducible refine sw ?_);conv=>whnf))|((with_reducible refine gm ?_);conv=>whnf)|(intro hc;(try dsimp +instances only[Dat,SDat,dflt,Ty.size,keepS,bkUpd,Gv.bk,backS,wayA,maxI,minI,negI]at hc);try simp only[LS]at hc))
    all_goals (try ((fail_if_success (with_reducible refine nl ?_));(try dsimp only[Dat,SDat,dflt,Ty.size,keepS,bkUpd,Gv.bk,backS,wayA,maxI,minI,negI]);(try simp only[LS]);first|done|exact dsc|((try simp only[allP,lo,hi,room,true_and,and_true,implies_true]);(repeat' (first|refine an ?_ ?_|((with_reducible refine preA_t ?_ ?_);rotate_left;exact sameP_t)|intro hv))<;>(try omega))))
    all_goals (try (change retA _ _ _ _ _; conv => whnf))
    repeat' (first|(with_reducible first|refine an ?_ ?_|((try refine gm ?_);refine st ?_))|((try (with_reducible refine gm ?_));first|((with_reducible show Kz _);(try dsimp +instances only);(with_reducible refine kz _ ?_);clear kz Kz)|((with_reducible refine sr ?_);intro Kz kz;conv=>whnf)|((with_reducible refine cd ?_);(conv=>arg 2;whnf);(with_reducible refine st ?_))|refine blockK_y (by rfl) ?_|refine blockR_y (by rfl) ?_|((with_reducible refine sw ?_);conv=>whnf))|((with_reducible refine gm ?_);conv=>whnf)|(intro hc;(try dsimp +instances only[Dat,SDat,dflt,Ty.size,keepS,bkUpd,Gv.bk,backS,wayA,maxI,minI,negI]at hc);try simp only[LS]at hc))
    all_goals (try ((fail_if_success (with_reducible refine nl ?_));(try dsimp only[Dat,SDat,dflt,Ty.size,keepS,bkUpd,Gv.bk,backS,wayA,maxI,minI,negI]);(try simp only[LS]);first|done|exact dsc|((try simp only[allP,lo,hi,room,true_and,and_true,implies_true]);(repeat' (first|refine an ?_ ?_|((with_reducible refine preA_t ?_ ?_);rotate_left;exact sameP_t)|intro hv))<;>(try omega))))
  · conv => (arg 2; whnf)
    repeat' (first|(with_reducible first|refine an ?_ ?_|((try refine gm ?_);refine st ?_))|((try (with_reducible refine gm ?_));first|((with_reducible show Kz _);(try dsimp +instances only);(with_reducible refine kz _ ?_);clear kz Kz)|((with_reducible refine sr ?_);intro Kz kz;conv=>whnf)|((with_reducible refine cd ?_);(conv=>arg 2;whnf);(with_reducible refine st ?_))|refine blockK_y (by rfl) ?_|refine blockR_y (by rfl) ?_|((with_reducible refine sw ?_);conv=>whnf))|((with_reducible refine gm ?_);conv=>whnf)|(intro hc;(try dsimp +instances only[Dat,SDat,dflt,Ty.size,keepS,bkUpd,Gv.bk,backS,wayA,maxI,minI,negI]at hc);try simp only[LS]at hc))
    all_goals (try ((fail_if_success (with_reducible refine nl ?_));(try dsimp only[Dat,SDat,dflt,Ty.size,keepS,bkUpd,Gv.bk,backS,wayA,maxI,minI,negI]);(try simp only[LS]);first|done|exact dsc|((try simp only[allP,lo,hi,room,true_and,and_true,implies_true]);(repeat' (first|refine an ?_ ?_|((with_reducible refine preA_t ?_ ?_);rotate_left;exact sameP_t)|intro hv))<;>(try omega))))
    all_goals (try (change retA _ _ _ _ _; conv => whnf))
    repeat' (first|(with_reducible first|refine an ?_ ?_|((try refine gm ?_);refine st ?_))|((try (with_reducible refine gm ?_));first|((with_reducible show Kz _);(try dsimp +instances only);(with_reducible refine kz _ ?_);clear kz Kz)|((with_reducible refine sr ?_);intro Kz kz;conv=>whnf)|((with_reducible refine cd ?_);(conv=>arg 2;whnf);(with_reducible refine st ?_))|refine blockK_y (by rfl) ?_|refine blockR_y (by rfl) ?_|((with_reducible refine sw ?_);conv=>whnf))|((with_reducible refine gm ?_);conv=>whnf)|(intro hc;(try dsimp +instances only[Dat,SDat,dflt,Ty.size,keepS,bkUpd,Gv.bk,backS,wayA,maxI,minI,negI]at hc);try simp only[LS]at hc))
    all_goals (try ((fail_if_success (with_reducible refine nl ?_));(try dsimp only[Dat,SDat,dflt,Ty.size,keepS,bkUpd,Gv.bk,backS,wayA,maxI,minI,negI]);(try simp only[LS]);first|done|exact dsc|((try simp only[allP,lo,hi,room,true_and,and_true,implies_true]);(repeat' (first|refine an ?_ ?_|((with_reducible refine preA_t ?_ ?_);rotate_left;exact sameP_t)|intro hv))<;>(try omega))))
  · conv => (arg 2; whnf)
    repeat' (first|(with_reducible first|refine an ?_ ?_|((try refine gm ?_);refine st ?_))|((try (with_reducible refine gm ?_));first|((with_reducible show Kz _);(try dsimp +instances only);(with_reducible refine kz _ ?_);clear kz Kz)|((with_reducible refine sr ?_);intro Kz kz;conv=>whnf)|((with_reducible refine cd ?_);(conv=>arg 2;whnf);(with_reducible refine st ?_))|refine blockK_y (by rfl) ?_|refine blockR_y (by rfl) ?_|((with_reducible refine sw ?_);conv=>whnf))|((with_reducible refine gm ?_);conv=>whnf)|(intro hc;(try dsimp +instances only[Dat,SDat,dflt,Ty.size,keepS,bkUpd,Gv.bk,backS,wayA,maxI,minI,negI]at hc);try simp only[LS]at hc))
    all_goals (try ((fail_if_success (with_reducible refine nl ?_));(try dsimp only[Dat,SDat,dflt,Ty.size,keepS,bkUpd,Gv.bk,backS,wayA,maxI,minI,negI]);(try simp only[LS]);first|done|exact dsc|((try simp only[allP,lo,hi,room,true_and,and_true,implies_true]);(repeat' (first|refine an ?_ ?_|((with_reducible refine preA_t ?_ ?_);rotate_left;exact sameP_t)|intro hv))<;>(try omega))))
    all_goals (try (change retA _ _ _ _ _; conv => whnf))
    repeat' (first|(with_reducible first|refine an ?_ ?_|((try refine gm ?_);refine st ?_))|((try (with_reducible refine gm ?_));first|((with_reducible show Kz _);(try dsimp +instances only);(with_reducible refine kz _ ?_);clear kz Kz)|((with_reducible refine sr ?_);intro Kz kz;conv=>whnf)|((with_reducible refine cd ?_);(conv=>arg 2;whnf);(with_reducible refine st ?_))|refine blockK_y (by rfl) ?_|refine blockR_y (by rfl) ?_|((with_reducible refine sw ?_);conv=>whnf))|((with_reducible refine gm ?_);conv=>whnf)|(intro hc;(try dsimp +instances only[Dat,SDat,dflt,Ty.size,keepS,bkUpd,Gv.bk,backS,wayA,maxI,minI,negI]at hc);try simp only[LS]at hc))
    all_goals (try ((fail_if_success (with_reducible refine nl ?_));(try dsimp only[Dat,SDat,dflt,Ty.size,keepS,bkUpd,Gv.bk,backS,wayA,maxI,minI,negI]);(try simp only[LS]);first|done|exact dsc|((try simp only[allP,lo,hi,room,true_and,and_true,implies_true]);(repeat' (first|refine an ?_ ?_|((with_reducible refine preA_t ?_ ?_);rotate_left;exact sameP_t)|intro hv))<;>(try omega))))
    all_goals (first | assumption | exact h2 (by assumption))
@[reducible] noncomputable def S_snap_Snap_Write_1 : Spec := { ins := (.cons (.d tEv) .nil), pre := (fun x => (fun e => okE e) x.1), alts := [{ outs := (.cons (.d .bool) .nil), res := (fun x => (fun e => (decide (¬ e.1 = 7), ())) x.1) }] }
noncomputable def c_snap_Snap_Write_1 : Cf := (cf_snap_Snap_Write_1 (Fl [(fi_ledger_Valid, S_ledger_Valid)]))
theorem g_snap_Snap_Write_1 : ∀ x, S_snap_Snap_Write_1.pre x → shOK S_snap_Snap_Write_1.ins x → fnGoal c_snap_Snap_Write_1 fn_snap_Snap_Write_1 S_snap_Snap_Write_1 x := by
  rintro ⟨e, ⟨⟩⟩ hpre hok
  try dsimp only [Dat,SDat,dflt,Ty.size,keepS,bkUpd,Gv.bk,backS,wayA,maxI,minI,negI] at hpre
  have hln := shLn_of _ hok; replace hok := Hd.mk hok; try simp only [shLn, datLn, inRng, lo, hi, maxLen, true_and, and_true] at hln
  first | refine fn_goal (w_head ?_)
  intro Kz kz;(conv=>whnf);(try dsimp +instances only);refine kz _ ?_;clear kz Kz;(conv=>(arg 2;whnf))
  repeat' (first|(with_reducible first|refine an ?_ ?_|((try refine gm ?_);refine st ?_))|((try (with_reducible refine gm ?_));first|((with_reducible show Kz _);(try dsimp +instances only);(with_reducible refine kz _ ?_);clear kz Kz)|((with_reducible refine sr ?_);intro Kz kz;conv=>whnf)|((with_reducible refine cd ?_);(conv=>arg 2;whnf);(with_reducible refine st ?_))|refine blockK_y (by rfl) ?_|refine blockR_y (by rfl) ?_|((with_reducible refine sw ?_);conv=>whnf))|((with_reducible refine gm ?_);conv=>whnf)|(intro hc;(try dsimp +instances only[Dat,SDat,dflt,Ty.size,keepS,bkUpd,Gv.bk,backS,wayA,maxI,minI,negI]at hc);try simp only[LS]at hc))
  all_goals (try ((fail_if_success (with_reducible refine nl ?_));(try dsimp only[Dat,SDat,dflt,Ty.size,keepS,bkUpd,Gv.bk,backS,wayA,maxI,minI,negI]);(try simp only[LS]);first|done|exact dsc|((try simp only[allP,lo,hi,room,true_and,and_true,implies_true]);(repeat' (first|refine an ?_ ?_|((with_reducible refine preA_t ?_ ?_);rotate_left;exact sameP_t)|intro hv))<;>(try omega))))
theorem ok_snap_Snap_Write_1 : SpecOK SP glob fi_snap_Snap_Write_1 S_snap_Snap_Write_1 := mk_ok (c := c_snap_Snap_Write_1) (tab_ok _) mix_ok wf_snap_Snap_Write_1 (by decide) (.cons ok_ledger_Valid .nil) (fun x hx => Nat.zero_lt_one) g_snap_Snap_Write_1
@[reducible] noncomputable def S_idx_wr_1 : Spec := { ins := (.cons (.d (.sl tEv)) (.cons (.clos fi_snap_Snap_Write_1 .nil) .nil)), pre := (fun x => (fun s c => ∀ k ∈ s, (fun (_ : Unit) e => okE e) c k) x.1 x.2.1), alts := [{ outs := (.cons (.d tInt) .nil), res := (fun x => (fun s c => (findI (fun k => (fun (_ : Unit) (e : EvD) => decide (¬ e.1 = 7)) c k) s, ())) x.1 x.2.1) }] }
noncomputable def c_idx_wr_1 : Cf := (cf_slices_IndexFunc_sl_api_Event_api_Event (Fl [(fi_snap_Snap_Write_1, S_snap_Snap_Write_1)]))
theorem g_idx_wr_1 : ∀ x, S_idx_wr_1.pre x → shOK S_idx_wr_1.ins x → fnGoal c_idx_wr_1 fn_slices_IndexFunc_sl_api_Event_api_Event S_idx_wr_1 x := by
  rintro ⟨s, ⟨⟩, ⟨⟩⟩ hpre hok
  try dsimp only [Dat,SDat,dflt,Ty.size,keepS,bkUpd,Gv.bk,backS,wayA,maxI,minI,negI] at hpre
  have hln := shLn_of _ hok; replace hok := Hd.mk hok; try simp only [shLn, datLn, inRng, lo, hi, maxLen, true_and, and_true] at hln
  first | refine fn_goal (w_head ?_)
  intro Kz kz;(conv=>whnf);(try dsimp +instances only);refine kz _ ?_;clear kz Kz;(conv=>(arg 2;whnf))
  repeat' (first|(with_reducible first|refine an ?_ ?_|((try refine gm ?_);refine st ?_))|((try (with_reducible refine gm ?_));first|((with_reducible show Kz _);(try dsimp +instances only);(with_reducible refine kz _ ?_);clear kz Kz)|((with_reducible refine sr ?_);intro Kz kz;conv=>whnf)|((with_reducible refine cd ?_);(conv=>arg 2;whnf);(with_reducible refine st ?_))|refine blockK_y (by rfl) ?_|refine blockR_y (by rfl) ?_|((with_reducible refine sw ?_);conv=>whnf))|((with_reducible refine gm ?_);conv=>whnf)|(intro hc;(try dsimp +instances only[Dat,SDat,dflt,Ty.size,keepS,bkUpd,Gv.bk,backS,wayA,maxI,minI,negI]at hc);try simp only[LS]at hc))
  all_goals (try ((fail_if_success (with_reducible refine nl ?_));(try dsimp only[Dat,SDat,dflt,Ty.size,keepS,bkUpd,Gv.bk,backS,wayA,maxI,minI,negI]);(try simp only[LS]);first|done|exact dsc|((try simp only[allP,lo,hi,room,true_and,and_true,implies_true]);(repeat' (first|refine an ?_ ?_|((with_reducible refine preA_t ?_ ?_);rotate_left;exact sameP_t)|intro hv))<;>(try omega))))
  refine w_loop [(8, .d tInt)] [] (fun y => ∃ k : Nat, y.1.1 = (k : Int) ∧ k ≤ s.length ∧ ∀ x ∈ s.take k, (fun (_ : Unit) (e : EvD) => decide (¬ e.1 = 7)) ⟨⟩ x = false) (fun y => s.length - y.1.1.toNat) ?_
  conv => whnf
  refine And.intro ?_ ?_
  · exact ⟨0, by simp⟩
  rintro ⟨⟨_, ⟨⟩⟩, ⟨⟩⟩ ⟨k, rfl, hk, hj⟩
  repeat' (first|(with_reducible first|refine an ?_ ?_|((try refine gm ?_);refine st ?_))|((try (with_reducible refine gm ?_));first|((with_reducible show Kz _);(try dsimp +instances only);(with_reducible refine kz _ ?_);clear kz Kz)|((with_reducible refine sr ?_);intro Kz kz;conv=>whnf)|((with_reducible refine cd ?_);(conv=>arg 2;whnf);(with_reducible refine st ?_))|refine blockK_y (by rfl) ?_|refine blockR_y (by rfl) ?_|((with_reducible refine sw ?_);conv=>whnf))|((with_reducible refine gm ?_);conv=>whnf)|(intro hc;(try dsimp +instances only[Dat,SDat,dflt,Ty.size,keepS,bkUpd,Gv.bk,backS,wayA,maxI,minI,negI]at hc);try simp only[LS]at hc))
  all_goals (try ((fail_if_success (with_reducible refine nl ?_));(try dsimp only[Dat,SDat,dflt,Ty.size,keepS,bkUpd,Gv.bk,backS,wayA,maxI,minI,negI]);(try simp only[LS]);first|done|exact dsc|((try simp only[allP,lo,hi,room,true_and,and_true,implies_true]);(repeat' (first|refine an ?_ ?_|((with_reducible refine preA_t ?_ ?_);rotate_left;exact sameP_t)|intro hv))<;>(try omega))))
  · exact hpre _ (getD_mem (l := s) (d := ev0) (k := k) (by omega))
  · exact (findI_hit (d := ev0) hj (by omega) (by first | exact hc | (simpa using hc) | (simp at hc ⊢; grind))).symm
  · refine ⟨k + 1, by omega, by omega, fun x hx => ?_⟩
    have hst := all_step (p := fun x => (fun (_ : Unit) (e : EvD) => decide (¬ e.1 = 7)) ⟨⟩ x = false) (d := ev0) hj (by omega) (by first | exact hc | (simpa using hc) | (simp at hc ⊢; grind)) x hx
    first | exact hst | simpa using hst | (simp at hst ⊢; grind)
  · exact (findI_miss hj (by omega)).symm
theorem ok_idx_wr_1 : SpecOK SP glob fi_slices_IndexFunc_sl_api_Event_api_Event S_idx_wr_1 := mk_ok (c := c_idx_wr_1) (tab_ok _) mix_ok wf_slices_IndexFunc_sl_api_Event_api_Event (by decide) (.cons ok_snap_Snap_Write_1 .nil) (fun x hx => Nat.zero_lt_one) g_idx_wr_1
@[reducible] noncomputable def S_con_wr_1 : Spec := { ins := (.cons (.d (.sl tEv)) (.cons (.clos fi_snap_Snap_Write_1 .nil) .nil)), pre := (fun x => (fun s c => ∀ k ∈ s, (fun (_ : Unit) e => okE e) c k) x.1 x.2.1), alts := [{ outs := (.cons (.d .bool) .nil), res := (fun x => (fun s c => (s.any (fun k => (fun (_ : Unit) (e : EvD) => decide (¬ e.1 = 7)) c k), ())) x.1 x.2.1) }] }
noncomputable def c_con_wr_1 : Cf := (cf_slices_ContainsFunc_sl_api_Event_api_Event (Fl [(fi_slices_IndexFunc_sl_api_Event_api_Event, S_idx_wr_1)]))
theorem g_con_wr_1 : ∀ x, S_con_wr_1.pre x → shOK S_con_wr_1.ins x → fnGoal c_con_wr_1 fn_slices_ContainsFunc_sl_api_Event_api_Event S_con_wr_1 x := by
  rintro ⟨s, ⟨⟩, ⟨⟩⟩ hpre hok
  try dsimp only [Dat,SDat,dflt,Ty.size,keepS,bkUpd,Gv.bk,backS,wayA,maxI,minI,negI] at hpre
  have hln := shLn_of _ hok; replace hok := Hd.mk hok; try simp only [shLn, datLn, inRng, lo, hi, maxLen, true_and, and_true] at hln
  first | refine fn_goal (w_head ?_)
  intro Kz kz;(conv=>whnf);(try dsimp +instances only);refine kz _ ?_;clear kz Kz;(conv=>(arg 2;whnf))
  repeat' (first|(with_reducible first|refine an ?_ ?_|((try refine gm ?_);refine st ?_))|((try (with_reducible refine gm ?_));first|((with_reducible show Kz _);(try dsimp +instances only);(with_reducible refine kz _ ?_);clear kz Kz)|((with_reducible refine sr ?_);intro Kz kz;conv=>whnf)|((with_reducible refine cd ?_);(conv=>arg 2;whnf);(with_reducible refine st ?_))|refine blockK_y (by rfl) ?_|refine blockR_y (by rfl) ?_|((with_reducible refine sw ?_);conv=>whnf))|((with_reducible refine gm ?_);conv=>whnf)|(intro hc;(try dsimp +instances only[Dat,SDat,dflt,Ty.size,keepS,bkUpd,Gv.bk,backS,wayA,maxI,minI,negI]at hc);try simp only[LS]at hc))
  all_goals (try ((fail_if_success (with_reducible refine nl ?_));(try dsimp only[Dat,SDat,dflt,Ty.size,keepS,bkUpd,Gv.bk,backS,wayA,maxI,minI,negI]);(try simp only[LS]);first|done|exact dsc|((try simp only[allP,lo,hi,room,true_and,and_true,implies_true]);(repeat' (first|refine an ?_ ?_|((with_reducible refine preA_t ?_ ?_);rotate_left;exact sameP_t)|intro hv))<;>(try omega))))
  · exact hpre _ (by assumption)
  · rw [boolOf_eq, Bool.eq_iff_iff, decide_eq_true_eq]; exact findI_ge
theorem ok_con_wr_1 : SpecOK SP glob fi_slices_ContainsFunc_sl_api_Event_api_Event S_con_wr_1 := mk_ok (c := c_con_wr_1) (tab_ok _) mix_ok wf_slices_ContainsFunc_sl_api_Event_api_Event (by decide) (.cons ok_idx_wr_1 .nil) (fun x hx => Nat.zero_lt_one) g_con_wr_1
end Go.Gv
