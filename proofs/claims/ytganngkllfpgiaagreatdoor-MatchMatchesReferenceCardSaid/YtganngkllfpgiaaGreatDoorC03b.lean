/- Chapter 3: what consumes the words of a text. -/
import Derived.Test.YtganngkllfpgiaaGreatDoorC03
set_option linter.all false
namespace Go.Gv
open Go Go.Proofs Go.Proofs.YtganngkllfpgiaaGreatDoor
set_option maxRecDepth 100000
set_option maxHeartbeats 4000000

theorem words_len : ∀ (t : List UInt8) (w : List Int), (wordsI w t).length ≤ t.length + 1
  | [], w => by rw [words_nil]; split <;> simp
  | c :: r, w => by
    rw [words_cons, List.length_cons]
    split
    · have := words_len r []
      split
      · omega
      · rw [List.length_cons]; omega
    · have := words_len r (w ++ [lowB (c.toNat : Int)]); omega

@[reducible] noncomputable def S_words_all : Spec := { ins := (.cons (.d .str) .nil), pre := fun _ => True, alts := [{ outs := (.cons (.clos fi_words_all_1 (.cons (.d (.pt .str)) .nil)) .nil), res := (fun x => (fun text => ((some text, ()), ())) x.1) }] }
noncomputable def c_words_all : Cf := (cf_words_all (Fl []))
theorem g_words_all : ∀ x, S_words_all.pre x → shOK S_words_all.ins x → fnGoal c_words_all fn_words_all S_words_all x := by
  rintro ⟨text, ⟨⟩⟩ hpre hok
  clear hpre
  have hln := shLn_of _ hok; replace hok := Hd.mk hok; try simp only [shLn, datLn, inRng, lo, hi, maxLen, true_and, and_true] at hln
  first | refine fn_goal (w_head ?_)
  intro K_ hK_; (conv => whnf); (try dsimp +instances only); refine hK_ _ ?_; clear hK_ K_; (conv => (arg 2; whnf))
  repeat' (first | with_reducible refine And.intro ?_ ?_ | ((try with_reducible refine gv_more ?_); first | ((with_reducible show K_ _); (try dsimp +instances only); (with_reducible refine hK_ _ ?_); clear hK_ K_) | with_reducible refine st ?_ | ((with_reducible refine sr ?_); intro K_ hK_; conv => whnf) | ((with_reducible refine w_cond ?_); (conv => arg 2; whnf); with_reducible refine st ?_) | refine blockK_y (by rfl) ?_ | ((with_reducible refine sw ?_); conv => whnf)) | ((with_reducible refine gv_more ?_); conv => whnf) | (intro hc; (try dsimp +instances only [Dat, SDat, dflt, Ty.size, keepS, bkUpd, Gv.bk, backS, wayA, maxI, minI, negI] at hc); (try simp only [LS] at hc)))
  all_goals (try ((fail_if_success with_reducible refine nl ?_); (try dsimp only [Dat, SDat, dflt, Ty.size, keepS, bkUpd, Gv.bk, backS, wayA, maxI, minI, negI]); (try simp only [LS]); first | done | exact dsc | ((try simp only [allP, lo, hi, room, true_and, and_true, implies_true]); (repeat' (first | with_reducible refine And.intro ?_ ?_ | ((with_reducible refine preA_t ?_ ?_); rotate_left; exact sameP_t) | intro hv)) <;> (try omega))))
theorem ok_words_all : SpecOK SP glob fi_words_all S_words_all := mk_ok (c := c_words_all) (tab_ok _) mix_ok wf_words_all (by decide) .nil (fun x hx => Nat.zero_lt_one) g_words_all

@[reducible] noncomputable def S_slices_AppendSeq_sl_string_string : Spec := { ins := (.cons (.nils) (.cons (.clos fi_words_all_1 (.cons (.d (.pt .str)) .nil)) .nil)), pre := (fun x => (fun s c => ∃ t, c.1 = some t ∧ t.length ≤ 1000000) x.1 x.2.1), alts := [{ outs := (.cons (.d (.sl .str)) .nil), res := (fun x => (fun s c => ((wordsI [] (c.1.getD [])).map Prod.fst, ())) x.1 x.2.1) }] }
noncomputable def c_slices_AppendSeq_sl_string_string : Cf := { cf_slices_AppendSeq_sl_string_string (Fl []) with eat := Eats SP, I := Il [(fi_words_all_1, S_words_all_1)] }
theorem g_slices_AppendSeq_sl_string_string : ∀ x, S_slices_AppendSeq_sl_string_string.pre x → shOK S_slices_AppendSeq_sl_string_string.ins x → fnGoal c_slices_AppendSeq_sl_string_string fn_slices_AppendSeq_sl_string_string S_slices_AppendSeq_sl_string_string x := by
  rintro ⟨⟨⟩, ⟨to, ⟨⟩⟩, ⟨⟩⟩ hpre hok
  try dsimp only [Dat, SDat, dflt, Ty.size, keepS, bkUpd, Gv.bk, backS, wayA, maxI, minI, negI] at hpre
  have hln := shLn_of _ hok; replace hok := Hd.mk hok; try simp only [shLn, datLn, inRng, lo, hi, maxLen, true_and, and_true] at hln
  obtain ⟨t, rfl, ht⟩ := hpre
  first | refine fn_goal (w_head ?_) | refine fnL_goal (w_head ?_) | refine fnI_goal (w_head ?_)
  intro K_ hK_; (conv => whnf); (try dsimp +instances only); refine hK_ _ ?_; clear hK_ K_; (conv => (arg 2; whnf))
  repeat' (first | with_reducible refine And.intro ?_ ?_ | ((try with_reducible refine gv_more ?_); first | ((with_reducible show K_ _); (try dsimp +instances only); (with_reducible refine hK_ _ ?_); clear hK_ K_) | with_reducible refine st ?_ | ((with_reducible refine sr ?_); intro K_ hK_; conv => whnf) | ((with_reducible refine w_cond ?_); (conv => arg 2; whnf); with_reducible refine st ?_) | refine blockK_y (by rfl) ?_ | ((with_reducible refine sw ?_); conv => whnf)) | ((with_reducible refine gv_more ?_); conv => whnf) | (intro hc; (try dsimp +instances only [Dat, SDat, dflt, Ty.size, keepS, bkUpd, Gv.bk, backS, wayA, maxI, minI, negI] at hc); (try simp only [LS] at hc)))
  all_goals (try ((fail_if_success with_reducible refine nl ?_); (try dsimp only [Dat, SDat, dflt, Ty.size, keepS, bkUpd, Gv.bk, backS, wayA, maxI, minI, negI]); (try simp only [LS]); first | done | exact dsc | ((try simp only [allP, lo, hi, room, true_and, and_true, implies_true]); (repeat' (first | with_reducible refine And.intro ?_ ?_ | ((with_reducible refine preA_t ?_ ?_); rotate_left; exact sameP_t) | intro hv)) <;> (try omega))))
  refine w_rf S_words_all_1 [(0, .cons (.row .str) .nil)] (fun l y => y.1.1 ++ l.map Prod.fst = (wordsI [] t).map Prod.fst) (by rfl) (by rfl) (by rfl) (by rfl) (by rfl) (by rfl) (by rfl) ?_ ?_
  rotate_left
  conv => whnf
  refine And.intro ?_ (And.intro ?_ ?_)
  · rfl
  · rintro ⟨s, ⟨⟩⟩ r ⟨⟨row, ⟨⟩⟩, ⟨⟩⟩ hi
    dsimp only at hi
    have hl := congrArg List.length hi
    rw [List.length_append, List.length_map, List.length_map, List.length_cons] at hl
    have hm := words_len t []
    repeat' (first | with_reducible refine And.intro ?_ ?_ | ((try with_reducible refine gv_more ?_); first | ((with_reducible show K_ _); (try dsimp +instances only); (with_reducible refine hK_ _ ?_); clear hK_ K_) | with_reducible refine st ?_ | ((with_reducible refine sr ?_); intro K_ hK_; conv => whnf) | ((with_reducible refine w_cond ?_); (conv => arg 2; whnf); with_reducible refine st ?_) | refine blockK_y (by rfl) ?_ | ((with_reducible refine sw ?_); conv => whnf)) | ((with_reducible refine gv_more ?_); conv => whnf) | (intro hc; (try dsimp +instances only [Dat, SDat, dflt, Ty.size, keepS, bkUpd, Gv.bk, backS, wayA, maxI, minI, negI] at hc); (try simp only [LS] at hc)))
    all_goals (try ((fail_if_success with_reducible refine nl ?_); (try dsimp only [Dat, SDat, dflt, Ty.size, keepS, bkUpd, Gv.bk, backS, wayA, maxI, minI, negI]); (try simp only [LS]); first | done | exact dsc | ((try simp only [allP, lo, hi, room, true_and, and_true, implies_true]); (repeat' (first | with_reducible refine And.intro ?_ ?_ | ((with_reducible refine preA_t ?_ ?_); rotate_left; exact sameP_t) | intro hv)) <;> (try omega))))
    rw [← hi]; simp
  · rintro ⟨⟨row, ⟨⟩⟩, ⟨⟩⟩ hi
    dsimp only at hi
    repeat' (first | with_reducible refine And.intro ?_ ?_ | ((try with_reducible refine gv_more ?_); first | ((with_reducible show K_ _); (try dsimp +instances only); (with_reducible refine hK_ _ ?_); clear hK_ K_) | with_reducible refine st ?_ | ((with_reducible refine sr ?_); intro K_ hK_; conv => whnf) | ((with_reducible refine w_cond ?_); (conv => arg 2; whnf); with_reducible refine st ?_) | refine blockK_y (by rfl) ?_ | ((with_reducible refine sw ?_); conv => whnf)) | ((with_reducible refine gv_more ?_); conv => whnf) | (intro hc; (try dsimp +instances only [Dat, SDat, dflt, Ty.size, keepS, bkUpd, Gv.bk, backS, wayA, maxI, minI, negI] at hc); (try simp only [LS] at hc)))
    all_goals (try ((fail_if_success with_reducible refine nl ?_); (try dsimp only [Dat, SDat, dflt, Ty.size, keepS, bkUpd, Gv.bk, backS, wayA, maxI, minI, negI]); (try simp only [LS]); first | done | exact dsc | ((try simp only [allP, lo, hi, room, true_and, and_true, implies_true]); (repeat' (first | with_reducible refine And.intro ?_ ?_ | ((with_reducible refine preA_t ?_ ?_); rotate_left; exact sameP_t) | intro hv)) <;> (try omega))))
    rw [List.map_nil, List.append_nil] at hi
    exact hi
  · exact ⟨t, rfl, ht⟩
theorem ok_slices_AppendSeq_sl_string_string : SpecOK SP glob fi_slices_AppendSeq_sl_string_string S_slices_AppendSeq_sl_string_string := mk_ok (c := c_slices_AppendSeq_sl_string_string) (tab_ok _) mix_ok wf_slices_AppendSeq_sl_string_string (by decide) .nil (fun x hx => Nat.zero_lt_one) g_slices_AppendSeq_sl_string_string (hL := (LateOK.of rfl .nil (.cons ok_words_all_1 .nil)))

@[reducible] noncomputable def S_slices_Collect_string : Spec := { ins := (.cons (.clos fi_words_all_1 (.cons (.d (.pt .str)) .nil)) .nil), pre := (fun x => (fun c => ∃ t, c.1 = some t ∧ t.length ≤ 1000000) x.1), alts := [{ outs := (.cons (.d (.sl .str)) .nil), res := (fun x => (fun c => ((wordsI [] (c.1.getD [])).map Prod.fst, ())) x.1) }] }
noncomputable def c_slices_Collect_string : Cf := (cf_slices_Collect_string (Fl [(fi_slices_AppendSeq_sl_string_string, S_slices_AppendSeq_sl_string_string)]))
theorem g_slices_Collect_string : ∀ x, S_slices_Collect_string.pre x → shOK S_slices_Collect_string.ins x → fnGoal c_slices_Collect_string fn_slices_Collect_string S_slices_Collect_string x := by
  rintro ⟨⟨to, ⟨⟩⟩, ⟨⟩⟩ hpre hok
  try dsimp only [Dat, SDat, dflt, Ty.size, keepS, bkUpd, Gv.bk, backS, wayA, maxI, minI, negI] at hpre
  have hln := shLn_of _ hok; replace hok := Hd.mk hok; try simp only [shLn, datLn, inRng, lo, hi, maxLen, true_and, and_true] at hln
  obtain ⟨t, rfl, ht⟩ := hpre
  first | refine fn_goal (w_head ?_)
  intro K_ hK_; (conv => whnf); (try dsimp +instances only); refine hK_ _ ?_; clear hK_ K_; (conv => (arg 2; whnf))
  repeat' (first | with_reducible refine And.intro ?_ ?_ | ((try with_reducible refine gv_more ?_); first | ((with_reducible show K_ _); (try dsimp +instances only); (with_reducible refine hK_ _ ?_); clear hK_ K_) | with_reducible refine st ?_ | ((with_reducible refine sr ?_); intro K_ hK_; conv => whnf) | ((with_reducible refine w_cond ?_); (conv => arg 2; whnf); with_reducible refine st ?_) | refine blockK_y (by rfl) ?_ | ((with_reducible refine sw ?_); conv => whnf)) | ((with_reducible refine gv_more ?_); conv => whnf) | (intro hc; (try dsimp +instances only [Dat, SDat, dflt, Ty.size, keepS, bkUpd, Gv.bk, backS, wayA, maxI, minI, negI] at hc); (try simp only [LS] at hc)))
  all_goals (try ((fail_if_success with_reducible refine nl ?_); (try dsimp only [Dat, SDat, dflt, Ty.size, keepS, bkUpd, Gv.bk, backS, wayA, maxI, minI, negI]); (try simp only [LS]); first | done | exact dsc | ((try simp only [allP, lo, hi, room, true_and, and_true, implies_true]); (repeat' (first | with_reducible refine And.intro ?_ ?_ | ((with_reducible refine preA_t ?_ ?_); rotate_left; exact sameP_t) | intro hv)) <;> (try omega))))
  exact ⟨t, rfl, ht⟩
theorem ok_slices_Collect_string : SpecOK SP glob fi_slices_Collect_string S_slices_Collect_string := mk_ok (c := c_slices_Collect_string) (tab_ok _) mix_ok wf_slices_Collect_string (by decide) (.cons ok_slices_AppendSeq_sl_string_string .nil) (fun x hx => Nat.zero_lt_one) g_slices_Collect_string

end Go.Gv
