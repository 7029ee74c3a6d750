/- The statements of chapter 3: the fixed examples, and the first statements. -/
import Derived.Test.YtcioglingkccpaaR03
set_option linter.all false
namespace Go.Gv
open Go Go.Proofs Go.Proofs.Ytcioglingkccpaa

theorem hd1 : foldT [32, 32, 65, 110, 110, 45, 77, 97, 114, 105, 101, 32, 32, 79, 39, 78, 101, 105, 108, 32, 50, 32] = [97, 110, 110, 32, 109, 97, 114, 105, 101, 32, 111, 32, 110, 101, 105, 108, 32, 50] := by decide +kernel
theorem hd2 : sorS (Ws [98, 32, 97, 32, 66]) = [[97], [98]] := by decide +kernel
theorem hd3 : gramS (foldT [97, 98, 32, 99]) 2 = [[32, 99], [97, 98], [98, 32]] := by decide +kernel
theorem hd4 : gramS (foldT [97]) 3 = [[97]] := by decide +kernel
theorem hd5 : gramS (foldT [97]) 0 = [] := by decide +kernel
theorem hd6 : comV [[97], [98], [100]] [[98], [99], [100]] = 2 := by decide +kernel
theorem hd7 : comV [[98], [97]] [[97]] = 0 := by decide +kernel

theorem tok_len (t : Bs) : (sorS (Ws t)).length ≤ t.length + 1 := by
  have h1 := sorS_len (Ws t) []
  have h2 := Ws_len t
  simp only [List.length_nil] at h1
  exact Nat.le_trans h1 h2
theorem gram_len (s : Bs) (n : Int) : (gramS s n).length ≤ s.length + 1 := by
  unfold gramS
  split
  · simp
  · split
    · simp
    · have h1 := sorS_len (partS s n.toNat (s.length - n.toNat + 1)) []
      rw [part_len] at h1
      simp only [List.length_nil] at h1
      refine Nat.le_trans h1 ?_
      omega

@[reducible] noncomputable def S_law03_head : Spec := { ins := .nil, pre := fun _ => True, alts := [{ outs := (.cons (.d .bool) .nil), res := (fun _ => (true, ())) }], noisy := true }
noncomputable def c_law03_head : Cf := { cf_law03_head (Fl [(fi_words_Fold, S_words_Fold), (fi_words_Tokens, S_words_Tokens), (fi_words_Grams, S_words_Grams), (fi_words_Common, S_words_Common), (fi_ref03_Same, S_ref03_Same)]) with nz := true }
set_option maxRecDepth 100000 in
set_option maxHeartbeats 4000000 in
theorem g_law03_head : ∀ x, S_law03_head.pre x → shOK S_law03_head.ins x → fnGoal c_law03_head fn_law03_head S_law03_head x := by
  rintro ⟨⟩ hpre hok
  clear hpre
  have hln := shLn_of _ hok; replace hok := Hd.mk hok; try simp only [shLn, datLn, inRng, lo, hi, maxLen, true_and, and_true] at hln
  first | refine fn_goal (w_head ?_) | refine w_fn (w_head ?_) | refine fnL_goal (w_head ?_) | refine fnI_goal (w_head ?_)
  intro K_ hK_; (conv => whnf); (try dsimp +instances only); refine hK_ _ ?_; clear hK_ K_; (conv => (arg 2; whnf))
  repeat' (first | (with_reducible refine And.intro ?_ ?_) | ((try (with_reducible refine gv_more ?_)); first | ((with_reducible show K_ _); (try dsimp +instances only); (with_reducible refine hK_ _ ?_); clear hK_ K_) | (with_reducible (first | refine w_seq ?_ | refine thenK_n ?_ | refine w_block ?_ | refine blockK_n ?_)) | ((with_reducible refine w_region ?_); intro K_ hK_; (conv => whnf)) | ((with_reducible refine w_cond ?_); (conv => (arg 2; whnf)); (with_reducible (first | refine condK_p ?_ ?_ | refine condK_t ?_ | refine condK_f ?_ | refine condK_b ?_ ?_))) | (with_reducible (first | refine w_skip ?_ | refine w_exit ?_ | refine w_ret ?_ | refine thenK_r ?_ | refine thenK_e ?_ | refine blockK_r ?_ | refine blockK_x ?_ | refine blockK_y (by rfl) ?_ | refine loopK_r ?_ | refine loopK_e ?_ | refine w_label ?_)) | ((with_reducible (first | refine loopK_at ?_ | refine retK_r ?_ | refine retK_n ?_)); (conv => whnf)) | ((with_reducible refine w_head ?_); intro K_ hK_; (conv => whnf))) | ((with_reducible refine gv_more ?_); (conv => whnf)) | (intro hc; (try dsimp +instances only [Dat, SDat, dflt, Ty.size, keepS, bkUpd, Gv.bk, backS, wayA, maxI, minI, negI] at hc); (try simp only [Int.toNat_natCast, Int.toNat_zero, Int.toNat_one, Classical.not_not, boolOf_true, decide_eq_true_eq, decide_eq_false_iff_not, ne_eq, true_implies, not_true_eq_false, not_false_eq_true, Bool.not_eq_true, Prod.mk.injEq, and_true, true_and, forall_const, preA_f, selB_0, selB_1, boolOf_eq_false, rep1, rep2, rep3, List.length_set, List.length_append, List.length_map, List.length_cons, List.length_nil, List.length_replicate, Nat.zero_add, Nat.add_zero] at hc)))
  all_goals (try ((fail_if_success (with_reducible refine w_at ?_)); (fail_if_success refine Exists.intro (0 : Nat) (Exists.intro (_ : Alt _) ?_)); (try dsimp only [Dat, SDat, dflt, Ty.size, keepS, bkUpd, Gv.bk, backS, wayA, maxI, minI, negI]); (try simp only [Int.toNat_natCast, Int.toNat_zero, Int.toNat_one, Classical.not_not, boolOf_true, decide_eq_true_eq, decide_eq_false_iff_not, ne_eq, true_implies, not_true_eq_false, not_false_eq_true, Bool.not_eq_true, Prod.mk.injEq, and_true, true_and, forall_const, preA_f, selB_0, selB_1, boolOf_eq_false, rep1, rep2, rep3, List.length_set, List.length_append, List.length_map, List.length_cons, List.length_nil, List.length_replicate, Nat.zero_add, Nat.add_zero]); first | done | exact trivial | rfl | omega | exact boolOf_eq _ | (simp only [allP, lo, hi, room, true_and, and_true, implies_true]; done) | ((try simp only [allP, lo, hi, room, true_and, and_true, implies_true]); (repeat' (first | (with_reducible refine And.intro ?_ ?_) | ((with_reducible refine preA_t ?_ ?_); rotate_left; (focus (repeat (first | exact trivial | ((conv => whnf); refine And.intro (by rfl) ?_))))) | intro hv)) <;> (try omega))))
  all_goals (first
    | (refine Nat.le_trans (tok_len _) ?_; decide)
    | (refine Nat.le_trans (gram_len _ _) (Nat.le_trans (Nat.succ_le_succ (fold_len _)) ?_); decide)
    | exact hd1
    | exact hd2
    | exact hd3
    | exact hd4
    | (rw [hd5]; rfl)
    | exact hd6
    | exact hd7)
set_option maxRecDepth 100000 in
theorem ok_law03_head : SpecOK SP glob fi_law03_head S_law03_head := mk_ok (c := c_law03_head) (tab_ok _) mix_ok wf_law03_head (by decide) (.cons ok_words_Fold (.cons ok_words_Tokens (.cons ok_words_Grams (.cons ok_words_Common (.cons ok_ref03_Same .nil))))) (fun x hx => Nat.zero_lt_one) g_law03_head

@[reducible] noncomputable def S_law03_WordsMatchesReference : Spec := { ins := (.cons (.d .str) (.cons (.d tInt) (.cons (.d (.sl .str)) (.cons (.d (.sl .str)) .nil)))), pre := fun _ => True, alts := [{ outs := (.cons (.d .bool) .nil), res := (fun x => (fun text n a b => (true, ())) x.1 x.2.1 x.2.2.1 x.2.2.2.1) }], noisy := true }
noncomputable def c_law03_WordsMatchesReference : Cf := { cf_law03_WordsMatchesReference (Fl [(fi_law03_head, S_law03_head), (fi_words_Fold, S_words_Fold), (fi_ref03_Fold, S_ref03_Fold), (fi_words_Tokens, S_words_Tokens), (fi_ref03_Tokens, S_ref03_Tokens), (fi_words_Grams, S_words_Grams), (fi_ref03_Grams, S_ref03_Grams), (fi_words_Common, S_words_Common), (fi_ref03_Common, S_ref03_Common), (fi_ref03_Same, S_ref03_Same)]) with nz := true }
set_option maxRecDepth 100000 in
set_option maxHeartbeats 4000000 in
theorem g_law03_WordsMatchesReference : ∀ x, S_law03_WordsMatchesReference.pre x → shOK S_law03_WordsMatchesReference.ins x → fnGoal c_law03_WordsMatchesReference fn_law03_WordsMatchesReference S_law03_WordsMatchesReference x := by
  rintro ⟨text, n, a, b, ⟨⟩⟩ hpre hok
  clear hpre
  have hln := shLn_of _ hok; replace hok := Hd.mk hok; try simp only [shLn, datLn, inRng, lo, hi, maxLen, true_and, and_true] at hln
  have ht := tok_len text
  have hg := gram_len (foldT text) n
  have hf := fold_len text
  first | refine fn_goal (w_head ?_) | refine w_fn (w_head ?_) | refine fnL_goal (w_head ?_) | refine fnI_goal (w_head ?_)
  intro K_ hK_; (conv => whnf); (try dsimp +instances only); refine hK_ _ ?_; clear hK_ K_; (conv => (arg 2; whnf))
  repeat' (first | (with_reducible refine And.intro ?_ ?_) | ((try (with_reducible refine gv_more ?_)); first | ((with_reducible show K_ _); (try dsimp +instances only); (with_reducible refine hK_ _ ?_); clear hK_ K_) | (with_reducible (first | refine w_seq ?_ | refine thenK_n ?_ | refine w_block ?_ | refine blockK_n ?_)) | ((with_reducible refine w_region ?_); intro K_ hK_; (conv => whnf)) | ((with_reducible refine w_cond ?_); (conv => (arg 2; whnf)); (with_reducible (first | refine condK_p ?_ ?_ | refine condK_t ?_ | refine condK_f ?_ | refine condK_b ?_ ?_))) | (with_reducible (first | refine w_skip ?_ | refine w_exit ?_ | refine w_ret ?_ | refine thenK_r ?_ | refine thenK_e ?_ | refine blockK_r ?_ | refine blockK_x ?_ | refine blockK_y (by rfl) ?_ | refine loopK_r ?_ | refine loopK_e ?_ | refine w_label ?_)) | ((with_reducible (first | refine loopK_at ?_ | refine retK_r ?_ | refine retK_n ?_)); (conv => whnf)) | ((with_reducible refine w_head ?_); intro K_ hK_; (conv => whnf))) | ((with_reducible refine gv_more ?_); (conv => whnf)) | (intro hc; (try dsimp +instances only [Dat, SDat, dflt, Ty.size, keepS, bkUpd, Gv.bk, backS, wayA, maxI, minI, negI] at hc); (try simp only [Int.toNat_natCast, Int.toNat_zero, Int.toNat_one, Classical.not_not, boolOf_true, decide_eq_true_eq, decide_eq_false_iff_not, ne_eq, true_implies, not_true_eq_false, not_false_eq_true, Bool.not_eq_true, Prod.mk.injEq, and_true, true_and, forall_const, preA_f, selB_0, selB_1, boolOf_eq_false, rep1, rep2, rep3, List.length_set, List.length_append, List.length_map, List.length_cons, List.length_nil, List.length_replicate, Nat.zero_add, Nat.add_zero] at hc)))
  all_goals (try ((fail_if_success (with_reducible refine w_at ?_)); (fail_if_success refine Exists.intro (0 : Nat) (Exists.intro (_ : Alt _) ?_)); (try dsimp only [Dat, SDat, dflt, Ty.size, keepS, bkUpd, Gv.bk, backS, wayA, maxI, minI, negI]); (try simp only [Int.toNat_natCast, Int.toNat_zero, Int.toNat_one, Classical.not_not, boolOf_true, decide_eq_true_eq, decide_eq_false_iff_not, ne_eq, true_implies, not_true_eq_false, not_false_eq_true, Bool.not_eq_true, Prod.mk.injEq, and_true, true_and, forall_const, preA_f, selB_0, selB_1, boolOf_eq_false, rep1, rep2, rep3, List.length_set, List.length_append, List.length_map, List.length_cons, List.length_nil, List.length_replicate, Nat.zero_add, Nat.add_zero]); first | done | exact trivial | rfl | omega | exact boolOf_eq _ | (simp only [allP, lo, hi, room, true_and, and_true, implies_true]; done) | ((try simp only [allP, lo, hi, room, true_and, and_true, implies_true]); (repeat' (first | (with_reducible refine And.intro ?_ ?_) | ((with_reducible refine preA_t ?_ ?_); rotate_left; (focus (repeat (first | exact trivial | ((conv => whnf); refine And.intro (by rfl) ?_))))) | intro hv)) <;> (try omega))))
  all_goals omega
set_option maxRecDepth 100000 in
theorem ok_law03_WordsMatchesReference : SpecOK SP glob fi_law03_WordsMatchesReference S_law03_WordsMatchesReference := mk_ok (c := c_law03_WordsMatchesReference) (tab_ok _) mix_ok wf_law03_WordsMatchesReference (by decide) (.cons ok_law03_head (.cons ok_words_Fold (.cons ok_ref03_Fold (.cons ok_words_Tokens (.cons ok_ref03_Tokens (.cons ok_words_Grams (.cons ok_ref03_Grams (.cons ok_words_Common (.cons ok_ref03_Common (.cons ok_ref03_Same .nil)))))))))) (fun x hx => Nat.zero_lt_one) g_law03_WordsMatchesReference

theorem fold_chars {t : Bs} {k : Nat} (h : k < (foldT t).length) : wdC ((foldT t).getD k 0) ∨ ((foldT t).getD k 0 = 32 ∧ 0 < k ∧ k + 1 < (foldT t).length ∧ (foldT t).getD (k + 1) 0 ≠ 32) := join_chars (fun _ hx => Ws_wd hx) k h

@[reducible] noncomputable def S_law03_WordsFold : Spec := { ins := (.cons (.d .str) .nil), pre := fun _ => True, alts := [{ outs := (.cons (.d .bool) .nil), res := (fun x => (fun text => (true, ())) x.1) }], noisy := true }
noncomputable def c_law03_WordsFold : Cf := { cf_law03_WordsFold (Fl [(fi_law03_head, S_law03_head), (fi_words_Fold, S_words_Fold)]) with nz := true }
set_option maxRecDepth 100000 in
set_option maxHeartbeats 4000000 in
theorem g_law03_WordsFold : ∀ x, S_law03_WordsFold.pre x → shOK S_law03_WordsFold.ins x → fnGoal c_law03_WordsFold fn_law03_WordsFold S_law03_WordsFold x := by
  rintro ⟨text, ⟨⟩⟩ hpre hok
  clear hpre
  have hln := shLn_of _ hok; replace hok := Hd.mk hok; try simp only [shLn, datLn, inRng, lo, hi, maxLen, true_and, and_true] at hln
  have hf := fold_len text
  have hff := fold_fold text
  first | refine fn_goal (w_head ?_) | refine w_fn (w_head ?_) | refine fnL_goal (w_head ?_) | refine fnI_goal (w_head ?_)
  intro K_ hK_; (conv => whnf); (try dsimp +instances only); refine hK_ _ ?_; clear hK_ K_; (conv => (arg 2; whnf))
  repeat' (first | (with_reducible refine And.intro ?_ ?_) | ((try (with_reducible refine gv_more ?_)); first | ((with_reducible show K_ _); (try dsimp +instances only); (with_reducible refine hK_ _ ?_); clear hK_ K_) | (with_reducible (first | refine w_seq ?_ | refine thenK_n ?_ | refine w_block ?_ | refine blockK_n ?_)) | ((with_reducible refine w_region ?_); intro K_ hK_; (conv => whnf)) | ((with_reducible refine w_cond ?_); (conv => (arg 2; whnf)); (with_reducible (first | refine condK_p ?_ ?_ | refine condK_t ?_ | refine condK_f ?_ | refine condK_b ?_ ?_))) | (with_reducible (first | refine w_skip ?_ | refine w_exit ?_ | refine w_ret ?_ | refine thenK_r ?_ | refine thenK_e ?_ | refine blockK_r ?_ | refine blockK_x ?_ | refine blockK_y (by rfl) ?_ | refine loopK_r ?_ | refine loopK_e ?_ | refine w_label ?_)) | ((with_reducible (first | refine loopK_at ?_ | refine retK_r ?_ | refine retK_n ?_)); (conv => whnf)) | ((with_reducible refine w_head ?_); intro K_ hK_; (conv => whnf))) | ((with_reducible refine gv_more ?_); (conv => whnf)) | (intro hc; (try dsimp +instances only [Dat, SDat, dflt, Ty.size, keepS, bkUpd, Gv.bk, backS, wayA, maxI, minI, negI] at hc); (try simp only [Int.toNat_natCast, Int.toNat_zero, Int.toNat_one, Classical.not_not, boolOf_true, decide_eq_true_eq, decide_eq_false_iff_not, ne_eq, true_implies, not_true_eq_false, not_false_eq_true, Bool.not_eq_true, Prod.mk.injEq, and_true, true_and, forall_const, preA_f, selB_0, selB_1, boolOf_eq_false, rep1, rep2, rep3, List.length_set, List.length_append, List.length_map, List.length_cons, List.length_nil, List.length_replicate, Nat.zero_add, Nat.add_zero] at hc)))
  all_goals (try ((fail_if_success (with_reducible refine w_at ?_)); (fail_if_success refine Exists.intro (0 : Nat) (Exists.intro (_ : Alt _) ?_)); (try dsimp only [Dat, SDat, dflt, Ty.size, keepS, bkUpd, Gv.bk, backS, wayA, maxI, minI, negI]); (try simp only [Int.toNat_natCast, Int.toNat_zero, Int.toNat_one, Classical.not_not, boolOf_true, decide_eq_true_eq, decide_eq_false_iff_not, ne_eq, true_implies, not_true_eq_false, not_false_eq_true, Bool.not_eq_true, Prod.mk.injEq, and_true, true_and, forall_const, preA_f, selB_0, selB_1, boolOf_eq_false, rep1, rep2, rep3, List.length_set, List.length_append, List.length_map, List.length_cons, List.length_nil, List.length_replicate, Nat.zero_add, Nat.add_zero]); first | done | exact trivial | rfl | omega | exact boolOf_eq _ | (simp only [allP, lo, hi, room, true_and, and_true, implies_true]; done) | ((try simp only [allP, lo, hi, room, true_and, and_true, implies_true]); (repeat' (first | (with_reducible refine And.intro ?_ ?_) | ((with_reducible refine preA_t ?_ ?_); rotate_left; (focus (repeat (first | exact trivial | ((conv => whnf); refine And.intro (by rfl) ?_))))) | intro hv)) <;> (try omega))))
  refine w_loop [(5, .d tInt)] [] (fun y => ∃ k : Nat, y.1.1 = (k : Int) ∧ k ≤ (foldT text).length) (fun y => (foldT text).length - y.1.1.toNat) ?_
  conv => whnf
  refine And.intro ?_ ?_
  · exact ⟨0, rfl, Nat.zero_le _⟩
  rintro ⟨⟨_, ⟨⟩⟩, ⟨⟩⟩ ⟨k, rfl, hk⟩
  have hch := fun h => fold_chars (t := text) (k := k) h
  repeat' (first | (with_reducible refine And.intro ?_ ?_) | ((try (with_reducible refine gv_more ?_)); first | ((with_reducible show K_ _); (try dsimp +instances only); (with_reducible refine hK_ _ ?_); clear hK_ K_) | (with_reducible (first | refine w_seq ?_ | refine thenK_n ?_ | refine w_block ?_ | refine blockK_n ?_)) | ((with_reducible refine w_region ?_); intro K_ hK_; (conv => whnf)) | ((with_reducible refine w_cond ?_); (conv => (arg 2; whnf)); (with_reducible (first | refine condK_p ?_ ?_ | refine condK_t ?_ | refine condK_f ?_ | refine condK_b ?_ ?_))) | (with_reducible (first | refine w_skip ?_ | refine w_exit ?_ | refine w_ret ?_ | refine thenK_r ?_ | refine thenK_e ?_ | refine blockK_r ?_ | refine blockK_x ?_ | refine blockK_y (by rfl) ?_ | refine loopK_r ?_ | refine loopK_e ?_ | refine w_label ?_)) | ((with_reducible (first | refine loopK_at ?_ | refine retK_r ?_ | refine retK_n ?_)); (conv => whnf)) | ((with_reducible refine w_head ?_); intro K_ hK_; (conv => whnf))) | ((with_reducible refine gv_more ?_); (conv => whnf)) | (intro hc; (try dsimp +instances only [Dat, SDat, dflt, Ty.size, keepS, bkUpd, Gv.bk, backS, wayA, maxI, minI, negI] at hc); (try simp only [Int.toNat_natCast, Int.toNat_zero, Int.toNat_one, Classical.not_not, boolOf_true, decide_eq_true_eq, decide_eq_false_iff_not, ne_eq, true_implies, not_true_eq_false, not_false_eq_true, Bool.not_eq_true, Prod.mk.injEq, and_true, true_and, forall_const, preA_f, selB_0, selB_1, boolOf_eq_false, rep1, rep2, rep3, List.length_set, List.length_append, List.length_map, List.length_cons, List.length_nil, List.length_replicate, Nat.zero_add, Nat.add_zero] at hc)))
  all_goals (try ((fail_if_success (with_reducible refine w_at ?_)); (fail_if_success refine Exists.intro (0 : Nat) (Exists.intro (_ : Alt _) ?_)); (try dsimp only [Dat, SDat, dflt, Ty.size, keepS, bkUpd, Gv.bk, backS, wayA, maxI, minI, negI]); (try simp only [Int.toNat_natCast, Int.toNat_zero, Int.toNat_one, Classical.not_not, boolOf_true, decide_eq_true_eq, decide_eq_false_iff_not, ne_eq, true_implies, not_true_eq_false, not_false_eq_true, Bool.not_eq_true, Prod.mk.injEq, and_true, true_and, forall_const, preA_f, selB_0, selB_1, boolOf_eq_false, rep1, rep2, rep3, List.length_set, List.length_append, List.length_map, List.length_cons, List.length_nil, List.length_replicate, Nat.zero_add, Nat.add_zero]); first | done | exact trivial | rfl | omega | exact boolOf_eq _ | (simp only [allP, lo, hi, room, true_and, and_true, implies_true]; done) | ((try simp only [allP, lo, hi, room, true_and, and_true, implies_true]); (repeat' (first | (with_reducible refine And.intro ?_ ?_) | ((with_reducible refine preA_t ?_ ?_); rotate_left; (focus (repeat (first | exact trivial | ((conv => whnf); refine And.intro (by rfl) ?_))))) | intro hv)) <;> (try omega))))
  · exfalso
    obtain ⟨h1, h2⟩ := hc
    rcases hch (by omega) with h | ⟨h3, h4, h5, h6⟩
    · rw [wdC_iff] at h
      refine h1 ?_
      rcases h with h | h
      · exact .inl (by omega)
      · exact .inr (by omega)
    · refine h2 ⟨⟨⟨by rw [h3]; rfl, by omega⟩, by omega⟩, fun e => h6 ?_⟩
      rw [show ((k : Int) + 1).toNat = k + 1 by omega] at e
      refine UInt8.toNat_inj.1 ?_
      show _ = 32
      omega
  · exact ⟨k + 1, by omega, by omega⟩
set_option maxRecDepth 100000 in
theorem ok_law03_WordsFold : SpecOK SP glob fi_law03_WordsFold S_law03_WordsFold := mk_ok (c := c_law03_WordsFold) (tab_ok _) mix_ok wf_law03_WordsFold (by decide) (.cons ok_law03_head (.cons ok_words_Fold .nil)) (fun x hx => Nat.zero_lt_one) g_law03_WordsFold
end Go.Gv
