/- The statements of chapter 3: joins and tokens. -/
import Derived.Test.YtcioglingkccpaaL03
set_option linter.all false
namespace Go.Gv
open Go Go.Proofs Go.Proofs.Ytcioglingkccpaa

theorem join_appW (sep : Bs) : ∀ (l r : List Bs), l ≠ [] → r ≠ [] → Lib.join (l ++ r) sep = Lib.join l sep ++ sep ++ Lib.join r sep
  | [], _, h, _ => (h rfl).elim
  | [x], r, _, hr => by
    cases r with
    | nil => exact (hr rfl).elim
    | cons y r => rw [Lib.join_one]; exact join_two x y r sep
  | x :: y :: l, r, _, hr => by
    rw [List.cons_append, List.cons_append, join_two, join_two, ← List.cons_append, join_appW sep (y :: l) r (by simp) hr]
    simp
theorem fold_sep {c : UInt8} (hc : lowU c = 0) (a b : Bs) : foldT (a ++ c :: b) = if foldT a = [] ∨ foldT b = [] then foldT a ++ foldT b else foldT a ++ [32] ++ foldT b := by
  rw [show foldT (a ++ c :: b) = Lib.join (Ws a ++ Ws b) [32] by rw [foldT, Ws_sep hc]]
  by_cases h1 : Ws a = []
  · rw [if_pos (.inl (fold_nil.2 h1)), h1, fold_nil.2 h1]; rfl
  · by_cases h2 : Ws b = []
    · rw [if_pos (.inr (fold_nil.2 h2)), h2, fold_nil.2 h2, List.append_nil, List.append_nil]; rfl
    · rw [if_neg fun h => h.elim (fun h => h1 (fold_nil.1 h)) fun h => h2 (fold_nil.1 h), join_appW _ _ _ h1 h2]; rfl
theorem tok_sep {c : UInt8} (hc : lowU c = 0) (a b : Bs) : sorS (Ws (a ++ c :: b)) = sorS (sorS (Ws a) ++ sorS (Ws b)) := sorS_eq fun z => by
  rw [Ws_sep hc, List.mem_append, List.mem_append, sorS_mem, sorS_mem]

theorem low_byte {c : Int} (h0 : 0 ≤ c) (h1 : c ≤ 255) (h : lowB c = 0) : lowU (byteOf c) = 0 := by
  have e : ((byteOf c).toNat : Int) = c := by
    unfold byteOf
    rw [UInt8.toNat_ofNat']
    omega
  rw [← lowU_zero, e]; exact h

@[reducible] noncomputable def S_law03_WordsJoins : Spec := { ins := (.cons (.d .str) (.cons (.d .str) (.cons (.d tBy) .nil))), pre := fun _ => True, alts := [{ outs := (.cons (.d .bool) .nil), res := (fun x => (fun a b c => (true, ())) x.1 x.2.1 x.2.2.1) }], noisy := true }
noncomputable def c_law03_WordsJoins : Cf := { cf_law03_WordsJoins (Fl [(fi_law03_head, S_law03_head), (fi_words_Fold, S_words_Fold), (fi_words_Tokens, S_words_Tokens), (fi_ref03_Lower, S_ref03_Lower), (fi_ref03_Sorted, S_ref03_Sorted), (fi_ref03_Same, S_ref03_Same)]) with nz := true }
set_option maxRecDepth 100000 in
set_option maxHeartbeats 4000000 in
theorem g_law03_WordsJoins : ∀ x, S_law03_WordsJoins.pre x → shOK S_law03_WordsJoins.ins x → fnGoal c_law03_WordsJoins fn_law03_WordsJoins S_law03_WordsJoins x := by
  rintro ⟨a, b, c, ⟨⟩⟩ hpre hok
  clear hpre
  have hln := shLn_of _ hok; replace hok := Hd.mk hok; try simp only [shLn, datLn, inRng, lo, hi, maxLen, true_and, and_true] at hln
  have hta := tok_len a
  have htb := tok_len b
  have hfa := fold_len a
  have hfb := fold_len b
  have hcb : 0 ≤ c ∧ c ≤ 255 := hln.2.2
  have hz := low_byte hcb.1 hcb.2
  have hF : lowB c = 0 → foldT (a ++ List.map byteOf [c] ++ b) = if foldT a = [] ∨ foldT b = [] then foldT a ++ foldT b else foldT a ++ [32] ++ foldT b := fun h => by
    rw [List.map_singleton, List.append_assoc, List.singleton_append]; exact fold_sep (hz h) a b
  have hT : lowB c = 0 → sorS (Ws (a ++ List.map byteOf [c] ++ b)) = sorS (List.replicate 0 [] ++ sorS (Ws a) ++ sorS (Ws b)) := fun h => by
    rw [List.map_singleton, List.append_assoc, List.singleton_append]; exact tok_sep (hz h) a b
  have hL1 := tok_len (a ++ List.map byteOf [c] ++ b)
  have hL2 := sorS_len (List.replicate 0 [] ++ sorS (Ws a) ++ sorS (Ws b)) []
  have hL3 : (sorS (List.replicate 0 [] ++ sorS (Ws a) ++ sorS (Ws b))).length ≤ (List.replicate 0 ([] : Bs) ++ sorS (Ws a) ++ sorS (Ws b)).length + ([] : List Bs).length := hL2
  simp only [List.length_append, List.length_map, List.length_cons, List.length_nil, List.length_replicate] at hL1 hL3
  first | refine fn_goal (w_head ?_) | refine w_fn (w_head ?_) | refine fnL_goal (w_head ?_) | refine fnI_goal (w_head ?_)
  intro K_ hK_; (conv => whnf); (try dsimp +instances only); refine hK_ _ ?_; clear hK_ K_; (conv => (arg 2; whnf))
  repeat' (first | (with_reducible refine And.intro ?_ ?_) | ((try (with_reducible refine gv_more ?_)); first | ((with_reducible show K_ _); (try dsimp +instances only); (with_reducible refine hK_ _ ?_); clear hK_ K_) | (with_reducible (first | refine w_seq ?_ | refine thenK_n ?_ | refine w_block ?_ | refine blockK_n ?_)) | ((with_reducible refine w_region ?_); intro K_ hK_; (conv => whnf)) | ((with_reducible refine w_cond ?_); (conv => (arg 2; whnf)); (with_reducible (first | refine condK_p ?_ ?_ | refine condK_t ?_ | refine condK_f ?_ | refine condK_b ?_ ?_))) | (with_reducible (first | refine w_skip ?_ | refine w_exit ?_ | refine w_ret ?_ | refine thenK_r ?_ | refine thenK_e ?_ | refine blockK_r ?_ | refine blockK_x ?_ | refine blockK_y (by rfl) ?_ | refine loopK_r ?_ | refine loopK_e ?_ | refine w_label ?_)) | ((with_reducible (first | refine loopK_at ?_ | refine retK_r ?_ | refine retK_n ?_)); (conv => whnf)) | ((with_reducible refine w_head ?_); intro K_ hK_; (conv => whnf))) | ((with_reducible refine gv_more ?_); (conv => whnf)) | (intro hc; (try dsimp +instances only [Dat, SDat, dflt, Ty.size, keepS, bkUpd, Gv.bk, backS, wayA, maxI, minI, negI] at hc); (try simp only [Int.toNat_natCast, Int.toNat_zero, Int.toNat_one, Classical.not_not, boolOf_true, decide_eq_true_eq, decide_eq_false_iff_not, ne_eq, true_implies, not_true_eq_false, not_false_eq_true, Bool.not_eq_true, Prod.mk.injEq, and_true, true_and, forall_const, preA_f, selB_0, selB_1, boolOf_eq_false, rep1, rep2, rep3, List.length_set, List.length_append, List.length_map, List.length_cons, List.length_nil, List.length_replicate, Nat.zero_add, Nat.add_zero] at hc)))
  all_goals (try ((fail_if_success (with_reducible refine w_at ?_)); (fail_if_success refine Exists.intro (0 : Nat) (Exists.intro (_ : Alt _) ?_)); (try dsimp only [Dat, SDat, dflt, Ty.size, keepS, bkUpd, Gv.bk, backS, wayA, maxI, minI, negI]); (try simp only [Int.toNat_natCast, Int.toNat_zero, Int.toNat_one, Classical.not_not, boolOf_true, decide_eq_true_eq, decide_eq_false_iff_not, ne_eq, true_implies, not_true_eq_false, not_false_eq_true, Bool.not_eq_true, Prod.mk.injEq, and_true, true_and, forall_const, preA_f, selB_0, selB_1, boolOf_eq_false, rep1, rep2, rep3, List.length_set, List.length_append, List.length_map, List.length_cons, List.length_nil, List.length_replicate, Nat.zero_add, Nat.add_zero]); first | done | exact trivial | rfl | omega | exact boolOf_eq _ | (simp only [allP, lo, hi, room, true_and, and_true, implies_true]; done) | ((try simp only [allP, lo, hi, room, true_and, and_true, implies_true]); (repeat' (first | (with_reducible refine And.intro ?_ ?_) | ((with_reducible refine preA_t ?_ ?_); rotate_left; (focus (repeat (first | exact trivial | ((conv => whnf); refine And.intro (by rfl) ?_))))) | intro hv)) <;> (try omega))))
  all_goals
    have hz0 : lowB c = 0 := by omega
    first
      | (simp only [maxLen]; omega)
      | exact hT hz0
      | (rw [hF hz0, if_pos hc])
      | (rw [hF hz0, if_neg hc])
      | (rename_i h; rw [hF hz0, if_pos h])
      | (rename_i h; rw [hF hz0, if_neg h])
set_option maxRecDepth 100000 in
theorem ok_law03_WordsJoins : SpecOK SP glob fi_law03_WordsJoins S_law03_WordsJoins := mk_ok (c := c_law03_WordsJoins) (tab_ok _) mix_ok wf_law03_WordsJoins (by decide) (.cons ok_law03_head (.cons ok_words_Fold (.cons ok_words_Tokens (.cons ok_ref03_Lower (.cons ok_ref03_Sorted (.cons ok_ref03_Same .nil)))))) (fun x hx => Nat.zero_lt_one) g_law03_WordsJoins

/-- Texts in reverse order, with commas. -/
def turnT (l : List Bs) : Bs := l.foldl (fun t x => x ++ [44] ++ t) []
theorem turn_snoc (l : List Bs) (x : Bs) : turnT (l ++ [x]) = x ++ [44] ++ turnT l := by unfold turnT; rw [List.foldl_append]; rfl
theorem low44 : lowU 44 = 0 := by decide
theorem low10 : lowU 10 = 0 := by decide
theorem Ws_turn : ∀ (k : Nat) (l : List Bs), (∀ x ∈ l, Wd x) → ∀ z, z ∈ Ws (turnT (l.take k)) ↔ z ∈ l.take k
  | 0, l, _, z => by simp [turnT, Ws_nil]
  | k + 1, l, h, z => by
    by_cases hk : k < l.length
    · rw [List.take_succ_eq_append_getElem hk, turn_snoc, List.append_assoc, List.singleton_append, Ws_sep low44, Ws_one (h _ (List.getElem_mem hk)), List.mem_append, List.mem_append, Ws_turn k l h z]
      exact Or.comm
    · rw [List.take_of_length_le (by omega), ← List.take_of_length_le (l := l) (i := k) (by omega)]
      exact Ws_turn k l h z
theorem tok_turn (t : Bs) : sorS (Ws (turnT (sorS (Ws t)))) = sorS (Ws t) := by
  have h := Ws_turn (sorS (Ws t)).length (sorS (Ws t)) (fun x hx => Ws_wd (sorS_mem.1 hx))
  rw [List.take_length] at h
  exact (sorS_eq h).trans (sorS_self (sorS_inc _))
theorem tok_twice {c : UInt8} (hc : lowU c = 0) (t : Bs) : sorS (Ws (t ++ [c] ++ t)) = sorS (Ws t) := sorS_eq fun z => by
  rw [List.append_assoc, List.singleton_append, Ws_sep hc, List.mem_append]; exact or_self_iff
theorem tok_short {t x : Bs} (h : x ∈ sorS (Ws t)) : x.length ≤ t.length := by
  have h := sorS_mem.1 h
  have hm : ∀ (l : List Bs), x ∈ l → x.length ≤ (Lib.join l [32]).length := fun l hx => by
    induction l with
    | nil => cases hx
    | cons y l ih =>
      cases l with
      | nil =>
        rw [List.mem_singleton] at hx; subst hx
        rw [Lib.join_one]; exact Nat.le_refl _
      | cons z l =>
        rw [join_two]
        simp only [List.length_append]
        rcases List.mem_cons.1 hx with rfl | hx
        · omega
        · have := ih hx; omega
  exact Nat.le_trans (hm _ h) (fold_len t)
theorem turn_step {l : List Bs} {k : Nat} (h : k < l.length) : turnT (l.take (k + 1)) = l.getD k [] ++ [44] ++ turnT (l.take k) := by
  rw [List.take_succ_eq_append_getElem h, turn_snoc, getD_ok _ h]

@[reducible] noncomputable def S_law03_WordsTokens : Spec := { ins := (.cons (.d .str) .nil), pre := fun _ => True, alts := [{ outs := (.cons (.d .bool) .nil), res := (fun x => (fun text => (true, ())) x.1) }], noisy := true }
noncomputable def c_law03_WordsTokens : Cf := { cf_law03_WordsTokens (Fl [(fi_law03_head, S_law03_head), (fi_words_Fold, S_words_Fold), (fi_words_Tokens, S_words_Tokens), (fi_ref03_Words, S_ref03_Words), (fi_ref03_In, S_ref03_In), (fi_ref03_Increasing, S_ref03_Increasing), (fi_ref03_Same, S_ref03_Same)]) with nz := true }
set_option maxRecDepth 100000 in
set_option maxHeartbeats 4000000 in
theorem g_law03_WordsTokens : ∀ x, S_law03_WordsTokens.pre x → shOK S_law03_WordsTokens.ins x → fnGoal c_law03_WordsTokens fn_law03_WordsTokens S_law03_WordsTokens x := by
  rintro ⟨text, ⟨⟩⟩ hpre hok
  clear hpre
  have hln := shLn_of _ hok; replace hok := Hd.mk hok; try simp only [shLn, datLn, inRng, lo, hi, maxLen, true_and, and_true] at hln
  have ht := tok_len text
  have hf := fold_len text
  have hw := Ws_len (foldT text)
  first | refine fn_goal (w_head ?_) | refine w_fn (w_head ?_) | refine fnL_goal (w_head ?_) | refine fnI_goal (w_head ?_)
  intro K_ hK_; (conv => whnf); (try dsimp +instances only); refine hK_ _ ?_; clear hK_ K_; (conv => (arg 2; whnf))
  repeat' (first | (with_reducible refine And.intro ?_ ?_) | ((try (with_reducible refine gv_more ?_)); first | ((with_reducible show K_ _); (try dsimp +instances only); (with_reducible refine hK_ _ ?_); clear hK_ K_) | (with_reducible (first | refine w_seq ?_ | refine thenK_n ?_ | refine w_block ?_ | refine blockK_n ?_)) | ((with_reducible refine w_region ?_); intro K_ hK_; (conv => whnf)) | ((with_reducible refine w_cond ?_); (conv => (arg 2; whnf)); (with_reducible (first | refine condK_p ?_ ?_ | refine condK_t ?_ | refine condK_f ?_ | refine condK_b ?_ ?_))) | (with_reducible (first | refine w_skip ?_ | refine w_exit ?_ | refine w_ret ?_ | refine thenK_r ?_ | refine thenK_e ?_ | refine blockK_r ?_ | refine blockK_x ?_ | refine blockK_y (by rfl) ?_ | refine loopK_r ?_ | refine loopK_e ?_ | refine w_label ?_)) | ((with_reducible (first | refine loopK_at ?_ | refine retK_r ?_ | refine retK_n ?_)); (conv => whnf)) | ((with_reducible refine w_head ?_); intro K_ hK_; (conv => whnf))) | ((with_reducible refine gv_more ?_); (conv => whnf)) | (intro hc; (try dsimp +instances only [Dat, SDat, dflt, Ty.size, keepS, bkUpd, Gv.bk, backS, wayA, maxI, minI, negI] at hc); (try simp only [Int.toNat_natCast, Int.toNat_zero, Int.toNat_one, Classical.not_not, boolOf_true, decide_eq_true_eq, decide_eq_false_iff_not, ne_eq, true_implies, not_true_eq_false, not_false_eq_true, Bool.not_eq_true, Prod.mk.injEq, and_true, true_and, forall_const, preA_f, selB_0, selB_1, boolOf_eq_false, rep1, rep2, rep3, List.length_set, List.length_append, List.length_map, List.length_cons, List.length_nil, List.length_replicate, Nat.zero_add, Nat.add_zero] at hc)))
  all_goals (try ((fail_if_success (with_reducible refine w_at ?_)); (fail_if_success refine Exists.intro (0 : Nat) (Exists.intro (_ : Alt _) ?_)); (try dsimp only [Dat, SDat, dflt, Ty.size, keepS, bkUpd, Gv.bk, backS, wayA, maxI, minI, negI]); (try simp only [Int.toNat_natCast, Int.toNat_zero, Int.toNat_one, Classical.not_not, boolOf_true, decide_eq_true_eq, decide_eq_false_iff_not, ne_eq, true_implies, not_true_eq_false, not_false_eq_true, Bool.not_eq_true, Prod.mk.injEq, and_true, true_and, forall_const, preA_f, selB_0, selB_1, boolOf_eq_false, rep1, rep2, rep3, List.length_set, List.length_append, List.length_map, List.length_cons, List.length_nil, List.length_replicate, Nat.zero_add, Nat.add_zero]); first | done | exact trivial | rfl | omega | exact boolOf_eq _ | (simp only [allP, lo, hi, room, true_and, and_true, implies_true]; done) | ((try simp only [allP, lo, hi, room, true_and, and_true, implies_true]); (repeat' (first | (with_reducible refine And.intro ?_ ?_) | ((with_reducible refine preA_t ?_ ?_); rotate_left; (focus (repeat (first | exact trivial | ((conv => whnf); refine And.intro (by rfl) ?_))))) | intro hv)) <;> (try omega))))
  refine w_loop [(6, .d .str), (7, .d tInt)] [] (fun y => ∃ k : Nat, y.1.2.1 = (k : Int) ∧ k ≤ (sorS (Ws text)).length ∧ y.1.1 = turnT ((sorS (Ws text)).take k) ∧ List.length y.1.1 ≤ k * 501) (fun y => (sorS (Ws text)).length - y.1.2.1.toNat) ?_
  conv => whnf
  refine And.intro ?_ ?_
  · exact ⟨0, rfl, Nat.zero_le _, rfl, Nat.le_refl _⟩
  rintro ⟨⟨tu, _, ⟨⟩⟩, ⟨⟩⟩ ⟨k, rfl, hk, htu, hl⟩
  dsimp only at htu hl
  have hmem := fun (h : k < (sorS (Ws text)).length) => getD_mem (l := sorS (Ws text)) (d := []) (k := k) h
  have hsh := fun h => tok_short (hmem h)
  have hin : k < (sorS (Ws text)).length → (sorS (Ws text)).getD k [] ∈ Ws (foldT text) := fun h => by
    rw [Ws_fold]; exact sorS_mem.1 (hmem h)
  repeat' (first | (with_reducible refine And.intro ?_ ?_) | ((try (with_reducible refine gv_more ?_)); first | ((with_reducible show K_ _); (try dsimp +instances only); (with_reducible refine hK_ _ ?_); clear hK_ K_) | (with_reducible (first | refine w_seq ?_ | refine thenK_n ?_ | refine w_block ?_ | refine blockK_n ?_)) | ((with_reducible refine w_region ?_); intro K_ hK_; (conv => whnf)) | ((with_reducible refine w_cond ?_); (conv => (arg 2; whnf)); (with_reducible (first | refine condK_p ?_ ?_ | refine condK_t ?_ | refine condK_f ?_ | refine condK_b ?_ ?_))) | (with_reducible (first | refine w_skip ?_ | refine w_exit ?_ | refine w_ret ?_ | refine thenK_r ?_ | refine thenK_e ?_ | refine blockK_r ?_ | refine blockK_x ?_ | refine blockK_y (by rfl) ?_ | refine loopK_r ?_ | refine loopK_e ?_ | refine w_label ?_)) | ((with_reducible (first | refine loopK_at ?_ | refine retK_r ?_ | refine retK_n ?_)); (conv => whnf)) | ((with_reducible refine w_head ?_); intro K_ hK_; (conv => whnf))) | ((with_reducible refine gv_more ?_); (conv => whnf)) | (intro hc; (try dsimp +instances only [Dat, SDat, dflt, Ty.size, keepS, bkUpd, Gv.bk, backS, wayA, maxI, minI, negI] at hc); (try simp only [Int.toNat_natCast, Int.toNat_zero, Int.toNat_one, Classical.not_not, boolOf_true, decide_eq_true_eq, decide_eq_false_iff_not, ne_eq, true_implies, not_true_eq_false, not_false_eq_true, Bool.not_eq_true, Prod.mk.injEq, and_true, true_and, forall_const, preA_f, selB_0, selB_1, boolOf_eq_false, rep1, rep2, rep3, List.length_set, List.length_append, List.length_map, List.length_cons, List.length_nil, List.length_replicate, Nat.zero_add, Nat.add_zero] at hc)))
  all_goals (try ((fail_if_success (with_reducible refine w_at ?_)); (fail_if_success refine Exists.intro (0 : Nat) (Exists.intro (_ : Alt _) ?_)); (try dsimp only [Dat, SDat, dflt, Ty.size, keepS, bkUpd, Gv.bk, backS, wayA, maxI, minI, negI]); (try simp only [Int.toNat_natCast, Int.toNat_zero, Int.toNat_one, Classical.not_not, boolOf_true, decide_eq_true_eq, decide_eq_false_iff_not, ne_eq, true_implies, not_true_eq_false, not_false_eq_true, Bool.not_eq_true, Prod.mk.injEq, and_true, true_and, forall_const, preA_f, selB_0, selB_1, boolOf_eq_false, rep1, rep2, rep3, List.length_set, List.length_append, List.length_map, List.length_cons, List.length_nil, List.length_replicate, Nat.zero_add, Nat.add_zero]); first | done | exact trivial | rfl | omega | exact boolOf_eq _ | (simp only [allP, lo, hi, room, true_and, and_true, implies_true]; done) | ((try simp only [allP, lo, hi, room, true_and, and_true, implies_true]); (repeat' (first | (with_reducible refine And.intro ?_ ?_) | ((with_reducible refine preA_t ?_ ?_); rotate_left; (focus (repeat (first | exact trivial | ((conv => whnf); refine And.intro (by rfl) ?_))))) | intro hv)) <;> (try omega))))
  all_goals (try (have hs := hsh (by omega); have hs2 : ((sorS (Ws text)).getD k []).length ≤ text.length := hs; simp only [maxLen]; omega))
  all_goals (try (exact absurd (hin (by omega)) hc))
  · refine ⟨k + 1, by omega, by omega, ?_, ?_⟩
    · rw [htu, turn_step (by omega)]
    · have hs2 : ((sorS (Ws text)).getD k []).length ≤ text.length := hsh (by omega)
      omega
  have htu : tu = turnT (sorS (Ws text)) := by rw [htu, List.take_of_length_le (by omega)]
  have hl : List.length tu ≤ 501 * 501 := by omega
  refine w_loop [(8, .d tInt)] [] (fun y => ∃ k : Nat, y.1.1 = (k : Int) ∧ k ≤ (Ws (foldT text)).length) (fun y => (Ws (foldT text)).length - y.1.1.toNat) ?_
  conv => whnf
  refine And.intro ?_ ?_
  · exact ⟨0, rfl, Nat.zero_le _⟩
  rintro ⟨⟨_, ⟨⟩⟩, ⟨⟩⟩ ⟨k, rfl, hk⟩
  have hmem := fun (h : k < (Ws (foldT text)).length) => getD_mem (l := Ws (foldT text)) (d := []) (k := k) h
  have hmt : k < (Ws (foldT text)).length → (Ws (foldT text)).getD k [] ∈ sorS (Ws text) := fun h => by
    have h1 := hmem h
    rw [Ws_fold] at h1 ⊢
    exact sorS_mem.2 h1
  have hT1 := tok_turn text
  have hT2 := tok_twice low10 text
  rw [← htu] at hT1
  repeat' (first | (with_reducible refine And.intro ?_ ?_) | ((try (with_reducible refine gv_more ?_)); first | ((with_reducible show K_ _); (try dsimp +instances only); (with_reducible refine hK_ _ ?_); clear hK_ K_) | (with_reducible (first | refine w_seq ?_ | refine thenK_n ?_ | refine w_block ?_ | refine blockK_n ?_)) | ((with_reducible refine w_region ?_); intro K_ hK_; (conv => whnf)) | ((with_reducible refine w_cond ?_); (conv => (arg 2; whnf)); (with_reducible (first | refine condK_p ?_ ?_ | refine condK_t ?_ | refine condK_f ?_ | refine condK_b ?_ ?_))) | (with_reducible (first | refine w_skip ?_ | refine w_exit ?_ | refine w_ret ?_ | refine thenK_r ?_ | refine thenK_e ?_ | refine blockK_r ?_ | refine blockK_x ?_ | refine blockK_y (by rfl) ?_ | refine loopK_r ?_ | refine loopK_e ?_ | refine w_label ?_)) | ((with_reducible (first | refine loopK_at ?_ | refine retK_r ?_ | refine retK_n ?_)); (conv => whnf)) | ((with_reducible refine w_head ?_); intro K_ hK_; (conv => whnf))) | ((with_reducible refine gv_more ?_); (conv => whnf)) | (intro hc; (try dsimp +instances only [Dat, SDat, dflt, Ty.size, keepS, bkUpd, Gv.bk, backS, wayA, maxI, minI, negI] at hc); (try simp only [Int.toNat_natCast, Int.toNat_zero, Int.toNat_one, Classical.not_not, boolOf_true, decide_eq_true_eq, decide_eq_false_iff_not, ne_eq, true_implies, not_true_eq_false, not_false_eq_true, Bool.not_eq_true, Prod.mk.injEq, and_true, true_and, forall_const, preA_f, selB_0, selB_1, boolOf_eq_false, rep1, rep2, rep3, List.length_set, List.length_append, List.length_map, List.length_cons, List.length_nil, List.length_replicate, Nat.zero_add, Nat.add_zero] at hc)))
  all_goals (try ((fail_if_success (with_reducible refine w_at ?_)); (fail_if_success refine Exists.intro (0 : Nat) (Exists.intro (_ : Alt _) ?_)); (try dsimp only [Dat, SDat, dflt, Ty.size, keepS, bkUpd, Gv.bk, backS, wayA, maxI, minI, negI]); (try simp only [Int.toNat_natCast, Int.toNat_zero, Int.toNat_one, Classical.not_not, boolOf_true, decide_eq_true_eq, decide_eq_false_iff_not, ne_eq, true_implies, not_true_eq_false, not_false_eq_true, Bool.not_eq_true, Prod.mk.injEq, and_true, true_and, forall_const, preA_f, selB_0, selB_1, boolOf_eq_false, rep1, rep2, rep3, List.length_set, List.length_append, List.length_map, List.length_cons, List.length_nil, List.length_replicate, Nat.zero_add, Nat.add_zero]); first | done | exact trivial | rfl | omega | exact boolOf_eq _ | (simp only [allP, lo, hi, room, true_and, and_true, implies_true]; done) | ((try simp only [allP, lo, hi, room, true_and, and_true, implies_true]); (repeat' (first | (with_reducible refine And.intro ?_ ?_) | ((with_reducible refine preA_t ?_ ?_); rotate_left; (focus (repeat (first | exact trivial | ((conv => whnf); refine And.intro (by rfl) ?_))))) | intro hv)) <;> (try omega))))
  all_goals (try (exact absurd (hmt (by omega)) hc))
  · exact ⟨k + 1, by omega, by omega⟩
  all_goals (first
    | exact hT1
    | exact hT2
    | exact sorS_inc _
    | (rw [hT1]; omega)
    | (rw [hT2]; omega)
    | (simp only [maxLen]; omega)
    | skip)
set_option maxRecDepth 100000 in
theorem ok_law03_WordsTokens : SpecOK SP glob fi_law03_WordsTokens S_law03_WordsTokens := mk_ok (c := c_law03_WordsTokens) (tab_ok _) mix_ok wf_law03_WordsTokens (by decide) (.cons ok_law03_head (.cons ok_words_Fold (.cons ok_words_Tokens (.cons ok_ref03_Words (.cons ok_ref03_In (.cons ok_ref03_Increasing (.cons ok_ref03_Same .nil))))))) (fun x hx => Nat.zero_lt_one) g_law03_WordsTokens
end Go.Gv
