/- The statements of chapter 3: elements in common, and other cases of letters. -/
import Derived.Test.YtcioglingkccpaaL03b
set_option linter.all false
namespace Go.Gv
open Go Go.Proofs Go.Proofs.Ytcioglingkccpaa

theorem nodup_len {a b : List Bs} (ha : a.Nodup) (hb : b.Nodup) (h : ∀ z, z ∈ a ↔ z ∈ b) : a.length = b.length := by
  have e1 := (List.mergeSort_perm a (fun (x y : List UInt8) => decide (x ≤ y))).length_eq
  have e2 := (List.mergeSort_perm b (fun (x y : List UInt8) => decide (x ≤ y))).length_eq
  rw [merge_sorS ha] at e1
  rw [merge_sorS hb] at e2
  rw [← e1, ← e2, sorS_eq h]
theorem com_symm {a b : List Bs} (ha : incS a) (hb : incS b) : comS a b = comS b a :=
  nodup_len ((inc_nodup ha).filter _) ((inc_nodup hb).filter _) fun z => by
    simp only [List.mem_filter, decide_eq_true_eq]
    exact And.comm
theorem com_self (a : List Bs) : comS a a = a.length := by
  unfold comS
  rw [List.filter_eq_self.2]
  intro x hx
  simpa using hx
theorem filter_split (p : Bs → Bool) : ∀ (l : List Bs), (l.filter p).length + (l.filter fun x => !p x).length = l.length
  | [] => rfl
  | x :: l => by
    have := filter_split p l
    cases h : p x
    · rw [List.filter_cons_of_neg (by simp [h]), List.filter_cons_of_pos (by simp [h]), List.length_cons, List.length_cons]; omega
    · rw [List.filter_cons_of_pos (by simp [h]), List.filter_cons_of_neg (by simp [h]), List.length_cons, List.length_cons]; omega
theorem com_all {a b : List Bs} (ha : incS a) (hb : incS b) : comS a b + (sorS (a ++ b)).length = a.length + b.length := by
  have hz : (a ++ b.filter fun x => !decide (x ∈ a)).Nodup := by
    refine List.nodup_append.2 ⟨inc_nodup ha, (inc_nodup hb).filter _, fun x hx y hy e => ?_⟩
    subst e
    simp only [List.mem_filter, Bool.not_eq_true', decide_eq_false_iff_not] at hy
    exact hy.2 hx
  have hl := nodup_len (inc_nodup (sorS_inc (a ++ b))) hz fun z => by
    rw [sorS_mem, List.mem_append, List.mem_append, List.mem_filter]
    by_cases h : z ∈ a <;> simp [h]
  have hs := filter_split (fun x => decide (x ∈ a)) b
  rw [com_symm ha hb, hl, List.length_append]
  unfold comS
  omega
theorem comV_inc {a b : List Bs} (ha : incS a) (hb : incS b) : comV a b = (comS a b : Int) := by unfold comV; rw [if_pos ⟨ha, hb⟩]

@[reducible] noncomputable def S_law03_WordsCommon : Spec := { ins := (.cons (.d .str) (.cons (.d .str) .nil)), pre := fun _ => True, alts := [{ outs := (.cons (.d .bool) .nil), res := (fun x => (fun a b => (true, ())) x.1 x.2.1) }], noisy := true }
noncomputable def c_law03_WordsCommon : Cf := { cf_law03_WordsCommon (Fl [(fi_law03_head, S_law03_head), (fi_words_Tokens, S_words_Tokens), (fi_words_Common, S_words_Common), (fi_ref03_Sorted, S_ref03_Sorted)]) with nz := true }
set_option maxRecDepth 100000 in
set_option maxHeartbeats 4000000 in
theorem g_law03_WordsCommon : ∀ x, S_law03_WordsCommon.pre x → shOK S_law03_WordsCommon.ins x → fnGoal c_law03_WordsCommon fn_law03_WordsCommon S_law03_WordsCommon x := by
  rintro ⟨a, b, ⟨⟩⟩ hpre hok
  clear hpre
  have hln := shLn_of _ hok; replace hok := Hd.mk hok; try simp only [shLn, datLn, inRng, lo, hi, maxLen, true_and, and_true] at hln
  have hta := tok_len a
  have htb := tok_len b
  have hx := sorS_inc (Ws a)
  have hy := sorS_inc (Ws b)
  have e1 := comV_inc hx hy
  have e2 := comV_inc hy hx
  have e3 := comV_inc hx hx
  rw [com_self] at e3
  rw [com_symm hy hx] at e2
  have e4 := com_all hx hy
  have e5 := com_le (sorS (Ws a)) (sorS (Ws b))
  have e6 := com_le (sorS (Ws b)) (sorS (Ws a))
  rw [com_symm hy hx] at e6
  have e7 : (sorS (List.replicate 0 ([] : Bs) ++ sorS (Ws a) ++ sorS (Ws b))).length = (sorS (sorS (Ws a) ++ sorS (Ws b))).length := rfl
  first | refine fn_goal (w_head ?_) | refine w_fn (w_head ?_) | refine fnL_goal (w_head ?_) | refine fnI_goal (w_head ?_)
  intro K_ hK_; (conv => whnf); (try dsimp +instances only); refine hK_ _ ?_; clear hK_ K_; (conv => (arg 2; whnf))
  repeat' (first | (with_reducible refine And.intro ?_ ?_) | ((try (with_reducible refine gv_more ?_)); first | ((with_reducible show K_ _); (try dsimp +instances only); (with_reducible refine hK_ _ ?_); clear hK_ K_) | (with_reducible (first | refine w_seq ?_ | refine thenK_n ?_ | refine w_block ?_ | refine blockK_n ?_)) | ((with_reducible refine w_region ?_); intro K_ hK_; (conv => whnf)) | ((with_reducible refine w_cond ?_); (conv => (arg 2; whnf)); (with_reducible (first | refine condK_p ?_ ?_ | refine condK_t ?_ | refine condK_f ?_ | refine condK_b ?_ ?_))) | (with_reducible (first | refine w_skip ?_ | refine w_exit ?_ | refine w_ret ?_ | refine thenK_r ?_ | refine thenK_e ?_ | refine blockK_r ?_ | refine blockK_x ?_ | refine blockK_y (by rfl) ?_ | refine loopK_r ?_ | refine loopK_e ?_ | refine w_label ?_)) | ((with_reducible (first | refine loopK_at ?_ | refine retK_r ?_ | refine retK_n ?_)); (conv => whnf)) | ((with_reducible refine w_head ?_); intro K_ hK_; (conv => whnf))) | ((with_reducible refine gv_more ?_); (conv => whnf)) | (intro hc; (try dsimp +instances only [Dat, SDat, dflt, Ty.size, keepS, bkUpd, Gv.bk, backS, wayA, maxI, minI, negI] at hc); (try simp only [Int.toNat_natCast, Int.toNat_zero, Int.toNat_one, Classical.not_not, boolOf_true, decide_eq_true_eq, decide_eq_false_iff_not, ne_eq, true_implies, not_true_eq_false, not_false_eq_true, Bool.not_eq_true, Prod.mk.injEq, and_true, true_and, forall_const, preA_f, selB_0, selB_1, boolOf_eq_false, rep1, rep2, rep3, List.length_set, List.length_append, List.length_map, List.length_cons, List.length_nil, List.length_replicate, Nat.zero_add, Nat.add_zero] at hc)))
  all_goals (try ((fail_if_success (with_reducible refine w_at ?_)); (fail_if_success refine Exists.intro (0 : Nat) (Exists.intro (_ : Alt _) ?_)); (try dsimp only [Dat, SDat, dflt, Ty.size, keepS, bkUpd, Gv.bk, backS, wayA, maxI, minI, negI]); (try simp only [Int.toNat_natCast, Int.toNat_zero, Int.toNat_one, Classical.not_not, boolOf_true, decide_eq_true_eq, decide_eq_false_iff_not, ne_eq, true_implies, not_true_eq_false, not_false_eq_true, Bool.not_eq_true, Prod.mk.injEq, and_true, true_and, forall_const, preA_f, selB_0, selB_1, boolOf_eq_false, rep1, rep2, rep3, List.length_set, List.length_append, List.length_map, List.length_cons, List.length_nil, List.length_replicate, Nat.zero_add, Nat.add_zero]); first | done | exact trivial | rfl | omega | exact boolOf_eq _ | (simp only [allP, lo, hi, room, true_and, and_true, implies_true]; done) | ((try simp only [allP, lo, hi, room, true_and, and_true, implies_true]); (repeat' (first | (with_reducible refine And.intro ?_ ?_) | ((with_reducible refine preA_t ?_ ?_); rotate_left; (focus (repeat (first | exact trivial | ((conv => whnf); refine And.intro (by rfl) ?_))))) | intro hv)) <;> (try omega))))
  all_goals (rw [e1, e7]; omega)
set_option maxRecDepth 100000 in
theorem ok_law03_WordsCommon : SpecOK SP glob fi_law03_WordsCommon S_law03_WordsCommon := mk_ok (c := c_law03_WordsCommon) (tab_ok _) mix_ok wf_law03_WordsCommon (by decide) (.cons ok_law03_head (.cons ok_words_Tokens (.cons ok_words_Common (.cons ok_ref03_Sorted .nil)))) (fun x hx => Nat.zero_lt_one) g_law03_WordsCommon

/-- A byte, as its letter in lower case. -/
def lowJ (c : Int) : UInt8 := lowU (byteOf c)
theorem byte_back (c : UInt8) : byteOf (c.toNat : Int) = c := by unfold byteOf; simp
theorem lowJ_at (c : UInt8) : lowJ (c.toNat : Int) = lowU c := by unfold lowJ; rw [byte_back]
set_option maxRecDepth 100000 in
theorem lowJ_up : ∀ c : UInt8, 97 ≤ (c.toNat : Int) ∧ (c.toNat : Int) ≤ 122 → lowJ ((c.toNat : Int) - 32) = lowU c := by
  refine u8_all ?_
  decide
theorem Ws_low {l : List Int} {t : Bs} (h : l.map lowJ = t.map lowU) : Ws (l.map byteOf) = Ws t := wordsU_map _ _ [] (by rw [List.map_map]; exact h)

theorem byte_lt (c : UInt8) : (0 : Int) ≤ (c.toNat : Int) ∧ (c.toNat : Int) ≤ 255 := by
  have := c.toNat_lt
  omega

@[reducible] noncomputable def S_law03_WordsCase : Spec := { ins := (.cons (.d .str) (.cons (.d tBy) .nil)), pre := fun _ => True, alts := [{ outs := (.cons (.d .bool) .nil), res := (fun x => (fun text c => (true, ())) x.1 x.2.1) }], noisy := true }
noncomputable def c_law03_WordsCase : Cf := { cf_law03_WordsCase (Fl [(fi_law03_head, S_law03_head), (fi_words_Fold, S_words_Fold), (fi_words_Tokens, S_words_Tokens), (fi_ref03_Lower, S_ref03_Lower), (fi_ref03_Same, S_ref03_Same)]) with nz := true }
set_option maxRecDepth 100000 in
set_option maxHeartbeats 4000000 in
theorem g_law03_WordsCase : ∀ x, S_law03_WordsCase.pre x → shOK S_law03_WordsCase.ins x → fnGoal c_law03_WordsCase fn_law03_WordsCase S_law03_WordsCase x := by
  rintro ⟨text, c, ⟨⟩⟩ hpre hok
  clear hpre
  have hln := shLn_of _ hok; replace hok := Hd.mk hok; try simp only [shLn, datLn, inRng, lo, hi, maxLen, true_and, and_true] at hln
  have hcb : 0 ≤ c ∧ c ≤ 255 := hln.2
  have hz := low_byte hcb.1 hcb.2
  have ht := tok_len text
  first | refine fn_goal (w_head ?_) | refine w_fn (w_head ?_) | refine fnL_goal (w_head ?_) | refine fnI_goal (w_head ?_)
  intro K_ hK_; (conv => whnf); (try dsimp +instances only); refine hK_ _ ?_; clear hK_ K_; (conv => (arg 2; whnf))
  repeat' (first | (with_reducible refine And.intro ?_ ?_) | ((try (with_reducible refine gv_more ?_)); first | ((with_reducible show K_ _); (try dsimp +instances only); (with_reducible refine hK_ _ ?_); clear hK_ K_) | (with_reducible (first | refine w_seq ?_ | refine thenK_n ?_ | refine w_block ?_ | refine blockK_n ?_)) | ((with_reducible refine w_region ?_); intro K_ hK_; (conv => whnf)) | ((with_reducible refine w_cond ?_); (conv => (arg 2; whnf)); (with_reducible (first | refine condK_p ?_ ?_ | refine condK_t ?_ | refine condK_f ?_ | refine condK_b ?_ ?_))) | (with_reducible (first | refine w_skip ?_ | refine w_exit ?_ | refine w_ret ?_ | refine thenK_r ?_ | refine thenK_e ?_ | refine blockK_r ?_ | refine blockK_x ?_ | refine blockK_y (by rfl) ?_ | refine loopK_r ?_ | refine loopK_e ?_ | refine w_label ?_)) | ((with_reducible (first | refine loopK_at ?_ | refine retK_r ?_ | refine retK_n ?_)); (conv => whnf)) | ((with_reducible refine w_head ?_); intro K_ hK_; (conv => whnf))) | ((with_reducible refine gv_more ?_); (conv => whnf)) | (intro hc; (try dsimp +instances only [Dat, SDat, dflt, Ty.size, keepS, bkUpd, Gv.bk, backS, wayA, maxI, minI, negI] at hc); (try simp only [Int.toNat_natCast, Int.toNat_zero, Int.toNat_one, Classical.not_not, boolOf_true, decide_eq_true_eq, decide_eq_false_iff_not, ne_eq, true_implies, not_true_eq_false, not_false_eq_true, Bool.not_eq_true, Prod.mk.injEq, and_true, true_and, forall_const, preA_f, selB_0, selB_1, boolOf_eq_false, rep1, rep2, rep3, List.length_set, List.length_append, List.length_map, List.length_cons, List.length_nil, List.length_replicate, Nat.zero_add, Nat.add_zero] at hc)))
  all_goals (try ((fail_if_success (with_reducible refine w_at ?_)); (fail_if_success refine Exists.intro (0 : Nat) (Exists.intro (_ : Alt _) ?_)); (try dsimp only [Dat, SDat, dflt, Ty.size, keepS, bkUpd, Gv.bk, backS, wayA, maxI, minI, negI]); (try simp only [Int.toNat_natCast, Int.toNat_zero, Int.toNat_one, Classical.not_not, boolOf_true, decide_eq_true_eq, decide_eq_false_iff_not, ne_eq, true_implies, not_true_eq_false, not_false_eq_true, Bool.not_eq_true, Prod.mk.injEq, and_true, true_and, forall_const, preA_f, selB_0, selB_1, boolOf_eq_false, rep1, rep2, rep3, List.length_set, List.length_append, List.length_map, List.length_cons, List.length_nil, List.length_replicate, Nat.zero_add, Nat.add_zero]); first | done | exact trivial | rfl | omega | exact boolOf_eq _ | (simp only [allP, lo, hi, room, true_and, and_true, implies_true]; done) | ((try simp only [allP, lo, hi, room, true_and, and_true, implies_true]); (repeat' (first | (with_reducible refine And.intro ?_ ?_) | ((with_reducible refine preA_t ?_ ?_); rotate_left; (focus (repeat (first | exact trivial | ((conv => whnf); refine And.intro (by rfl) ?_))))) | intro hv)) <;> (try omega))))
  refine w_loop [(6, .row tBy), (7, .d tInt)] [] (fun y => ∃ k : Nat, y.1.2.1 = (k : Int) ∧ k ≤ text.length ∧ (y.1.1 : List Int).map lowJ = (text.take k).map lowU) (fun y => text.length - y.1.2.1.toNat) ?_
  conv => whnf
  refine And.intro ?_ ?_
  · exact ⟨0, rfl, Nat.zero_le _, rfl⟩
  rintro ⟨⟨out, _, ⟨⟩⟩, ⟨⟩⟩ ⟨k, rfl, hk, hi⟩
  have hi : List.map lowJ (out : List Int) = (text.take k).map lowU := hi
  have hol := congrArg List.length hi
  rw [List.length_map, List.length_map, List.length_take] at hol
  have hst : ∀ d : Int, (k : Int) < (text.length : Int) → lowJ d = lowU (List.getD text k 0) → List.map lowJ ((out : List Int) ++ [d]) = (text.take (k + 1)).map lowU := fun d h e => by
    have h' : k < text.length := by omega
    rw [List.take_succ_eq_append_getElem h', List.map_append, List.map_append, hi, List.map_singleton, List.map_singleton, e, getD_ok _ h']
  have hlz := lowU_zero (List.getD text k 0)
  have hl1 := lowJ_at (List.getD text k 0)
  have hl2 := lowJ_up (List.getD text k 0)
  have hlb := byte_lt (List.getD text k 0)
  have hfin : k = text.length → Ws (List.map byteOf (out : List Int)) = Ws text := fun h => Ws_low (by rw [hi, h, List.take_length])
  have hF : k = text.length → foldT (List.map byteOf (out : List Int)) = foldT text := fun h => by unfold foldT; rw [hfin h]
  repeat' (first | (with_reducible refine And.intro ?_ ?_) | ((try (with_reducible refine gv_more ?_)); first | ((with_reducible show K_ _); (try dsimp +instances only); (with_reducible refine hK_ _ ?_); clear hK_ K_) | (with_reducible (first | refine w_seq ?_ | refine thenK_n ?_ | refine w_block ?_ | refine blockK_n ?_)) | ((with_reducible refine w_region ?_); intro K_ hK_; (conv => whnf)) | ((with_reducible refine w_cond ?_); (conv => (arg 2; whnf)); (with_reducible (first | refine condK_p ?_ ?_ | refine condK_t ?_ | refine condK_f ?_ | refine condK_b ?_ ?_))) | (with_reducible (first | refine w_skip ?_ | refine w_exit ?_ | refine w_ret ?_ | refine thenK_r ?_ | refine thenK_e ?_ | refine blockK_r ?_ | refine blockK_x ?_ | refine blockK_y (by rfl) ?_ | refine loopK_r ?_ | refine loopK_e ?_ | refine w_label ?_)) | ((with_reducible (first | refine loopK_at ?_ | refine retK_r ?_ | refine retK_n ?_)); (conv => whnf)) | ((with_reducible refine w_head ?_); intro K_ hK_; (conv => whnf))) | ((with_reducible refine gv_more ?_); (conv => whnf)) | (intro hc; (try dsimp +instances only [Dat, SDat, dflt, Ty.size, keepS, bkUpd, Gv.bk, backS, wayA, maxI, minI, negI] at hc); (try simp only [Int.toNat_natCast, Int.toNat_zero, Int.toNat_one, Classical.not_not, boolOf_true, decide_eq_true_eq, decide_eq_false_iff_not, ne_eq, true_implies, not_true_eq_false, not_false_eq_true, Bool.not_eq_true, Prod.mk.injEq, and_true, true_and, forall_const, preA_f, selB_0, selB_1, boolOf_eq_false, rep1, rep2, rep3, List.length_set, List.length_append, List.length_map, List.length_cons, List.length_nil, List.length_replicate, Nat.zero_add, Nat.add_zero] at hc)))
  all_goals (try ((fail_if_success (with_reducible refine w_at ?_)); (fail_if_success refine Exists.intro (0 : Nat) (Exists.intro (_ : Alt _) ?_)); (try dsimp only [Dat, SDat, dflt, Ty.size, keepS, bkUpd, Gv.bk, backS, wayA, maxI, minI, negI]); (try simp only [Int.toNat_natCast, Int.toNat_zero, Int.toNat_one, Classical.not_not, boolOf_true, decide_eq_true_eq, decide_eq_false_iff_not, ne_eq, true_implies, not_true_eq_false, not_false_eq_true, Bool.not_eq_true, Prod.mk.injEq, and_true, true_and, forall_const, preA_f, selB_0, selB_1, boolOf_eq_false, rep1, rep2, rep3, List.length_set, List.length_append, List.length_map, List.length_cons, List.length_nil, List.length_replicate, Nat.zero_add, Nat.add_zero]); first | done | exact trivial | rfl | omega | exact boolOf_eq _ | (simp only [allP, lo, hi, room, true_and, and_true, implies_true]; done) | ((try simp only [allP, lo, hi, room, true_and, and_true, implies_true]); (repeat' (first | (with_reducible refine And.intro ?_ ?_) | ((with_reducible refine preA_t ?_ ?_); rotate_left; (focus (repeat (first | exact trivial | ((conv => whnf); refine And.intro (by rfl) ?_))))) | intro hv)) <;> (try omega))))
  all_goals (try (simp only [Gv.hi, maxLen]; omega))
  · refine ⟨k + 1, by omega, by omega, hst _ (by omega) ?_⟩
    rw [hlz.1 hc]
    exact hz (by omega)
  · exact ⟨k + 1, by omega, by omega, hst _ (by omega) (hl2 hc)⟩
  · exact ⟨k + 1, by omega, by omega, hst _ (by omega) hl1⟩
  all_goals (first
    | (rw [hfin (by omega)]; omega)
    | exact hF (by omega)
    | rw [hfin (by omega)])
set_option maxRecDepth 100000 in
theorem ok_law03_WordsCase : SpecOK SP glob fi_law03_WordsCase S_law03_WordsCase := mk_ok (c := c_law03_WordsCase) (tab_ok _) mix_ok wf_law03_WordsCase (by decide) (.cons ok_law03_head (.cons ok_words_Fold (.cons ok_words_Tokens (.cons ok_ref03_Lower (.cons ok_ref03_Same .nil))))) (fun x hx => Nat.zero_lt_one) g_law03_WordsCase
end Go.Gv
