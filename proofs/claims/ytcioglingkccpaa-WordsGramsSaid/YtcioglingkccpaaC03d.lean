/- Chapter 3: grams, elements in common. -/
import Derived.Test.YtcioglingkccpaaC03c
set_option linter.all false
namespace Go.Gv
open Go Go.Proofs Go.Proofs.Ytcioglingkccpaa

/-- Elements in common: the steps of the walk. -/
theorem com_nil {b : List Bs} : comS [] b = 0 := rfl
theorem com_none {a : List Bs} : comS a [] = 0 := by simp [comS]
theorem com_lt {x y : Bs} {a b : List Bs} (hb : incS (y :: b)) (h : x < y) : comS (x :: a) (y :: b) = comS a (y :: b) := by
  have hn : x ∉ y :: b := fun hm => by
    rcases List.mem_cons.1 hm with e | e
    · subst e; exact bs_irr _ h
    · exact bs_irr _ (bs_trans h ((List.pairwise_cons.1 hb).1 x e))
  unfold comS
  rw [List.filter_cons_of_neg (by simpa using hn)]
theorem com_gt {x y : Bs} {a b : List Bs} (ha : incS (x :: a)) (h : y < x) : comS (x :: a) (y :: b) = comS (x :: a) b := by
  unfold comS
  congr 1
  refine List.filter_congr fun z hz => ?_
  have hn : z ≠ y := fun e => by
    subst e
    rcases List.mem_cons.1 hz with e | e
    · subst e; exact bs_irr _ h
    · exact bs_irr _ (bs_trans h ((List.pairwise_cons.1 ha).1 z e))
  simp [hn]
theorem com_eq {x : Bs} {a b : List Bs} (ha : incS (x :: a)) : comS (x :: a) (x :: b) = comS a b + 1 := by
  unfold comS
  rw [List.filter_cons_of_pos (by simp), List.length_cons]
  congr 2
  refine List.filter_congr fun z hz => ?_
  have hn : z ≠ x := fun e => by
    subst e
    exact bs_irr _ ((List.pairwise_cons.1 ha).1 z hz)
  simp [hn]
theorem inc_tail {x : Bs} {l : List Bs} (h : incS (x :: l)) : incS l := (List.pairwise_cons.1 h).2
theorem com_le (a b : List Bs) : comS a b ≤ a.length := List.length_filter_le _ _

def unitS (l : List Bs) : List (Bs × Unit) := l.map fun x => (x, ())
theorem unit_fst (l : List Bs) : (unitS l).map Prod.fst = l := by
  unfold unitS
  rw [List.map_map]
  exact List.map_id' l
theorem tl_take {x : Bs} {l : List Bs} {n : Nat} (h : n = l.length + 1) : List.drop 1 (List.take n (x :: l)) = l := by subst h; simp
theorem part_len (s : Bs) (n k : Nat) : (partS s n k).length = k := by simp [partS]
theorem part_lenU (s : Bs) (n k : Nat) : (unitS (partS s n k)).length = k := by rw [unitS, List.length_map, part_len]
theorem part_step {s : Bs} {n k : Nat} {m : List (Bs × Bool)} : putW m (unitS (partS s n (k + 1))) = @mput (List UInt8) Bool (instDecidableEqDat .str) (putW m (unitS (partS s n k))) ((s.take (k + n)).drop k) true := by
  unfold partS unitS putW
  rw [List.range_succ, List.map_append, List.map_append, List.foldl_append]
  rfl

@[reducible] noncomputable def S_words_Grams : Spec := { ins := (.cons (.d .str) (.cons (.d tInt) .nil)), pre := (fun x => (fun text n => text.length ≤ 1000000) x.1 x.2.1), alts := [{ outs := (.cons (.d (.sl .str)) .nil), res := (fun x => (fun text n => (gramS (foldT text) n, ())) x.1 x.2.1) }], noisy := true }
noncomputable def c_words_Grams : Cf := { cf_words_Grams (Fl [(fi_words_Fold, S_words_Fold), (fi_words_sorted, S_words_sorted)]) with nz := true }
set_option maxRecDepth 100000 in
set_option maxHeartbeats 4000000 in
theorem g_words_Grams : ∀ x, S_words_Grams.pre x → shOK S_words_Grams.ins x → fnGoal c_words_Grams fn_words_Grams S_words_Grams x := by
  rintro ⟨text, n, ⟨⟩⟩ hpre hok
  try dsimp only [Dat, SDat, dflt, Ty.size, keepS, bkUpd, Gv.bk, backS, wayA, maxI, minI, negI] at hpre
  have hln := shLn_of _ hok; replace hok := Hd.mk hok; try simp only [shLn, datLn, inRng, lo, hi, maxLen, true_and, and_true] at hln
  have hf := fold_len text
  first | refine fn_goal (w_head ?_) | refine w_fn (w_head ?_) | refine fnL_goal (w_head ?_) | refine fnI_goal (w_head ?_)
  intro K_ hK_; (conv => whnf); (try dsimp +instances only); refine hK_ _ ?_; clear hK_ K_; (conv => (arg 2; whnf))
  repeat' (first | (with_reducible refine And.intro ?_ ?_) | ((try (with_reducible refine gv_more ?_)); first | ((with_reducible show K_ _); (try dsimp +instances only); (with_reducible refine hK_ _ ?_); clear hK_ K_) | (with_reducible (first | refine w_seq ?_ | refine thenK_n ?_ | refine w_block ?_ | refine blockK_n ?_)) | ((with_reducible refine w_region ?_); intro K_ hK_; (conv => whnf)) | ((with_reducible refine w_cond ?_); (conv => (arg 2; whnf)); (with_reducible (first | refine condK_p ?_ ?_ | refine condK_t ?_ | refine condK_f ?_ | refine condK_b ?_ ?_))) | (with_reducible (first | refine w_skip ?_ | refine w_exit ?_ | refine w_ret ?_ | refine thenK_r ?_ | refine thenK_e ?_ | refine blockK_r ?_ | refine blockK_x ?_ | refine blockK_y (by rfl) ?_ | refine loopK_r ?_ | refine loopK_e ?_ | refine w_label ?_)) | ((with_reducible (first | refine loopK_at ?_ | refine retK_r ?_ | refine retK_n ?_)); (conv => whnf)) | ((with_reducible refine w_head ?_); intro K_ hK_; (conv => whnf))) | ((with_reducible refine gv_more ?_); (conv => whnf)) | (intro hc; (try dsimp +instances only [Dat, SDat, dflt, Ty.size, keepS, bkUpd, Gv.bk, backS, wayA, maxI, minI, negI] at hc); (try simp only [Int.toNat_natCast, Int.toNat_zero, Int.toNat_one, Classical.not_not, boolOf_true, decide_eq_true_eq, decide_eq_false_iff_not, ne_eq, true_implies, not_true_eq_false, not_false_eq_true, Bool.not_eq_true, Prod.mk.injEq, and_true, true_and, forall_const, preA_f, selB_0, selB_1, boolOf_eq_false, rep1, rep2, rep3, List.length_set, List.length_append, List.length_map, List.length_cons, List.length_nil, List.length_replicate, Nat.zero_add, Nat.add_zero] at hc)))
  all_goals (try ((fail_if_success (with_reducible refine w_at ?_)); (fail_if_success refine Exists.intro (0 : Nat) (Exists.intro (_ : Alt _) ?_)); (try dsimp only [Dat, SDat, dflt, Ty.size, keepS, bkUpd, Gv.bk, backS, wayA, maxI, minI, negI]); (try simp only [Int.toNat_natCast, Int.toNat_zero, Int.toNat_one, Classical.not_not, boolOf_true, decide_eq_true_eq, decide_eq_false_iff_not, ne_eq, true_implies, not_true_eq_false, not_false_eq_true, Bool.not_eq_true, Prod.mk.injEq, and_true, true_and, forall_const, preA_f, selB_0, selB_1, boolOf_eq_false, rep1, rep2, rep3, List.length_set, List.length_append, List.length_map, List.length_cons, List.length_nil, List.length_replicate, Nat.zero_add, Nat.add_zero]); first | done | exact trivial | rfl | omega | exact boolOf_eq _ | (simp only [allP, lo, hi, room, true_and, and_true, implies_true]; done) | ((try simp only [allP, lo, hi, room, true_and, and_true, implies_true]); (repeat' (first | (with_reducible refine And.intro ?_ ?_) | ((with_reducible refine preA_t ?_ ?_); rotate_left; (focus (repeat (first | exact trivial | ((conv => whnf); refine And.intro (by rfl) ?_))))) | intro hv)) <;> (try omega))))
  · unfold gramS; rw [if_pos (by rcases hc with (h | h) | h <;> simp [h])]
  · rename_i h1
    unfold gramS
    rw [if_neg (by simpa [or_assoc] using h1), if_pos hc]
  all_goals
    rename_i h1
    have hn1 : 1 ≤ n := Classical.byContradiction fun h => h1 (.inl (.inl (Int.not_le.1 h)))
    have hn8 : n ≤ 8 := Classical.byContradiction fun h => h1 (.inl (.inr (Int.not_le.1 h)))
  all_goals (try omega)
  obtain ⟨N, rfl⟩ : ∃ N : Nat, n = (N : Int) := ⟨Int.toNat n, (Int.toNat_of_nonneg (by omega)).symm⟩
  have hres : gramS (foldT text) (N : Int) = sorS (partS (foldT text) N ((foldT text).length - N + 1)) := by
    unfold gramS
    rw [if_neg (by simpa [or_assoc] using h1), if_neg hc, Int.toNat_natCast]
  refine w_loop [(6, .map .str .bool), (32, .d tInt)] [] (fun y => ∃ k : Nat, y.1.2.1 = (k : Int) ∧ k ≤ (foldT text).length - N + 1 ∧ y.1.1 = putW [] (unitS (partS (foldT text) N k))) (fun y => (foldT text).length - N + 1 - y.1.2.1.toNat) ?_
  conv => whnf
  refine And.intro ?_ ?_
  · exact ⟨0, rfl, Nat.zero_le _, rfl⟩
  rintro ⟨⟨m, _, ⟨⟩⟩, ⟨⟩⟩ ⟨k, rfl, hk, hm⟩
  have hm : m = putW [] (unitS (partS (foldT text) N k)) := hm
  subst hm
  have hpk := putW_keys (unitS (partS (foldT text) N k)) [] (by simp [keyS])
  have hpl := putW_len (unitS (partS (foldT text) N k)) []
  rw [part_lenU] at hpl
  repeat' (first | (with_reducible refine And.intro ?_ ?_) | ((try (with_reducible refine gv_more ?_)); first | ((with_reducible show K_ _); (try dsimp +instances only); (with_reducible refine hK_ _ ?_); clear hK_ K_) | (with_reducible (first | refine w_seq ?_ | refine thenK_n ?_ | refine w_block ?_ | refine blockK_n ?_)) | ((with_reducible refine w_region ?_); intro K_ hK_; (conv => whnf)) | ((with_reducible refine w_cond ?_); (conv => (arg 2; whnf)); (with_reducible (first | refine condK_p ?_ ?_ | refine condK_t ?_ | refine condK_f ?_ | refine condK_b ?_ ?_))) | (with_reducible (first | refine w_skip ?_ | refine w_exit ?_ | refine w_ret ?_ | refine thenK_r ?_ | refine thenK_e ?_ | refine blockK_r ?_ | refine blockK_x ?_ | refine blockK_y (by rfl) ?_ | refine loopK_r ?_ | refine loopK_e ?_ | refine w_label ?_)) | ((with_reducible (first | refine loopK_at ?_ | refine retK_r ?_ | refine retK_n ?_)); (conv => whnf)) | ((with_reducible refine w_head ?_); intro K_ hK_; (conv => whnf))) | ((with_reducible refine gv_more ?_); (conv => whnf)) | (intro hc; (try dsimp +instances only [Dat, SDat, dflt, Ty.size, keepS, bkUpd, Gv.bk, backS, wayA, maxI, minI, negI] at hc); (try simp only [Int.toNat_natCast, Int.toNat_zero, Int.toNat_one, Classical.not_not, boolOf_true, decide_eq_true_eq, decide_eq_false_iff_not, ne_eq, true_implies, not_true_eq_false, not_false_eq_true, Bool.not_eq_true, Prod.mk.injEq, and_true, true_and, forall_const, preA_f, selB_0, selB_1, boolOf_eq_false, rep1, rep2, rep3, List.length_set, List.length_append, List.length_map, List.length_cons, List.length_nil, List.length_replicate, Nat.zero_add, Nat.add_zero] at hc)))
  all_goals (try ((fail_if_success (with_reducible refine w_at ?_)); (fail_if_success refine Exists.intro (0 : Nat) (Exists.intro (_ : Alt _) ?_)); (try dsimp only [Dat, SDat, dflt, Ty.size, keepS, bkUpd, Gv.bk, backS, wayA, maxI, minI, negI]); (try simp only [Int.toNat_natCast, Int.toNat_zero, Int.toNat_one, Classical.not_not, boolOf_true, decide_eq_true_eq, decide_eq_false_iff_not, ne_eq, true_implies, not_true_eq_false, not_false_eq_true, Bool.not_eq_true, Prod.mk.injEq, and_true, true_and, forall_const, preA_f, selB_0, selB_1, boolOf_eq_false, rep1, rep2, rep3, List.length_set, List.length_append, List.length_map, List.length_cons, List.length_nil, List.length_replicate, Nat.zero_add, Nat.add_zero]); first | done | exact trivial | rfl | omega | exact boolOf_eq _ | (simp only [allP, lo, hi, room, true_and, and_true, implies_true]; done) | ((try simp only [allP, lo, hi, room, true_and, and_true, implies_true]); (repeat' (first | (with_reducible refine And.intro ?_ ?_) | ((with_reducible refine preA_t ?_ ?_); rotate_left; (focus (repeat (first | exact trivial | ((conv => whnf); refine And.intro (by rfl) ?_))))) | intro hv)) <;> (try omega))))
  · refine ⟨k + 1, by omega, by omega, ?_⟩
    rw [part_step, show ((k : Int) + (N : Int)).toNat = k + N by omega]
  · exact hpk.1
  · simp only [List.length_nil] at hpl; omega
  · have hk2 : k = (foldT text).length - N + 1 := by omega
    rw [hres, ← hk2]
    exact sorS_eq fun z => by rw [hpk.2, unit_fst]; simp [keyS]
set_option maxRecDepth 100000 in
theorem ok_words_Grams : SpecOK SP glob fi_words_Grams S_words_Grams := mk_ok (c := c_words_Grams) (tab_ok _) mix_ok wf_words_Grams (by decide) (.cons ok_words_Fold (.cons ok_words_sorted .nil)) (fun x hx => Nat.zero_lt_one) g_words_Grams

@[reducible] noncomputable def S_words_Common : Spec := { ins := (.cons (.d (.sl .str)) (.cons (.d (.sl .str)) .nil)), pre := (fun x => (fun a b => a.length ≤ 1000000 ∧ b.length ≤ 1000000) x.1 x.2.1), alts := [{ outs := (.cons (.d tInt) .nil), res := (fun x => (fun a b => (comV a b, ())) x.1 x.2.1) }] }
noncomputable def c_words_Common : Cf := (cf_words_Common (Fl [(fi_words_increasing, S_words_increasing)]))
set_option maxRecDepth 100000 in
set_option maxHeartbeats 4000000 in
theorem g_words_Common : ∀ x, S_words_Common.pre x → shOK S_words_Common.ins x → fnGoal c_words_Common fn_words_Common S_words_Common x := by
  rintro ⟨a, b, ⟨⟩⟩ hpre hok
  try dsimp only [Dat, SDat, dflt, Ty.size, keepS, bkUpd, Gv.bk, backS, wayA, maxI, minI, negI] at hpre
  have hln := shLn_of _ hok; replace hok := Hd.mk hok; try simp only [shLn, datLn, inRng, lo, hi, maxLen, true_and, and_true] at hln
  have hal := hpre.1
  have hbl := hpre.2
  first | refine fn_goal (w_head ?_) | refine w_fn (w_head ?_) | refine fnL_goal (w_head ?_) | refine fnI_goal (w_head ?_)
  intro K_ hK_; (conv => whnf); (try dsimp +instances only); refine hK_ _ ?_; clear hK_ K_; (conv => (arg 2; whnf))
  repeat' (first | (with_reducible refine And.intro ?_ ?_) | ((try (with_reducible refine gv_more ?_)); first | ((with_reducible show K_ _); (try dsimp +instances only); (with_reducible refine hK_ _ ?_); clear hK_ K_) | (with_reducible (first | refine w_seq ?_ | refine thenK_n ?_ | refine w_block ?_ | refine blockK_n ?_)) | ((with_reducible refine w_region ?_); intro K_ hK_; (conv => whnf)) | ((with_reducible refine w_cond ?_); (conv => (arg 2; whnf)); (with_reducible (first | refine condK_p ?_ ?_ | refine condK_t ?_ | refine condK_f ?_ | refine condK_b ?_ ?_))) | (with_reducible (first | refine w_skip ?_ | refine w_exit ?_ | refine w_ret ?_ | refine thenK_r ?_ | refine thenK_e ?_ | refine blockK_r ?_ | refine blockK_x ?_ | refine blockK_y (by rfl) ?_ | refine loopK_r ?_ | refine loopK_e ?_ | refine w_label ?_)) | ((with_reducible (first | refine loopK_at ?_ | refine retK_r ?_ | refine retK_n ?_)); (conv => whnf)) | ((with_reducible refine w_head ?_); intro K_ hK_; (conv => whnf))) | ((with_reducible refine gv_more ?_); (conv => whnf)) | (intro hc; (try dsimp +instances only [Dat, SDat, dflt, Ty.size, keepS, bkUpd, Gv.bk, backS, wayA, maxI, minI, negI] at hc); (try simp only [Int.toNat_natCast, Int.toNat_zero, Int.toNat_one, Classical.not_not, boolOf_true, decide_eq_true_eq, decide_eq_false_iff_not, ne_eq, true_implies, not_true_eq_false, not_false_eq_true, Bool.not_eq_true, Prod.mk.injEq, and_true, true_and, forall_const, preA_f, selB_0, selB_1, boolOf_eq_false, rep1, rep2, rep3, List.length_set, List.length_append, List.length_map, List.length_cons, List.length_nil, List.length_replicate, Nat.zero_add, Nat.add_zero] at hc)))
  all_goals (try ((fail_if_success (with_reducible refine w_at ?_)); (fail_if_success refine Exists.intro (0 : Nat) (Exists.intro (_ : Alt _) ?_)); (try dsimp only [Dat, SDat, dflt, Ty.size, keepS, bkUpd, Gv.bk, backS, wayA, maxI, minI, negI]); (try simp only [Int.toNat_natCast, Int.toNat_zero, Int.toNat_one, Classical.not_not, boolOf_true, decide_eq_true_eq, decide_eq_false_iff_not, ne_eq, true_implies, not_true_eq_false, not_false_eq_true, Bool.not_eq_true, Prod.mk.injEq, and_true, true_and, forall_const, preA_f, selB_0, selB_1, boolOf_eq_false, rep1, rep2, rep3, List.length_set, List.length_append, List.length_map, List.length_cons, List.length_nil, List.length_replicate, Nat.zero_add, Nat.add_zero]); first | done | exact trivial | rfl | omega | exact boolOf_eq _ | (simp only [allP, lo, hi, room, true_and, and_true, implies_true]; done) | ((try simp only [allP, lo, hi, room, true_and, and_true, implies_true]); (repeat' (first | (with_reducible refine And.intro ?_ ?_) | ((with_reducible refine preA_t ?_ ?_); rotate_left; (focus (repeat (first | exact trivial | ((conv => whnf); refine And.intro (by rfl) ?_))))) | intro hv)) <;> (try omega))))
  · unfold comV
    rw [if_neg fun h => hc.elim (fun a => a h.1) (fun a => a h.2)]
  have hia := Classical.not_not.1 (not_or.1 hc).1
  have hib := Classical.not_not.1 (not_or.1 hc).2
  have hres : comV a b = (comS a b : Int) := by unfold comV; rw [if_pos ⟨hia, hib⟩]
  refine w_loop [(0, .d (.sl .str)), (1, .d (.sl .str)), (5, .d tInt)] [] (fun y => ∃ k : Nat, y.1.2.2.1 = (k : Int) ∧ k + comS y.1.1 y.1.2.1 = comS a b ∧ incS y.1.1 ∧ incS y.1.2.1) (fun y => List.length y.1.1 + List.length y.1.2.1) ?_
  conv => whnf
  refine And.intro ?_ ?_
  · exact ⟨0, rfl, by simp, hia, hib⟩
  rintro ⟨⟨p, q, _, ⟨⟩⟩, ⟨⟩⟩ ⟨k, rfl, hk, hip, hiq⟩
  dsimp only at hk hip hiq
  have hkl := com_le a b
  have tk : ∀ (l : List Bs), List.drop 1 (List.take (List.length l) l) = l.tail := fun l => by rw [List.take_length, List.drop_one]
  cases p with
  | nil =>
    repeat' (first | (with_reducible refine And.intro ?_ ?_) | ((try (with_reducible refine gv_more ?_)); first | ((with_reducible show K_ _); (try dsimp +instances only); (with_reducible refine hK_ _ ?_); clear hK_ K_) | (with_reducible (first | refine w_seq ?_ | refine thenK_n ?_ | refine w_block ?_ | refine blockK_n ?_)) | ((with_reducible refine w_region ?_); intro K_ hK_; (conv => whnf)) | ((with_reducible refine w_cond ?_); (conv => (arg 2; whnf)); (with_reducible (first | refine condK_p ?_ ?_ | refine condK_t ?_ | refine condK_f ?_ | refine condK_b ?_ ?_))) | (with_reducible (first | refine w_skip ?_ | refine w_exit ?_ | refine w_ret ?_ | refine thenK_r ?_ | refine thenK_e ?_ | refine blockK_r ?_ | refine blockK_x ?_ | refine blockK_y (by rfl) ?_ | refine loopK_r ?_ | refine loopK_e ?_ | refine w_label ?_)) | ((with_reducible (first | refine loopK_at ?_ | refine retK_r ?_ | refine retK_n ?_)); (conv => whnf)) | ((with_reducible refine w_head ?_); intro K_ hK_; (conv => whnf))) | ((with_reducible refine gv_more ?_); (conv => whnf)) | (intro hc; (try dsimp +instances only [Dat, SDat, dflt, Ty.size, keepS, bkUpd, Gv.bk, backS, wayA, maxI, minI, negI] at hc); (try simp only [Int.toNat_natCast, Int.toNat_zero, Int.toNat_one, Classical.not_not, boolOf_true, decide_eq_true_eq, decide_eq_false_iff_not, ne_eq, true_implies, not_true_eq_false, not_false_eq_true, Bool.not_eq_true, Prod.mk.injEq, and_true, true_and, forall_const, preA_f, selB_0, selB_1, boolOf_eq_false, rep1, rep2, rep3, List.length_set, List.length_append, List.length_map, List.length_cons, List.length_nil, List.length_replicate, Nat.zero_add, Nat.add_zero] at hc)))
    all_goals (try ((fail_if_success (with_reducible refine w_at ?_)); (fail_if_success refine Exists.intro (0 : Nat) (Exists.intro (_ : Alt _) ?_)); (try dsimp only [Dat, SDat, dflt, Ty.size, keepS, bkUpd, Gv.bk, backS, wayA, maxI, minI, negI]); (try simp only [Int.toNat_natCast, Int.toNat_zero, Int.toNat_one, Classical.not_not, boolOf_true, decide_eq_true_eq, decide_eq_false_iff_not, ne_eq, true_implies, not_true_eq_false, not_false_eq_true, Bool.not_eq_true, Prod.mk.injEq, and_true, true_and, forall_const, preA_f, selB_0, selB_1, boolOf_eq_false, rep1, rep2, rep3, List.length_set, List.length_append, List.length_map, List.length_cons, List.length_nil, List.length_replicate, Nat.zero_add, Nat.add_zero]); first | done | exact trivial | rfl | omega | exact boolOf_eq _ | (simp only [allP, lo, hi, room, true_and, and_true, implies_true]; done) | ((try simp only [allP, lo, hi, room, true_and, and_true, implies_true]); (repeat' (first | (with_reducible refine And.intro ?_ ?_) | ((with_reducible refine preA_t ?_ ?_); rotate_left; (focus (repeat (first | exact trivial | ((conv => whnf); refine And.intro (by rfl) ?_))))) | intro hv)) <;> (try omega))))
    all_goals (first
      | (rename_i h; exact absurd h.1 (by simp))
      | (rw [com_nil] at hk; rw [hres]; omega))
  | cons x p =>
    cases q with
    | nil =>
      repeat' (first | (with_reducible refine And.intro ?_ ?_) | ((try (with_reducible refine gv_more ?_)); first | ((with_reducible show K_ _); (try dsimp +instances only); (with_reducible refine hK_ _ ?_); clear hK_ K_) | (with_reducible (first | refine w_seq ?_ | refine thenK_n ?_ | refine w_block ?_ | refine blockK_n ?_)) | ((with_reducible refine w_region ?_); intro K_ hK_; (conv => whnf)) | ((with_reducible refine w_cond ?_); (conv => (arg 2; whnf)); (with_reducible (first | refine condK_p ?_ ?_ | refine condK_t ?_ | refine condK_f ?_ | refine condK_b ?_ ?_))) | (with_reducible (first | refine w_skip ?_ | refine w_exit ?_ | refine w_ret ?_ | refine thenK_r ?_ | refine thenK_e ?_ | refine blockK_r ?_ | refine blockK_x ?_ | refine blockK_y (by rfl) ?_ | refine loopK_r ?_ | refine loopK_e ?_ | refine w_label ?_)) | ((with_reducible (first | refine loopK_at ?_ | refine retK_r ?_ | refine retK_n ?_)); (conv => whnf)) | ((with_reducible refine w_head ?_); intro K_ hK_; (conv => whnf))) | ((with_reducible refine gv_more ?_); (conv => whnf)) | (intro hc; (try dsimp +instances only [Dat, SDat, dflt, Ty.size, keepS, bkUpd, Gv.bk, backS, wayA, maxI, minI, negI] at hc); (try simp only [Int.toNat_natCast, Int.toNat_zero, Int.toNat_one, Classical.not_not, boolOf_true, decide_eq_true_eq, decide_eq_false_iff_not, ne_eq, true_implies, not_true_eq_false, not_false_eq_true, Bool.not_eq_true, Prod.mk.injEq, and_true, true_and, forall_const, preA_f, selB_0, selB_1, boolOf_eq_false, rep1, rep2, rep3, List.length_set, List.length_append, List.length_map, List.length_cons, List.length_nil, List.length_replicate, Nat.zero_add, Nat.add_zero] at hc)))
      all_goals (try ((fail_if_success (with_reducible refine w_at ?_)); (fail_if_success refine Exists.intro (0 : Nat) (Exists.intro (_ : Alt _) ?_)); (try dsimp only [Dat, SDat, dflt, Ty.size, keepS, bkUpd, Gv.bk, backS, wayA, maxI, minI, negI]); (try simp only [Int.toNat_natCast, Int.toNat_zero, Int.toNat_one, Classical.not_not, boolOf_true, decide_eq_true_eq, decide_eq_false_iff_not, ne_eq, true_implies, not_true_eq_false, not_false_eq_true, Bool.not_eq_true, Prod.mk.injEq, and_true, true_and, forall_const, preA_f, selB_0, selB_1, boolOf_eq_false, rep1, rep2, rep3, List.length_set, List.length_append, List.length_map, List.length_cons, List.length_nil, List.length_replicate, Nat.zero_add, Nat.add_zero]); first | done | exact trivial | rfl | omega | exact boolOf_eq _ | (simp only [allP, lo, hi, room, true_and, and_true, implies_true]; done) | ((try simp only [allP, lo, hi, room, true_and, and_true, implies_true]); (repeat' (first | (with_reducible refine And.intro ?_ ?_) | ((with_reducible refine preA_t ?_ ?_); rotate_left; (focus (repeat (first | exact trivial | ((conv => whnf); refine And.intro (by rfl) ?_))))) | intro hv)) <;> (try omega))))
      rw [com_none] at hk; rw [hres]; omega
    | cons y q =>
      have tp := tl_take (x := x) (l := p) rfl
      have tq := tl_take (x := y) (l := q) rfl
      repeat' (first | (with_reducible refine And.intro ?_ ?_) | ((try (with_reducible refine gv_more ?_)); first | ((with_reducible show K_ _); (try dsimp +instances only); (with_reducible refine hK_ _ ?_); clear hK_ K_) | (with_reducible (first | refine w_seq ?_ | refine thenK_n ?_ | refine w_block ?_ | refine blockK_n ?_)) | ((with_reducible refine w_region ?_); intro K_ hK_; (conv => whnf)) | ((with_reducible refine w_cond ?_); (conv => (arg 2; whnf)); (with_reducible (first | refine condK_p ?_ ?_ | refine condK_t ?_ | refine condK_f ?_ | refine condK_b ?_ ?_))) | (with_reducible (first | refine w_skip ?_ | refine w_exit ?_ | refine w_ret ?_ | refine thenK_r ?_ | refine thenK_e ?_ | refine blockK_r ?_ | refine blockK_x ?_ | refine blockK_y (by rfl) ?_ | refine loopK_r ?_ | refine loopK_e ?_ | refine w_label ?_)) | ((with_reducible (first | refine loopK_at ?_ | refine retK_r ?_ | refine retK_n ?_)); (conv => whnf)) | ((with_reducible refine w_head ?_); intro K_ hK_; (conv => whnf))) | ((with_reducible refine gv_more ?_); (conv => whnf)) | (intro hc; (try dsimp +instances only [Dat, SDat, dflt, Ty.size, keepS, bkUpd, Gv.bk, backS, wayA, maxI, minI, negI] at hc); (try simp only [Int.toNat_natCast, Int.toNat_zero, Int.toNat_one, Classical.not_not, boolOf_true, decide_eq_true_eq, decide_eq_false_iff_not, ne_eq, true_implies, not_true_eq_false, not_false_eq_true, Bool.not_eq_true, Prod.mk.injEq, and_true, true_and, forall_const, preA_f, selB_0, selB_1, boolOf_eq_false, rep1, rep2, rep3, List.length_set, List.length_append, List.length_map, List.length_cons, List.length_nil, List.length_replicate, Nat.zero_add, Nat.add_zero] at hc)))
      all_goals (try ((fail_if_success (with_reducible refine w_at ?_)); (fail_if_success refine Exists.intro (0 : Nat) (Exists.intro (_ : Alt _) ?_)); (try dsimp only [Dat, SDat, dflt, Ty.size, keepS, bkUpd, Gv.bk, backS, wayA, maxI, minI, negI]); (try simp only [Int.toNat_natCast, Int.toNat_zero, Int.toNat_one, Classical.not_not, boolOf_true, decide_eq_true_eq, decide_eq_false_iff_not, ne_eq, true_implies, not_true_eq_false, not_false_eq_true, Bool.not_eq_true, Prod.mk.injEq, and_true, true_and, forall_const, preA_f, selB_0, selB_1, boolOf_eq_false, rep1, rep2, rep3, List.length_set, List.length_append, List.length_map, List.length_cons, List.length_nil, List.length_replicate, Nat.zero_add, Nat.add_zero]); first | done | exact trivial | rfl | omega | exact boolOf_eq _ | (simp only [allP, lo, hi, room, true_and, and_true, implies_true]; done) | ((try simp only [allP, lo, hi, room, true_and, and_true, implies_true]); (repeat' (first | (with_reducible refine And.intro ?_ ?_) | ((with_reducible refine preA_t ?_ ?_); rotate_left; (focus (repeat (first | exact trivial | ((conv => whnf); refine And.intro (by rfl) ?_))))) | intro hv)) <;> (try omega))))
      · replace hc : x < y := strLt_lt.1 hc
        rw [tp]
        rw [com_lt hiq hc] at hk
        exact ⟨k, rfl, hk, inc_tail hip, hiq⟩
      · rw [tp]; omega
      · have hc1 : ¬ x < y := fun h => hc (.inl (strLt_lt.2 h))
        have hc2 : y < x := bs_tri hc1 fun h => hc (.inr h)
        rw [tq]
        rw [com_gt hip hc2] at hk
        exact ⟨k, rfl, hk, hip, inc_tail hiq⟩
      · rw [tq]; omega
      · rename_i h1
        have hc2 : x = y := hc.resolve_left h1
        subst hc2
        rw [tp, tq]
        rw [com_eq hip] at hk
        exact ⟨k + 1, by omega, by omega, inc_tail hip, inc_tail hiq⟩
      · rw [tp, tq]; omega
set_option maxRecDepth 100000 in
theorem ok_words_Common : SpecOK SP glob fi_words_Common S_words_Common := mk_ok (c := c_words_Common) (tab_ok _) mix_ok wf_words_Common (by decide) (.cons ok_words_increasing .nil) (fun x hx => Nat.zero_lt_one) g_words_Common
end Go.Gv
