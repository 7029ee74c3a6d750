/- The statements of chapter 3: grams. -/
import Derived.Test.YtcioglingkccpaaL03c
set_option linter.all false
namespace Go.Gv
open Go Go.Proofs Go.Proofs.Ytcioglingkccpaa

/-- The part of n bytes at i. -/
def ptS (s : Bs) (n i : Nat) : Bs := (s.take (i + n)).drop i
theorem part_mem {s z : Bs} {n k : Nat} : z ∈ partS s n k ↔ ∃ i, i < k ∧ ptS s n i = z := by
  unfold partS
  rw [List.mem_map]
  constructor
  · rintro ⟨i, hi, e⟩; exact ⟨i, List.mem_range.1 hi, e⟩
  · rintro ⟨i, hi, e⟩; exact ⟨i, List.mem_range.2 hi, e⟩
theorem gram_yes {s : Bs} {n : Nat} (h1 : 1 ≤ n) (h2 : n ≤ 8) (h3 : n ≤ s.length) : gramS s (n : Int) = sorS (partS s n (s.length - n + 1)) := by
  unfold gramS
  rw [if_neg (gram_no (by omega) (fun e => by subst e; simp at h3; omega)), if_neg (by omega), Int.toNat_natCast]
theorem gram_few {s : Bs} {n : Nat} (h1 : 1 ≤ n) (h2 : n ≤ 8) (h3 : s.length < n) : (s = [] ∧ ((gramS s (n : Int)).length : Int) = 0) ∨ ((gramS s (n : Int)).length : Int) = 1 ∧ (gramS s (n : Int)).getD 0 [] = s := by
  unfold gramS
  by_cases h : s = []
  · rw [if_pos (.inr (.inr h))]
    exact .inl ⟨h, rfl⟩
  · rw [if_neg (gram_no (by omega) h), if_pos (by omega)]
    exact .inr ⟨rfl, rfl⟩
theorem set_bool {l : List Bool} {k j : Nat} (h : l.getD j false = true) : (l.set k true).getD j false = true := by
  rw [List.getD_eq_getElem?_getD] at h ⊢
  rw [List.getElem?_set]
  split
  · split
    · rfl
    · rename_i h1 h2
      subst h1
      rw [List.getElem?_eq_none (by omega)] at h
      exact h
  · exact h
theorem set_same {l : List Bool} {k : Nat} (h : k < l.length) : (l.set k true).getD k false = true := by
  rw [List.getD_eq_getElem?_getD, List.getElem?_set, if_pos rfl, if_pos h]; rfl

@[reducible] noncomputable def S_law03_WordsGrams : Spec := { ins := (.cons (.d .str) (.cons (.d tBy) .nil)), pre := fun _ => True, alts := [{ outs := (.cons (.d .bool) .nil), res := (fun x => (fun text r => (true, ())) x.1 x.2.1) }], noisy := true }
noncomputable def c_law03_WordsGrams : Cf := { cf_law03_WordsGrams (Fl [(fi_law03_head, S_law03_head), (fi_words_Fold, S_words_Fold), (fi_words_Grams, S_words_Grams), (fi_ref03_Increasing, S_ref03_Increasing)]) with nz := true }
set_option maxRecDepth 100000 in
set_option maxHeartbeats 4000000 in
theorem g_law03_WordsGrams : ∀ x, S_law03_WordsGrams.pre x → shOK S_law03_WordsGrams.ins x → fnGoal c_law03_WordsGrams fn_law03_WordsGrams S_law03_WordsGrams x := by
  rintro ⟨text, r, ⟨⟩⟩ hpre hok
  clear hpre
  have hln := shLn_of _ hok; replace hok := Hd.mk hok; try simp only [shLn, datLn, inRng, lo, hi, maxLen, true_and, and_true] at hln
  have hrb : 0 ≤ r ∧ r ≤ 255 := hln.2
  have hf := fold_len text
  have hg := gram_len (foldT text) (1 + Int.tmod r 8)
  obtain ⟨N, hN, hN1, hN8⟩ : ∃ N : Nat, 1 + Int.tmod r 8 = (N : Int) ∧ 1 ≤ N ∧ N ≤ 8 := by
    rw [Int.tmod_eq_emod_of_nonneg hrb.1]
    exact ⟨(1 + r % 8).toNat, by omega, by omega, by omega⟩
  rw [hN] at hg
  have hrm : Int.tmod r 8 = (N : Int) - 1 := by omega
  first | refine fn_goal (w_head ?_) | refine w_fn (w_head ?_) | refine fnL_goal (w_head ?_) | refine fnI_goal (w_head ?_)
  intro K_ hK_; (conv => whnf); (try dsimp +instances only); refine hK_ _ ?_; clear hK_ K_; (conv => (arg 2; whnf))
  repeat' (first | (with_reducible refine And.intro ?_ ?_) | ((try (with_reducible refine gv_more ?_)); first | ((with_reducible show K_ _); (try dsimp +instances only); (with_reducible refine hK_ _ ?_); clear hK_ K_) | (with_reducible (first | refine w_seq ?_ | refine thenK_n ?_ | refine w_block ?_ | refine blockK_n ?_)) | ((with_reducible refine w_region ?_); intro K_ hK_; (conv => whnf)) | ((with_reducible refine w_cond ?_); (conv => (arg 2; whnf)); (with_reducible (first | refine condK_p ?_ ?_ | refine condK_t ?_ | refine condK_f ?_ | refine condK_b ?_ ?_))) | (with_reducible (first | refine w_skip ?_ | refine w_exit ?_ | refine w_ret ?_ | refine thenK_r ?_ | refine thenK_e ?_ | refine blockK_r ?_ | refine blockK_x ?_ | refine blockK_y (by rfl) ?_ | refine loopK_r ?_ | refine loopK_e ?_ | refine w_label ?_)) | ((with_reducible (first | refine loopK_at ?_ | refine retK_r ?_ | refine retK_n ?_)); (conv => whnf)) | ((with_reducible refine w_head ?_); intro K_ hK_; (conv => whnf))) | ((with_reducible refine gv_more ?_); (conv => whnf)) | (intro hc; (try dsimp +instances only [Dat, SDat, dflt, Ty.size, keepS, bkUpd, Gv.bk, backS, wayA, maxI, minI, negI] at hc); (try simp only [Int.toNat_natCast, Int.toNat_zero, Int.toNat_one, Classical.not_not, boolOf_true, decide_eq_true_eq, decide_eq_false_iff_not, ne_eq, true_implies, not_true_eq_false, not_false_eq_true, Bool.not_eq_true, Prod.mk.injEq, and_true, true_and, forall_const, preA_f, selB_0, selB_1, boolOf_eq_false, rep1, rep2, rep3, List.length_set, List.length_append, List.length_map, List.length_cons, List.length_nil, List.length_replicate, Nat.zero_add, Nat.add_zero] at hc)))
  all_goals (try ((fail_if_success (with_reducible refine w_at ?_)); (fail_if_success refine Exists.intro (0 : Nat) (Exists.intro (_ : Alt _) ?_)); (try dsimp only [Dat, SDat, dflt, Ty.size, keepS, bkUpd, Gv.bk, backS, wayA, maxI, minI, negI]); (try simp only [Int.toNat_natCast, Int.toNat_zero, Int.toNat_one, Classical.not_not, boolOf_true, decide_eq_true_eq, decide_eq_false_iff_not, ne_eq, true_implies, not_true_eq_false, not_false_eq_true, Bool.not_eq_true, Prod.mk.injEq, and_true, true_and, forall_const, preA_f, selB_0, selB_1, boolOf_eq_false, rep1, rep2, rep3, List.length_set, List.length_append, List.length_map, List.length_cons, List.length_nil, List.length_replicate, Nat.zero_add, Nat.add_zero]); first | done | exact trivial | rfl | omega | exact boolOf_eq _ | (simp only [allP, lo, hi, room, true_and, and_true, implies_true]; done) | ((try simp only [allP, lo, hi, room, true_and, and_true, implies_true]); (repeat' (first | (with_reducible refine And.intro ?_ ?_) | ((with_reducible refine preA_t ?_ ?_); rotate_left; (focus (repeat (first | exact trivial | ((conv => whnf); refine And.intro (by rfl) ?_))))) | intro hv)) <;> (try omega))))
  all_goals (try omega)
  all_goals (rw [hN] at hc)
  all_goals (try rw [hN])
  · exact gram_few hN1 hN8 (by omega)
  all_goals (try (simp only [Nat.reduceMul]; omega))
  have hgy := gram_yes (s := foldT text) hN1 hN8 (by omega)
  have hmem : ∀ z, z ∈ gramS (foldT text) (N : Int) ↔ ∃ i, i < (foldT text).length - N + 1 ∧ ptS (foldT text) N i = z := fun z => by rw [hgy, sorS_mem, part_mem]
  have hinc : incS (gramS (foldT text) (N : Int)) := by rw [hgy]; exact sorS_inc _
  generalize hL : gramS (foldT text) (N : Int) = L at *
  refine w_loop [(9, .row .bool), (10, .d tInt)] [] (fun y => ∃ i : Nat, y.1.2.1 = (i : Int) ∧ i ≤ (foldT text).length - N + 1 ∧ List.length y.1.1 = L.length ∧ ∀ j, j < L.length → (∃ u, u < i ∧ ptS (foldT text) N u = L.getD j []) → (y.1.1 : List Bool).getD j false = true) (fun y => (foldT text).length - N + 1 - y.1.2.1.toNat) ?_
  conv => whnf
  refine And.intro ?_ ?_
  · refine ⟨0, rfl, Nat.zero_le _, ?_, fun j _ h => ?_⟩
    · show (List.replicate _ _).length = _
      rw [List.length_replicate, Int.toNat_natCast]
    · obtain ⟨u, hu, _⟩ := h
      omega
  rintro ⟨⟨fo, _, ⟨⟩⟩, ⟨⟩⟩ ⟨i, rfl, hi, hfl, hfo⟩
  dsimp only at hfl hfo
  repeat' (first | (with_reducible refine And.intro ?_ ?_) | ((try (with_reducible refine gv_more ?_)); first | ((with_reducible show K_ _); (try dsimp +instances only); (with_reducible refine hK_ _ ?_); clear hK_ K_) | (with_reducible (first | refine w_seq ?_ | refine thenK_n ?_ | refine w_block ?_ | refine blockK_n ?_)) | ((with_reducible refine w_region ?_); intro K_ hK_; (conv => whnf)) | ((with_reducible refine w_cond ?_); (conv => (arg 2; whnf)); (with_reducible (first | refine condK_p ?_ ?_ | refine condK_t ?_ | refine condK_f ?_ | refine condK_b ?_ ?_))) | (with_reducible (first | refine w_skip ?_ | refine w_exit ?_ | refine w_ret ?_ | refine thenK_r ?_ | refine thenK_e ?_ | refine blockK_r ?_ | refine blockK_x ?_ | refine blockK_y (by rfl) ?_ | refine loopK_r ?_ | refine loopK_e ?_ | refine w_label ?_)) | ((with_reducible (first | refine loopK_at ?_ | refine retK_r ?_ | refine retK_n ?_)); (conv => whnf)) | ((with_reducible refine w_head ?_); intro K_ hK_; (conv => whnf))) | ((with_reducible refine gv_more ?_); (conv => whnf)) | (intro hc; (try dsimp +instances only [Dat, SDat, dflt, Ty.size, keepS, bkUpd, Gv.bk, backS, wayA, maxI, minI, negI] at hc); (try simp only [Int.toNat_natCast, Int.toNat_zero, Int.toNat_one, Classical.not_not, boolOf_true, decide_eq_true_eq, decide_eq_false_iff_not, ne_eq, true_implies, not_true_eq_false, not_false_eq_true, Bool.not_eq_true, Prod.mk.injEq, and_true, true_and, forall_const, preA_f, selB_0, selB_1, boolOf_eq_false, rep1, rep2, rep3, List.length_set, List.length_append, List.length_map, List.length_cons, List.length_nil, List.length_replicate, Nat.zero_add, Nat.add_zero] at hc)))
  all_goals (try ((fail_if_success (with_reducible refine w_at ?_)); (fail_if_success refine Exists.intro (0 : Nat) (Exists.intro (_ : Alt _) ?_)); (try dsimp only [Dat, SDat, dflt, Ty.size, keepS, bkUpd, Gv.bk, backS, wayA, maxI, minI, negI]); (try simp only [Int.toNat_natCast, Int.toNat_zero, Int.toNat_one, Classical.not_not, boolOf_true, decide_eq_true_eq, decide_eq_false_iff_not, ne_eq, true_implies, not_true_eq_false, not_false_eq_true, Bool.not_eq_true, Prod.mk.injEq, and_true, true_and, forall_const, preA_f, selB_0, selB_1, boolOf_eq_false, rep1, rep2, rep3, List.length_set, List.length_append, List.length_map, List.length_cons, List.length_nil, List.length_replicate, Nat.zero_add, Nat.add_zero]); first | done | exact trivial | rfl | omega | exact boolOf_eq _ | (simp only [allP, lo, hi, room, true_and, and_true, implies_true]; done) | ((try simp only [allP, lo, hi, room, true_and, and_true, implies_true]); (repeat' (first | (with_reducible refine And.intro ?_ ?_) | ((with_reducible refine preA_t ?_ ?_); rotate_left; (focus (repeat (first | exact trivial | ((conv => whnf); refine And.intro (by rfl) ?_))))) | intro hv)) <;> (try omega))))
  all_goals (try (simp only [Gv.hi]; omega))
  · refine w_loop [(9, .row .bool), (11, .d .bool), (12, .d tInt)] [] (fun y => ∃ k : Nat, y.1.2.2.1 = (k : Int) ∧ k ≤ L.length ∧ List.length y.1.1 = L.length ∧ (∀ j, j < L.length → (∃ u, u < i ∧ ptS (foldT text) N u = L.getD j []) → (y.1.1 : List Bool).getD j false = true) ∧ ∀ j, j < k → L.getD j [] = ptS (foldT text) N i → (y.1.1 : List Bool).getD j false = true ∧ y.1.2.1 = true) (fun y => L.length - y.1.2.2.1.toNat) ?_
    conv => whnf
    refine And.intro ?_ ?_
    · exact ⟨0, rfl, Nat.zero_le _, hfl, hfo, by omega⟩
    clear hfl hfo
    rintro ⟨⟨fo, q, _, ⟨⟩⟩, ⟨⟩⟩ ⟨k, rfl, hk, hfl, hfo, hq⟩
    dsimp only at hfl hfo hq
    have hN2 : ((i : Int) + (N : Int)).toNat = i + N := by omega
    repeat' (first | (with_reducible refine And.intro ?_ ?_) | ((try (with_reducible refine gv_more ?_)); first | ((with_reducible show K_ _); (try dsimp +instances only); (with_reducible refine hK_ _ ?_); clear hK_ K_) | (with_reducible (first | refine w_seq ?_ | refine thenK_n ?_ | refine w_block ?_ | refine blockK_n ?_)) | ((with_reducible refine w_region ?_); intro K_ hK_; (conv => whnf)) | ((with_reducible refine w_cond ?_); (conv => (arg 2; whnf)); (with_reducible (first | refine condK_p ?_ ?_ | refine condK_t ?_ | refine condK_f ?_ | refine condK_b ?_ ?_))) | (with_reducible (first | refine w_skip ?_ | refine w_exit ?_ | refine w_ret ?_ | refine thenK_r ?_ | refine thenK_e ?_ | refine blockK_r ?_ | refine blockK_x ?_ | refine blockK_y (by rfl) ?_ | refine loopK_r ?_ | refine loopK_e ?_ | refine w_label ?_)) | ((with_reducible (first | refine loopK_at ?_ | refine retK_r ?_ | refine retK_n ?_)); (conv => whnf)) | ((with_reducible refine w_head ?_); intro K_ hK_; (conv => whnf))) | ((with_reducible refine gv_more ?_); (conv => whnf)) | (intro hc; (try dsimp +instances only [Dat, SDat, dflt, Ty.size, keepS, bkUpd, Gv.bk, backS, wayA, maxI, minI, negI] at hc); (try simp only [Int.toNat_natCast, Int.toNat_zero, Int.toNat_one, Classical.not_not, boolOf_true, decide_eq_true_eq, decide_eq_false_iff_not, ne_eq, true_implies, not_true_eq_false, not_false_eq_true, Bool.not_eq_true, Prod.mk.injEq, and_true, true_and, forall_const, preA_f, selB_0, selB_1, boolOf_eq_false, rep1, rep2, rep3, List.length_set, List.length_append, List.length_map, List.length_cons, List.length_nil, List.length_replicate, Nat.zero_add, Nat.add_zero] at hc)))
    all_goals (try ((fail_if_success (with_reducible refine w_at ?_)); (fail_if_success refine Exists.intro (0 : Nat) (Exists.intro (_ : Alt _) ?_)); (try dsimp only [Dat, SDat, dflt, Ty.size, keepS, bkUpd, Gv.bk, backS, wayA, maxI, minI, negI]); (try simp only [Int.toNat_natCast, Int.toNat_zero, Int.toNat_one, Classical.not_not, boolOf_true, decide_eq_true_eq, decide_eq_false_iff_not, ne_eq, true_implies, not_true_eq_false, not_false_eq_true, Bool.not_eq_true, Prod.mk.injEq, and_true, true_and, forall_const, preA_f, selB_0, selB_1, boolOf_eq_false, rep1, rep2, rep3, List.length_set, List.length_append, List.length_map, List.length_cons, List.length_nil, List.length_replicate, Nat.zero_add, Nat.add_zero]); first | done | exact trivial | rfl | omega | exact boolOf_eq _ | (simp only [allP, lo, hi, room, true_and, and_true, implies_true]; done) | ((try simp only [allP, lo, hi, room, true_and, and_true, implies_true]); (repeat' (first | (with_reducible refine And.intro ?_ ?_) | ((with_reducible refine preA_t ?_ ?_); rotate_left; (focus (repeat (first | exact trivial | ((conv => whnf); refine And.intro (by rfl) ?_))))) | intro hv)) <;> (try omega))))
    all_goals (try (simp only [Gv.hi]; omega))
    all_goals (try rw [hN2] at hc)
    · rename_i h1
      refine ⟨k + 1, by omega, by omega, hfl, fun j hj h => set_bool (hfo j hj h), fun j hj h => ?_⟩
      rcases Nat.lt_or_ge j k with h2 | h2
      · exact set_bool (hq j h2 h).1
      · rw [show j = k by omega]
        exact set_same (by omega)
    · refine ⟨k + 1, by omega, by omega, hfl, hfo, fun j hj h => ?_⟩
      rcases Nat.lt_or_ge j k with h2 | h2
      · exact hq j h2 h
      · rw [show j = k by omega] at h
        exact absurd h hc
    · rename_i h1
      exfalso
      obtain ⟨j, hj, e⟩ := List.getElem_of_mem ((hmem (ptS (foldT text) N i)).2 ⟨i, by omega, rfl⟩)
      rw [← getD_ok [] hj] at e
      rw [(hq j (by omega) e).2] at hc
      exact absurd hc (by simp)
    · refine ⟨i + 1, by omega, by omega, hfl, fun j hj h => ?_⟩
      obtain ⟨u, hu, e⟩ := h
      rcases Nat.lt_or_ge u i with h2 | h2
      · exact hfo j hj ⟨u, h2, e⟩
      · rw [show u = i by omega] at e
        exact (hq j (by omega) e.symm).1
  refine w_loop [(13, .d tInt)] [] (fun y => ∃ k : Nat, y.1.1 = (k : Int) ∧ k ≤ L.length) (fun y => L.length - y.1.1.toNat) ?_
  conv => whnf
  refine And.intro ?_ ?_
  · exact ⟨0, rfl, Nat.zero_le _⟩
  rintro ⟨⟨_, ⟨⟩⟩, ⟨⟩⟩ ⟨k, rfl, hk⟩
  repeat' (first | (with_reducible refine And.intro ?_ ?_) | ((try (with_reducible refine gv_more ?_)); first | ((with_reducible show K_ _); (try dsimp +instances only); (with_reducible refine hK_ _ ?_); clear hK_ K_) | (with_reducible (first | refine w_seq ?_ | refine thenK_n ?_ | refine w_block ?_ | refine blockK_n ?_)) | ((with_reducible refine w_region ?_); intro K_ hK_; (conv => whnf)) | ((with_reducible refine w_cond ?_); (conv => (arg 2; whnf)); (with_reducible (first | refine condK_p ?_ ?_ | refine condK_t ?_ | refine condK_f ?_ | refine condK_b ?_ ?_))) | (with_reducible (first | refine w_skip ?_ | refine w_exit ?_ | refine w_ret ?_ | refine thenK_r ?_ | refine thenK_e ?_ | refine blockK_r ?_ | refine blockK_x ?_ | refine blockK_y (by rfl) ?_ | refine loopK_r ?_ | refine loopK_e ?_ | refine w_label ?_)) | ((with_reducible (first | refine loopK_at ?_ | refine retK_r ?_ | refine retK_n ?_)); (conv => whnf)) | ((with_reducible refine w_head ?_); intro K_ hK_; (conv => whnf))) | ((with_reducible refine gv_more ?_); (conv => whnf)) | (intro hc; (try dsimp +instances only [Dat, SDat, dflt, Ty.size, keepS, bkUpd, Gv.bk, backS, wayA, maxI, minI, negI] at hc); (try simp only [Int.toNat_natCast, Int.toNat_zero, Int.toNat_one, Classical.not_not, boolOf_true, decide_eq_true_eq, decide_eq_false_iff_not, ne_eq, true_implies, not_true_eq_false, not_false_eq_true, Bool.not_eq_true, Prod.mk.injEq, and_true, true_and, forall_const, preA_f, selB_0, selB_1, boolOf_eq_false, rep1, rep2, rep3, List.length_set, List.length_append, List.length_map, List.length_cons, List.length_nil, List.length_replicate, Nat.zero_add, Nat.add_zero] at hc)))
  all_goals (try ((fail_if_success (with_reducible refine w_at ?_)); (fail_if_success refine Exists.intro (0 : Nat) (Exists.intro (_ : Alt _) ?_)); (try dsimp only [Dat, SDat, dflt, Ty.size, keepS, bkUpd, Gv.bk, backS, wayA, maxI, minI, negI]); (try simp only [Int.toNat_natCast, Int.toNat_zero, Int.toNat_one, Classical.not_not, boolOf_true, decide_eq_true_eq, decide_eq_false_iff_not, ne_eq, true_implies, not_true_eq_false, not_false_eq_true, Bool.not_eq_true, Prod.mk.injEq, and_true, true_and, forall_const, preA_f, selB_0, selB_1, boolOf_eq_false, rep1, rep2, rep3, List.length_set, List.length_append, List.length_map, List.length_cons, List.length_nil, List.length_replicate, Nat.zero_add, Nat.add_zero]); first | done | exact trivial | rfl | omega | exact boolOf_eq _ | (simp only [allP, lo, hi, room, true_and, and_true, implies_true]; done) | ((try simp only [allP, lo, hi, room, true_and, and_true, implies_true]); (repeat' (first | (with_reducible refine And.intro ?_ ?_) | ((with_reducible refine preA_t ?_ ?_); rotate_left; (focus (repeat (first | exact trivial | ((conv => whnf); refine And.intro (by rfl) ?_))))) | intro hv)) <;> (try omega))))
  all_goals (try (simp only [Gv.hi]; omega))
  · exfalso
    rename_i h1 h2
    have hk2 : k < L.length := by omega
    obtain ⟨u, hu, e⟩ := (hmem (L.getD k [])).1 (getD_mem hk2)
    rw [hfo k hk2 ⟨u, by omega, e⟩] at hc
    exact absurd hc (by simp)
  · exact ⟨k + 1, by omega, by omega⟩
set_option maxRecDepth 100000 in
theorem ok_law03_WordsGrams : SpecOK SP glob fi_law03_WordsGrams S_law03_WordsGrams := mk_ok (c := c_law03_WordsGrams) (tab_ok _) mix_ok wf_law03_WordsGrams (by decide) (.cons ok_law03_head (.cons ok_words_Fold (.cons ok_words_Grams (.cons ok_ref03_Increasing .nil)))) (fun x hx => Nat.zero_lt_one) g_law03_WordsGrams
end Go.Gv
