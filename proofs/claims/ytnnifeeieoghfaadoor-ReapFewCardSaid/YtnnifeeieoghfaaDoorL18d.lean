/- ReapFew: its function answers true. -/
import Derived.Test.YtnnifeeieoghfaaDoorL18m
set_option linter.all false
namespace Go.Gv
open Go Go.Proofs Go.Proofs.YtnnifeeieoghfaaDoor

theorem keep_small {gs : List Gate} {R : List Int} {n : Nat} (h : ∀ g ∈ gs, g.2.2.1.length ≤ n) : ∀ g ∈ keepG gs R, g.2.2.1.length ≤ n := fun g hg => by
  obtain ⟨i, hi, rfl⟩ := List.getElem_of_mem hg
  obtain ⟨k, h1, h2, h3, h4⟩ := keep_pos hi
  rw [getD_ok ((0, 0, [], ()) : Gate) hi] at h4
  rw [h4]
  have := h _ (getD_mem (d := ((0, 0, [], ()) : Gate)) h1)
  unfold mapG
  simpa using this

@[reducible] noncomputable def S_law18_ReapFew : Spec := { ins := (.cons (.d tCirc) (.cons (.d (.sl tInt)) .nil)), pre := fun _ => True, alts := [{ outs := (.cons (.d .bool) .nil), res := (fun x => (fun c roots => (true, ())) x.1 x.2.1) }] }
noncomputable def c_law18_ReapFew : Cf := (cf_law18_ReapFew (Fl [(fi_law18_head, S_law18_head), (fi_law18_few, S_law18_few), (fi_reap_Keep, S_keep_two), (fi_circuit_Valid, S_circuit_Valid), (fi_ref18_Right, S_ref18_Right), (fi_ref18_Kept, S_ref18_Kept), (fi_ref16_Same, S_ref16_Same), (fi_ref06_Ints, S_ref06_Ints)]))
set_option maxRecDepth 100000 in
set_option maxHeartbeats 4000000 in
theorem g_law18_ReapFew : ∀ x, S_law18_ReapFew.pre x → shOK S_law18_ReapFew.ins x → fnGoal c_law18_ReapFew fn_law18_ReapFew S_law18_ReapFew x := by
  rintro ⟨⟨gs, ⟨⟩⟩, roots, ⟨⟩⟩ hpre hok
  clear hpre
  have hln := shLn_of _ hok; replace hok := Hd.mk hok; try simp only [shLn, datLn, inRng, lo, hi, maxLen, true_and, and_true] at hln
  first | refine fn_goal (w_head ?_) | refine w_fn (w_head ?_)
  intro K_ hK_; (conv => whnf); (try dsimp +instances only); refine hK_ _ ?_; clear hK_ K_; (conv => (arg 2; whnf))
  repeat' (first | (with_reducible refine And.intro ?_ ?_) | (first | ((with_reducible show K_ _); (try dsimp +instances only); (with_reducible refine hK_ _ ?_); clear hK_ K_) | (with_reducible refine w_seq ?_) | (with_reducible refine thenK_n ?_) | (with_reducible refine w_block ?_) | (with_reducible refine blockK_n ?_) | ((with_reducible refine w_region ?_); intro K_ hK_; (conv => whnf)) | ((with_reducible refine w_cond ?_); (conv => (arg 2; whnf)); (first | (with_reducible refine condK_p ?_ ?_) | (with_reducible refine condK_t ?_) | (with_reducible refine condK_f ?_) | (with_reducible refine condK_b ?_ ?_))) | (with_reducible refine w_skip ?_) | (with_reducible refine w_exit ?_) | (with_reducible refine w_ret ?_) | (with_reducible refine thenK_r ?_) | (with_reducible refine thenK_e ?_) | (with_reducible refine blockK_r ?_) | (with_reducible refine blockK_x ?_) | (with_reducible refine blockK_y (by rfl) ?_) | ((with_reducible refine loopK_at ?_); (conv => whnf)) | (with_reducible refine loopK_r ?_) | (with_reducible refine loopK_e ?_) | ((with_reducible refine retK_r ?_); (conv => whnf)) | ((with_reducible refine retK_n ?_); (conv => whnf)) | ((with_reducible refine w_head ?_); intro K_ hK_; (conv => whnf)) | (with_reducible refine w_label ?_)) | ((with_reducible refine gv_more ?_); (first | (first | ((with_reducible show K_ _); (try dsimp +instances only); (with_reducible refine hK_ _ ?_); clear hK_ K_) | (with_reducible refine w_seq ?_) | (with_reducible refine thenK_n ?_) | (with_reducible refine w_block ?_) | (with_reducible refine blockK_n ?_) | ((with_reducible refine w_region ?_); intro K_ hK_; (conv => whnf)) | ((with_reducible refine w_cond ?_); (conv => (arg 2; whnf)); (first | (with_reducible refine condK_p ?_ ?_) | (with_reducible refine condK_t ?_) | (with_reducible refine condK_f ?_) | (with_reducible refine condK_b ?_ ?_))) | (with_reducible refine w_skip ?_) | (with_reducible refine w_exit ?_) | (with_reducible refine w_ret ?_) | (with_reducible refine thenK_r ?_) | (with_reducible refine thenK_e ?_) | (with_reducible refine blockK_r ?_) | (with_reducible refine blockK_x ?_) | (with_reducible refine blockK_y (by rfl) ?_) | ((with_reducible refine loopK_at ?_); (conv => whnf)) | (with_reducible refine loopK_r ?_) | (with_reducible refine loopK_e ?_) | ((with_reducible refine retK_r ?_); (conv => whnf)) | ((with_reducible refine retK_n ?_); (conv => whnf)) | ((with_reducible refine w_head ?_); intro K_ hK_; (conv => whnf)) | (with_reducible refine w_label ?_)) | (conv => whnf))) | (intro hc; (try dsimp +instances only [Dat, SDat, dflt, Ty.size, keepS, bkUpd, Gv.bk, backS, wayA, maxI, minI, negI] at hc); (try simp only [Int.toNat_natCast, Int.toNat_zero, Int.toNat_one, Classical.not_not, boolOf_true, decide_eq_true_eq, decide_eq_false_iff_not, ne_eq, true_implies, not_true_eq_false, not_false_eq_true, Bool.not_eq_true, Prod.mk.injEq, and_true, true_and, forall_const, preA_f, selB_0, selB_1, boolOf_eq_false, rep1, rep2, rep3, List.length_set, List.length_append, List.length_map, List.length_cons, List.length_nil, List.length_replicate, Nat.zero_add, Nat.add_zero] at hc)))
  all_goals (try ((fail_if_success (with_reducible refine w_at ?_)); (fail_if_success refine Exists.intro (0 : Nat) (Exists.intro (_ : Alt _) ?_)); (try dsimp only [Dat, SDat, dflt, Ty.size, keepS, bkUpd, Gv.bk, backS, wayA, maxI, minI, negI]); (try simp only [Int.toNat_natCast, Int.toNat_zero, Int.toNat_one, Classical.not_not, boolOf_true, decide_eq_true_eq, decide_eq_false_iff_not, ne_eq, true_implies, not_true_eq_false, not_false_eq_true, Bool.not_eq_true, Prod.mk.injEq, and_true, true_and, forall_const, preA_f, selB_0, selB_1, boolOf_eq_false, rep1, rep2, rep3, List.length_set, List.length_append, List.length_map, List.length_cons, List.length_nil, List.length_replicate, Nat.zero_add, Nat.add_zero]); first | done | exact trivial | rfl | omega | exact boolOf_eq _ | (simp only [allP, lo, hi, room, true_and, and_true, implies_true]; done) | ((try simp only [allP, lo, hi, room, true_and, and_true, implies_true]); (repeat' (first | (with_reducible refine And.intro ?_ ?_) | ((with_reducible refine preA_t ?_ ?_); rotate_left; (focus (repeat (first | exact trivial | ((conv => whnf); refine And.intro (by rfl) ?_))))) | intro hv)) <;> (try omega))))
  all_goals (try ((fail_if_success (with_reducible refine w_at ?_)); (fail_if_success refine Exists.intro (0 : Nat) (Exists.intro (_ : Alt _) ?_)); rename FewP gs roots _ => hF; first | exact Nat.le_trans (hF.1.2 _ (by assumption)) (by decide) | (have := hF.2.1; omega) | exact keep_small (fun g hg => Nat.le_trans (hF.1.2 g hg) (by decide)) _ (by assumption)))
  all_goals (rename FewP gs roots _ => hF; have hrl := hF.2.1; have hkl : (keepL gs roots).length = roots.length := by simp [keepL])
  · exfalso
    rename (1 : Int) = 0 => h1
    omega
  all_goals (rename RightP gs roots => hR; have hD := keep_right hR)
  · exfalso
    rcases hc with (hc | hc) | hc
    · exact hc hD.2
    · exact hc (by omega)
    · exact hc hD
  · exact hD
  · have hDl := (keepG_len gs roots)
    have hDle := (cntK_le gs roots).2
    have hVl := hR.2.1
    have hS : ∀ g ∈ gs, g.2.2.1.length ≤ 1000000 := fun g hg => Nat.le_trans (hF.1.2 g hg) (by decide)
    have hS' := keep_small (R := roots) hS
    have hlen := keptL_len (keepG gs roots) (keepL gs roots)
    have hkp : ∀ i, i < ((keepG gs roots)).length → (keptL (keepG gs roots) (keepL gs roots)).getD i false = true := fun i hi => (keptL_get hi).2 (keep_all hR hi)
    clear hc
    refine w_loop [(10, .d tInt), (11, .d tInt)] [] (fun y => ∃ a i : Nat, y.1.1 = (a : Int) ∧ y.1.2.1 = (i : Int) ∧ i ≤ ((keepG gs roots)).length ∧ a ≤ gs.length ∧ ∀ k, k < gs.length → Reach gs roots k → rank (keptL gs roots) k = i → a ≤ k) (fun y => ((keepG gs roots)).length - y.1.2.1.toNat) ?_
    conv => whnf
    refine And.intro ?_ ?_
    · exact ⟨0, 0, rfl, rfl, Nat.zero_le _, Nat.zero_le _, fun k _ _ _ => Nat.zero_le _⟩
    rintro ⟨⟨_, _, ⟨⟩⟩, ⟨⟩⟩ ⟨a, i, rfl, rfl, hib, ha, hp⟩
    repeat' (first | (with_reducible refine And.intro ?_ ?_) | (first | ((with_reducible show K_ _); (try dsimp +instances only); (with_reducible refine hK_ _ ?_); clear hK_ K_) | (with_reducible refine w_seq ?_) | (with_reducible refine thenK_n ?_) | (with_reducible refine w_block ?_) | (with_reducible refine blockK_n ?_) | ((with_reducible refine w_region ?_); intro K_ hK_; (conv => whnf)) | ((with_reducible refine w_cond ?_); (conv => (arg 2; whnf)); (first | (with_reducible refine condK_p ?_ ?_) | (with_reducible refine condK_t ?_) | (with_reducible refine condK_f ?_) | (with_reducible refine condK_b ?_ ?_))) | (with_reducible refine w_skip ?_) | (with_reducible refine w_exit ?_) | (with_reducible refine w_ret ?_) | (with_reducible refine thenK_r ?_) | (with_reducible refine thenK_e ?_) | (with_reducible refine blockK_r ?_) | (with_reducible refine blockK_x ?_) | (with_reducible refine blockK_y (by rfl) ?_) | ((with_reducible refine loopK_at ?_); (conv => whnf)) | (with_reducible refine loopK_r ?_) | (with_reducible refine loopK_e ?_) | ((with_reducible refine retK_r ?_); (conv => whnf)) | ((with_reducible refine retK_n ?_); (conv => whnf)) | ((with_reducible refine w_head ?_); intro K_ hK_; (conv => whnf)) | (with_reducible refine w_label ?_)) | ((with_reducible refine gv_more ?_); (first | (first | ((with_reducible show K_ _); (try dsimp +instances only); (with_reducible refine hK_ _ ?_); clear hK_ K_) | (with_reducible refine w_seq ?_) | (with_reducible refine thenK_n ?_) | (with_reducible refine w_block ?_) | (with_reducible refine blockK_n ?_) | ((with_reducible refine w_region ?_); intro K_ hK_; (conv => whnf)) | ((with_reducible refine w_cond ?_); (conv => (arg 2; whnf)); (first | (with_reducible refine condK_p ?_ ?_) | (with_reducible refine condK_t ?_) | (with_reducible refine condK_f ?_) | (with_reducible refine condK_b ?_ ?_))) | (with_reducible refine w_skip ?_) | (with_reducible refine w_exit ?_) | (with_reducible refine w_ret ?_) | (with_reducible refine thenK_r ?_) | (with_reducible refine thenK_e ?_) | (with_reducible refine blockK_r ?_) | (with_reducible refine blockK_x ?_) | (with_reducible refine blockK_y (by rfl) ?_) | ((with_reducible refine loopK_at ?_); (conv => whnf)) | (with_reducible refine loopK_r ?_) | (with_reducible refine loopK_e ?_) | ((with_reducible refine retK_r ?_); (conv => whnf)) | ((with_reducible refine retK_n ?_); (conv => whnf)) | ((with_reducible refine w_head ?_); intro K_ hK_; (conv => whnf)) | (with_reducible refine w_label ?_)) | (conv => whnf))) | (intro hc; (try dsimp +instances only [Dat, SDat, dflt, Ty.size, keepS, bkUpd, Gv.bk, backS, wayA, maxI, minI, negI] at hc); (try simp only [Int.toNat_natCast, Int.toNat_zero, Int.toNat_one, Classical.not_not, boolOf_true, decide_eq_true_eq, decide_eq_false_iff_not, ne_eq, true_implies, not_true_eq_false, not_false_eq_true, Bool.not_eq_true, Prod.mk.injEq, and_true, true_and, forall_const, preA_f, selB_0, selB_1, boolOf_eq_false, rep1, rep2, rep3, List.length_set, List.length_append, List.length_map, List.length_cons, List.length_nil, List.length_replicate, Nat.zero_add, Nat.add_zero] at hc)))
    all_goals (try ((fail_if_success (with_reducible refine w_at ?_)); (fail_if_success refine Exists.intro (0 : Nat) (Exists.intro (_ : Alt _) ?_)); (try dsimp only [Dat, SDat, dflt, Ty.size, keepS, bkUpd, Gv.bk, backS, wayA, maxI, minI, negI]); (try simp only [Int.toNat_natCast, Int.toNat_zero, Int.toNat_one, Classical.not_not, boolOf_true, decide_eq_true_eq, decide_eq_false_iff_not, ne_eq, true_implies, not_true_eq_false, not_false_eq_true, Bool.not_eq_true, Prod.mk.injEq, and_true, true_and, forall_const, preA_f, selB_0, selB_1, boolOf_eq_false, rep1, rep2, rep3, List.length_set, List.length_append, List.length_map, List.length_cons, List.length_nil, List.length_replicate, Nat.zero_add, Nat.add_zero]); first | done | exact trivial | rfl | omega | exact boolOf_eq _ | (simp only [allP, lo, hi, room, true_and, and_true, implies_true]; done) | ((try simp only [allP, lo, hi, room, true_and, and_true, implies_true]); (repeat' (first | (with_reducible refine And.intro ?_ ?_) | ((with_reducible refine preA_t ?_ ?_); rotate_left; (focus (repeat (first | exact trivial | ((conv => whnf); refine And.intro (by rfl) ?_))))) | intro hv)) <;> (try omega))))
    · replace hc : i < ((keepG gs roots)).length := by rw [hlen] at hc; omega
      obtain ⟨k, hk, hr, hrk, hat⟩ := keep_pos hc
      have hak := hp k hk hr hrk
      have hg1 : (((keepG gs roots)).getD i ((0, 0, [], ()) : Gate)).1 = (gs.getD k ((0, 0, [], ()) : Gate)).1 := by rw [hat]; rfl
      have hg2 : (((keepG gs roots)).getD i ((0, 0, [], ()) : Gate)).2.1 = (gs.getD k ((0, 0, [], ()) : Gate)).2.1 := by rw [hat]; rfl
      have hg3 : (((keepG gs roots)).getD i ((0, 0, [], ()) : Gate)).2.2.1.length = (gs.getD k ((0, 0, [], ()) : Gate)).2.2.1.length := by rw [hat]; unfold mapG; simp
      have hki := hkp i hc
      have hDi := hS' _ (getD_mem (d := ((0, 0, [], ()) : Gate)) hc)
      refine w_loop [(10, .d tInt)] [] (fun y => ∃ a : Nat, y.1.1 = (a : Int) ∧ a ≤ k) (fun y => k + 1 - y.1.1.toNat) ?_
      conv => whnf
      refine And.intro ?_ ?_
      · exact ⟨a, rfl, hak⟩
      rintro ⟨⟨_, ⟨⟩⟩, ⟨⟩⟩ ⟨a, rfl, hak⟩
      have hgl : a < gs.length → (gs.getD a ((0, 0, [], ()) : Gate)).2.2.1.length ≤ 1000000 := fun h => hS _ (getD_mem (d := ((0, 0, [], ()) : Gate)) h)
      clear hp
      repeat' (first | (with_reducible refine And.intro ?_ ?_) | (first | ((with_reducible show K_ _); (try dsimp +instances only); (with_reducible refine hK_ _ ?_); clear hK_ K_) | (with_reducible refine w_seq ?_) | (with_reducible refine thenK_n ?_) | (with_reducible refine w_block ?_) | (with_reducible refine blockK_n ?_) | ((with_reducible refine w_region ?_); intro K_ hK_; (conv => whnf)) | ((with_reducible refine w_cond ?_); (conv => (arg 2; whnf)); (first | (with_reducible refine condK_p ?_ ?_) | (with_reducible refine condK_t ?_) | (with_reducible refine condK_f ?_) | (with_reducible refine condK_b ?_ ?_))) | (with_reducible refine w_skip ?_) | (with_reducible refine w_exit ?_) | (with_reducible refine w_ret ?_) | (with_reducible refine thenK_r ?_) | (with_reducible refine thenK_e ?_) | (with_reducible refine blockK_r ?_) | (with_reducible refine blockK_x ?_) | (with_reducible refine blockK_y (by rfl) ?_) | ((with_reducible refine loopK_at ?_); (conv => whnf)) | (with_reducible refine loopK_r ?_) | (with_reducible refine loopK_e ?_) | ((with_reducible refine retK_r ?_); (conv => whnf)) | ((with_reducible refine retK_n ?_); (conv => whnf)) | ((with_reducible refine w_head ?_); intro K_ hK_; (conv => whnf)) | (with_reducible refine w_label ?_)) | ((with_reducible refine gv_more ?_); (first | (first | ((with_reducible show K_ _); (try dsimp +instances only); (with_reducible refine hK_ _ ?_); clear hK_ K_) | (with_reducible refine w_seq ?_) | (with_reducible refine thenK_n ?_) | (with_reducible refine w_block ?_) | (with_reducible refine blockK_n ?_) | ((with_reducible refine w_region ?_); intro K_ hK_; (conv => whnf)) | ((with_reducible refine w_cond ?_); (conv => (arg 2; whnf)); (first | (with_reducible refine condK_p ?_ ?_) | (with_reducible refine condK_t ?_) | (with_reducible refine condK_f ?_) | (with_reducible refine condK_b ?_ ?_))) | (with_reducible refine w_skip ?_) | (with_reducible refine w_exit ?_) | (with_reducible refine w_ret ?_) | (with_reducible refine thenK_r ?_) | (with_reducible refine thenK_e ?_) | (with_reducible refine blockK_r ?_) | (with_reducible refine blockK_x ?_) | (with_reducible refine blockK_y (by rfl) ?_) | ((with_reducible refine loopK_at ?_); (conv => whnf)) | (with_reducible refine loopK_r ?_) | (with_reducible refine loopK_e ?_) | ((with_reducible refine retK_r ?_); (conv => whnf)) | ((with_reducible refine retK_n ?_); (conv => whnf)) | ((with_reducible refine w_head ?_); intro K_ hK_; (conv => whnf)) | (with_reducible refine w_label ?_)) | (conv => whnf))) | (intro hc; (try dsimp +instances only [Dat, SDat, dflt, Ty.size, keepS, bkUpd, Gv.bk, backS, wayA, maxI, minI, negI] at hc); (try simp only [Int.toNat_natCast, Int.toNat_zero, Int.toNat_one, Classical.not_not, boolOf_true, decide_eq_true_eq, decide_eq_false_iff_not, ne_eq, true_implies, not_true_eq_false, not_false_eq_true, Bool.not_eq_true, Prod.mk.injEq, and_true, true_and, forall_const, preA_f, selB_0, selB_1, boolOf_eq_false, rep1, rep2, rep3, List.length_set, List.length_append, List.length_map, List.length_cons, List.length_nil, List.length_replicate, Nat.zero_add, Nat.add_zero] at hc)))
      all_goals (try ((fail_if_success (with_reducible refine w_at ?_)); (fail_if_success refine Exists.intro (0 : Nat) (Exists.intro (_ : Alt _) ?_)); (try dsimp only [Dat, SDat, dflt, Ty.size, keepS, bkUpd, Gv.bk, backS, wayA, maxI, minI, negI]); (try simp only [Int.toNat_natCast, Int.toNat_zero, Int.toNat_one, Classical.not_not, boolOf_true, decide_eq_true_eq, decide_eq_false_iff_not, ne_eq, true_implies, not_true_eq_false, not_false_eq_true, Bool.not_eq_true, Prod.mk.injEq, and_true, true_and, forall_const, preA_f, selB_0, selB_1, boolOf_eq_false, rep1, rep2, rep3, List.length_set, List.length_append, List.length_map, List.length_cons, List.length_nil, List.length_replicate, Nat.zero_add, Nat.add_zero]); first | done | exact trivial | rfl | omega | exact boolOf_eq _ | (simp only [allP, lo, hi, room, true_and, and_true, implies_true]; done) | ((try simp only [allP, lo, hi, room, true_and, and_true, implies_true]); (repeat' (first | (with_reducible refine And.intro ?_ ?_) | ((with_reducible refine preA_t ?_ ?_); rotate_left; (focus (repeat (first | exact trivial | ((conv => whnf); refine And.intro (by rfl) ?_))))) | intro hv)) <;> (try omega))))
      all_goals (try (simp only [Gv.hi]; omega))
      · refine ⟨a + 1, by omega, ?_⟩
        by_cases e : a = k
        · subst e
          have h3 : (((List.getD gs a ((0, 0, [], ()) : Gate)).2.2.1.length : Nat) : Int) = ((((keepG gs roots)).getD i ((0, 0, [], ()) : Gate)).2.2.1.length : Nat) := by omega
          rcases hc.2 with (h | h) | h
          · exact absurd hg1.symm h
          · exact absurd hg2.symm h
          · exact absurd h3 h
        · omega
      · rcases hc with h | h
        · rw [hki] at h; cases h
        · omega
      · have : ¬ (a : Int) = gs.length := fun h => hc (.inr h)
        refine ⟨a + 1, i + 1, by omega, by omega, by omega, by omega, fun k' hk' hr' hrk' => ?_⟩
        rcases Nat.lt_or_ge k k' with h | h
        · omega
        · have := rank_mono (ks := (keptL gs roots)) h
          omega
    · exact hS' _ (by assumption)
    · exact absurd hD hc
    · exact absurd hD (by assumption)
    · exact absurd hD (by assumption)
    · exact (keep_again hD fun k hk => keep_all hR hk).1
    · exact (keep_again hD fun k hk => keep_all hR hk).2
set_option maxRecDepth 100000 in
theorem ok_law18_ReapFew : SpecOK SP glob fi_law18_ReapFew S_law18_ReapFew := mk_ok (c := c_law18_ReapFew) (tab_ok _) mix_ok wf_law18_ReapFew (by decide) (.cons ok_law18_head (.cons ok_law18_few (.cons ok_keep_two (.cons ok_circuit_Valid (.cons ok_ref18_Right (.cons ok_ref18_Kept (.cons ok_ref16_Same (.cons ok_ref06_Ints .nil)))))))) (fun x hx => Nat.zero_lt_one) g_law18_ReapFew
end Go.Gv
