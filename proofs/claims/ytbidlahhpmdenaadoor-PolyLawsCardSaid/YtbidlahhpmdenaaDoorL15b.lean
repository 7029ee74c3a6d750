/- The statements of chapter 15: PolyLaws. -/
import Derived.Test.YtbidlahhpmdenaaDoorL15
import Derived.Test.YtbidlahhpmdenaaDoorP19
set_option linter.all false
namespace Go.Gv
open Go Go.Proofs Go.Proofs.YtbidlahhpmdenaaDoor

theorem same_sum {p q p' q' l l' : List Mo} (hp : ValidP p) (hq : ValidP q) (hp' : ValidP p') (hq' : ValidP q') (e : l = l') : sumE p q l = sumE p' q' l' ∧ sumV p q l = sumV p' q' l' := by
  rw [(sumV_yes ⟨hp, hq⟩).1, (sumV_yes ⟨hp, hq⟩).2, (sumV_yes ⟨hp', hq'⟩).1, (sumV_yes ⟨hp', hq'⟩).2, e]; exact ⟨rfl, rfl⟩
theorem three_laws {p q r : List Mo} (h : ¬((((¬sumE p q (addL p q) = 0 ∨ ¬sumE p q (addL [] (prods p q)) = 0) ∨ ¬sumE q r (addL q r) = 0) ∨ ¬sumE q r (addL [] (prods q r)) = 0) ∨ ¬sumE p r (addL [] (prods p r)) = 0)) :
    (sumE (sumV p q (addL p q)) r (addL (sumV p q (addL p q)) r) = sumE p (sumV q r (addL q r)) (addL p (sumV q r (addL q r))) ∧ sumV (sumV p q (addL p q)) r (addL (sumV p q (addL p q)) r) = sumV p (sumV q r (addL q r)) (addL p (sumV q r (addL q r)))) ∧
    (sumE (sumV p q (addL [] (prods p q))) r (addL [] (prods (sumV p q (addL [] (prods p q))) r)) = sumE p (sumV q r (addL [] (prods q r))) (addL [] (prods p (sumV q r (addL [] (prods q r))))) ∧
      sumV (sumV p q (addL [] (prods p q))) r (addL [] (prods (sumV p q (addL [] (prods p q))) r)) = sumV p (sumV q r (addL [] (prods q r))) (addL [] (prods p (sumV q r (addL [] (prods q r)))))) ∧
    (sumE p (sumV q r (addL q r)) (addL [] (prods p (sumV q r (addL q r)))) = sumE (sumV p q (addL [] (prods p q))) (sumV p r (addL [] (prods p r))) (addL (sumV p q (addL [] (prods p q))) (sumV p r (addL [] (prods p r)))) ∧
      sumV p (sumV q r (addL q r)) (addL [] (prods p (sumV q r (addL q r)))) = sumV (sumV p q (addL [] (prods p q))) (sumV p r (addL [] (prods p r))) (addL (sumV p q (addL [] (prods p q))) (sumV p r (addL [] (prods p r))))) := by
  simp only [not_or, Classical.not_not] at h
  obtain ⟨⟨⟨⟨h1, h2⟩, h3⟩, h4⟩, h5⟩ := h
  obtain ⟨⟨hp, hq⟩, ha, ea⟩ := addE_zero h1
  obtain ⟨_, hc, ec⟩ := mulE_zero h2
  obtain ⟨⟨_, hr⟩, hs, es⟩ := addE_zero h3
  obtain ⟨_, ht, et⟩ := mulE_zero h4
  obtain ⟨_, hu, eu⟩ := mulE_zero h5
  rw [ea, ec, es, et, eu]
  exact ⟨same_sum ha hr hp hs (add_assoc_l hp hq hr ha hs), same_sum hc hr hp ht (mul_assoc_l hp hq hr hc ht), same_sum hp hs hc hu (distr_l hp hq hr hs hc hu)⟩

@[reducible] noncomputable def S_law15_PolyLaws : Spec := { ins := (.cons (.d tPoly) (.cons (.d tPoly) (.cons (.d tPoly) .nil))), pre := fun _ => True, alts := [{ outs := (.cons (.d .bool) .nil), res := (fun x => (fun p q r => (true, ())) x.1 x.2.1 x.2.2.1) }], noisy := true }
noncomputable def c_law15_PolyLaws : Cf := { cf_law15_PolyLaws (Fl [(fi_law15_head, S_law15_head), (fi_ref15_Small, S_ref15_Small), (fi_poly_Add, S_poly_Add), (fi_poly_Mul, S_poly_Mul), (fi_ref15_Same, S_ref15_Same)]) with nz := true }
set_option maxRecDepth 100000 in
set_option maxHeartbeats 4000000 in
theorem g_law15_PolyLaws : ∀ x, S_law15_PolyLaws.pre x → shOK S_law15_PolyLaws.ins x → fnGoal c_law15_PolyLaws fn_law15_PolyLaws S_law15_PolyLaws x := by
  rintro ⟨p, q, r, ⟨⟩⟩ hpre hok
  clear hpre
  have hln := shLn_of _ hok; replace hok := Hd.mk hok; try simp only [shLn, datLn, inRng, lo, hi, maxLen, true_and, and_true] at hln
  have c1 := sum_comm (p := p) (q := q) (l := addL p q) (l' := addL q p) fun hp hq => add_comm_l hp hq
  have c2 := sum_comm (p := p) (q := q) (l := addL [] (prods p q)) (l' := addL [] (prods q p)) fun hp hq => mul_comm_l hp hq
  first | refine fn_goal (w_head ?_) | refine w_fn (w_head ?_)
  intro K_ hK_; (conv => whnf); (try dsimp +instances only); refine hK_ _ ?_; clear hK_ K_; (conv => (arg 2; whnf))
  repeat' (first | (with_reducible refine And.intro ?_ ?_) | ((try (with_reducible refine gv_more ?_)); first | ((with_reducible show K_ _); (try dsimp +instances only); (with_reducible refine hK_ _ ?_); clear hK_ K_) | (with_reducible (first | refine w_seq ?_ | refine thenK_n ?_ | refine w_block ?_ | refine blockK_n ?_)) | ((with_reducible refine w_region ?_); intro K_ hK_; (conv => whnf)) | ((with_reducible refine w_cond ?_); (conv => (arg 2; whnf)); (with_reducible (first | refine condK_p ?_ ?_ | refine condK_t ?_ | refine condK_f ?_ | refine condK_b ?_ ?_))) | (with_reducible (first | refine w_skip ?_ | refine w_exit ?_ | refine w_ret ?_ | refine thenK_r ?_ | refine thenK_e ?_ | refine blockK_r ?_ | refine blockK_x ?_ | refine blockK_y (by rfl) ?_ | refine loopK_r ?_ | refine loopK_e ?_ | refine w_label ?_)) | ((with_reducible (first | refine loopK_at ?_ | refine retK_r ?_ | refine retK_n ?_)); (conv => whnf)) | ((with_reducible refine w_head ?_); intro K_ hK_; (conv => whnf))) | ((with_reducible refine gv_more ?_); (conv => whnf)) | (intro hc; (try dsimp +instances only [Dat, SDat, dflt, Ty.size, keepS, bkUpd, Gv.bk, backS, wayA, maxI, minI, negI] at hc); (try simp only [Int.toNat_natCast, Int.toNat_zero, Int.toNat_one, Classical.not_not, boolOf_true, decide_eq_true_eq, decide_eq_false_iff_not, ne_eq, true_implies, not_true_eq_false, not_false_eq_true, Bool.not_eq_true, Prod.mk.injEq, and_true, true_and, forall_const, preA_f, selB_0, selB_1, boolOf_eq_false, rep1, rep2, rep3, List.length_set, List.length_append, List.length_map, List.length_cons, List.length_nil, List.length_replicate, Nat.zero_add, Nat.add_zero] at hc)))
  all_goals (try ((fail_if_success (with_reducible refine w_at ?_)); (fail_if_success refine Exists.intro (0 : Nat) (Exists.intro (_ : Alt _) ?_)); (try dsimp only [Dat, SDat, dflt, Ty.size, keepS, bkUpd, Gv.bk, backS, wayA, maxI, minI, negI]); (try simp only [Int.toNat_natCast, Int.toNat_zero, Int.toNat_one, Classical.not_not, boolOf_true, decide_eq_true_eq, decide_eq_false_iff_not, ne_eq, true_implies, not_true_eq_false, not_false_eq_true, Bool.not_eq_true, Prod.mk.injEq, and_true, true_and, forall_const, preA_f, selB_0, selB_1, boolOf_eq_false, rep1, rep2, rep3, List.length_set, List.length_append, List.length_map, List.length_cons, List.length_nil, List.length_replicate, Nat.zero_add, Nat.add_zero]); first | done | exact trivial | rfl | omega | exact boolOf_eq _ | (simp only [allP, lo, hi, room, true_and, and_true, implies_true]; done) | ((try simp only [allP, lo, hi, room, true_and, and_true, implies_true]); (repeat' (first | (with_reducible refine And.intro ?_ ?_) | ((with_reducible refine preA_t ?_ ?_); rotate_left; (focus (repeat (first | exact trivial | ((conv => whnf); refine And.intro (by rfl) ?_))))) | intro hv)) <;> (try omega))))
  · exfalso
    rcases hc with ((h | h) | h) | h
    · exact h c1.2
    · exact h c2.2
    · exact h c1.1
    · exact h c2.1
  · exfalso
    rename_i h5
    have h3 := three_laws h5
    exact hc.2.elim (fun h => h (h3.1.1.symm.trans hc.1)) (fun h => h h3.1.2)
  · exfalso
    rename_i h5 _
    have h3 := three_laws h5
    exact hc.2.elim (fun h => h (h3.2.1.1.symm.trans hc.1)) (fun h => h h3.2.1.2)
  · rename_i h5 _
    have h3 := three_laws h5
    by_cases h0 : sumE p (sumV q r (addL q r)) (addL [] (prods p (sumV q r (addL q r)))) = 0
    · exact .inr ⟨h3.2.2.1.symm.trans h0, h3.2.2.2⟩
    · exact .inl h0
set_option maxRecDepth 100000 in
theorem ok_law15_PolyLaws : SpecOK SP glob fi_law15_PolyLaws S_law15_PolyLaws := mk_ok (c := c_law15_PolyLaws) (tab_ok _) mix_ok wf_law15_PolyLaws (by decide) (.cons ok_law15_head (.cons ok_ref15_Small (.cons ok_poly_Add (.cons ok_poly_Mul (.cons ok_ref15_Same .nil))))) (fun x hx => Nat.zero_lt_one) g_law15_PolyLaws
end Go.Gv
