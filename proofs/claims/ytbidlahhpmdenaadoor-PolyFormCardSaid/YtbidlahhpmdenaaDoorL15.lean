/- The statements of chapter 15: the fixed examples. -/
import Derived.Test.YtbidlahhpmdenaaDoorP17
import Derived.Test.YtbidlahhpmdenaaDoorC15c
import Derived.Test.YtbidlahhpmdenaaDoorP15c
set_option linter.all false
namespace Go.Gv
open Go Go.Proofs Go.Proofs.YtbidlahhpmdenaaDoor
instance (l : List Pw) (j : Nat) : Decidable (okAt l j) := by unfold okAt; infer_instance
instance (l : List Pw) : Decidable (okP l) := by unfold okP; infer_instance
instance (p : List Mo) (i : Nat) : Decidable (okM p i) := by unfold okM; infer_instance
instance (p : List Mo) : Decidable (ValidP p) := by unfold ValidP; infer_instance
instance (p : List Mo) : Decidable (overC p) := by unfold overC; infer_instance
def hX : List Mo := [(1, [(0, 1, ())], ())]
def hY : List Mo := [(1, [(1, 1, ())], ())]
def hI : List Mo := [(1, [], ())]
def hXX : List Mo := [(2, [(0, 1, ())], ())]
def hXY : List Mo := [(1, [(0, 1, ())], ()), (1, [(1, 1, ())], ())]
def hXI : List Mo := [(1, [], ()), (1, [(0, 1, ())], ())]
def hC : List Mo := [(1, [(0, 1, ())], ()), (1, [(0, 1, ()), (1, 1, ())], ()), (1, [(0, 2, ())], ()), (1, [(1, 1, ())], ())]
theorem hsum {p q l r : List Mo} (hp : ValidP p) (hq : ValidP q) (hl : l = r) (ho : ¬ overC r) (hn : ¬ 400 < r.length) : sumV p q l = r ∧ sumE p q l = 0 := by
  subst hl
  have h1 := sumV_yes (l := l) ⟨hp, hq⟩
  have h2 := done_no ho
  rw [h1.1, h1.2, h2.1, h2.2, if_neg hn, if_neg hn]
  exact ⟨rfl, rfl⟩
theorem h1 : sumV hX hX (addL hX hX) = hXX ∧ sumE hX hX (addL hX hX) = 0 := hsum (by decide) (by decide) (by decide) (by decide) (by decide)
theorem h2 : sumV hX hY (addL hX hY) = hXY ∧ sumE hX hY (addL hX hY) = 0 := hsum (by decide) (by decide) (by decide) (by decide) (by decide)
theorem h3 : sumV hX hI (addL hX hI) = hXI ∧ sumE hX hI (addL hX hI) = 0 := hsum (by decide) (by decide) (by decide) (by decide) (by decide)
theorem h4 : sumV hXY hXI (addL [] (prods hXY hXI)) = hC ∧ sumE hXY hXI (addL [] (prods hXY hXI)) = 0 := hsum (by decide) (by decide) (by
  have : prods hXY hXI = [(1, [(0, 1, ())], ()), (1, [(0, 2, ())], ()), (1, [(1, 1, ())], ()), (1, [(0, 1, ()), (1, 1, ())], ())] := by
    simp [prods, hXY, hXI, mulM, mulP]; decide
  rw [this]; decide) (by decide) (by decide)
theorem text_of {p : List Mo} {s : List UInt8} (h : ValidP p) (hn : p ≠ []) (hs : polyT p = s) : textP p = s := by
  rw [← text_yes h hn, hs]
theorem h5 : textP hXX = [50, 42, 120, 48] := text_of (by decide) (by decide) (by decide +kernel)
theorem h6 : textP hC = [120, 48, 32, 43, 32, 120, 48, 42, 120, 49, 32, 43, 32, 120, 48, 94, 50, 32, 43, 32, 120, 49] := text_of (by decide) (by decide) (by decide +kernel)
theorem h7 : textP [] = [48] := (text_zero (p := []) (by decide) rfl).symm
instance (p : List Int) : Decidable (vsOK p) := by unfold vsOK; infer_instance
instance (p : List Mo) (v : List Int) : Decidable (evOK p v) := by unfold evOK; infer_instance
theorem h8 : evV [(1, [], ()), (2, [(0, 2, ())], ())] [3] = 19 ∧ evE [(1, [], ()), (2, [(0, 2, ())], ())] [3] = 0 := by
  have h := ev_yes (p := [(1, [], ()), (2, [(0, 2, ())], ())]) (vals := [3]) (by decide)
  rw [h.1, h.2]
  decide
theorem h9 : ValidP hC := by decide
theorem h10 : ¬ ValidP [(0, [], ())] := by decide

@[reducible] noncomputable def S_law15_head : Spec := { ins := .nil, pre := fun _ => True, alts := [{ outs := (.cons (.d .bool) .nil), res := (fun _ => (true, ())) }], noisy := true }
noncomputable def c_law15_head : Cf := { cf_law15_head (Fl [(fi_poly_Var, S_poly_Var), (fi_poly_Const, S_poly_Const), (fi_poly_Add, S_poly_Add), (fi_poly_Mul, S_poly_Mul), (fi_poly_Eval, S_poly_Eval), (fi_poly_Text, S_poly_Text), (fi_poly_Valid, S_poly_Valid)]) with nz := true }
set_option maxRecDepth 100000 in
set_option maxHeartbeats 4000000 in
theorem g_law15_head : ∀ x, S_law15_head.pre x → shOK S_law15_head.ins x → fnGoal c_law15_head fn_law15_head S_law15_head x := by
  rintro ⟨⟩ hpre hok
  clear hpre
  have hln := shLn_of _ hok; replace hok := Hd.mk hok; try simp only [shLn, datLn, inRng, lo, hi, maxLen, true_and, and_true] at hln
  have g1 := h1
  have g2 := h2
  have g3 := h3
  have g4 := h4
  have g5 := h5
  have g6 := h6
  have g9 := h9
  simp only [hX, hY, hI, hXX, hXY, hXI, hC] at g1 g2 g3 g4 g5 g6 g9
  have p1 : ((0 : Int) < 0 ∨ (4000 : Int) ≤ 0) = False := by decide
  have p2 : ((1 : Int) < 0 ∨ (4000 : Int) ≤ 1) = False := by decide
  have p3 : ((1 : Int) < 0 ∨ (1000000000 : Int) < 1) = False := by decide
  have p4 : ((0 : Int) < 0 ∨ (1000000000 : Int) < 0) = False := by decide
  have p5 : ((1 : Int) = 0) = False := by decide
  have p6 : ((-1 : Int) < 0 ∨ (1000000000 : Int) < -1) = True := by decide
  first | refine fn_goal (w_head ?_) | refine w_fn (w_head ?_)
  intro K_ hK_; (conv => whnf); (try dsimp +instances only); refine hK_ _ ?_; clear hK_ K_; (conv => (arg 2; whnf))
  repeat' (first | (with_reducible refine And.intro ?_ ?_) | ((try (with_reducible refine gv_more ?_)); first | ((with_reducible show K_ _); (try dsimp +instances only); (with_reducible refine hK_ _ ?_); clear hK_ K_) | (with_reducible (first | refine w_seq ?_ | refine thenK_n ?_ | refine w_block ?_ | refine blockK_n ?_)) | ((with_reducible refine w_region ?_); intro K_ hK_; (conv => whnf)) | ((with_reducible refine w_cond ?_); (conv => (arg 2; whnf)); (with_reducible (first | refine condK_p ?_ ?_ | refine condK_t ?_ | refine condK_f ?_ | refine condK_b ?_ ?_))) | (with_reducible (first | refine w_skip ?_ | refine w_exit ?_ | refine w_ret ?_ | refine thenK_r ?_ | refine thenK_e ?_ | refine blockK_r ?_ | refine blockK_x ?_ | refine blockK_y (by rfl) ?_ | refine loopK_r ?_ | refine loopK_e ?_ | refine w_label ?_)) | ((with_reducible (first | refine loopK_at ?_ | refine retK_r ?_ | refine retK_n ?_)); (conv => whnf)) | ((with_reducible refine w_head ?_); intro K_ hK_; (conv => whnf))) | ((with_reducible refine gv_more ?_); (conv => whnf)) | (intro hc; (try dsimp +instances only [Dat, SDat, dflt, Ty.size, keepS, bkUpd, Gv.bk, backS, wayA, maxI, minI, negI] at hc); (try simp only [Int.toNat_natCast, Int.toNat_zero, Int.toNat_one, Classical.not_not, boolOf_true, decide_eq_true_eq, decide_eq_false_iff_not, ne_eq, true_implies, not_true_eq_false, not_false_eq_true, Bool.not_eq_true, Prod.mk.injEq, and_true, true_and, forall_const, preA_f, selB_0, selB_1, boolOf_eq_false, rep1, rep2, rep3, List.length_set, List.length_append, List.length_map, List.length_cons, List.length_nil, List.length_replicate, Nat.zero_add, Nat.add_zero] at hc)))
  all_goals (try ((fail_if_success (with_reducible refine w_at ?_)); (fail_if_success refine Exists.intro (0 : Nat) (Exists.intro (_ : Alt _) ?_)); (try dsimp only [Dat, SDat, dflt, Ty.size, keepS, bkUpd, Gv.bk, backS, wayA, maxI, minI, negI]); (try simp only [Int.toNat_natCast, Int.toNat_zero, Int.toNat_one, Classical.not_not, boolOf_true, decide_eq_true_eq, decide_eq_false_iff_not, ne_eq, true_implies, not_true_eq_false, not_false_eq_true, Bool.not_eq_true, Prod.mk.injEq, and_true, true_and, forall_const, preA_f, selB_0, selB_1, boolOf_eq_false, rep1, rep2, rep3, List.length_set, List.length_append, List.length_map, List.length_cons, List.length_nil, List.length_replicate, Nat.zero_add, Nat.add_zero]); first | done | exact trivial | rfl | omega | exact boolOf_eq _ | (simp only [allP, lo, hi, room, true_and, and_true, implies_true]; done) | ((try simp only [allP, lo, hi, room, true_and, and_true, implies_true]); (repeat' (first | (with_reducible refine And.intro ?_ ?_) | ((with_reducible refine preA_t ?_ ?_); rotate_left; (focus (repeat (first | exact trivial | ((conv => whnf); refine And.intro (by rfl) ?_))))) | intro hv)) <;> (try omega))))
  all_goals (try simp only [p1, p2, p3, p4, p5, p6, if_false, if_true, g1.1, g1.2, g2.1, g2.2, g3.1, g3.2, g4.1, g4.2, h8.1, h8.2] at *)
  all_goals (first
    | exact g5
    | exact g6
    | exact g9
    | exact h7
    | exact h8.1
    | exact h10 (by assumption)
    | (exfalso; revert hc; decide)
    | skip)
set_option maxRecDepth 100000 in
theorem ok_law15_head : SpecOK SP glob fi_law15_head S_law15_head := mk_ok (c := c_law15_head) (tab_ok _) mix_ok wf_law15_head (by decide) (.cons ok_poly_Var (.cons ok_poly_Const (.cons ok_poly_Add (.cons ok_poly_Mul (.cons ok_poly_Eval (.cons ok_poly_Text (.cons ok_poly_Valid .nil))))))) (fun x hx => Nat.zero_lt_one) g_law15_head

@[reducible] noncomputable def S_law15_PolyMatchesReference : Spec := { ins := (.cons (.d tPoly) (.cons (.d tPoly) (.cons (.d tInt) (.cons (.d (.sl tInt)) .nil)))), pre := fun _ => True, alts := [{ outs := (.cons (.d .bool) .nil), res := (fun x => (fun p q n vals => (true, ())) x.1 x.2.1 x.2.2.1 x.2.2.2.1) }], noisy := true }
noncomputable def c_law15_PolyMatchesReference : Cf := { cf_law15_PolyMatchesReference (Fl [(fi_law15_head, S_law15_head), (fi_ref15_Small, S_ref15_Small), (fi_poly_Add, S_poly_Add), (fi_ref15_Add, S_ref15_Add), (fi_poly_Mul, S_poly_Mul), (fi_ref15_Mul, S_ref15_Mul), (fi_poly_Const, S_poly_Const), (fi_ref15_Const, S_ref15_Const), (fi_poly_Var, S_poly_Var), (fi_ref15_Var, S_ref15_Var), (fi_poly_Eval, S_poly_Eval), (fi_ref15_Eval, S_ref15_Eval), (fi_ref15_Same, S_ref15_Same), (fi_poly_Valid, S_poly_Valid), (fi_ref15_Valid, S_ref15_Valid), (fi_poly_Text, S_poly_Text), (fi_ref15_Text, S_ref15_Text)]) with nz := true }
set_option maxRecDepth 100000 in
set_option maxHeartbeats 4000000 in
theorem g_law15_PolyMatchesReference : ∀ x, S_law15_PolyMatchesReference.pre x → shOK S_law15_PolyMatchesReference.ins x → fnGoal c_law15_PolyMatchesReference fn_law15_PolyMatchesReference S_law15_PolyMatchesReference x := by
  rintro ⟨p, q, n, vals, ⟨⟩⟩ hpre hok
  clear hpre
  have hln := shLn_of _ hok; replace hok := Hd.mk hok; try simp only [shLn, datLn, inRng, lo, hi, maxLen, true_and, and_true] at hln
  first | refine fn_goal (w_head ?_) | refine w_fn (w_head ?_)
  intro K_ hK_; (conv => whnf); (try dsimp +instances only); refine hK_ _ ?_; clear hK_ K_; (conv => (arg 2; whnf))
  repeat' (first | (with_reducible refine And.intro ?_ ?_) | ((try (with_reducible refine gv_more ?_)); first | ((with_reducible show K_ _); (try dsimp +instances only); (with_reducible refine hK_ _ ?_); clear hK_ K_) | (with_reducible (first | refine w_seq ?_ | refine thenK_n ?_ | refine w_block ?_ | refine blockK_n ?_)) | ((with_reducible refine w_region ?_); intro K_ hK_; (conv => whnf)) | ((with_reducible refine w_cond ?_); (conv => (arg 2; whnf)); (with_reducible (first | refine condK_p ?_ ?_ | refine condK_t ?_ | refine condK_f ?_ | refine condK_b ?_ ?_))) | (with_reducible (first | refine w_skip ?_ | refine w_exit ?_ | refine w_ret ?_ | refine thenK_r ?_ | refine thenK_e ?_ | refine blockK_r ?_ | refine blockK_x ?_ | refine blockK_y (by rfl) ?_ | refine loopK_r ?_ | refine loopK_e ?_ | refine w_label ?_)) | ((with_reducible (first | refine loopK_at ?_ | refine retK_r ?_ | refine retK_n ?_)); (conv => whnf)) | ((with_reducible refine w_head ?_); intro K_ hK_; (conv => whnf))) | ((with_reducible refine gv_more ?_); (conv => whnf)) | (intro hc; (try dsimp +instances only [Dat, SDat, dflt, Ty.size, keepS, bkUpd, Gv.bk, backS, wayA, maxI, minI, negI] at hc); (try simp only [Int.toNat_natCast, Int.toNat_zero, Int.toNat_one, Classical.not_not, boolOf_true, decide_eq_true_eq, decide_eq_false_iff_not, ne_eq, true_implies, not_true_eq_false, not_false_eq_true, Bool.not_eq_true, Prod.mk.injEq, and_true, true_and, forall_const, preA_f, selB_0, selB_1, boolOf_eq_false, rep1, rep2, rep3, List.length_set, List.length_append, List.length_map, List.length_cons, List.length_nil, List.length_replicate, Nat.zero_add, Nat.add_zero] at hc)))
  all_goals (try ((fail_if_success (with_reducible refine w_at ?_)); (fail_if_success refine Exists.intro (0 : Nat) (Exists.intro (_ : Alt _) ?_)); (try dsimp only [Dat, SDat, dflt, Ty.size, keepS, bkUpd, Gv.bk, backS, wayA, maxI, minI, negI]); (try simp only [Int.toNat_natCast, Int.toNat_zero, Int.toNat_one, Classical.not_not, boolOf_true, decide_eq_true_eq, decide_eq_false_iff_not, ne_eq, true_implies, not_true_eq_false, not_false_eq_true, Bool.not_eq_true, Prod.mk.injEq, and_true, true_and, forall_const, preA_f, selB_0, selB_1, boolOf_eq_false, rep1, rep2, rep3, List.length_set, List.length_append, List.length_map, List.length_cons, List.length_nil, List.length_replicate, Nat.zero_add, Nat.add_zero]); first | done | exact trivial | rfl | omega | exact boolOf_eq _ | (simp only [allP, lo, hi, room, true_and, and_true, implies_true]; done) | ((try simp only [allP, lo, hi, room, true_and, and_true, implies_true]); (repeat' (first | (with_reducible refine And.intro ?_ ?_) | ((with_reducible refine preA_t ?_ ?_); rotate_left; (focus (repeat (first | exact trivial | ((conv => whnf); refine And.intro (by rfl) ?_))))) | intro hv)) <;> (try omega))))
set_option maxRecDepth 100000 in
theorem ok_law15_PolyMatchesReference : SpecOK SP glob fi_law15_PolyMatchesReference S_law15_PolyMatchesReference := mk_ok (c := c_law15_PolyMatchesReference) (tab_ok _) mix_ok wf_law15_PolyMatchesReference (by decide) (.cons ok_law15_head (.cons ok_ref15_Small (.cons ok_poly_Add (.cons ok_ref15_Add (.cons ok_poly_Mul (.cons ok_ref15_Mul (.cons ok_poly_Const (.cons ok_ref15_Const (.cons ok_poly_Var (.cons ok_ref15_Var (.cons ok_poly_Eval (.cons ok_ref15_Eval (.cons ok_ref15_Same (.cons ok_poly_Valid (.cons ok_ref15_Valid (.cons ok_poly_Text (.cons ok_ref15_Text .nil))))))))))))))))) (fun x hx => Nat.zero_lt_one) g_law15_PolyMatchesReference

@[reducible] noncomputable def S_law15_PolyForm : Spec := { ins := (.cons (.d tPoly) (.cons (.d tPoly) .nil)), pre := fun _ => True, alts := [{ outs := (.cons (.d .bool) .nil), res := (fun x => (fun p q => (true, ())) x.1 x.2.1) }], noisy := true }
noncomputable def c_law15_PolyForm : Cf := { cf_law15_PolyForm (Fl [(fi_law15_head, S_law15_head), (fi_ref15_Small, S_ref15_Small), (fi_poly_Add, S_poly_Add), (fi_poly_Mul, S_poly_Mul), (fi_poly_Valid, S_poly_Valid)]) with nz := true }
set_option maxRecDepth 100000 in
set_option maxHeartbeats 4000000 in
theorem g_law15_PolyForm : ∀ x, S_law15_PolyForm.pre x → shOK S_law15_PolyForm.ins x → fnGoal c_law15_PolyForm fn_law15_PolyForm S_law15_PolyForm x := by
  rintro ⟨p, q, ⟨⟩⟩ hpre hok
  clear hpre
  have hln := shLn_of _ hok; replace hok := Hd.mk hok; try simp only [shLn, datLn, inRng, lo, hi, maxLen, true_and, and_true] at hln
  have hE1 := sum_E (p := p) (q := q) (l := addL p q)
  have hE2 := sum_E (p := p) (q := q) (l := addL [] (prods p q))
  first | refine fn_goal (w_head ?_) | refine w_fn (w_head ?_)
  intro K_ hK_; (conv => whnf); (try dsimp +instances only); refine hK_ _ ?_; clear hK_ K_; (conv => (arg 2; whnf))
  repeat' (first | (with_reducible refine And.intro ?_ ?_) | ((try (with_reducible refine gv_more ?_)); first | ((with_reducible show K_ _); (try dsimp +instances only); (with_reducible refine hK_ _ ?_); clear hK_ K_) | (with_reducible (first | refine w_seq ?_ | refine thenK_n ?_ | refine w_block ?_ | refine blockK_n ?_)) | ((with_reducible refine w_region ?_); intro K_ hK_; (conv => whnf)) | ((with_reducible refine w_cond ?_); (conv => (arg 2; whnf)); (with_reducible (first | refine condK_p ?_ ?_ | refine condK_t ?_ | refine condK_f ?_ | refine condK_b ?_ ?_))) | (with_reducible (first | refine w_skip ?_ | refine w_exit ?_ | refine w_ret ?_ | refine thenK_r ?_ | refine thenK_e ?_ | refine blockK_r ?_ | refine blockK_x ?_ | refine blockK_y (by rfl) ?_ | refine loopK_r ?_ | refine loopK_e ?_ | refine w_label ?_)) | ((with_reducible (first | refine loopK_at ?_ | refine retK_r ?_ | refine retK_n ?_)); (conv => whnf)) | ((with_reducible refine w_head ?_); intro K_ hK_; (conv => whnf))) | ((with_reducible refine gv_more ?_); (conv => whnf)) | (intro hc; (try dsimp +instances only [Dat, SDat, dflt, Ty.size, keepS, bkUpd, Gv.bk, backS, wayA, maxI, minI, negI] at hc); (try simp only [Int.toNat_natCast, Int.toNat_zero, Int.toNat_one, Classical.not_not, boolOf_true, decide_eq_true_eq, decide_eq_false_iff_not, ne_eq, true_implies, not_true_eq_false, not_false_eq_true, Bool.not_eq_true, Prod.mk.injEq, and_true, true_and, forall_const, preA_f, selB_0, selB_1, boolOf_eq_false, rep1, rep2, rep3, List.length_set, List.length_append, List.length_map, List.length_cons, List.length_nil, List.length_replicate, Nat.zero_add, Nat.add_zero] at hc)))
  all_goals (try ((fail_if_success (with_reducible refine w_at ?_)); (fail_if_success refine Exists.intro (0 : Nat) (Exists.intro (_ : Alt _) ?_)); (try dsimp only [Dat, SDat, dflt, Ty.size, keepS, bkUpd, Gv.bk, backS, wayA, maxI, minI, negI]); (try simp only [Int.toNat_natCast, Int.toNat_zero, Int.toNat_one, Classical.not_not, boolOf_true, decide_eq_true_eq, decide_eq_false_iff_not, ne_eq, true_implies, not_true_eq_false, not_false_eq_true, Bool.not_eq_true, Prod.mk.injEq, and_true, true_and, forall_const, preA_f, selB_0, selB_1, boolOf_eq_false, rep1, rep2, rep3, List.length_set, List.length_append, List.length_map, List.length_cons, List.length_nil, List.length_replicate, Nat.zero_add, Nat.add_zero]); first | done | exact trivial | rfl | omega | exact boolOf_eq _ | (simp only [allP, lo, hi, room, true_and, and_true, implies_true]; done) | ((try simp only [allP, lo, hi, room, true_and, and_true, implies_true]); (repeat' (first | (with_reducible refine And.intro ?_ ?_) | ((with_reducible refine preA_t ?_ ?_); rotate_left; (focus (repeat (first | exact trivial | ((conv => whnf); refine And.intro (by rfl) ?_))))) | intro hv)) <;> (try omega))))
  all_goals (first
    | (exfalso; exact hc.elim (fun h => h hE1.1) (fun h => h hE2.1))
    | exact sum_valid fun hp hq => add_ok hp hq
    | exact sum_valid fun hp hq => mul_ok hp hq
    | exact hE1.2
    | exact hE2.2)
set_option maxRecDepth 100000 in
theorem ok_law15_PolyForm : SpecOK SP glob fi_law15_PolyForm S_law15_PolyForm := mk_ok (c := c_law15_PolyForm) (tab_ok _) mix_ok wf_law15_PolyForm (by decide) (.cons ok_law15_head (.cons ok_ref15_Small (.cons ok_poly_Add (.cons ok_poly_Mul (.cons ok_poly_Valid .nil))))) (fun x hx => Nat.zero_lt_one) g_law15_PolyForm

@[reducible] noncomputable def S_law15_PolyTexts : Spec := { ins := (.cons (.d tPoly) (.cons (.d tPoly) .nil)), pre := fun _ => True, alts := [{ outs := (.cons (.d .bool) .nil), res := (fun x => (fun p q => (true, ())) x.1 x.2.1) }], noisy := true }
noncomputable def c_law15_PolyTexts : Cf := { cf_law15_PolyTexts (Fl [(fi_law15_head, S_law15_head), (fi_ref15_Small, S_ref15_Small), (fi_poly_Valid, S_poly_Valid), (fi_poly_Text, S_poly_Text), (fi_ref15_Same, S_ref15_Same)]) with nz := true }
set_option maxRecDepth 100000 in
set_option maxHeartbeats 4000000 in
theorem g_law15_PolyTexts : ∀ x, S_law15_PolyTexts.pre x → shOK S_law15_PolyTexts.ins x → fnGoal c_law15_PolyTexts fn_law15_PolyTexts S_law15_PolyTexts x := by
  rintro ⟨p, q, ⟨⟩⟩ hpre hok
  clear hpre
  have hln := shLn_of _ hok; replace hok := Hd.mk hok; try simp only [shLn, datLn, inRng, lo, hi, maxLen, true_and, and_true] at hln
  first | refine fn_goal (w_head ?_) | refine w_fn (w_head ?_)
  intro K_ hK_; (conv => whnf); (try dsimp +instances only); refine hK_ _ ?_; clear hK_ K_; (conv => (arg 2; whnf))
  repeat' (first | (with_reducible refine And.intro ?_ ?_) | ((try (with_reducible refine gv_more ?_)); first | ((with_reducible show K_ _); (try dsimp +instances only); (with_reducible refine hK_ _ ?_); clear hK_ K_) | (with_reducible (first | refine w_seq ?_ | refine thenK_n ?_ | refine w_block ?_ | refine blockK_n ?_)) | ((with_reducible refine w_region ?_); intro K_ hK_; (conv => whnf)) | ((with_reducible refine w_cond ?_); (conv => (arg 2; whnf)); (with_reducible (first | refine condK_p ?_ ?_ | refine condK_t ?_ | refine condK_f ?_ | refine condK_b ?_ ?_))) | (with_reducible (first | refine w_skip ?_ | refine w_exit ?_ | refine w_ret ?_ | refine thenK_r ?_ | refine thenK_e ?_ | refine blockK_r ?_ | refine blockK_x ?_ | refine blockK_y (by rfl) ?_ | refine loopK_r ?_ | refine loopK_e ?_ | refine w_label ?_)) | ((with_reducible (first | refine loopK_at ?_ | refine retK_r ?_ | refine retK_n ?_)); (conv => whnf)) | ((with_reducible refine w_head ?_); intro K_ hK_; (conv => whnf))) | ((with_reducible refine gv_more ?_); (conv => whnf)) | (intro hc; (try dsimp +instances only [Dat, SDat, dflt, Ty.size, keepS, bkUpd, Gv.bk, backS, wayA, maxI, minI, negI] at hc); (try simp only [Int.toNat_natCast, Int.toNat_zero, Int.toNat_one, Classical.not_not, boolOf_true, decide_eq_true_eq, decide_eq_false_iff_not, ne_eq, true_implies, not_true_eq_false, not_false_eq_true, Bool.not_eq_true, Prod.mk.injEq, and_true, true_and, forall_const, preA_f, selB_0, selB_1, boolOf_eq_false, rep1, rep2, rep3, List.length_set, List.length_append, List.length_map, List.length_cons, List.length_nil, List.length_replicate, Nat.zero_add, Nat.add_zero] at hc)))
  all_goals (try ((fail_if_success (with_reducible refine w_at ?_)); (fail_if_success refine Exists.intro (0 : Nat) (Exists.intro (_ : Alt _) ?_)); (try dsimp only [Dat, SDat, dflt, Ty.size, keepS, bkUpd, Gv.bk, backS, wayA, maxI, minI, negI]); (try simp only [Int.toNat_natCast, Int.toNat_zero, Int.toNat_one, Classical.not_not, boolOf_true, decide_eq_true_eq, decide_eq_false_iff_not, ne_eq, true_implies, not_true_eq_false, not_false_eq_true, Bool.not_eq_true, Prod.mk.injEq, and_true, true_and, forall_const, preA_f, selB_0, selB_1, boolOf_eq_false, rep1, rep2, rep3, List.length_set, List.length_append, List.length_map, List.length_cons, List.length_nil, List.length_replicate, Nat.zero_add, Nat.add_zero]); first | done | exact trivial | rfl | omega | exact boolOf_eq _ | (simp only [allP, lo, hi, room, true_and, and_true, implies_true]; done) | ((try simp only [allP, lo, hi, room, true_and, and_true, implies_true]); (repeat' (first | (with_reducible refine And.intro ?_ ?_) | ((with_reducible refine preA_t ?_ ?_); rotate_left; (focus (repeat (first | exact trivial | ((conv => whnf); refine And.intro (by rfl) ?_))))) | intro hv)) <;> (try omega))))
  · exact textP_pos (Classical.not_not.1 (not_or.1 (not_or.1 hc).1).2) hv
  · exact textP_inj (Classical.not_not.1 (not_or.1 (not_or.1 hc).1).2) (Classical.not_not.1 (not_or.1 hc).2)
set_option maxRecDepth 100000 in
theorem ok_law15_PolyTexts : SpecOK SP glob fi_law15_PolyTexts S_law15_PolyTexts := mk_ok (c := c_law15_PolyTexts) (tab_ok _) mix_ok wf_law15_PolyTexts (by decide) (.cons ok_law15_head (.cons ok_ref15_Small (.cons ok_poly_Valid (.cons ok_poly_Text (.cons ok_ref15_Same .nil))))) (fun x hx => Nat.zero_lt_one) g_law15_PolyTexts

@[reducible] noncomputable def S_law15_PolyUnits : Spec := { ins := (.cons (.d tPoly) .nil), pre := fun _ => True, alts := [{ outs := (.cons (.d .bool) .nil), res := (fun x => (fun p => (true, ())) x.1) }], noisy := true }
noncomputable def c_law15_PolyUnits : Cf := { cf_law15_PolyUnits (Fl [(fi_law15_head, S_law15_head), (fi_ref15_Small, S_ref15_Small), (fi_poly_Valid, S_poly_Valid), (fi_poly_Const, S_poly_Const), (fi_poly_Add, S_poly_Add), (fi_poly_Mul, S_poly_Mul), (fi_ref15_Same, S_ref15_Same)]) with nz := true }
set_option maxRecDepth 100000 in
set_option maxHeartbeats 4000000 in
theorem g_law15_PolyUnits : ∀ x, S_law15_PolyUnits.pre x → shOK S_law15_PolyUnits.ins x → fnGoal c_law15_PolyUnits fn_law15_PolyUnits S_law15_PolyUnits x := by
  rintro ⟨p, ⟨⟩⟩ hpre hok
  clear hpre
  have hln := shLn_of _ hok; replace hok := Hd.mk hok; try simp only [shLn, datLn, inRng, lo, hi, maxLen, true_and, and_true] at hln
  have p3 : ((1 : Int) < 0 ∨ (1000000000 : Int) < 1) = False := by decide
  have p4 : ((0 : Int) < 0 ∨ (1000000000 : Int) < 0) = False := by decide
  have p5 : ((1 : Int) = 0) = False := by decide
  first | refine fn_goal (w_head ?_) | refine w_fn (w_head ?_)
  intro K_ hK_; (conv => whnf); (try dsimp +instances only); refine hK_ _ ?_; clear hK_ K_; (conv => (arg 2; whnf))
  repeat' (first | (with_reducible refine And.intro ?_ ?_) | ((try (with_reducible refine gv_more ?_)); first | ((with_reducible show K_ _); (try dsimp +instances only); (with_reducible refine hK_ _ ?_); clear hK_ K_) | (with_reducible (first | refine w_seq ?_ | refine thenK_n ?_ | refine w_block ?_ | refine blockK_n ?_)) | ((with_reducible refine w_region ?_); intro K_ hK_; (conv => whnf)) | ((with_reducible refine w_cond ?_); (conv => (arg 2; whnf)); (with_reducible (first | refine condK_p ?_ ?_ | refine condK_t ?_ | refine condK_f ?_ | refine condK_b ?_ ?_))) | (with_reducible (first | refine w_skip ?_ | refine w_exit ?_ | refine w_ret ?_ | refine thenK_r ?_ | refine thenK_e ?_ | refine blockK_r ?_ | refine blockK_x ?_ | refine blockK_y (by rfl) ?_ | refine loopK_r ?_ | refine loopK_e ?_ | refine w_label ?_)) | ((with_reducible (first | refine loopK_at ?_ | refine retK_r ?_ | refine retK_n ?_)); (conv => whnf)) | ((with_reducible refine w_head ?_); intro K_ hK_; (conv => whnf))) | ((with_reducible refine gv_more ?_); (conv => whnf)) | (intro hc; (try dsimp +instances only [Dat, SDat, dflt, Ty.size, keepS, bkUpd, Gv.bk, backS, wayA, maxI, minI, negI] at hc); (try simp only [Int.toNat_natCast, Int.toNat_zero, Int.toNat_one, Classical.not_not, boolOf_true, decide_eq_true_eq, decide_eq_false_iff_not, ne_eq, true_implies, not_true_eq_false, not_false_eq_true, Bool.not_eq_true, Prod.mk.injEq, and_true, true_and, forall_const, preA_f, selB_0, selB_1, boolOf_eq_false, rep1, rep2, rep3, List.length_set, List.length_append, List.length_map, List.length_cons, List.length_nil, List.length_replicate, Nat.zero_add, Nat.add_zero] at hc)))
  all_goals (try ((fail_if_success (with_reducible refine w_at ?_)); (fail_if_success refine Exists.intro (0 : Nat) (Exists.intro (_ : Alt _) ?_)); (try dsimp only [Dat, SDat, dflt, Ty.size, keepS, bkUpd, Gv.bk, backS, wayA, maxI, minI, negI]); (try simp only [Int.toNat_natCast, Int.toNat_zero, Int.toNat_one, Classical.not_not, boolOf_true, decide_eq_true_eq, decide_eq_false_iff_not, ne_eq, true_implies, not_true_eq_false, not_false_eq_true, Bool.not_eq_true, Prod.mk.injEq, and_true, true_and, forall_const, preA_f, selB_0, selB_1, boolOf_eq_false, rep1, rep2, rep3, List.length_set, List.length_append, List.length_map, List.length_cons, List.length_nil, List.length_replicate, Nat.zero_add, Nat.add_zero]); first | done | exact trivial | rfl | omega | exact boolOf_eq _ | (simp only [allP, lo, hi, room, true_and, and_true, implies_true]; done) | ((try simp only [allP, lo, hi, room, true_and, and_true, implies_true]); (repeat' (first | (with_reducible refine And.intro ?_ ?_) | ((with_reducible refine preA_t ?_ ?_); rotate_left; (focus (repeat (first | exact trivial | ((conv => whnf); refine And.intro (by rfl) ?_))))) | intro hv)) <;> (try omega))))
  all_goals
    have hv : ValidP p := Classical.not_not.1 (not_or.1 hc).2
    simp only [p3, p4, p5, if_false, if_true]
    have e1 := sum_id hv valid_nil (l := addL p []) hv
    have e2 := sum_id valid_one hv (l := addL [] (prods [(1, [], ())] p)) (by rw [one_mul hv]; exact hv)
    have e3 := sum_id hv valid_nil (l := addL [] (prods p [])) (by rw [mul_zero]; exact valid_nil)
    first
      | exact e1.2
      | exact e2.2
      | exact e3.2
      | exact e1.1
      | (rw [e2.1]; exact one_mul hv)
      | (rw [e3.1, mul_zero]; rfl)
set_option maxRecDepth 100000 in
theorem ok_law15_PolyUnits : SpecOK SP glob fi_law15_PolyUnits S_law15_PolyUnits := mk_ok (c := c_law15_PolyUnits) (tab_ok _) mix_ok wf_law15_PolyUnits (by decide) (.cons ok_law15_head (.cons ok_ref15_Small (.cons ok_poly_Valid (.cons ok_poly_Const (.cons ok_poly_Add (.cons ok_poly_Mul (.cons ok_ref15_Same .nil))))))) (fun x hx => Nat.zero_lt_one) g_law15_PolyUnits
end Go.Gv
