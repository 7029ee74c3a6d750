/- The statements of chapter 15: PolyValues, PolyDeletes. -/
import Derived.Test.YtbidlahhpmdenaaDoorL15
import Derived.Test.YtbidlahhpmdenaaDoorP20
set_option linter.all false
namespace Go.Gv
open Go Go.Proofs Go.Proofs.YtbidlahhpmdenaaDoor

@[reducible] noncomputable def S_law15_PolyValues : Spec := { ins := (.cons (.d tPoly) (.cons (.d tPoly) (.cons (.d (.sl tInt)) .nil))), pre := fun _ => True, alts := [{ outs := (.cons (.d .bool) .nil), res := (fun x => (fun p q vs => (true, ())) x.1 x.2.1 x.2.2.1) }], noisy := true }
noncomputable def c_law15_PolyValues : Cf := { cf_law15_PolyValues (Fl [(fi_law15_head, S_law15_head), (fi_ref15_Small, S_ref15_Small), (fi_poly_Add, S_poly_Add), (fi_poly_Mul, S_poly_Mul), (fi_poly_Eval, S_poly_Eval)]) with nz := true }
set_option maxRecDepth 100000 in
set_option maxHeartbeats 4000000 in
theorem g_law15_PolyValues : ∀ x, S_law15_PolyValues.pre x → shOK S_law15_PolyValues.ins x → fnGoal c_law15_PolyValues fn_law15_PolyValues S_law15_PolyValues x := by
  rintro ⟨p, q, vs, ⟨⟩⟩ hpre hok
  clear hpre
  have hln := shLn_of _ hok; replace hok := Hd.mk hok; try simp only [shLn, datLn, inRng, lo, hi, maxLen, true_and, and_true] at hln
  first | refine fn_goal (w_head ?_) | refine w_fn (w_head ?_)
  intro K_ hK_; (conv => whnf); (try dsimp +instances only); refine hK_ _ ?_; clear hK_ K_; (conv => (arg 2; whnf))
  repeat' (first | (with_reducible refine And.intro ?_ ?_) | ((try (with_reducible refine gv_more ?_)); first | ((with_reducible show K_ _); (try dsimp +instances only); (with_reducible refine hK_ _ ?_); clear hK_ K_) | (with_reducible (first | refine w_seq ?_ | refine thenK_n ?_ | refine w_block ?_ | refine blockK_n ?_)) | ((with_reducible refine w_region ?_); intro K_ hK_; (conv => whnf)) | ((with_reducible refine w_cond ?_); (conv => (arg 2; whnf)); (with_reducible (first | refine condK_p ?_ ?_ | refine condK_t ?_ | refine condK_f ?_ | refine condK_b ?_ ?_))) | (with_reducible (first | refine w_skip ?_ | refine w_exit ?_ | refine w_ret ?_ | refine thenK_r ?_ | refine thenK_e ?_ | refine blockK_r ?_ | refine blockK_x ?_ | refine blockK_y (by rfl) ?_ | refine loopK_r ?_ | refine loopK_e ?_ | refine w_label ?_)) | ((with_reducible (first | refine loopK_at ?_ | refine retK_r ?_ | refine retK_n ?_)); (conv => whnf)) | ((with_reducible refine w_head ?_); intro K_ hK_; (conv => whnf))) | ((with_reducible refine gv_more ?_); (conv => whnf)) | (intro hc; (try dsimp +instances only [Dat, SDat, dflt, Ty.size, keepS, bkUpd, Gv.bk, backS, wayA, maxI, minI, negI] at hc); (try simp only [Int.toNat_natCast, Int.toNat_zero, Int.toNat_one, Classical.not_not, boolOf_true, decide_eq_true_eq, decide_eq_false_iff_not, ne_eq, true_implies, not_true_eq_false, not_false_eq_true, Bool.not_eq_true, Prod.mk.injEq, and_true, true_and, forall_const, preA_f, selB_0, selB_1, boolOf_eq_false, rep1, rep2, rep3, List.length_set, List.length_append, List.length_map, List.length_cons, List.length_nil, List.length_replicate, Nat.zero_add, Nat.add_zero] at hc)))
  all_goals (try ((fail_if_success (with_reducible refine w_at ?_)); (fail_if_success refine Exists.intro (0 : Nat) (Exists.intro (_ : Alt _) ?_)); (try dsimp only [Dat, SDat, dflt, Ty.size, keepS, bkUpd, Gv.bk, backS, wayA, maxI, minI, negI]); (try simp only [Int.toNat_natCast, Int.toNat_zero, Int.toNat_one, Classical.not_not, boolOf_true, decide_eq_true_eq, decide_eq_false_iff_not, ne_eq, true_implies, not_true_eq_false, not_false_eq_true, Bool.not_eq_true, Prod.mk.injEq, and_true, true_and, forall_const, preA_f, selB_0, selB_1, boolOf_eq_false, rep1, rep2, rep3, List.length_set, List.length_append, List.length_map, List.length_cons, List.length_nil, List.length_replicate, Nat.zero_add, Nat.add_zero]); first | done | exact trivial | rfl | omega | exact boolOf_eq _ | (simp only [allP, lo, hi, room, true_and, and_true, implies_true]; done) | ((try simp only [allP, lo, hi, room, true_and, and_true, implies_true]); (repeat' (first | (with_reducible refine And.intro ?_ ?_) | ((with_reducible refine preA_t ?_ ?_); rotate_left; (focus (repeat (first | exact trivial | ((conv => whnf); refine And.intro (by rfl) ?_))))) | intro hv)) <;> (try omega))))
  all_goals (first
    | (by_cases h : evE p vs = 0
       · exact .inl h
       · exact .inr (ev_err h))
    | skip)
  all_goals
    have hpq : evE p vs = 0 ∧ evE q vs = 0 := by
      first
        | (have h := hc; simp only [not_or, Classical.not_not] at h; exact h)
        | (rename ¬ (¬evE p vs = 0 ∨ ¬evE q vs = 0) => h; simp only [not_or, Classical.not_not] at h; exact h)
    have hx := ev_rg hpq.1
    have hy := ev_rg hpq.2
    have hxy0 : 0 ≤ evV p vs * evV q vs := Int.mul_nonneg hx.1 hy.1
    have hxy1 : evV p vs * evV q vs ≤ 1000000000 * 1000000000 := Int.mul_le_mul hx.2 hy.2 hy.1 (by decide)
    have hA := fun h => ev_add hpq.1 hpq.2 h
    have hM := fun h => ev_mul hpq.1 hpq.2 h
    first
      | omega
      | (exfalso
         rcases hc with ⟨h1, h2⟩ | ⟨⟨h1, h2⟩, h3⟩
         · exact h2 (hA h1).1.symm
         · exact h3 ((hA h1).2 h2))
      | (by_cases h : sumE p q (addL [] (prods p q)) = 0
         · refine .inr ⟨(hM h).1.symm, ?_⟩
           by_cases h2 : evE (sumV p q (addL [] (prods p q))) vs = 0
           · exact .inr ((hM h).2 h2)
           · exact .inl h2
         · exact .inl h)
set_option maxRecDepth 100000 in
theorem ok_law15_PolyValues : SpecOK SP glob fi_law15_PolyValues S_law15_PolyValues := mk_ok (c := c_law15_PolyValues) (tab_ok _) mix_ok wf_law15_PolyValues (by decide) (.cons ok_law15_head (.cons ok_ref15_Small (.cons ok_poly_Add (.cons ok_poly_Mul (.cons ok_poly_Eval .nil))))) (fun x hx => Nat.zero_lt_one) g_law15_PolyValues

/-- A monomial has a variable. -/
def hasV (v : Int) (m : Mo) : Bool := m.2.1.any fun x => decide (x.1 = v)
def lessP (v : Int) (p : List Mo) : List Mo := p.filter fun m => !hasV v m

theorem has_no {v : Int} {m : Mo} : hasV v m = false ↔ ∀ x ∈ m.2.1, x.1 ≠ v := by
  unfold hasV
  rw [List.any_eq_false]
  simp
theorem valA_set {vs : List Int} {v : Nat} : ∀ {l : List Pw}, (∀ x ∈ l, x.1 ≠ (v : Int) ∧ 0 ≤ x.1) → valA (vs.set v 0) l = valA vs l
  | [], _ => rfl
  | x :: l, h => by
    have hx := h x List.mem_cons_self
    simp only [valA, valA_set fun y hy => h y (List.mem_cons_of_mem _ hy)]
    congr 2
    rw [List.getD_eq_getElem?_getD, List.getD_eq_getElem?_getD, List.getElem?_set_ne (by omega)]
theorem valA_zero {vs : List Int} : ∀ {l : List Pw} (x : Pw), x ∈ l → vs.getD x.1.toNat 0 = 0 → 1 ≤ x.2.1 → valA vs l = 0
  | y :: l, x, hx, h0, he => by
    rcases List.mem_cons.1 hx with rfl | hx
    · obtain ⟨k, hk⟩ : ∃ k, x.2.1.toNat = k + 1 := ⟨x.2.1.toNat - 1, by omega⟩
      rw [valA, h0, hk, Int.pow_succ]; simp
    · rw [valA, valA_zero x hx h0 he]; simp
theorem lin_less {vs : List Int} {v : Nat} : ∀ {p : List Mo}, (∀ m ∈ p, ∀ x ∈ m.2.1, 0 ≤ x.1 ∧ 1 ≤ x.2.1) → v < vs.length → lin (valA (vs.set v 0)) p = lin (valA vs) (lessP v p)
  | [], _, _ => rfl
  | m :: p, h, hv => by
    have ih := lin_less (p := p) (fun x hx => h x (List.mem_cons_of_mem _ hx)) hv
    have hm := h m List.mem_cons_self
    unfold lessP at ih ⊢
    by_cases hh : hasV v m = false
    · rw [List.filter_cons, if_pos (by rw [hh]; rfl)]
      simp only [lin, ih]
      rw [valA_set fun x hx => ⟨has_no.1 hh x hx, (hm x hx).1⟩]
    · have hh' : hasV v m = true := by simpa using hh
      rw [List.filter_cons, if_neg (by rw [hh']; decide)]
      simp only [lin, ih]
      unfold hasV at hh'
      rw [List.any_eq_true] at hh'
      obtain ⟨x, hx, he⟩ := hh'
      have he : x.1 = (v : Int) := by simpa using he
      rw [valA_zero x hx (by rw [he, Int.toNat_natCast, List.getD_eq_getElem?_getD, List.getElem?_set_self hv]; rfl) (hm x hx).2]
      simp
theorem valid_less {p : List Mo} {v : Int} (h : ValidP p) : ValidP (lessP v p) := by
  have hsub : (lessP v p).Sublist p := List.filter_sublist
  refine valid_of ((valid_sum h).1.sublist hsub) (fun m hm => wkM_of h m (hsub.subset hm)) (under_not fun m hm => ?_) (Nat.le_trans hsub.length_le h.1)
  have hm := hsub.subset hm
  exact ⟨(valid_mem h hm).2.1, fun x hx => (okP_mem (valid_mem h hm).2.2 hx).2.2.2⟩
theorem set_mem {vs : List Int} {v : Nat} {x : Int} (hx : x ∈ vs) (hv : v < vs.length) : x ∈ vs.set v 0 ∨ x = vs.getD v 0 := by
  obtain ⟨i, hi, rfl⟩ := List.getElem_of_mem hx
  by_cases e : i = v
  · subst e; rw [getD_ok _ hv]; exact .inr rfl
  · refine .inl (List.mem_iff_getElem.2 ⟨i, by rw [List.length_set]; exact hi, ?_⟩)
    rw [List.getElem_set_ne (fun e' => e e'.symm)]
theorem del_law {p : List Mo} {vs : List Int} {v : Nat} (hp : ValidP p) (hv : v < vs.length) (h1 : ¬ evE p (vs.set v 0) = 1) :
    (evE (lessP v p) vs = 1 ∧ (vs.getD v 0 < 0 ∨ 1000000000 < vs.getD v 0)) ∨ (evE p (vs.set v 0) = evE (lessP v p) vs ∧ evV p (vs.set v 0) = evV (lessP v p) vs) := by
  by_cases ho : evOK p (vs.set v 0)
  · by_cases hr : vs.getD v 0 < 0 ∨ 1000000000 < vs.getD v 0
    · refine .inl ⟨(ev_no fun h2 => ?_).2, hr⟩
      have := h2.2.1 _ (getD_mem (d := (0 : Int)) hv)
      omega
    · right
      have hvs : vsOK vs := fun x hx => by
        rcases set_mem hx hv with h | rfl
        · exact ho.2.1 x h
        · omega
      have hsub : ∀ m ∈ lessP v p, m ∈ p := fun m hm => (List.mem_filter.1 hm).1
      have ho2 : evOK (lessP v p) vs := ⟨valid_less hp, hvs, fun m hm x hx => by
        have := ho.2.2 m (hsub m hm) x hx
        rwa [List.length_set] at this⟩
      have e1 := sumS_lin (vs_get ho.2.1) (co_valid hp)
      have e2 := sumS_lin (vs_get hvs) (co_valid (valid_less (v := v) hp))
      rw [lin_less (fun m hm x hx => by have := okP_mem (valid_mem hp hm).2.2 hx; omega) hv, ← e2] at e1
      rw [(ev_yes ho).1, (ev_yes ho).2, (ev_yes ho2).1, (ev_yes ho2).2, e1]
      exact ⟨rfl, rfl⟩
  · exact absurd (ev_no ho).2 h1
theorem less_step {p : List Mo} {v : Int} {k : Nat} (h : k < p.length) : lessP v (p.take (k + 1)) = lessP v (p.take k) ++ (if hasV v (p.getD k ((0, [], ()) : Mo)) = false then [p.getD k ((0, [], ()) : Mo)] else []) := by
  unfold lessP
  rw [List.take_succ_eq_append_getElem h, List.filter_append, getD_ok _ h]
  congr 1
  by_cases hh : hasV v p[k] = false
  · rw [if_pos hh]; simp [List.filter_cons, hh]
  · rw [if_neg hh]
    have : hasV v p[k] = true := by simpa using hh
    simp [List.filter_cons, this]
theorem any_step {l : List Pw} {v : Int} {j : Nat} (h : j < l.length) : ((l.take (j + 1)).any fun x => decide (x.1 = v)) = (((l.take j).any fun x => decide (x.1 = v)) || decide ((l.getD j ((0, 0, ()) : Pw)).1 = v)) := by
  rw [List.take_succ_eq_append_getElem h, List.any_append, getD_ok _ h]; simp

@[reducible] noncomputable def S_law15_PolyDeletes : Spec := { ins := (.cons (.d tPoly) (.cons (.d (.sl tInt)) (.cons (.d (.int .u8)) .nil))), pre := fun _ => True, alts := [{ outs := (.cons (.d .bool) .nil), res := (fun x => (fun p vs raw => (true, ())) x.1 x.2.1 x.2.2.1) }], noisy := true }
noncomputable def c_law15_PolyDeletes : Cf := { cf_law15_PolyDeletes (Fl [(fi_law15_head, S_law15_head), (fi_ref15_Small, S_ref15_Small), (fi_poly_Valid, S_poly_Valid), (fi_poly_Eval, S_poly_Eval)]) with E := { (cf_law15_PolyDeletes (Fl [(fi_law15_head, S_law15_head), (fi_ref15_Small, S_ref15_Small), (fi_poly_Valid, S_poly_Valid), (fi_poly_Eval, S_poly_Eval)])).E with rows := [43] }, nz := true }
set_option maxRecDepth 100000 in
set_option maxHeartbeats 4000000 in
theorem g_law15_PolyDeletes : ∀ x, S_law15_PolyDeletes.pre x → shOK S_law15_PolyDeletes.ins x → fnGoal c_law15_PolyDeletes fn_law15_PolyDeletes S_law15_PolyDeletes x := by
  rintro ⟨p, vs, raw, ⟨⟩⟩ hpre hok
  clear hpre
  have hln := shLn_of _ hok; replace hok := Hd.mk hok; try simp only [shLn, datLn, inRng, lo, hi, maxLen, true_and, and_true] at hln
  first | refine fn_goal (w_head ?_) | refine w_fn (w_head ?_)
  intro K_ hK_; (conv => whnf); (try dsimp +instances only); refine hK_ _ ?_; clear hK_ K_; (conv => (arg 2; whnf))
  repeat' (first | (with_reducible refine And.intro ?_ ?_) | ((try (with_reducible refine gv_more ?_)); first | ((with_reducible show K_ _); (try dsimp +instances only); (with_reducible refine hK_ _ ?_); clear hK_ K_) | (with_reducible (first | refine w_seq ?_ | refine thenK_n ?_ | refine w_block ?_ | refine blockK_n ?_)) | ((with_reducible refine w_region ?_); intro K_ hK_; (conv => whnf)) | ((with_reducible refine w_cond ?_); (conv => (arg 2; whnf)); (with_reducible (first | refine condK_p ?_ ?_ | refine condK_t ?_ | refine condK_f ?_ | refine condK_b ?_ ?_))) | (with_reducible (first | refine w_skip ?_ | refine w_exit ?_ | refine w_ret ?_ | refine thenK_r ?_ | refine thenK_e ?_ | refine blockK_r ?_ | refine blockK_x ?_ | refine blockK_y (by rfl) ?_ | refine loopK_r ?_ | refine loopK_e ?_ | refine w_label ?_)) | ((with_reducible (first | refine loopK_at ?_ | refine retK_r ?_ | refine retK_n ?_)); (conv => whnf)) | ((with_reducible refine w_head ?_); intro K_ hK_; (conv => whnf))) | ((with_reducible refine gv_more ?_); (conv => whnf)) | (intro hc; (try dsimp +instances only [Dat, SDat, dflt, Ty.size, keepS, bkUpd, Gv.bk, backS, wayA, maxI, minI, negI] at hc); (try simp only [Int.toNat_natCast, Int.toNat_zero, Int.toNat_one, Classical.not_not, boolOf_true, decide_eq_true_eq, decide_eq_false_iff_not, ne_eq, true_implies, not_true_eq_false, not_false_eq_true, Bool.not_eq_true, Prod.mk.injEq, and_true, true_and, forall_const, preA_f, selB_0, selB_1, boolOf_eq_false, rep1, rep2, rep3, List.length_set, List.length_append, List.length_map, List.length_cons, List.length_nil, List.length_replicate, Nat.zero_add, Nat.add_zero] at hc)))
  all_goals (try ((fail_if_success (with_reducible refine w_at ?_)); (fail_if_success refine Exists.intro (0 : Nat) (Exists.intro (_ : Alt _) ?_)); (try dsimp only [Dat, SDat, dflt, Ty.size, keepS, bkUpd, Gv.bk, backS, wayA, maxI, minI, negI]); (try simp only [Int.toNat_natCast, Int.toNat_zero, Int.toNat_one, Classical.not_not, boolOf_true, decide_eq_true_eq, decide_eq_false_iff_not, ne_eq, true_implies, not_true_eq_false, not_false_eq_true, Bool.not_eq_true, Prod.mk.injEq, and_true, true_and, forall_const, preA_f, selB_0, selB_1, boolOf_eq_false, rep1, rep2, rep3, List.length_set, List.length_append, List.length_map, List.length_cons, List.length_nil, List.length_replicate, Nat.zero_add, Nat.add_zero]); first | done | exact trivial | rfl | omega | exact boolOf_eq _ | (simp only [allP, lo, hi, room, true_and, and_true, implies_true]; done) | ((try simp only [allP, lo, hi, room, true_and, and_true, implies_true]); (repeat' (first | (with_reducible refine And.intro ?_ ?_) | ((with_reducible refine preA_t ?_ ?_); rotate_left; (focus (repeat (first | exact trivial | ((conv => whnf); refine And.intro (by rfl) ?_))))) | intro hv)) <;> (try omega))))
  all_goals
    have hlc := hc
    simp only [not_or, Classical.not_not] at hlc
    have hr0 : (0 : Int) ≤ raw := hln.2.2.1
    have hm := Int.emod_nonneg raw (b := (List.length vs : Int)) (by omega)
    have hm2 := Int.emod_lt_of_pos raw (b := (List.length vs : Int)) (by omega)
    rw [← Int.tmod_eq_emod_of_nonneg hr0] at hm hm2
    try omega
  generalize Int.tmod raw (List.length vs : Int) = tv at hm hm2 ⊢
  obtain ⟨v, rfl⟩ : ∃ v : Nat, tv = (v : Int) := ⟨tv.toNat, by omega⟩
  have hvl : v < List.length vs := by omega
  have hval : ValidP p := hlc.1.1.2
  have hpl := hval.1
  have hset : ∀ l : List Int, l = vs → (l.set ((v : Int).toNat) 0) = vs.set v 0 := fun l e => by rw [e, Int.toNat_natCast]
  refine w_loop [(10, .spare tMo), (11, .d tInt)] [] (fun y => ∃ i : Nat, y.1.2.1 = (i : Int) ∧ i ≤ p.length ∧ y.1.1 = lessP v (p.take i)) (fun y => p.length - y.1.2.1.toNat) ?_
  conv => whnf
  refine And.intro ?_ ?_
  · exact ⟨0, rfl, by omega, rfl⟩
  rintro ⟨⟨ou, _, ⟨⟩⟩, ⟨⟩⟩ ⟨i, rfl, hi, hou⟩
  have hou : ou = lessP v (p.take i) := hou
  subst hou
  have hol : (lessP v (p.take i)).length ≤ 400 := Nat.le_trans (List.length_filter_le _ _) (by rw [List.length_take]; omega)
  repeat' (first | (with_reducible refine And.intro ?_ ?_) | ((try (with_reducible refine gv_more ?_)); first | ((with_reducible show K_ _); (try dsimp +instances only); (with_reducible refine hK_ _ ?_); clear hK_ K_) | (with_reducible (first | refine w_seq ?_ | refine thenK_n ?_ | refine w_block ?_ | refine blockK_n ?_)) | ((with_reducible refine w_region ?_); intro K_ hK_; (conv => whnf)) | ((with_reducible refine w_cond ?_); (conv => (arg 2; whnf)); (with_reducible (first | refine condK_p ?_ ?_ | refine condK_t ?_ | refine condK_f ?_ | refine condK_b ?_ ?_))) | (with_reducible (first | refine w_skip ?_ | refine w_exit ?_ | refine w_ret ?_ | refine thenK_r ?_ | refine thenK_e ?_ | refine blockK_r ?_ | refine blockK_x ?_ | refine blockK_y (by rfl) ?_ | refine loopK_r ?_ | refine loopK_e ?_ | refine w_label ?_)) | ((with_reducible (first | refine loopK_at ?_ | refine retK_r ?_ | refine retK_n ?_)); (conv => whnf)) | ((with_reducible refine w_head ?_); intro K_ hK_; (conv => whnf))) | ((with_reducible refine gv_more ?_); (conv => whnf)) | (intro hc; (try dsimp +instances only [Dat, SDat, dflt, Ty.size, keepS, bkUpd, Gv.bk, backS, wayA, maxI, minI, negI] at hc); (try simp only [Int.toNat_natCast, Int.toNat_zero, Int.toNat_one, Classical.not_not, boolOf_true, decide_eq_true_eq, decide_eq_false_iff_not, ne_eq, true_implies, not_true_eq_false, not_false_eq_true, Bool.not_eq_true, Prod.mk.injEq, and_true, true_and, forall_const, preA_f, selB_0, selB_1, boolOf_eq_false, rep1, rep2, rep3, List.length_set, List.length_append, List.length_map, List.length_cons, List.length_nil, List.length_replicate, Nat.zero_add, Nat.add_zero] at hc)))
  all_goals (try ((fail_if_success (with_reducible refine w_at ?_)); (fail_if_success refine Exists.intro (0 : Nat) (Exists.intro (_ : Alt _) ?_)); (try dsimp only [Dat, SDat, dflt, Ty.size, keepS, bkUpd, Gv.bk, backS, wayA, maxI, minI, negI]); (try simp only [Int.toNat_natCast, Int.toNat_zero, Int.toNat_one, Classical.not_not, boolOf_true, decide_eq_true_eq, decide_eq_false_iff_not, ne_eq, true_implies, not_true_eq_false, not_false_eq_true, Bool.not_eq_true, Prod.mk.injEq, and_true, true_and, forall_const, preA_f, selB_0, selB_1, boolOf_eq_false, rep1, rep2, rep3, List.length_set, List.length_append, List.length_map, List.length_cons, List.length_nil, List.length_replicate, Nat.zero_add, Nat.add_zero]); first | done | exact trivial | rfl | omega | exact boolOf_eq _ | (simp only [allP, lo, hi, room, true_and, and_true, implies_true]; done) | ((try simp only [allP, lo, hi, room, true_and, and_true, implies_true]); (repeat' (first | (with_reducible refine And.intro ?_ ?_) | ((with_reducible refine preA_t ?_ ?_); rotate_left; (focus (repeat (first | exact trivial | ((conv => whnf); refine And.intro (by rfl) ?_))))) | intro hv)) <;> (try omega))))
  · have hgl : (List.getD p i ((0, [], ()) : Mo)).2.1.length ≤ 2 ^ 63 - 1 := (hok.out.1.2 _ (getD_mem (l := p) (d := ((0, [], ()) : Mo)) (k := i) (by omega))).2.1.1
    refine w_loop [(12, .d .bool), (13, .d tInt)] [] (fun y => ∃ j : Nat, y.1.2.1 = (j : Int) ∧ j ≤ (List.getD p i ((0, [], ()) : Mo)).2.1.length ∧ y.1.1 = ((List.getD p i ((0, [], ()) : Mo)).2.1.take j).any (fun x => decide (x.1 = (v : Int)))) (fun y => (List.getD p i ((0, [], ()) : Mo)).2.1.length - y.1.2.1.toNat) ?_
    conv => whnf
    refine And.intro ?_ ?_
    · exact ⟨0, rfl, by omega, rfl⟩
    rintro ⟨⟨b, _, ⟨⟩⟩, ⟨⟩⟩ ⟨j, rfl, hj, hb⟩
    have hb : b = ((List.getD p i ((0, [], ()) : Mo)).2.1.take j).any (fun x => decide (x.1 = (v : Int))) := hb
    subst hb
    repeat' (first | (with_reducible refine And.intro ?_ ?_) | ((try (with_reducible refine gv_more ?_)); first | ((with_reducible show K_ _); (try dsimp +instances only); (with_reducible refine hK_ _ ?_); clear hK_ K_) | (with_reducible (first | refine w_seq ?_ | refine thenK_n ?_ | refine w_block ?_ | refine blockK_n ?_)) | ((with_reducible refine w_region ?_); intro K_ hK_; (conv => whnf)) | ((with_reducible refine w_cond ?_); (conv => (arg 2; whnf)); (with_reducible (first | refine condK_p ?_ ?_ | refine condK_t ?_ | refine condK_f ?_ | refine condK_b ?_ ?_))) | (with_reducible (first | refine w_skip ?_ | refine w_exit ?_ | refine w_ret ?_ | refine thenK_r ?_ | refine thenK_e ?_ | refine blockK_r ?_ | refine blockK_x ?_ | refine blockK_y (by rfl) ?_ | refine loopK_r ?_ | refine loopK_e ?_ | refine w_label ?_)) | ((with_reducible (first | refine loopK_at ?_ | refine retK_r ?_ | refine retK_n ?_)); (conv => whnf)) | ((with_reducible refine w_head ?_); intro K_ hK_; (conv => whnf))) | ((with_reducible refine gv_more ?_); (conv => whnf)) | (intro hc; (try dsimp +instances only [Dat, SDat, dflt, Ty.size, keepS, bkUpd, Gv.bk, backS, wayA, maxI, minI, negI] at hc); (try simp only [Int.toNat_natCast, Int.toNat_zero, Int.toNat_one, Classical.not_not, boolOf_true, decide_eq_true_eq, decide_eq_false_iff_not, ne_eq, true_implies, not_true_eq_false, not_false_eq_true, Bool.not_eq_true, Prod.mk.injEq, and_true, true_and, forall_const, preA_f, selB_0, selB_1, boolOf_eq_false, rep1, rep2, rep3, List.length_set, List.length_append, List.length_map, List.length_cons, List.length_nil, List.length_replicate, Nat.zero_add, Nat.add_zero] at hc)))
    all_goals (try ((fail_if_success (with_reducible refine w_at ?_)); (fail_if_success refine Exists.intro (0 : Nat) (Exists.intro (_ : Alt _) ?_)); (try dsimp only [Dat, SDat, dflt, Ty.size, keepS, bkUpd, Gv.bk, backS, wayA, maxI, minI, negI]); (try simp only [Int.toNat_natCast, Int.toNat_zero, Int.toNat_one, Classical.not_not, boolOf_true, decide_eq_true_eq, decide_eq_false_iff_not, ne_eq, true_implies, not_true_eq_false, not_false_eq_true, Bool.not_eq_true, Prod.mk.injEq, and_true, true_and, forall_const, preA_f, selB_0, selB_1, boolOf_eq_false, rep1, rep2, rep3, List.length_set, List.length_append, List.length_map, List.length_cons, List.length_nil, List.length_replicate, Nat.zero_add, Nat.add_zero]); first | done | exact trivial | rfl | omega | exact boolOf_eq _ | (simp only [allP, lo, hi, room, true_and, and_true, implies_true]; done) | ((try simp only [allP, lo, hi, room, true_and, and_true, implies_true]); (repeat' (first | (with_reducible refine And.intro ?_ ?_) | ((with_reducible refine preA_t ?_ ?_); rotate_left; (focus (repeat (first | exact trivial | ((conv => whnf); refine And.intro (by rfl) ?_))))) | intro hv)) <;> (try omega))))
    all_goals (first
      | (simp only [Gv.hi]; omega)
      | (refine ⟨j + 1, rfl, by omega, ?_⟩
         rw [any_step (by omega)]
         cases ((List.getD p i ((0, [], ()) : Mo)).2.1.take j).any (fun x => decide (x.1 = (v : Int)))
         · simp [boolOf_eq]
         · simp [boolOf_eq])
      | (rw [List.take_of_length_le (by omega)] at hc
         refine ⟨i + 1, rfl, by omega, ?_⟩
         rw [less_step (by omega)]
         have hh : hasV v (List.getD p i ((0, [], ()) : Mo)) = false := hc
         rw [if_pos hh])
      | (rw [List.take_of_length_le (by omega)] at hc
         refine ⟨i + 1, rfl, by omega, ?_⟩
         rw [less_step (by omega)]
         have hh : ¬ hasV v (List.getD p i ((0, [], ()) : Mo)) = false := hc
         rw [if_neg hh, List.append_nil])
      | skip)
  · rename_i hne
    have hT : p.take i = p := List.take_of_length_le (by omega)
    rw [hT]
    have hD := fun h => del_law hval hvl h
    first
      | exact hD (by assumption)
      | (refine hD ?_; simpa using hc)
set_option maxRecDepth 100000 in
theorem ok_law15_PolyDeletes : SpecOK SP glob fi_law15_PolyDeletes S_law15_PolyDeletes := mk_ok (c := c_law15_PolyDeletes) (tab_ok _) mix_ok wf_law15_PolyDeletes (by decide) (.cons ok_law15_head (.cons ok_ref15_Small (.cons ok_poly_Valid (.cons ok_poly_Eval .nil)))) (fun x hx => Nat.zero_lt_one) g_law15_PolyDeletes
end Go.Gv
