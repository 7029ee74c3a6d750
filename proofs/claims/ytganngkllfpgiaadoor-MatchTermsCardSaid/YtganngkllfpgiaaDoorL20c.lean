/- Chapter 20: the statement on the terms of a match. -/
import Derived.Test.YtganngkllfpgiaaDoorL20e
import Derived.Test.YtganngkllfpgiaaDoorL20b
set_option linter.all false
namespace Go.Gv
open Go Go.Proofs Go.Proofs.YtganngkllfpgiaaDoor

theorem coS_app (a b : Rc) (l m : List Wg) : coS a b (l ++ m) = coS a b l + coS a b m := by unfold coS; rw [List.map_append, List.sum_append]
theorem coS_rev (a b : Rc) : ∀ l : List Wg, coS a b l.reverse = coS a b l
  | [] => rfl
  | m :: l => by
    rw [List.reverse_cons, coS_app, coS_rev a b l, show m :: l = [m] ++ l from rfl, coS_app, Int.add_comm]
theorem ab_one {m : Ma} {a b : Rc} {t : Wg} (h : AbM m a b) (ht : WgOK t) : AbM (m.1, m.2.1, m.2.2.1, [t], ()) a b := ⟨h.ta, h.tb, ⟨h.ok.at_, by show 1 ≤ 200; decide, fun x hx => by
  have : x = t := by simpa using hx
  rw [this]; exact ht⟩⟩
theorem ab_rev {m : Ma} {a b : Rc} (h : AbM m a b) : AbM (m.1, m.2.1, m.2.2.1, m.2.2.2.1.reverse, ()) a b := ⟨h.ta, h.tb, ⟨h.ok.at_, by show m.2.2.2.1.reverse.length ≤ 200; rw [List.length_reverse]; exact h.ok.few, fun x hx => h.ok.all x (List.mem_reverse.1 hx)⟩⟩
theorem sc_one {m : Ma} {a b : Rc} {t : Wg} (h : AbM m a b) (ht : WgOK t) : scS (m.1, m.2.1, m.2.2.1, [t], ()) a b = (coW a b t).2.1 ∧ scL (m.1, m.2.1, m.2.2.1, [t], ()) a b = [decide (HoW t a b)] := by
  unfold scS scL
  rw [if_pos (ab_one h ht), if_pos (ab_one h ht)]
  exact ⟨by show (coW a b t).2.1 + 0 = _; omega, rfl⟩
theorem sc_rev {m : Ma} {a b : Rc} (h : AbM m a b) : scS (m.1, m.2.1, m.2.2.1, m.2.2.2.1.reverse, ()) a b = scS m a b := by
  unfold scS
  rw [if_pos (ab_rev h), if_pos h]
  exact coS_rev a b _
/-- A term holds just if measure.Of says so. -/
theorem ho_says {t : Wg} {a b : Rc} (ht : WgOK t) (h0 : 0 ≤ t.1) (ha : t.1 < a.2.2.2.1.length) (hb : t.1 < b.2.2.2.1.length) : HoW t a b ↔ (ofE t.2.1 t.2.2.1 (vlAt a t.1) (vlAt b t.1) = 0 ∧ t.2.2.2.1.1 * (ofV t.2.1 t.2.2.1 (vlAt a t.1) (vlAt b t.1)).2.1 ≤ (ofV t.2.1 t.2.2.1 (vlAt a t.1) (vlAt b t.1)).1 * t.2.2.2.1.2.1) := by
  constructor
  · intro h
    refine ⟨h.ok, Classical.byContradiction fun k => ?_⟩
    have hu := of_unit h.ok
    have hg := h.ge
    unfold cmpR at hg
    rw [if_pos ⟨hu.1, ht.least⟩, if_pos (by omega)] at hg
    exact absurd hg (by decide)
  · rintro ⟨h1, h2⟩
    exact ⟨h0, ha, hb, h1, Int.not_lt.1 (cmp_ge h2)⟩
theorem ho_col {t : Wg} {a b : Rc} (h : (t.1 < 0 ∨ (a.2.2.2.1.length : Int) ≤ t.1) ∨ (b.2.2.2.1.length : Int) ≤ t.1) : ¬ HoW t a b := fun k => by
  have h1 := k.lo
  have h2 := k.ha
  have h3 := k.hb
  omega

theorem co_len {m : Ma} {a b : Rc} (h : AbM m a b) : (scL m a b).length = m.2.2.2.1.length := by rw [scL_ab h, coL_len]
def oneM (m : Ma) (t : Wg) : Ma := (m.1, m.2.1, m.2.2.1, [t], ())
theorem tm_no {m : Ma} {a b : Rc} {t : Wg} {X : Bool} (h : AbM m a b) (ht : WgOK t) (hx : X = decide (HoW t a b)) (q : ((¬ ((scL (oneM m t) a b).length : Int) = 1 ∨ ¬ ((scL (oneM m t) a b).getD 0 false = true ↔ X = true)) ∨ X = true ∧ ¬ scS (oneM m t) a b = t.2.2.2.2.1) ∨ X = false ∧ ¬ scS (oneM m t) a b = -t.2.2.2.2.2.1) : False := by
  obtain ⟨e1, e2⟩ := sc_one h ht
  rw [show oneM m t = (m.1, m.2.1, m.2.2.1, [t], ()) from rfl, e1, e2, ← hx] at q
  by_cases k : HoW t a b
  · have hX : X = true := by rw [hx]; exact decide_eq_true k
    have h3 : (coW a b t).2.1 = t.2.2.2.2.1 := by rw [co_pos k]
    rw [hX, h3] at q
    simp at q
  · have hX : X = false := by rw [hx]; exact decide_eq_false k
    have h3 : (coW a b t).2.1 = -t.2.2.2.2.2.1 := by rw [co_neg k]
    rw [hX, h3] at q
    simp at q
theorem pr_rg {x y : Int} (hx : 0 ≤ x ∧ x ≤ 1000000000) (hy : 0 ≤ y ∧ y ≤ 1000000000) : -9223372036854775808 ≤ x * y ∧ x * y ≤ 9223372036854775807 := by
  have h1 : 0 ≤ x * y := Int.mul_nonneg hx.1 hy.1
  have h2 : x * y ≤ 1000000000 * 1000000000 := Int.mul_le_mul hx.2 hy.2 hy.1 (by decide)
  omega
theorem least_rg {t : Wg} (h : WgOK t) : (0 ≤ t.2.2.2.1.1 ∧ t.2.2.2.1.1 ≤ 1000000000) ∧ 0 ≤ t.2.2.2.1.2.1 ∧ t.2.2.2.1.2.1 ≤ 1000000000 := by
  have h1 := h.least
  unfold validR at h1
  have h2 := h.lo
  have h3 := h.hi
  omega
theorem of_rg {m t : Int} {a b : Vl} (h : ofE m t a b = 0) : (0 ≤ (ofV m t a b).1 ∧ (ofV m t a b).1 ≤ 1000000000) ∧ 0 ≤ (ofV m t a b).2.1 ∧ (ofV m t a b).2.1 ≤ 1000000000 := by
  have hu := of_unit h
  have h1 := hu.1
  unfold validR at h1
  have h2 := hu.2.1
  have h3 := hu.2.2
  omega
theorem ad_rg {x y : Int} {n : Nat} (h : -1000 * (n : Int) ≤ x ∧ x ≤ 1000 * (n : Int)) (hn : n ≤ 200) (hy : -1000 ≤ y ∧ y ≤ 1000) : -9223372036854775808 ≤ x + y ∧ x + y ≤ 9223372036854775807 := by omega
theorem back_sc {m : Ma} {a b : Rc} {k : Nat} {row : List Wg} (h : AbM m a b) (hr : row = m.2.2.2.1.reverse.take k) (hk : m.2.2.2.1.length ≤ k) : scS (m.1, m.2.1, m.2.2.1, row, ()) a b = scS m a b := by
  rw [hr, List.take_of_length_le (by rw [List.length_reverse]; exact hk)]
  exact sc_rev h

@[reducible] noncomputable def S_law20_MatchTerms : Spec := { ins := (.cons (.d tMat) (.cons (.d tRec) (.cons (.d tRec) .nil))), pre := fun _ => True, alts := [{ outs := (.cons (.d .bool) .nil), res := (fun x => (fun m a b => (true, ())) x.1 x.2.1 x.2.2.1) }], noisy := true }
noncomputable def c_law20_MatchTerms : Cf := { cf_law20_MatchTerms (Fl [(fi_law20_head, S_law20_head), (fi_ref20_Few, S_ref20_Few), (fi_ref20_About, S_ref20_About), (fi_match_Score, S_match_Score), (fi_measure_Of, S_measure_Of)]) with nz := true }
set_option maxRecDepth 100000 in
set_option maxHeartbeats 4000000 in
theorem g_law20_MatchTerms : ∀ x, S_law20_MatchTerms.pre x → shOK S_law20_MatchTerms.ins x → fnGoal c_law20_MatchTerms fn_law20_MatchTerms S_law20_MatchTerms x := by
  rintro ⟨m, a, b, ⟨⟩⟩ hpre hok
  clear hpre
  have hln := shLn_of _ hok; replace hok := Hd.mk hok; try simp only [shLn, datLn, inRng, lo, hi, maxLen, true_and, and_true] at hln
  have hab : ¬ (¬ FewM [m] [a, b] 2 ∨ ¬ AbM m a b) → AbM m a b := fun h => Classical.not_not.1 (not_or.1 h).2
  first | refine fn_goal (w_head ?_)
  intro K_ hK_; (conv => whnf); (try dsimp +instances only); refine hK_ _ ?_; clear hK_ K_; (conv => (arg 2; whnf))
  repeat' (first | with_reducible refine And.intro ?_ ?_ | ((try with_reducible refine gv_more ?_); first | ((with_reducible show K_ _); (try dsimp +instances only); (with_reducible refine hK_ _ ?_); clear hK_ K_) | with_reducible refine st ?_ | ((with_reducible first | refine w_region ?_ | refine w_head ?_); intro K_ hK_; conv => whnf) | ((with_reducible refine w_cond ?_); (conv => arg 2; whnf); with_reducible first | refine condK_p ?_ ?_ | refine st ?_ | refine condK_b ?_ ?_) | refine blockK_y (by rfl) ?_ | ((with_reducible first | refine loopK_at ?_ | refine retK_r ?_ | refine retK_n ?_); conv => whnf)) | ((with_reducible refine gv_more ?_); conv => whnf) | (intro hc; (try dsimp +instances only [Dat, SDat, dflt, Ty.size, keepS, bkUpd, Gv.bk, backS, wayA, maxI, minI, negI] at hc); (try simp only [LS] at hc)))
  all_goals (try ((fail_if_success with_reducible refine nl ?_); (try dsimp only [Dat, SDat, dflt, Ty.size, keepS, bkUpd, Gv.bk, backS, wayA, maxI, minI, negI]); (try simp only [LS]); first | done | exact trivial | rfl | omega | exact boolOf_eq _ | (simp only [allP, lo, hi, room, true_and, and_true, implies_true]; done) | ((try simp only [allP, lo, hi, room, true_and, and_true, implies_true]); (repeat' (first | with_reducible refine And.intro ?_ ?_ | ((with_reducible refine preA_t ?_ ?_); rotate_left; (focus (repeat (first | exact trivial | ((conv => whnf); refine And.intro (by rfl) ?_))))) | intro hv)) <;> (try omega))))
  all_goals have hA := hab (by assumption)
  · exact (hc (congrArg (fun n : Nat => (n : Int)) (co_len hA))).elim
  refine w_loop [(10, .d tInt), (12, .d tInt)] [(2, .cons (.d .str) (.cons (.d tInt) (.cons (.d tInt) (.cons (.row tWgh) .nil))))] (fun y => ∃ k : Nat, y.1.2.1 = (k : Int) ∧ k ≤ m.2.2.2.1.length ∧ y.1.1 = coS a b (m.2.2.2.1.take k) ∧ m.1 = y.2.1.1 ∧ m.2.1 = y.2.1.2.1 ∧ m.2.2.1 = y.2.1.2.2.1 ∧ @Eq (List Wg) y.2.1.2.2.2.1 (m.2.2.2.1.reverse.take k)) (fun y => m.2.2.2.1.length - y.1.2.1.toNat) ?_
  conv => whnf
  refine And.intro ?_ ?_
  · exact ⟨0, rfl, Nat.zero_le _, rfl, rfl, rfl, rfl, rfl⟩
  rintro ⟨⟨su, _, ⟨⟩⟩, ⟨⟨bn, bt, ba, row, ⟨⟩⟩, ⟨⟩⟩⟩ ⟨k, rfl, hk, hsu, hbn, hbt, hba, hrow⟩
  dsimp only at hsu hbn hbt hba hrow
  subst hbn hbt hba
  have hxk := fun (h : k < m.2.2.2.1.length) => show (scL m a b).getD k false = decide (HoW (m.2.2.2.1.getD k ((0, 0, 0, (0, 0, ()), 0, 0, ()) : Wg)) a b) by rw [scL_ab hA]; exact coL_at h
  have hw := fun (h : k < m.2.2.2.1.length) => hA.ok.all _ (getD_mem (d := ((0, 0, 0, (0, 0, ()), 0, 0, ()) : Wg)) h)
  have hs1 := fun (h : k < m.2.2.2.1.length) => (sc_one hA (hw h)).1
  have hb1 := co_bound (a := a) (b := b) (t := m.2.2.2.1.getD k ((0, 0, 0, (0, 0, ()), 0, 0, ()) : Wg))
  have hst := fun h => coS_snoc (a := a) (b := b) (l := m.2.2.2.1) (k := k) (d := ((0, 0, 0, (0, 0, ()), 0, 0, ()) : Wg)) h
  have hrv := fun h => rev_step (l := m.2.2.2.1) (k := k) (d := ((0, 0, 0, (0, 0, ()), 0, 0, ()) : Wg)) h
  have hf := hA.ok.few
  have bsu := coS_bound (a := a) (b := b) (l := m.2.2.2.1.take k) fun t ht => hA.ok.all t (List.mem_of_mem_take ht)
  rw [List.length_take, ← hsu] at bsu
  have hrl : List.length (row : List Wg) ≤ 200 := by
    rw [hrow, List.length_take, List.length_reverse]; omega
  have hadd := fun (h : k < m.2.2.2.1.length) => show (-9223372036854775808 ≤ su + scS (oneM m (m.2.2.2.1.getD k ((0, 0, 0, (0, 0, ()), 0, 0, ()) : Wg))) a b ∧ su + scS (oneM m (m.2.2.2.1.getD k ((0, 0, 0, (0, 0, ()), 0, 0, ()) : Wg))) a b ≤ 9223372036854775807) by
    have e : scS (oneM m (m.2.2.2.1.getD k ((0, 0, 0, (0, 0, ()), 0, 0, ()) : Wg))) a b = _ := hs1 h
    rw [e]
    exact ad_rg bsu (by omega) (hb1 (hw h))
  have hnx := fun (h : k < m.2.2.2.1.length) => show ∃ k_1 : Nat, (k : Int) + 1 = (k_1 : Int) ∧ k_1 ≤ m.2.2.2.1.length ∧ su + scS (oneM m (m.2.2.2.1.getD k ((0, 0, 0, (0, 0, ()), 0, 0, ()) : Wg))) a b = coS a b (m.2.2.2.1.take k_1) ∧ @Eq (List Wg) (row ++ [m.2.2.2.1.getD ((m.2.2.2.1.length : Int) - 1 - (k : Int)).toNat ((0, 0, 0, (0, 0, ()), 0, 0, ()) : Wg)]) (m.2.2.2.1.reverse.take k_1) from
    ⟨k + 1, by omega, by omega, by rw [show scS (oneM m (m.2.2.2.1.getD k ((0, 0, 0, (0, 0, ()), 0, 0, ()) : Wg))) a b = _ from hs1 h, hst h, hsu], by rw [hrv h, hrow, show ((m.2.2.2.1.length : Int) - 1 - (k : Int)).toNat = m.2.2.2.1.length - 1 - k by omega]⟩
  have hS : scS m a b = coS a b m.2.2.2.1 := by unfold scS; rw [if_pos hA]
  have hsay := fun (h : k < m.2.2.2.1.length) => ho_says (a := a) (b := b) (hw h)
  repeat' (first | with_reducible refine And.intro ?_ ?_ | ((try with_reducible refine gv_more ?_); first | ((with_reducible show K_ _); (try dsimp +instances only); (with_reducible refine hK_ _ ?_); clear hK_ K_) | with_reducible refine st ?_ | ((with_reducible first | refine w_region ?_ | refine w_head ?_); intro K_ hK_; conv => whnf) | ((with_reducible refine w_cond ?_); (conv => arg 2; whnf); with_reducible first | refine condK_p ?_ ?_ | refine st ?_ | refine condK_b ?_ ?_) | refine blockK_y (by rfl) ?_ | ((with_reducible first | refine loopK_at ?_ | refine retK_r ?_ | refine retK_n ?_); conv => whnf)) | ((with_reducible refine gv_more ?_); conv => whnf) | (intro hc; (try dsimp +instances only [Dat, SDat, dflt, Ty.size, keepS, bkUpd, Gv.bk, backS, wayA, maxI, minI, negI] at hc); (try simp only [LS] at hc)))
  all_goals (try ((fail_if_success with_reducible refine nl ?_); (try dsimp only [Dat, SDat, dflt, Ty.size, keepS, bkUpd, Gv.bk, backS, wayA, maxI, minI, negI]); (try simp only [LS]); first | done | exact trivial | rfl | omega | exact boolOf_eq _ | (simp only [allP, lo, hi, room, true_and, and_true, implies_true]; done) | ((try simp only [allP, lo, hi, room, true_and, and_true, implies_true]); (repeat' (first | with_reducible refine And.intro ?_ ?_ | ((with_reducible refine preA_t ?_ ?_); rotate_left; (focus (repeat (first | exact trivial | ((conv => whnf); refine And.intro (by rfl) ?_))))) | intro hv)) <;> (try omega))))
  all_goals (try (exfalso; exact tm_no hA (hw (by omega)) (hxk (by omega)) hc))
  all_goals (first
    | (have := (hw (by omega)).tak; omega)
    | exact (hadd (by omega)).1
    | exact (hadd (by omega)).2
    | exact hnx (by omega)
    | exact (pr_rg (of_rg (by assumption)).1 (least_rg (hw (by omega))).2).1
    | exact (pr_rg (of_rg (by assumption)).1 (least_rg (hw (by omega))).2).2
    | exact (pr_rg (least_rg (hw (by omega))).1 (of_rg (by assumption)).2).1
    | exact (pr_rg (least_rg (hw (by omega))).1 (of_rg (by assumption)).2).2
    | (rw [hS, hsu, List.take_of_length_le (by omega)]; done)
    | (exfalso; have h9 := hxk (by omega); rw [hc] at h9; exact ho_col (by assumption) (of_decide_eq_true h9.symm))
    | (exfalso; refine hc ?_; rw [hxk (by omega), decide_eq_true_eq]; exact hsay (by omega) (by omega) (by omega) (by omega))
    | (rw [back_sc hA hrow (by omega), hS, hsu, List.take_of_length_le (by omega)]; done)
    | skip)
set_option maxRecDepth 100000 in
theorem ok_law20_MatchTerms : SpecOK SP glob fi_law20_MatchTerms S_law20_MatchTerms := mk_ok (c := c_law20_MatchTerms) (tab_ok _) mix_ok wf_law20_MatchTerms (by decide) (.cons ok_law20_head (.cons ok_ref20_Few (.cons ok_ref20_About (.cons ok_match_Score (.cons ok_measure_Of .nil))))) (fun x hx => Nat.zero_lt_one) g_law20_MatchTerms
end Go.Gv
