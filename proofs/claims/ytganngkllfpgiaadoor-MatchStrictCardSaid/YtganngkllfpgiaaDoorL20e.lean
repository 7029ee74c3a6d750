/- Chapter 20: the statement on stricter matches. -/
import Derived.Test.YtganngkllfpgiaaDoorL20
set_option linter.all false
namespace Go.Gv
open Go Go.Proofs Go.Proofs.YtganngkllfpgiaaDoor

/-- The term with the greatest Least. -/
def strT (t : Wg) : Wg := (t.1, t.2.1, t.2.2.1, (1, 1, ()), t.2.2.2.2.1, t.2.2.2.2.2.1, ())
theorem strT_ok {t : Wg} (h : WgOK t) : WgOK (strT t) := ⟨by show validR (1, 1, ()); decide, by show (0 : Int) ≤ 1; decide, by show (1 : Int) ≤ 1; decide, h.meas, h.tol, h.giv, h.tak⟩
theorem ho_str {t : Wg} {a b : Rc} (ht : WgOK t) (h : HoW (strT t) a b) : HoW t a b := by
  refine ⟨h.lo, h.ha, h.hb, h.ok, ?_⟩
  have hu := of_unit (m := t.2.1) (t := t.2.2.1) (a := vlAt a t.1) (b := vlAt b t.1) h.ok
  have hg : 0 ≤ cmpR (ofV t.2.1 t.2.2.1 (vlAt a t.1) (vlAt b t.1)) (1, 1, ()) := h.ge
  generalize ofV t.2.1 t.2.2.1 (vlAt a t.1) (vlAt b t.1) = v at hu hg ⊢
  obtain ⟨n, d, ⟨⟩⟩ := v
  have h1 : 0 ≤ n := hu.2.1
  have h2 : n ≤ d := hu.2.2
  have hd : ¬ n * 1 - 1 * d < 0 := fun k => by
    unfold cmpR at hg
    rw [if_pos ⟨hu.1, by decide⟩, if_pos k] at hg
    exact absurd hg (by decide)
  have e : n = d := by omega
  subst e
  refine Int.not_lt.1 (cmp_ge ?_)
  show t.2.2.2.1.1 * n ≤ n * t.2.2.2.1.2.1
  rw [Int.mul_comm]
  exact Int.mul_le_mul_of_nonneg_left ht.hi h1
def atM (m : Ma) (c : Int) : Ma := (m.1, m.2.1, c, m.2.2.2.1, ())
def setM (m : Ma) (c : Int) (l : List Wg) : Ma := (m.1, m.2.1, c, l, ())
theorem ab_set {m : Ma} {a b : Rc} {c : Int} {l : List Wg} (h : AbM m a b) (hc : 0 ≤ c ∧ c ≤ 10000) (hl : l.length ≤ 200) (ha : ∀ t ∈ l, WgOK t) : AbM (setM m c l) a b := ⟨h.ta, h.tb, ⟨hc, hl, ha⟩⟩
theorem wt_at {m : Ma} {a b : Rc} {c : Int} (h : AbM m a b) (hc : 0 ≤ c ∧ c ≤ 10000) : wtS [setM m c m.2.2.2.1] a b = wtS [m] a b - (c - m.2.2.1) := by
  have h2 := ab_set h hc h.ok.few h.ok.all
  unfold wtS wtM scS
  rw [List.map_cons, List.map_cons, if_pos h, if_pos h2, if_pos h, if_pos h2]
  show coS a b m.2.2.2.1 - c + 0 = coS a b m.2.2.2.1 - m.2.2.1 + 0 - (c - m.2.2.1)
  omega
theorem coL_at {a b : Rc} {l : List Wg} {k : Nat} (h : k < l.length) : (coL a b l).getD k false = decide (HoW (l.getD k ((0, 0, 0, (0, 0, ()), 0, 0, ()) : Wg)) a b) := by
  unfold coL
  rw [getD_ok _ (by rw [List.length_map]; exact h), List.getElem_map, ← getD_ok ((0, 0, 0, (0, 0, ()), 0, 0, ()) : Wg) h]
theorem coL_len (a b : Rc) (l : List Wg) : (coL a b l).length = l.length := by unfold coL; rw [List.length_map]
theorem set_getD {l : List Wg} {i k : Nat} {t : Wg} (h : i < l.length) : (l.set i t).getD k ((0, 0, 0, (0, 0, ()), 0, 0, ()) : Wg) = if k = i then t else l.getD k ((0, 0, 0, (0, 0, ()), 0, 0, ()) : Wg) := by
  rw [List.getD_eq_getElem?_getD, List.getElem?_set, List.getD_eq_getElem?_getD]
  by_cases e : i = k
  · subst e; rw [if_pos rfl, if_pos h, if_pos rfl]; rfl
  · rw [if_neg e, if_neg fun h => e h.symm]

def strM (m : Ma) (c : Int) (i : Nat) : Ma := (m.1, m.2.1, c, (List.replicate 0 ((0, 0, 0, (0, 0, ()), 0, 0, ()) : Wg) ++ m.2.2.2.1).set i (strT ((List.replicate 0 ((0, 0, 0, (0, 0, ()), 0, 0, ()) : Wg) ++ m.2.2.2.1).getD i ((0, 0, 0, (0, 0, ()), 0, 0, ()) : Wg))), ())
theorem scL_ab {m : Ma} {a b : Rc} (h : AbM m a b) : scL m a b = coL a b m.2.2.2.1 := by unfold scL; rw [if_pos h]
theorem str_scL {m : Ma} {a b : Rc} {c : Int} {i : Nat} (h : AbM m a b) (hc : 0 ≤ c ∧ c ≤ 10000) (hi : i < m.2.2.2.1.length) : scL (strM m c i) a b = coL a b (m.2.2.2.1.set i (strT (m.2.2.2.1.getD i ((0, 0, 0, (0, 0, ()), 0, 0, ()) : Wg)))) := by
  show scL (setM m c (m.2.2.2.1.set i (strT (m.2.2.2.1.getD i ((0, 0, 0, (0, 0, ()), 0, 0, ()) : Wg))))) a b = _
  refine scL_ab (ab_set h hc (by rw [List.length_set]; exact h.ok.few) fun t ht => ?_)
  rcases List.mem_or_eq_of_mem_set ht with ht | ht
  · exact h.ok.all t ht
  · rw [ht]; exact strT_ok (h.ok.all _ (getD_mem hi))
theorem min_rg {x u : Int} (h : 0 ≤ x ∧ x ≤ 10000) (hu : 0 ≤ u) : 0 ≤ min (x + u) 10000 ∧ min (x + u) 10000 ≤ 10000 := by omega
theorem str_len {m : Ma} {a b : Rc} {c : Int} {i : Nat} (h : AbM m a b) (hc : 0 ≤ c ∧ c ≤ 10000) (hi : i < m.2.2.2.1.length) : (scL m a b).length = (scL (strM m c i) a b).length := by
  rw [str_scL h hc hi, scL_ab h, coL_len, coL_len, List.length_set]
theorem str_no {m : Ma} {a b : Rc} {c j : Int} {k : Nat} (h : AbM m a b) (hc : 0 ≤ c ∧ c ≤ 10000) (hj : 0 ≤ j ∧ j.toNat < m.2.2.2.1.length) (hk : k < m.2.2.2.1.length) (q : ((scL (strM m c j.toNat) a b).getD k false = true ∧ (scL m a b).getD k false = false) ∨ (¬ (k : Int) = j ∧ ¬ ((scL m a b).getD k false = true ↔ (scL (strM m c j.toNat) a b).getD k false = true))) : False := by
  have hi := hj.2
  rw [str_scL h hc hi, scL_ab h, coL_at hk, coL_at (by rw [List.length_set]; exact hk), set_getD hi] at q
  by_cases e : k = j.toNat
  · subst e
    rw [if_pos rfl] at q
    rcases q with ⟨q1, q2⟩ | q
    · have := ho_str (h.ok.all _ (getD_mem hk)) (of_decide_eq_true q1)
      exact of_decide_eq_false q2 this
    · exact q.1 (by omega)
  · rw [if_neg e] at q
    rcases q with ⟨q1, q2⟩ | q
    · rw [q1] at q2; cases q2
    · exact q.2 Iff.rfl

@[reducible] noncomputable def S_law20_MatchStrict : Spec := { ins := (.cons (.d tMat) (.cons (.d tRec) (.cons (.d tRec) (.cons (.d tBy) (.cons (.d tBy) .nil))))), pre := fun _ => True, alts := [{ outs := (.cons (.d .bool) .nil), res := (fun x => (fun m a b r u => (true, ())) x.1 x.2.1 x.2.2.1 x.2.2.2.1 x.2.2.2.2.1) }], noisy := true }
noncomputable def c_law20_MatchStrict : Cf := { cf_law20_MatchStrict (Fl [(fi_law20_head, S_law20_head), (fi_ref20_Few, S_ref20_Few), (fi_ref20_About, S_ref20_About), (fi_match_Score, S_match_Score), (fi_match_Weight, S_match_Weight)]) with E := { (cf_law20_MatchStrict (Fl [(fi_law20_head, S_law20_head), (fi_ref20_Few, S_ref20_Few), (fi_ref20_About, S_ref20_About), (fi_match_Score, S_match_Score), (fi_match_Weight, S_match_Weight)])).E with rows := [71] }, nz := true }
set_option maxRecDepth 100000 in
set_option maxHeartbeats 4000000 in
theorem g_law20_MatchStrict : ∀ x, S_law20_MatchStrict.pre x → shOK S_law20_MatchStrict.ins x → fnGoal c_law20_MatchStrict fn_law20_MatchStrict S_law20_MatchStrict x := by
  rintro ⟨m, a, b, (r : Int), (u : Int), ⟨⟩⟩ hpre hok
  clear hpre
  have hln := shLn_of _ hok; replace hok := Hd.mk hok; try simp only [shLn, datLn, inRng, lo, hi, maxLen, true_and, and_true] at hln
  have hu : (0 ≤ u ∧ u ≤ 255) ∧ 0 ≤ r ∧ r ≤ 255 := by omega
  have hab : ¬ (¬ FewM [m] [a, b] 2 ∨ ¬ AbM m a b) → AbM m a b := fun h => Classical.not_not.1 (not_or.1 h).2
  have hb := wtS_bound (a := a) (b := b) (l := [m])
  simp only [List.length_cons, List.length_nil] at hb
  have hat := fun h => (hab h).ok.at_
  have hfw := fun h => (hab h).ok.few
  have hwt := fun (h : ¬ (¬ FewM [m] [a, b] 2 ∨ ¬ AbM m a b)) => show wtS [(m.1, m.2.1, min (m.2.2.1 + u) 10000, m.2.2.2.1, ())] a b = wtS [m] a b - (min (m.2.2.1 + u) 10000 - m.2.2.1) from wt_at (hab h) (by have := hat h; omega)
  have hr := fun (h : ¬ (m.2.2.2.1.length : Int) = 0) => tmod_in (g := r) (x := (m.2.2.2.1.length : Int)) hu.2.1 (by omega) h
  have hi8 : ¬ (m.2.2.2.1.length : Int) = 0 → 0 ≤ Int.tmod r (m.2.2.2.1.length : Int) ∧ (Int.tmod r (m.2.2.2.1.length : Int)).toNat < m.2.2.2.1.length := fun h => by
    have := hr h
    omega
  have hc8 := fun (h : ¬ (¬ FewM [m] [a, b] 2 ∨ ¬ AbM m a b)) => min_rg (hat h) hu.1.1
  first | refine fn_goal (w_head ?_)
  intro K_ hK_; (conv => whnf); (try dsimp +instances only); refine hK_ _ ?_; clear hK_ K_; (conv => (arg 2; whnf))
  repeat' (first | with_reducible refine And.intro ?_ ?_ | ((try with_reducible refine gv_more ?_); first | ((with_reducible show K_ _); (try dsimp +instances only); (with_reducible refine hK_ _ ?_); clear hK_ K_) | with_reducible refine st ?_ | ((with_reducible first | refine w_region ?_ | refine w_head ?_); intro K_ hK_; conv => whnf) | ((with_reducible refine w_cond ?_); (conv => arg 2; whnf); with_reducible first | refine condK_p ?_ ?_ | refine st ?_ | refine condK_b ?_ ?_) | refine blockK_y (by rfl) ?_ | ((with_reducible first | refine loopK_at ?_ | refine retK_r ?_ | refine retK_n ?_); conv => whnf)) | ((with_reducible refine gv_more ?_); conv => whnf) | (intro hc; (try dsimp +instances only [Dat, SDat, dflt, Ty.size, keepS, bkUpd, Gv.bk, backS, wayA, maxI, minI, negI] at hc); (try simp only [LS] at hc)))
  all_goals (try ((fail_if_success with_reducible refine nl ?_); (try dsimp only [Dat, SDat, dflt, Ty.size, keepS, bkUpd, Gv.bk, backS, wayA, maxI, minI, negI]); (try simp only [LS]); first | done | exact trivial | rfl | omega | exact boolOf_eq _ | (simp only [allP, lo, hi, room, true_and, and_true, implies_true]; done) | ((try simp only [allP, lo, hi, room, true_and, and_true, implies_true]); (repeat' (first | with_reducible refine And.intro ?_ ?_ | ((with_reducible refine preA_t ?_ ?_); rotate_left; (focus (repeat (first | exact trivial | ((conv => whnf); refine And.intro (by rfl) ?_))))) | intro hv)) <;> (try omega))))
  all_goals (try ((fail_if_success with_reducible refine nl ?_); (have hat := hat (by assumption); omega)))
  all_goals (try ((fail_if_success with_reducible refine nl ?_); (exact absurd (hwt (by assumption)) hc)))
  all_goals (try ((fail_if_success with_reducible refine nl ?_); (have hr := hr (by omega); omega)))
  all_goals (try ((fail_if_success with_reducible refine nl ?_); (have hfw := hfw (by assumption); simp only [Nat.reduceAdd, Nat.reduceMul]; omega)))
  all_goals have hA := hab (by assumption)
  all_goals have hc9 := hc8 (by assumption)
  all_goals have hi9 := hi8 (by first | assumption | omega)
  · exact (hc (congrArg (fun n : Nat => (n : Int)) (str_len hA hc9 hi9.2))).elim
  refine w_loop [(18, .d tInt)] [] (fun y => ∃ k : Nat, y.1.1 = (k : Int) ∧ k ≤ m.2.2.2.1.length) (fun y => m.2.2.2.1.length - y.1.1.toNat) ?_
  conv => whnf
  refine And.intro ?_ ?_
  · exact ⟨0, rfl, Nat.zero_le _⟩
  rintro ⟨⟨_, ⟨⟩⟩, ⟨⟩⟩ ⟨k, rfl, hk⟩
  have hxl : (scL m a b).length = m.2.2.2.1.length := by rw [scL_ab hA, coL_len]
  repeat' (first | with_reducible refine And.intro ?_ ?_ | ((try with_reducible refine gv_more ?_); first | ((with_reducible show K_ _); (try dsimp +instances only); (with_reducible refine hK_ _ ?_); clear hK_ K_) | with_reducible refine st ?_ | ((with_reducible first | refine w_region ?_ | refine w_head ?_); intro K_ hK_; conv => whnf) | ((with_reducible refine w_cond ?_); (conv => arg 2; whnf); with_reducible first | refine condK_p ?_ ?_ | refine st ?_ | refine condK_b ?_ ?_) | refine blockK_y (by rfl) ?_ | ((with_reducible first | refine loopK_at ?_ | refine retK_r ?_ | refine retK_n ?_); conv => whnf)) | ((with_reducible refine gv_more ?_); conv => whnf) | (intro hc; (try dsimp +instances only [Dat, SDat, dflt, Ty.size, keepS, bkUpd, Gv.bk, backS, wayA, maxI, minI, negI] at hc); (try simp only [LS] at hc)))
  all_goals (try ((fail_if_success with_reducible refine nl ?_); (try dsimp only [Dat, SDat, dflt, Ty.size, keepS, bkUpd, Gv.bk, backS, wayA, maxI, minI, negI]); (try simp only [LS]); first | done | exact trivial | rfl | omega | exact boolOf_eq _ | (simp only [allP, lo, hi, room, true_and, and_true, implies_true]; done) | ((try simp only [allP, lo, hi, room, true_and, and_true, implies_true]); (repeat' (first | with_reducible refine And.intro ?_ ?_ | ((with_reducible refine preA_t ?_ ?_); rotate_left; (focus (repeat (first | exact trivial | ((conv => whnf); refine And.intro (by rfl) ?_))))) | intro hv)) <;> (try omega))))
  · exact absurd hc (fun hc => str_no hA hc9 hi9 (by omega) hc)
  all_goals (exact ⟨k + 1, by omega, by omega⟩)
set_option maxRecDepth 100000 in
theorem ok_law20_MatchStrict : SpecOK SP glob fi_law20_MatchStrict S_law20_MatchStrict := mk_ok (c := c_law20_MatchStrict) (tab_ok _) mix_ok wf_law20_MatchStrict (by decide) (.cons ok_law20_head (.cons ok_ref20_Few (.cons ok_ref20_About (.cons ok_match_Score (.cons ok_match_Weight .nil))))) (fun x hx => Nat.zero_lt_one) g_law20_MatchStrict
end Go.Gv
