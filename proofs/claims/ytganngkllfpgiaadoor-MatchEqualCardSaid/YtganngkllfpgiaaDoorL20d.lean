/- Chapter 20: the statement on a record and itself. -/
import Derived.Test.YtganngkllfpgiaaDoorL20
set_option linter.all false
namespace Go.Gv
open Go Go.Proofs Go.Proofs.YtganngkllfpgiaaDoor

structure FitP (t : Wg) (v : Vl) : Prop where
  ok : vlV v
  no : ¬ v.1 = 0
  near : t.2.1 = 5 → (v.1 = 2 ∨ v.1 = 3) ∧ t.2.2.1 < 1000000000
  txt : ¬ t.2.1 = 5 → ¬ t.2.1 = 1 → v.1 = 1
theorem bad_one {v : Vl} : badT 1 0 v v ↔ ¬ vlV v := by
  unfold badT
  constructor
  · rintro (h | h | h | h)
    · omega
    · exact h
    · exact h
    · omega
  · exact fun h => .inr (.inl h)
theorem e1_iff {v : Vl} : (ofE 1 0 v v = 0 ∧ (ofV 1 0 v v).1 = 1) ↔ (vlV v ∧ ¬ v.1 = 0) := by
  by_cases h : vlV v
  · have hb : ¬ badT 1 0 v v := fun k => bad_one.1 k h
    by_cases h0 : v.1 = 0
    · rw [(of_nul hb (.inl h0)).1, (of_nul hb (.inl h0)).2]
      exact ⟨fun k => absurd k.2 (by decide), fun k => absurd h0 k.2⟩
    · have hn : ¬ nulT v v := fun k => k.elim h0 h0
      rw [(of_eq hb hn rfl).1, (of_eq hb hn rfl).2, if_pos rfl]
      exact ⟨fun _ => ⟨h, h0⟩, fun _ => ⟨rfl, rfl⟩⟩
  · rw [(of_bad (bad_one.2 h)).2]
    exact ⟨fun k => absurd k.1 (by decide), fun k => absurd k.1 h⟩
theorem one_ge {t : Wg} (ht : WgOK t) : 0 ≤ cmpR (rt 1 1) t.2.2.2.1 := by
  refine Int.not_lt.1 (cmp_ge ?_)
  show t.2.2.2.1.1 * 1 ≤ 1 * t.2.2.2.1.2.1
  have := ht.hi
  omega
theorem fit_yes {t : Wg} {v : Vl} (ht : WgOK t) (h : FitP t v) : ofE t.2.1 t.2.2.1 v v = 0 ∧ 0 ≤ cmpR (ofV t.2.1 t.2.2.1 v v) t.2.2.2.1 := by
  have hm := ht.meas
  have htl := ht.tol
  have hb : ¬ badT t.2.1 t.2.2.1 v v := good_of hm h.ok h.ok fun k => by
    have := (h.near k.1).2
    omega
  have hn : ¬ nulT v v := fun k => k.elim h.no h.no
  have he : ofE t.2.1 t.2.2.1 v v = 0 := by
    by_cases h1 : t.2.1 = 1
    · exact (of_eq hb hn h1).2
    · by_cases h5 : t.2.1 = 5
      · have hk := (h.near h5).1
        exact (of_nr hb hn h5 (by unfold typT; omega)).2
      · have hk := h.txt h5 h1
        exact (of_tx hb hn h1 h5 (by unfold typT; omega)).2
  exact ⟨he, by rw [of_self he h.no]; exact one_ge ht⟩
theorem fit_no {t : Wg} {v : Vl} (ht : WgOK t) (h : ¬ FitP t v) (k0 : ofE t.2.1 t.2.2.1 v v = 0) (k1 : 0 ≤ cmpR (ofV t.2.1 t.2.2.1 v v) t.2.2.2.1) : t.2.2.2.1.1 ≤ 0 := by
  have hb : ¬ badT t.2.1 t.2.2.1 v v := fun k => by rw [(of_bad k).2] at k0; cases k0
  have hv : vlV v := Classical.byContradiction fun k => hb (.inr (.inl k))
  by_cases h0 : v.1 = 0
  · rw [(of_nul hb (.inl h0)).1] at k1
    refine Int.not_lt.1 fun hl => ?_
    unfold cmpR at k1
    rw [if_pos ⟨by decide, ht.least⟩] at k1
    have : (rt 0 1).1 * t.2.2.2.1.2.1 - t.2.2.2.1.1 * (rt 0 1).2.1 < 0 := by
      show 0 * t.2.2.2.1.2.1 - t.2.2.2.1.1 * 1 < 0
      omega
    rw [if_pos this] at k1
    exact absurd k1 (by decide)
  · have hn : ¬ nulT v v := fun k => k.elim h0 h0
    refine absurd (show FitP t v from ⟨hv, h0, fun h5 => ?_, fun h5 h1 => ?_⟩) h
    · have hty : ¬ typT t.2.1 v v := fun k => by rw [(of_typ hb hn (by omega) k).2] at k0; cases k0
      have h2 : ¬ (t.2.2.1 < 0 ∨ 1000000000 ≤ t.2.2.1) := fun k => hb (.inr (.inr (.inr ⟨h5, k⟩)))
      unfold typT at hty
      omega
    · have hty : ¬ typT t.2.1 v v := fun k => by rw [(of_typ hb hn h1 k).2] at k0; cases k0
      unfold typT at hty
      omega

theorem coL_at {a b : Rc} {l : List Wg} {k : Nat} (h : k < l.length) : (coL a b l).getD k false = decide (HoW (l.getD k ((0, 0, 0, (0, 0, ()), 0, 0, ()) : Wg)) a b) := by
  unfold coL
  rw [getD_ok _ (by rw [List.length_map]; exact h), List.getElem_map, ← getD_ok ((0, 0, 0, (0, 0, ()), 0, 0, ()) : Wg) h]
theorem scL_ab {m : Ma} {a b : Rc} (h : AbM m a b) : scL m a b = coL a b m.2.2.2.1 := by unfold scL; rw [if_pos h]
theorem scL_len {m : Ma} {a b : Rc} (h : AbM m a b) : (scL m a b).length = m.2.2.2.1.length := by rw [scL_ab h]; unfold coL; rw [List.length_map]
theorem ho_fit {t : Wg} {a : Rc} (ht : WgOK t) (h0 : 0 ≤ t.1) (h1 : t.1 < a.2.2.2.1.length) : (FitP t (vlAt a t.1) → HoW t a a) ∧ (¬ FitP t (vlAt a t.1) → HoW t a a → t.2.2.2.1.1 ≤ 0) :=
  ⟨fun h => ⟨h0, h1, h1, (fit_yes ht h).1, (fit_yes ht h).2⟩, fun h k => fit_no ht h k.ok k.ge⟩

theorem fit5 {t : Wg} {v : Vl} (h : t.2.1 = 5) : (((ofE 1 0 v v = 0 ∧ (ofV 1 0 v v).1 = 1) ∧ (v.1 = 2 ∨ v.1 = 3)) ∧ t.2.2.1 < 1000000000) ↔ FitP t v := by
  rw [e1_iff]
  exact ⟨fun ⟨⟨⟨h1, h2⟩, h3⟩, h4⟩ => ⟨h1, h2, fun _ => ⟨h3, h4⟩, fun k => absurd h k⟩, fun k => ⟨⟨⟨k.ok, k.no⟩, (k.near h).1⟩, (k.near h).2⟩⟩
theorem fitT {t : Wg} {v : Vl} (h : ¬ t.2.1 = 5) (h1 : ¬ t.2.1 = 1) : ((ofE 1 0 v v = 0 ∧ (ofV 1 0 v v).1 = 1) ∧ v.1 = 1) ↔ FitP t v := by
  rw [e1_iff]
  exact ⟨fun ⟨⟨k1, k2⟩, k3⟩ => ⟨k1, k2, fun k => absurd k h, fun _ _ => k3⟩, fun k => ⟨⟨k.ok, k.no⟩, k.txt h h1⟩⟩
theorem fit1 {t : Wg} {v : Vl} (h1 : t.2.1 = 1) : (ofE 1 0 v v = 0 ∧ (ofV 1 0 v v).1 = 1) ↔ FitP t v := by
  rw [e1_iff]
  exact ⟨fun ⟨k1, k2⟩ => ⟨k1, k2, fun k => by rw [h1] at k; exact absurd k (by decide), fun _ k => absurd h1 k⟩, fun k => ⟨k.ok, k.no⟩⟩
theorem eq_no {t : Wg} {a : Rc} {x : Bool} {F : Prop} (ht : WgOK t) (h0 : 0 ≤ t.1) (h1 : t.1 < a.2.2.2.1.length) (hx : x = decide (HoW t a a)) (hF : F ↔ FitP t (vlAt a t.1)) (hc : (F ∧ x = false) ∨ ((¬ F ∧ x = true) ∧ 0 < t.2.2.2.1.1)) : False := by
  rcases hc with ⟨f, e⟩ | ⟨⟨f, e⟩, g⟩
  · have := (ho_fit ht h0 h1).1 (hF.1 f)
    rw [hx, decide_eq_true this] at e
    cases e
  · have hh : HoW t a a := by rw [hx] at e; exact of_decide_eq_true e
    have := (ho_fit ht h0 h1).2 (fun k => f (hF.2 k)) hh
    omega

@[reducible] noncomputable def S_law20_MatchEqual : Spec := { ins := (.cons (.d tMat) (.cons (.d tRec) .nil)), pre := fun _ => True, alts := [{ outs := (.cons (.d .bool) .nil), res := (fun x => (fun m a => (true, ())) x.1 x.2.1) }], noisy := true }
noncomputable def c_law20_MatchEqual : Cf := { cf_law20_MatchEqual (Fl [(fi_law20_head, S_law20_head), (fi_ref20_Few, S_ref20_Few), (fi_ref20_About, S_ref20_About), (fi_match_Score, S_match_Score), (fi_measure_Of, S_measure_Of)]) with nz := true }
set_option maxRecDepth 100000 in
set_option maxHeartbeats 4000000 in
theorem g_law20_MatchEqual : ∀ x, S_law20_MatchEqual.pre x → shOK S_law20_MatchEqual.ins x → fnGoal c_law20_MatchEqual fn_law20_MatchEqual S_law20_MatchEqual x := by
  rintro ⟨m, a, ⟨⟩⟩ hpre hok
  clear hpre
  have hln := shLn_of _ hok; replace hok := Hd.mk hok; try simp only [shLn, datLn, inRng, lo, hi, maxLen, true_and, and_true] at hln
  have hab : ¬ (¬ FewM [m] [a] 1 ∨ ¬ AbM m a a) → AbM m a a := fun h => Classical.not_not.1 (not_or.1 h).2
  first | refine fn_goal (w_head ?_)
  intro K_ hK_; (conv => whnf); (try dsimp +instances only); refine hK_ _ ?_; clear hK_ K_; (conv => (arg 2; whnf))
  repeat' (first | with_reducible refine And.intro ?_ ?_ | ((try with_reducible refine gv_more ?_); first | ((with_reducible show K_ _); (try dsimp +instances only); (with_reducible refine hK_ _ ?_); clear hK_ K_) | with_reducible refine st ?_ | ((with_reducible first | refine w_region ?_ | refine w_head ?_); intro K_ hK_; conv => whnf) | ((with_reducible refine w_cond ?_); (conv => arg 2; whnf); with_reducible first | refine condK_p ?_ ?_ | refine st ?_ | refine condK_b ?_ ?_) | refine blockK_y (by rfl) ?_ | ((with_reducible first | refine loopK_at ?_ | refine retK_r ?_ | refine retK_n ?_); conv => whnf)) | ((with_reducible refine gv_more ?_); conv => whnf) | (intro hc; (try dsimp +instances only [Dat, SDat, dflt, Ty.size, keepS, bkUpd, Gv.bk, backS, wayA, maxI, minI, negI] at hc); (try simp only [LS] at hc)))
  all_goals (try ((fail_if_success with_reducible refine nl ?_); (try dsimp only [Dat, SDat, dflt, Ty.size, keepS, bkUpd, Gv.bk, backS, wayA, maxI, minI, negI]); (try simp only [LS]); first | done | exact trivial | rfl | omega | exact boolOf_eq _ | (simp only [allP, lo, hi, room, true_and, and_true, implies_true]; done) | ((try simp only [allP, lo, hi, room, true_and, and_true, implies_true]); (repeat' (first | with_reducible refine And.intro ?_ ?_ | ((with_reducible refine preA_t ?_ ?_); rotate_left; (focus (repeat (first | exact trivial | ((conv => whnf); refine And.intro (by rfl) ?_))))) | intro hv)) <;> (try omega))))
  all_goals (try ((fail_if_success with_reducible refine nl ?_); (exact absurd (by rw [scL_len (hab (by assumption))]) hc)))
  have hA := hab (by assumption)
  have hx := scL_len hA
  refine w_loop [(8, .d tInt)] [] (fun y => ∃ k : Nat, y.1.1 = (k : Int) ∧ k ≤ m.2.2.2.1.length) (fun y => m.2.2.2.1.length - y.1.1.toNat) ?_
  conv => whnf
  refine And.intro ?_ ?_
  · exact ⟨0, rfl, Nat.zero_le _⟩
  rintro ⟨⟨_, ⟨⟩⟩, ⟨⟩⟩ ⟨k, rfl, hk⟩
  have hxk := fun (h : k < m.2.2.2.1.length) => show (scL m a a).getD k false = decide (HoW (m.2.2.2.1.getD k ((0, 0, 0, (0, 0, ()), 0, 0, ()) : Wg)) a a) by rw [scL_ab hA]; exact coL_at h
  have hw := fun (h : k < m.2.2.2.1.length) => hA.ok.all _ (getD_mem (d := ((0, 0, 0, (0, 0, ()), 0, 0, ()) : Wg)) h)
  have he := e1_iff (v := vlAt a (m.2.2.2.1.getD k ((0, 0, 0, (0, 0, ()), 0, 0, ()) : Wg)).1)
  have h200 := hA.ok.few
  repeat' (first | with_reducible refine And.intro ?_ ?_ | ((try with_reducible refine gv_more ?_); first | ((with_reducible show K_ _); (try dsimp +instances only); (with_reducible refine hK_ _ ?_); clear hK_ K_) | with_reducible refine st ?_ | ((with_reducible first | refine w_region ?_ | refine w_head ?_); intro K_ hK_; conv => whnf) | ((with_reducible refine w_cond ?_); (conv => arg 2; whnf); with_reducible first | refine condK_p ?_ ?_ | refine st ?_ | refine condK_b ?_ ?_) | refine blockK_y (by rfl) ?_ | ((with_reducible first | refine loopK_at ?_ | refine retK_r ?_ | refine retK_n ?_); conv => whnf)) | ((with_reducible refine gv_more ?_); conv => whnf) | (intro hc; (try dsimp +instances only [Dat, SDat, dflt, Ty.size, keepS, bkUpd, Gv.bk, backS, wayA, maxI, minI, negI] at hc); (try simp only [LS] at hc)))
  all_goals (try ((fail_if_success with_reducible refine nl ?_); (try dsimp only [Dat, SDat, dflt, Ty.size, keepS, bkUpd, Gv.bk, backS, wayA, maxI, minI, negI]); (try simp only [LS]); first | done | exact trivial | rfl | omega | exact boolOf_eq _ | (simp only [allP, lo, hi, room, true_and, and_true, implies_true]; done) | ((try simp only [allP, lo, hi, room, true_and, and_true, implies_true]); (repeat' (first | with_reducible refine And.intro ?_ ?_ | ((with_reducible refine preA_t ?_ ?_); rotate_left; (focus (repeat (first | exact trivial | ((conv => whnf); refine And.intro (by rfl) ?_))))) | intro hv)) <;> (try omega))))
  all_goals (try (exact ⟨k + 1, by omega, by omega⟩))
  all_goals (exfalso; have hk2 : k < m.2.2.2.1.length := by omega)
  all_goals (first
    | exact eq_no (hw hk2) (by omega) (by omega) (hxk hk2) (fit5 (by assumption)) hc
    | exact eq_no (hw hk2) (by omega) (by omega) (hxk hk2) (fitT (by assumption) (by assumption)) hc
    | exact eq_no (hw hk2) (by omega) (by omega) (hxk hk2) (fit1 (by assumption)) hc
    | (rw [hxk hk2] at hc
       have hh := of_decide_eq_true hc
       have h1 := hh.lo
       have h2 := hh.ha
       omega)
    | skip)
set_option maxRecDepth 100000 in
theorem ok_law20_MatchEqual : SpecOK SP glob fi_law20_MatchEqual S_law20_MatchEqual := mk_ok (c := c_law20_MatchEqual) (tab_ok _) mix_ok wf_law20_MatchEqual (by decide) (.cons ok_law20_head (.cons ok_ref20_Few (.cons ok_ref20_About (.cons ok_match_Score (.cons ok_measure_Of .nil))))) (fun x hx => Nat.zero_lt_one) g_law20_MatchEqual
end Go.Gv
