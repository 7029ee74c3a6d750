/- The statements of chapter 4: similar, near, values, Jaro. -/
import Derived.Test.YtjlighbppoffhaaDoorR04b
set_option linter.all false
namespace Go.Gv
open Go Go.Proofs Go.Proofs.YtjlighbppoffhaaDoor

@[reducible] def tRaw : Ty := .st (.cs .str (.cs .str (.cs .str (.cs (.sl .str) (.cs (.sl .str) (.cs tInt (.cs tInt (.cs tInt .nl))))))))
abbrev Raw := List UInt8 × List UInt8 × List UInt8 × List (List UInt8) × List (List UInt8) × Int × Int × Int × Unit
def smallX (x : Raw) : Prop := shortL 300 [x.1, x.2.1, x.2.2.1] ∧ fewL [x.2.2.2.1, x.2.2.2.2.1]

@[reducible] noncomputable def S_law04_small : Spec := { ins := (.cons (.d tRaw) .nil), pre := fun _ => True, alts := [{ outs := (.cons (.d .bool) .nil), res := (fun x => (fun x => (boolOf (smallX x), ())) x.1) }] }
noncomputable def c_law04_small : Cf := (cf_law04_small (Fl [(fi_ref04_Short, S_ref04_Short), (fi_ref04_Few, S_ref04_Few)]))
set_option maxRecDepth 100000 in
set_option maxHeartbeats 4000000 in
theorem g_law04_small : ∀ x, S_law04_small.pre x → shOK S_law04_small.ins x → fnGoal c_law04_small fn_law04_small S_law04_small x := by
  rintro ⟨⟨a, b, c, l, m, u, v, t, ⟨⟩⟩, ⟨⟩⟩ hpre hok
  clear hpre
  have hln := shLn_of _ hok; replace hok := Hd.mk hok; try simp only [shLn, datLn, inRng, lo, hi, maxLen, true_and, and_true] at hln
  first | refine fn_goal (w_head ?_)
  intro K_ hK_; (conv => whnf); (try dsimp +instances only); refine hK_ _ ?_; clear hK_ K_; (conv => (arg 2; whnf))
  repeat' (first | with_reducible refine And.intro ?_ ?_ | ((try with_reducible refine gv_more ?_); first | ((with_reducible show K_ _); (try dsimp +instances only); (with_reducible refine hK_ _ ?_); clear hK_ K_) | with_reducible refine st ?_ | ((with_reducible first | refine w_region ?_ | refine w_head ?_); intro K_ hK_; conv => whnf) | ((with_reducible refine w_cond ?_); (conv => arg 2; whnf); with_reducible first | refine condK_p ?_ ?_ | refine st ?_ | refine condK_b ?_ ?_) | refine blockK_y (by rfl) ?_ | ((with_reducible first | refine loopK_at ?_ | refine retK_r ?_ | refine retK_n ?_); conv => whnf)) | ((with_reducible refine gv_more ?_); conv => whnf) | (intro hc; (try dsimp +instances only [Dat, SDat, dflt, Ty.size, keepS, bkUpd, Gv.bk, backS, wayA, maxI, minI, negI] at hc); (try simp only [LS] at hc)))
  all_goals (try ((fail_if_success with_reducible refine nl ?_); (try dsimp only [Dat, SDat, dflt, Ty.size, keepS, bkUpd, Gv.bk, backS, wayA, maxI, minI, negI]); (try simp only [LS]); first | done | exact trivial | rfl | omega | exact boolOf_eq _ | (simp only [allP, lo, hi, room, true_and, and_true, implies_true]; done) | ((try simp only [allP, lo, hi, room, true_and, and_true, implies_true]); (repeat' (first | with_reducible refine And.intro ?_ ?_ | ((with_reducible refine preA_t ?_ ?_); rotate_left; (focus (repeat (first | exact trivial | ((conv => whnf); refine And.intro (by rfl) ?_))))) | intro hv)) <;> (try omega))))
set_option maxRecDepth 100000 in
theorem ok_law04_small : SpecOK SP glob fi_law04_small S_law04_small := mk_ok (c := c_law04_small) (tab_ok _) mix_ok wf_law04_small (by decide) (.cons ok_ref04_Short (.cons ok_ref04_Few .nil)) (fun x hx => Nat.zero_lt_one) g_law04_small

theorem small_of {a b c : List UInt8} {l m : List (List UInt8)} {u v t : Int} (h : smallX (a, b, c, l, m, u, v, t, ())) : a.length ≤ 300 ∧ b.length ≤ 300 ∧ l.length ≤ 40 ∧ m.length ≤ 40 := by
  obtain ⟨h1, h2⟩ := h
  obtain ⟨s1, s2, _⟩ := short3 h1
  have s1 : (a.length : Int) ≤ 300 := s1
  have s2 : (b.length : Int) ≤ 300 := s2
  have f1 := (h2 l (by simp)).1
  have f2 := (h2 m (by simp)).1
  exact ⟨by omega, by omega, f1, f2⟩

@[reducible] noncomputable def S_law04_MeasureSimilar : Spec := { ins := (.cons (.d tRaw) .nil), pre := fun _ => True, alts := [{ outs := (.cons (.d .bool) .nil), res := (fun x => (fun x => (true, ())) x.1) }], noisy := true }
noncomputable def c_law04_MeasureSimilar : Cf := { cf_law04_MeasureSimilar (Fl [(fi_law04_head, S_law04_head), (fi_law04_small, S_law04_small), (fi_law04_unit, S_law04_unit), (fi_law04_of, S_law04_of), (fi_measure_Alike, S_measure_Alike), (fi_measure_Jaccard, S_measure_Jaccard), (fi_measure_Jaro, S_measure_Jaro), (fi_measure_Near, S_measure_Near)]) with nz := true }
set_option maxRecDepth 100000 in
set_option maxHeartbeats 4000000 in
theorem g_law04_MeasureSimilar : ∀ x, S_law04_MeasureSimilar.pre x → shOK S_law04_MeasureSimilar.ins x → fnGoal c_law04_MeasureSimilar fn_law04_MeasureSimilar S_law04_MeasureSimilar x := by
  rintro ⟨⟨a, b, c, l, m, u, v, t, ⟨⟩⟩, ⟨⟩⟩ hpre hok
  clear hpre
  have hln := shLn_of _ hok; replace hok := Hd.mk hok; try simp only [shLn, datLn, inRng, lo, hi, maxLen, true_and, and_true] at hln
  have hs := small_of (a := a) (b := b) (c := c) (l := l) (m := m) (u := u) (v := v) (t := t)
  have y1 := al_symm b a
  have y2 := jc_symm m l
  have y3 := jr_symm b a
  have y4 := nr_symm v u t
  have n1 := jr_unit a b
  have n2 := nr_unit u v t
  have n3 := nr_self u t
  first | refine fn_goal (w_head ?_)
  intro K_ hK_; (conv => whnf); (try dsimp +instances only); refine hK_ _ ?_; clear hK_ K_; (conv => (arg 2; whnf))
  repeat' (first | with_reducible refine And.intro ?_ ?_ | ((try with_reducible refine gv_more ?_); first | ((with_reducible show K_ _); (try dsimp +instances only); (with_reducible refine hK_ _ ?_); clear hK_ K_) | with_reducible refine st ?_ | ((with_reducible first | refine w_region ?_ | refine w_head ?_); intro K_ hK_; conv => whnf) | ((with_reducible refine w_cond ?_); (conv => arg 2; whnf); with_reducible first | refine condK_p ?_ ?_ | refine st ?_ | refine condK_b ?_ ?_) | refine blockK_y (by rfl) ?_ | ((with_reducible first | refine loopK_at ?_ | refine retK_r ?_ | refine retK_n ?_); conv => whnf)) | ((with_reducible refine gv_more ?_); conv => whnf) | (intro hc; (try dsimp +instances only [Dat, SDat, dflt, Ty.size, keepS, bkUpd, Gv.bk, backS, wayA, maxI, minI, negI] at hc); (try simp only [LS] at hc)))
  all_goals (try ((fail_if_success with_reducible refine nl ?_); (try dsimp only [Dat, SDat, dflt, Ty.size, keepS, bkUpd, Gv.bk, backS, wayA, maxI, minI, negI]); (try simp only [LS]); first | done | exact trivial | rfl | omega | exact boolOf_eq _ | (simp only [allP, lo, hi, room, true_and, and_true, implies_true]; done) | ((try simp only [allP, lo, hi, room, true_and, and_true, implies_true]); (repeat' (first | with_reducible refine And.intro ?_ ?_ | ((with_reducible refine preA_t ?_ ?_); rotate_left; (focus (repeat (first | exact trivial | ((conv => whnf); refine And.intro (by rfl) ?_))))) | intro hv)) <;> (try omega))))
  all_goals (have hs := hs (by assumption))
  all_goals (try omega)
  · exfalso
    rcases hc with ((hc | hc) | hc) | hc
    · exact hc (al_unit (by omega) (by omega))
    · exact hc (jc_unit (by omega) (by omega))
    · exact hc n1
    · exact hc n2
  · exfalso
    rcases hc with ((hc | hc) | hc) | hc
    · exact hc y1
    · exact hc y2
    · exact hc y3
    · exact hc y4
  · exact al_self (by omega)
  · exact jc_self (by omega)
  · rcases Nat.lt_or_ge 200 a.length with h | h
    · exact .inl (by omega)
    · exact .inr (jr_self h)
  all_goals (try exact n3)
set_option maxRecDepth 100000 in
theorem ok_law04_MeasureSimilar : SpecOK SP glob fi_law04_MeasureSimilar S_law04_MeasureSimilar := mk_ok (c := c_law04_MeasureSimilar) (tab_ok _) mix_ok wf_law04_MeasureSimilar (by decide) (.cons ok_law04_head (.cons ok_law04_small (.cons ok_law04_unit (.cons ok_law04_of (.cons ok_measure_Alike (.cons ok_measure_Jaccard (.cons ok_measure_Jaro (.cons ok_measure_Near .nil)))))))) (fun x hx => Nat.zero_lt_one) g_law04_MeasureSimilar

@[reducible] noncomputable def S_law04_MeasureJaro : Spec := { ins := (.cons (.d .str) (.cons (.d .str) .nil)), pre := fun _ => True, alts := [{ outs := (.cons (.d .bool) .nil), res := (fun x => (fun a b => (true, ())) x.1 x.2.1) }], noisy := true }
noncomputable def c_law04_MeasureJaro : Cf := { cf_law04_MeasureJaro (Fl [(fi_law04_head, S_law04_head), (fi_ref04_Short, S_ref04_Short), (fi_law04_of, S_law04_of), (fi_measure_Jaro, S_measure_Jaro)]) with nz := true }
set_option maxRecDepth 100000 in
set_option maxHeartbeats 4000000 in
theorem g_law04_MeasureJaro : ∀ x, S_law04_MeasureJaro.pre x → shOK S_law04_MeasureJaro.ins x → fnGoal c_law04_MeasureJaro fn_law04_MeasureJaro S_law04_MeasureJaro x := by
  rintro ⟨a, b, ⟨⟩⟩ hpre hok
  clear hpre
  have hln := shLn_of _ hok; replace hok := Hd.mk hok; try simp only [shLn, datLn, inRng, lo, hi, maxLen, true_and, and_true] at hln
  have hs : shortL 200 [a, b] → a.length ≤ 200 ∧ b.length ≤ 200 := fun h => ⟨by have := h a (by simp); omega, by have := h b (by simp); omega⟩
  first | refine fn_goal (w_head ?_)
  intro K_ hK_; (conv => whnf); (try dsimp +instances only); refine hK_ _ ?_; clear hK_ K_; (conv => (arg 2; whnf))
  repeat' (first | with_reducible refine And.intro ?_ ?_ | ((try with_reducible refine gv_more ?_); first | ((with_reducible show K_ _); (try dsimp +instances only); (with_reducible refine hK_ _ ?_); clear hK_ K_) | with_reducible refine st ?_ | ((with_reducible first | refine w_region ?_ | refine w_head ?_); intro K_ hK_; conv => whnf) | ((with_reducible refine w_cond ?_); (conv => arg 2; whnf); with_reducible first | refine condK_p ?_ ?_ | refine st ?_ | refine condK_b ?_ ?_) | refine blockK_y (by rfl) ?_ | ((with_reducible first | refine loopK_at ?_ | refine retK_r ?_ | refine retK_n ?_); conv => whnf)) | ((with_reducible refine gv_more ?_); conv => whnf) | (intro hc; (try dsimp +instances only [Dat, SDat, dflt, Ty.size, keepS, bkUpd, Gv.bk, backS, wayA, maxI, minI, negI] at hc); (try simp only [LS] at hc)))
  all_goals (try ((fail_if_success with_reducible refine nl ?_); (try dsimp only [Dat, SDat, dflt, Ty.size, keepS, bkUpd, Gv.bk, backS, wayA, maxI, minI, negI]); (try simp only [LS]); first | done | exact trivial | rfl | omega | exact boolOf_eq _ | (simp only [allP, lo, hi, room, true_and, and_true, implies_true]; done) | ((try simp only [allP, lo, hi, room, true_and, and_true, implies_true]); (repeat' (first | with_reducible refine And.intro ?_ ?_ | ((with_reducible refine preA_t ?_ ?_); rotate_left; (focus (repeat (first | exact trivial | ((conv => whnf); refine And.intro (by rfl) ?_))))) | intro hv)) <;> (try omega))))
  refine w_loop [(6, .d .bool), (7, .d tInt)] [] (fun y => ∃ i : Nat, y.1.2.1 = (i : Int) ∧ i ≤ a.length ∧ (y.1.1 = false → ∀ i' j, i' < i → j < b.length → ¬ List.getD a i' 0 = List.getD b j 0)) (fun y => a.length - y.1.2.1.toNat) ?_
  conv => whnf
  refine And.intro ?_ ?_
  · exact ⟨0, rfl, Nat.zero_le _, fun _ _ _ h => by omega⟩
  rintro ⟨⟨(co : Bool), _, ⟨⟩⟩, ⟨⟩⟩ ⟨i, rfl, hi, hco⟩
  have hco : co = false → ∀ i' j, i' < i → j < b.length → ¬ List.getD a i' 0 = List.getD b j 0 := hco
  repeat' (first | with_reducible refine And.intro ?_ ?_ | ((try with_reducible refine gv_more ?_); first | ((with_reducible show K_ _); (try dsimp +instances only); (with_reducible refine hK_ _ ?_); clear hK_ K_) | with_reducible refine st ?_ | ((with_reducible first | refine w_region ?_ | refine w_head ?_); intro K_ hK_; conv => whnf) | ((with_reducible refine w_cond ?_); (conv => arg 2; whnf); with_reducible first | refine condK_p ?_ ?_ | refine st ?_ | refine condK_b ?_ ?_) | refine blockK_y (by rfl) ?_ | ((with_reducible first | refine loopK_at ?_ | refine retK_r ?_ | refine retK_n ?_); conv => whnf)) | ((with_reducible refine gv_more ?_); conv => whnf) | (intro hc; (try dsimp +instances only [Dat, SDat, dflt, Ty.size, keepS, bkUpd, Gv.bk, backS, wayA, maxI, minI, negI] at hc); (try simp only [LS] at hc)))
  all_goals (try ((fail_if_success with_reducible refine nl ?_); (try dsimp only [Dat, SDat, dflt, Ty.size, keepS, bkUpd, Gv.bk, backS, wayA, maxI, minI, negI]); (try simp only [LS]); first | done | exact trivial | rfl | omega | exact boolOf_eq _ | (simp only [allP, lo, hi, room, true_and, and_true, implies_true]; done) | ((try simp only [allP, lo, hi, room, true_and, and_true, implies_true]); (repeat' (first | with_reducible refine And.intro ?_ ?_ | ((with_reducible refine preA_t ?_ ?_); rotate_left; (focus (repeat (first | exact trivial | ((conv => whnf); refine And.intro (by rfl) ?_))))) | intro hv)) <;> (try omega))))
  · refine w_loop [(6, .d .bool), (8, .d tInt)] [] (fun y => ∃ j : Nat, y.1.2.1 = (j : Int) ∧ j ≤ b.length ∧ (y.1.1 = false → (∀ i' j, i' < i → j < b.length → ¬ List.getD a i' 0 = List.getD b j 0) ∧ ∀ j', j' < j → ¬ List.getD a i 0 = List.getD b j' 0)) (fun y => b.length - y.1.2.1.toNat) ?_
    conv => whnf
    refine And.intro ?_ ?_
    · exact ⟨0, rfl, Nat.zero_le _, fun h => ⟨hco h, fun _ h => by omega⟩⟩
    rintro ⟨⟨(cq : Bool), _, ⟨⟩⟩, ⟨⟩⟩ ⟨j, rfl, hj, hcq⟩
    have hcq : cq = false → (∀ i' j, i' < i → j < b.length → ¬ List.getD a i' 0 = List.getD b j 0) ∧ ∀ j', j' < j → ¬ List.getD a i 0 = List.getD b j' 0 := hcq
    repeat' (first | with_reducible refine And.intro ?_ ?_ | ((try with_reducible refine gv_more ?_); first | ((with_reducible show K_ _); (try dsimp +instances only); (with_reducible refine hK_ _ ?_); clear hK_ K_) | with_reducible refine st ?_ | ((with_reducible first | refine w_region ?_ | refine w_head ?_); intro K_ hK_; conv => whnf) | ((with_reducible refine w_cond ?_); (conv => arg 2; whnf); with_reducible first | refine condK_p ?_ ?_ | refine st ?_ | refine condK_b ?_ ?_) | refine blockK_y (by rfl) ?_ | ((with_reducible first | refine loopK_at ?_ | refine retK_r ?_ | refine retK_n ?_); conv => whnf)) | ((with_reducible refine gv_more ?_); conv => whnf) | (intro hc; (try dsimp +instances only [Dat, SDat, dflt, Ty.size, keepS, bkUpd, Gv.bk, backS, wayA, maxI, minI, negI] at hc); (try simp only [LS] at hc)))
    all_goals (try ((fail_if_success with_reducible refine nl ?_); (try dsimp only [Dat, SDat, dflt, Ty.size, keepS, bkUpd, Gv.bk, backS, wayA, maxI, minI, negI]); (try simp only [LS]); first | done | exact trivial | rfl | omega | exact boolOf_eq _ | (simp only [allP, lo, hi, room, true_and, and_true, implies_true]; done) | ((try simp only [allP, lo, hi, room, true_and, and_true, implies_true]); (repeat' (first | with_reducible refine And.intro ?_ ?_ | ((with_reducible refine preA_t ?_ ?_); rotate_left; (focus (repeat (first | exact trivial | ((conv => whnf); refine And.intro (by rfl) ?_))))) | intro hv)) <;> (try omega))))
    all_goals (try (simp only [Gv.hi]; omega))
    · refine ⟨j + 1, by omega, by omega, fun h => ?_⟩
      obtain ⟨k1, k2⟩ := not_or.1 h
      have h1 := hcq (by cases cq with | false => rfl | true => exact (k1 rfl).elim)
      refine ⟨h1.1, fun j' hj' => ?_⟩
      rcases Nat.lt_or_ge j' j with h4 | h4
      · exact h1.2 j' h4
      · have : j' = j := by omega
        subst this
        exact fun e => k2 (by rw [e])
    · refine ⟨i + 1, by omega, by omega, fun h i' j' hi' hj' => ?_⟩
      have h1 := hcq h
      rcases Nat.lt_or_ge i' i with h4 | h4
      · exact h1.1 i' j' h4 hj'
      · have : i' = i := by omega
        subst this
        exact h1.2 j' (by omega)
  all_goals (have hs := hs (by assumption))
  all_goals (try (simp only [Gv.hi]; omega))
  all_goals (try omega)
  · exact jr_one hs.1 hs.2
  · cases hq : co with
    | true => exact .inl (.inl rfl)
    | false =>
      by_cases h0 : a = [] ∧ b = []
      · exact .inl (.inr (by rw [h0.1, h0.2]; rfl))
      · exact .inr (jr_none (fun i' j' h1 h2 => hco hq i' j' (by omega) h2) h0)
set_option maxRecDepth 100000 in
theorem ok_law04_MeasureJaro : SpecOK SP glob fi_law04_MeasureJaro S_law04_MeasureJaro := mk_ok (c := c_law04_MeasureJaro) (tab_ok _) mix_ok wf_law04_MeasureJaro (by decide) (.cons ok_law04_head (.cons ok_ref04_Short (.cons ok_law04_of (.cons ok_measure_Jaro .nil)))) (fun x hx => Nat.zero_lt_one) g_law04_MeasureJaro

@[reducible] noncomputable def S_law04_MeasureValues : Spec := { ins := (.cons (.d tInt) (.cons (.d tInt) (.cons (.d tVal) (.cons (.d tVal) .nil)))), pre := fun _ => True, alts := [{ outs := (.cons (.d .bool) .nil), res := (fun x => (fun m t a b => (true, ())) x.1 x.2.1 x.2.2.1 x.2.2.2.1) }], noisy := true }
noncomputable def c_law04_MeasureValues : Cf := { cf_law04_MeasureValues (Fl [(fi_law04_head, S_law04_head), (fi_ref04_Short, S_ref04_Short), (fi_law04_unit, S_law04_unit), (fi_law04_of, S_law04_of), (fi_measure_Of, S_measure_Of)]) with nz := true }
set_option maxRecDepth 100000 in
set_option maxHeartbeats 4000000 in
theorem g_law04_MeasureValues : ∀ x, S_law04_MeasureValues.pre x → shOK S_law04_MeasureValues.ins x → fnGoal c_law04_MeasureValues fn_law04_MeasureValues S_law04_MeasureValues x := by
  rintro ⟨m, t, a, b, ⟨⟩⟩ hpre hok
  clear hpre
  have hln := shLn_of _ hok; replace hok := Hd.mk hok; try simp only [shLn, datLn, inRng, lo, hi, maxLen, true_and, and_true] at hln
  have s1 := of_symm m t a b
  have u1 := of_unit (m := m) (t := t) (a := a) (b := b)
  have z1 := of_self (m := m) (t := t) (a := a)
  first | refine fn_goal (w_head ?_)
  intro K_ hK_; (conv => whnf); (try dsimp +instances only); refine hK_ _ ?_; clear hK_ K_; (conv => (arg 2; whnf))
  repeat' (first | with_reducible refine And.intro ?_ ?_ | ((try with_reducible refine gv_more ?_); first | ((with_reducible show K_ _); (try dsimp +instances only); (with_reducible refine hK_ _ ?_); clear hK_ K_) | with_reducible refine st ?_ | ((with_reducible first | refine w_region ?_ | refine w_head ?_); intro K_ hK_; conv => whnf) | ((with_reducible refine w_cond ?_); (conv => arg 2; whnf); with_reducible first | refine condK_p ?_ ?_ | refine st ?_ | refine condK_b ?_ ?_) | refine blockK_y (by rfl) ?_ | ((with_reducible first | refine loopK_at ?_ | refine retK_r ?_ | refine retK_n ?_); conv => whnf)) | ((with_reducible refine gv_more ?_); conv => whnf) | (intro hc; (try dsimp +instances only [Dat, SDat, dflt, Ty.size, keepS, bkUpd, Gv.bk, backS, wayA, maxI, minI, negI] at hc); (try simp only [LS] at hc)))
  all_goals (try ((fail_if_success with_reducible refine nl ?_); (try dsimp only [Dat, SDat, dflt, Ty.size, keepS, bkUpd, Gv.bk, backS, wayA, maxI, minI, negI]); (try simp only [LS]); first | done | exact trivial | rfl | omega | exact boolOf_eq _ | (simp only [allP, lo, hi, room, true_and, and_true, implies_true]; done) | ((try simp only [allP, lo, hi, room, true_and, and_true, implies_true]); (repeat' (first | with_reducible refine And.intro ?_ ?_ | ((with_reducible refine preA_t ?_ ?_); rotate_left; (focus (repeat (first | exact trivial | ((conv => whnf); refine And.intro (by rfl) ?_))))) | intro hv)) <;> (try omega))))
  · exfalso
    rcases hc with (hc | hc) | hc
    · exact hc s1.1
    · exact hc ⟨by rw [s1.2], by rw [s1.2]⟩
    · exact hc.2 (u1 hc.1)
  · rcases Classical.em (a.1 = 0) with h | h
    · exact .inr h
    · rcases Classical.em (ofE m t a a = 0) with k | k
      · exact .inl (.inr (z1 k h))
      · exact .inl (.inl k)
set_option maxRecDepth 100000 in
theorem ok_law04_MeasureValues : SpecOK SP glob fi_law04_MeasureValues S_law04_MeasureValues := mk_ok (c := c_law04_MeasureValues) (tab_ok _) mix_ok wf_law04_MeasureValues (by decide) (.cons ok_law04_head (.cons ok_ref04_Short (.cons ok_law04_unit (.cons ok_law04_of (.cons ok_measure_Of .nil))))) (fun x hx => Nat.zero_lt_one) g_law04_MeasureValues

theorem tmod_pos (q n : Int) (h : 0 ≤ q) (hn : 0 < n) : 0 ≤ Int.tmod q n ∧ Int.tmod q n < n := by
  rw [Int.tmod_eq_emod_of_nonneg h]
  exact ⟨Int.emod_nonneg q (by omega), Int.emod_lt_of_pos q hn⟩
theorem tmod_rng (q n : Int) (hn : 0 < n) : -n < Int.tmod q n ∧ Int.tmod q n < n := by
  rcases Int.le_total 0 q with h | h
  · have := tmod_pos q n h hn; omega
  · have h1 := tmod_pos (-q) n (by omega) hn
    have h2 : Int.tmod (-q) n = - Int.tmod q n := Int.neg_tmod q n
    omega

theorem mm_abs (x y : Int) : max x y - min x y = absI (x - y) := by unfold absI; omega

@[reducible] noncomputable def S_law04_MeasureNears : Spec := { ins := (.cons (.d (.int .i32)) (.cons (.d (.int .i32)) (.cons (.d (.int .i32)) (.cons (.d (.int .u32)) (.cons (.d (.int .u32)) .nil))))), pre := fun _ => True, alts := [{ outs := (.cons (.d .bool) .nil), res := (fun x => (fun a b c p q => (true, ())) x.1 x.2.1 x.2.2.1 x.2.2.2.1 x.2.2.2.2.1) }], noisy := true }
noncomputable def c_law04_MeasureNears : Cf := { cf_law04_MeasureNears (Fl [(fi_law04_head, S_law04_head), (fi_law04_of, S_law04_of), (fi_measure_Near, S_measure_Near), (fi_ratio_Cmp, S_ratio_Cmp)]) with nz := true }
set_option maxRecDepth 100000 in
set_option maxHeartbeats 4000000 in
theorem g_law04_MeasureNears : ∀ x, S_law04_MeasureNears.pre x → shOK S_law04_MeasureNears.ins x → fnGoal c_law04_MeasureNears fn_law04_MeasureNears S_law04_MeasureNears x := by
  rintro ⟨a, b, c, p, q, ⟨⟩⟩ hpre hok
  clear hpre
  have hln := shLn_of _ hok; replace hok := Hd.mk hok; try simp only [shLn, datLn, inRng, lo, hi, maxLen, true_and, and_true] at hln
  have ba := tmod_rng a 1000000001 (by decide)
  have bb := tmod_rng b 1000000001 (by decide)
  have bc := tmod_rng c 1000000001 (by decide)
  have hp := hln.2.2.2
  have bp := tmod_pos p 1000000000 hp.1.1 (by decide)
  have bq := tmod_pos q (1000000000 - Int.tmod p 1000000000) hp.2.1 (by omega)
  first | refine fn_goal (w_head ?_)
  intro K_ hK_; (conv => whnf); (try dsimp +instances only); refine hK_ _ ?_; clear hK_ K_; (conv => (arg 2; whnf))
  repeat' (first | with_reducible refine And.intro ?_ ?_ | ((try with_reducible refine gv_more ?_); first | ((with_reducible show K_ _); (try dsimp +instances only); (with_reducible refine hK_ _ ?_); clear hK_ K_) | with_reducible refine st ?_ | ((with_reducible first | refine w_region ?_ | refine w_head ?_); intro K_ hK_; conv => whnf) | ((with_reducible refine w_cond ?_); (conv => arg 2; whnf); with_reducible first | refine condK_p ?_ ?_ | refine st ?_ | refine condK_b ?_ ?_) | refine blockK_y (by rfl) ?_ | ((with_reducible first | refine loopK_at ?_ | refine retK_r ?_ | refine retK_n ?_); conv => whnf)) | ((with_reducible refine gv_more ?_); conv => whnf) | (intro hc; (try dsimp +instances only [Dat, SDat, dflt, Ty.size, keepS, bkUpd, Gv.bk, backS, wayA, maxI, minI, negI] at hc); (try simp only [LS] at hc)))
  all_goals (try ((fail_if_success with_reducible refine nl ?_); (try dsimp only [Dat, SDat, dflt, Ty.size, keepS, bkUpd, Gv.bk, backS, wayA, maxI, minI, negI]); (try simp only [LS]); first | done | exact trivial | rfl | omega | exact boolOf_eq _ | (simp only [allP, lo, hi, room, true_and, and_true, implies_true]; done) | ((try simp only [allP, lo, hi, room, true_and, and_true, implies_true]); (repeat' (first | with_reducible refine And.intro ?_ ?_ | ((with_reducible refine preA_t ?_ ?_); rotate_left; (focus (repeat (first | exact trivial | ((conv => whnf); refine And.intro (by rfl) ?_))))) | intro hv)) <;> (try omega))))
  · exfalso
    rcases hc with ⟨h1, h2⟩ | h2
    · rw [mm_abs, mm_abs] at h1
      exact nr_near h1 h2
    · exact nr_more bp.1 (by omega) (by omega) h2
  · rw [mm_abs]
    exact nr_zero bp.1 bp.2
set_option maxRecDepth 100000 in
theorem ok_law04_MeasureNears : SpecOK SP glob fi_law04_MeasureNears S_law04_MeasureNears := mk_ok (c := c_law04_MeasureNears) (tab_ok _) mix_ok wf_law04_MeasureNears (by decide) (.cons ok_law04_head (.cons ok_law04_of (.cons ok_measure_Near (.cons ok_ratio_Cmp .nil)))) (fun x hx => Nat.zero_lt_one) g_law04_MeasureNears
end Go.Gv
