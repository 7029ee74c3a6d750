/- Chapter 20: the statement on lists of matches. -/
import Derived.Test.YtganngkllfpgiaaDoorL20
set_option linter.all false
namespace Go.Gv
open Go Go.Proofs Go.Proofs.YtganngkllfpgiaaDoor

theorem wtS_app (l m : List Ma) (a b : Rc) : wtS (l ++ m) a b = wtS l a b + wtS m a b := by unfold wtS; rw [List.map_append, List.sum_append]
theorem wtS_rev (a b : Rc) : ∀ l : List Ma, wtS l.reverse a b = wtS l a b
  | [] => rfl
  | m :: l => by
    rw [List.reverse_cons, wtS_app, wtS_rev a b l, show m :: l = [m] ++ l from rfl, wtS_app, Int.add_comm]
noncomputable def abB (a b : Rc) (m : Ma) : Bool := decide (AbM m a b)
theorem wtS_fil (a b : Rc) : ∀ l : List Ma, wtS (l.filter (abB a b)) a b = wtS l a b
  | [] => rfl
  | m :: l => by
    rw [show m :: l = [m] ++ l from rfl, List.filter_append, wtS_app, wtS_app, wtS_fil a b l]
    by_cases h : AbM m a b
    · rw [List.filter_cons_of_pos (by simpa [abB] using h)]; rfl
    · rw [List.filter_cons_of_neg (by simpa [abB] using h)]
      have : wtS [m] a b = 0 := by unfold wtS wtM; rw [List.map_cons, if_neg h]; rfl
      rw [this]; rfl
theorem rev_step {α : Type} {l : List α} {k : Nat} {d : α} (h : k < l.length) : l.reverse.take (k + 1) = l.reverse.take k ++ [l.getD (l.length - 1 - k) d] := by
  rw [List.take_succ_eq_append_getElem (by rw [List.length_reverse]; exact h), List.getElem_reverse, getD_ok d (by omega)]
theorem fil_step {l : List Ma} {k : Nat} {a b : Rc} (h : k < l.length) : (l.take (k + 1)).filter (abB a b) = (l.take k).filter (abB a b) ++ (if AbM (l.getD k (([], 0, 0, [], ()) : Ma)) a b then [l.getD k (([], 0, 0, [], ()) : Ma)] else []) := by
  rw [List.take_succ_eq_append_getElem h, List.filter_append, ← getD_ok (([], 0, 0, [], ()) : Ma) h]
  congr 1
  by_cases k : AbM (l.getD k (([], 0, 0, [], ()) : Ma)) a b
  · rw [if_pos k, List.filter_cons_of_pos (by simpa [abB] using k)]; rfl
  · rw [if_neg k, List.filter_cons_of_neg (by simpa [abB] using k)]; rfl

@[reducible] noncomputable def S_law20_MatchLists : Spec := { ins := (.cons (.d (.sl tMat)) (.cons (.d (.sl tMat)) (.cons (.d tRec) (.cons (.d tRec) .nil)))), pre := fun _ => True, alts := [{ outs := (.cons (.d .bool) .nil), res := (fun x => (fun one two a b => (true, ())) x.1 x.2.1 x.2.2.1 x.2.2.2.1) }], noisy := true }
noncomputable def c_law20_MatchLists : Cf := { cf_law20_MatchLists (Fl [(fi_law20_head, S_law20_head), (fi_ref20_Few, S_ref20_Few), (fi_ref20_About, S_ref20_About), (fi_match_Weight, S_match_Weight)]) with nz := true }
set_option maxRecDepth 100000 in
set_option maxHeartbeats 4000000 in
theorem g_law20_MatchLists : ∀ x, S_law20_MatchLists.pre x → shOK S_law20_MatchLists.ins x → fnGoal c_law20_MatchLists fn_law20_MatchLists S_law20_MatchLists x := by
  rintro ⟨one, two, a, b, ⟨⟩⟩ hpre hok
  clear hpre
  have hln := shLn_of _ hok; replace hok := Hd.mk hok; try simp only [shLn, datLn, inRng, lo, hi, maxLen, true_and, and_true] at hln
  have hf : ¬ (¬ FewM one [a, b] 2 ∨ ¬ FewM two [] 0) → one.length ≤ 8 ∧ two.length ≤ 8 := fun hc => ⟨(Classical.not_not.1 (not_or.1 hc).1).fm, (Classical.not_not.1 (not_or.1 hc).2).fm⟩
  first | refine fn_goal (w_head ?_)
  intro K_ hK_; (conv => whnf); (try dsimp +instances only); refine hK_ _ ?_; clear hK_ K_; (conv => (arg 2; whnf))
  repeat' (first | with_reducible refine And.intro ?_ ?_ | ((try with_reducible refine gv_more ?_); first | ((with_reducible show K_ _); (try dsimp +instances only); (with_reducible refine hK_ _ ?_); clear hK_ K_) | with_reducible refine st ?_ | ((with_reducible first | refine w_region ?_ | refine w_head ?_); intro K_ hK_; conv => whnf) | ((with_reducible refine w_cond ?_); (conv => arg 2; whnf); with_reducible first | refine condK_p ?_ ?_ | refine st ?_ | refine condK_b ?_ ?_) | refine blockK_y (by rfl) ?_ | ((with_reducible first | refine loopK_at ?_ | refine retK_r ?_ | refine retK_n ?_); conv => whnf)) | ((with_reducible refine gv_more ?_); conv => whnf) | (intro hc; (try dsimp +instances only [Dat, SDat, dflt, Ty.size, keepS, bkUpd, Gv.bk, backS, wayA, maxI, minI, negI] at hc); (try simp only [LS] at hc)))
  all_goals (try ((fail_if_success with_reducible refine nl ?_); (try dsimp only [Dat, SDat, dflt, Ty.size, keepS, bkUpd, Gv.bk, backS, wayA, maxI, minI, negI]); (try simp only [LS]); first | done | exact trivial | rfl | omega | exact boolOf_eq _ | (simp only [allP, lo, hi, room, true_and, and_true, implies_true]; done) | ((try simp only [allP, lo, hi, room, true_and, and_true, implies_true]); (repeat' (first | with_reducible refine And.intro ?_ ?_ | ((with_reducible refine preA_t ?_ ?_); rotate_left; (focus (repeat (first | exact trivial | ((conv => whnf); refine And.intro (by rfl) ?_))))) | intro hv)) <;> (try omega))))
  all_goals (have hf := hf hc; have h1 := hf.1; have h2 := hf.2)
  all_goals (try ((fail_if_success with_reducible refine nl ?_); (simp only [Nat.reduceAdd, Nat.reduceMul]; omega)))
  have hal : (one ++ two).length = one.length + two.length := List.length_append
  refine w_loop [(13, .d tInt), (11, .row tMat), (12, .row tMat)] [] (fun y => ∃ k : Nat, y.1.1 = (k : Int) ∧ k ≤ (one ++ two).length ∧ @Eq (List Ma) y.1.2.1 ((one ++ two).reverse.take k) ∧ @Eq (List Ma) y.1.2.2.1 (((one ++ two).take k).filter (abB a b))) (fun y => (one ++ two).length - y.1.1.toNat) ?_
  conv => whnf
  refine And.intro ?_ ?_
  · exact ⟨0, rfl, Nat.zero_le _, rfl, rfl⟩
  rintro ⟨⟨_, ba, ab, ⟨⟩⟩, ⟨⟩⟩ ⟨k, rfl, hk, hba, hab⟩
  have hba : @Eq (List Ma) ba ((one ++ two).reverse.take k) := hba
  have hab : @Eq (List Ma) ab (((one ++ two).take k).filter (abB a b)) := hab
  have q1 := fun h => rev_step (l := one ++ two) (k := k) (d := (([], 0, 0, [], ()) : Ma)) h
  have q2 := fun h => fil_step (l := one ++ two) (k := k) (a := a) (b := b) h
  have hbl : List.length (ba : List Ma) ≤ 16 := by rw [hba, List.length_take, List.length_reverse]; omega
  have hbb : List.length (ab : List Ma) ≤ 16 := by
    rw [hab]
    exact Nat.le_trans (List.length_filter_le _ _) (by rw [List.length_take]; omega)
  have nA := fun (hk2 : k < (one ++ two).length) (h : AbM ((one ++ two).getD k (([], 0, 0, [], ()) : Ma)) a b) => show ∃ k_1 : Nat, (k : Int) + 1 = (k_1 : Int) ∧ k_1 ≤ one.length + two.length ∧ @Eq (List Ma) ((ba : List Ma) ++ [(one ++ two).getD (((one.length : Int) + (two.length : Int)) - 1 - (k : Int)).toNat (([], 0, 0, [], ()) : Ma)]) ((one ++ two).reverse.take k_1) ∧ @Eq (List Ma) ((ab : List Ma) ++ [(one ++ two).getD k (([], 0, 0, [], ()) : Ma)]) (((one ++ two).take k_1).filter (abB a b)) from
    ⟨k + 1, by omega, by omega, by rw [q1 hk2, hba, show (((one.length : Int) + (two.length : Int)) - 1 - (k : Int)).toNat = (one ++ two).length - 1 - k by omega], by rw [q2 hk2, if_pos h, hab]⟩
  have nB := fun (hk2 : k < (one ++ two).length) (h : ¬ AbM ((one ++ two).getD k (([], 0, 0, [], ()) : Ma)) a b) => show ∃ k_1 : Nat, (k : Int) + 1 = (k_1 : Int) ∧ k_1 ≤ one.length + two.length ∧ @Eq (List Ma) ((ba : List Ma) ++ [(one ++ two).getD (((one.length : Int) + (two.length : Int)) - 1 - (k : Int)).toNat (([], 0, 0, [], ()) : Ma)]) ((one ++ two).reverse.take k_1) ∧ @Eq (List Ma) (ab : List Ma) (((one ++ two).take k_1).filter (abB a b)) from
    ⟨k + 1, by omega, by omega, by rw [q1 hk2, hba, show (((one.length : Int) + (two.length : Int)) - 1 - (k : Int)).toNat = (one ++ two).length - 1 - k by omega], by rw [q2 hk2, if_neg h, hab, List.append_nil]⟩
  have b1 := wtS_bound (l := one) (a := a) (b := b)
  have b2 := wtS_bound (l := two) (a := a) (b := b)
  have w1 := wtS_app one two a b
  have w2 := fun (h : (one ++ two).length ≤ k) => show wtS (one ++ two) a b = wtS ba a b by rw [hba, List.take_of_length_le (by rw [List.length_reverse]; exact h), wtS_rev]
  have w3 := fun (h : (one ++ two).length ≤ k) => show wtS (one ++ two) a b = wtS ab a b by rw [hab, List.take_of_length_le h, wtS_fil]
  repeat' (first | with_reducible refine And.intro ?_ ?_ | ((try with_reducible refine gv_more ?_); first | ((with_reducible show K_ _); (try dsimp +instances only); (with_reducible refine hK_ _ ?_); clear hK_ K_) | with_reducible refine st ?_ | ((with_reducible first | refine w_region ?_ | refine w_head ?_); intro K_ hK_; conv => whnf) | ((with_reducible refine w_cond ?_); (conv => arg 2; whnf); with_reducible first | refine condK_p ?_ ?_ | refine st ?_ | refine condK_b ?_ ?_) | refine blockK_y (by rfl) ?_ | ((with_reducible first | refine loopK_at ?_ | refine retK_r ?_ | refine retK_n ?_); conv => whnf)) | ((with_reducible refine gv_more ?_); conv => whnf) | (intro hc; (try dsimp +instances only [Dat, SDat, dflt, Ty.size, keepS, bkUpd, Gv.bk, backS, wayA, maxI, minI, negI] at hc); (try simp only [LS] at hc)))
  all_goals (try ((fail_if_success with_reducible refine nl ?_); (try dsimp only [Dat, SDat, dflt, Ty.size, keepS, bkUpd, Gv.bk, backS, wayA, maxI, minI, negI]); (try simp only [LS]); first | done | exact trivial | rfl | omega | exact boolOf_eq _ | (simp only [allP, lo, hi, room, true_and, and_true, implies_true]; done) | ((try simp only [allP, lo, hi, room, true_and, and_true, implies_true]); (repeat' (first | with_reducible refine And.intro ?_ ?_ | ((with_reducible refine preA_t ?_ ?_); rotate_left; (focus (repeat (first | exact trivial | ((conv => whnf); refine And.intro (by rfl) ?_))))) | intro hv)) <;> (try omega))))
  all_goals (first
    | exact nA (by omega) hc
    | exact nB (by omega) hc
    | omega
    | exact w3 (by omega)
    | exact hc ⟨w1, w2 (by omega)⟩
    | exact hc w1
    | skip)
set_option maxRecDepth 100000 in
theorem ok_law20_MatchLists : SpecOK SP glob fi_law20_MatchLists S_law20_MatchLists := mk_ok (c := c_law20_MatchLists) (tab_ok _) mix_ok wf_law20_MatchLists (by decide) (.cons ok_law20_head (.cons ok_ref20_Few (.cons ok_ref20_About (.cons ok_match_Weight .nil)))) (fun x hx => Nat.zero_lt_one) g_law20_MatchLists
end Go.Gv
