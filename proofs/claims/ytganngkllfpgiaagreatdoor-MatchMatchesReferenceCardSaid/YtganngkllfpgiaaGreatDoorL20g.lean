/- Chapter 20: the reference; all functions agree. -/
import Derived.Test.YtganngkllfpgiaaGreatDoorL20
import Derived.Test.YtganngkllfpgiaaGreatDoorR04f
import Derived.Test.YtganngkllfpgiaaGreatDoorP20r
set_option linter.all false
namespace Go.Gv
open Go Go.Proofs Go.Proofs.YtganngkllfpgiaaGreatDoor
set_option maxRecDepth 100000
set_option maxHeartbeats 4000000


@[reducible] noncomputable def S_ref01_Cmp : Spec := { ins := (.cons (.d tRt) (.cons (.d tRt) .nil)), pre := fun _ => True, alts := [{ outs := (.cons (.d tInt) .nil), res := (fun x => (fun a b => (cmpR a b, ())) x.1 x.2.1) }] }
noncomputable def c_ref01_Cmp : Cf := (cf_ref01_Cmp (Fl [(fi_ref01_Valid, S_ref01_Valid)]))
theorem g_ref01_Cmp : ∀ x, S_ref01_Cmp.pre x → shOK S_ref01_Cmp.ins x → fnGoal c_ref01_Cmp fn_ref01_Cmp S_ref01_Cmp x := by
  rintro ⟨⟨(n : Int), (d : Int), ⟨⟩⟩, ⟨(n' : Int), (d' : Int), ⟨⟩⟩, ⟨⟩⟩ hpre hok
  clear hpre
  have hln := shLn_of _ hok; replace hok := Hd.mk hok; try simp only [shLn, datLn, inRng, lo, hi, maxLen, true_and, and_true] at hln
  have hv1 := valid_cases n d
  have hv2 := valid_cases n' d'
  have hc1 : ∀ {x y : Rt}, (¬ validR x ∨ ¬ validR y) → cmpR x y = 0 := fun {x y} h => by unfold cmpR; rw [if_neg fun k => h.elim (fun a => a k.1) (fun a => a k.2)]
  have hc2 : ¬ (¬ validR (n, d, ()) ∨ ¬ validR (n', d', ())) → cmpR (n, d, ()) (n', d', ()) = (if n * d' < n' * d then -1 else if n' * d < n * d' then 1 else 0) := fun h => by
    unfold cmpR
    rw [if_pos ⟨Classical.not_not.1 (not_or.1 h).1, Classical.not_not.1 (not_or.1 h).2⟩]
    dsimp only
    generalize n * d' = u
    generalize n' * d = v
    split <;> split <;> first | omega | (split <;> first | omega | (split <;> omega)) | rfl
  have hbd : ¬ (¬ validR (n, d, ()) ∨ ¬ validR (n', d', ())) → (-1000000000000000000 ≤ n * d' ∧ n * d' ≤ 1000000000000000000) ∧ -1000000000000000000 ≤ n' * d ∧ n' * d ≤ 1000000000000000000 := fun h => by
    have k1 := hv1.1 (Classical.not_not.1 (not_or.1 h).1)
    have k2 := hv2.1 (Classical.not_not.1 (not_or.1 h).2)
    exact ⟨mul_abs ⟨k1.2.2.1, k1.2.2.2.1⟩ ⟨k2.1, k2.2.1⟩, mul_abs ⟨k2.2.2.1, k2.2.2.2.1⟩ ⟨k1.1, k1.2.1⟩⟩
  first | refine fn_goal (w_head ?_)
  intro K_ hK_; (conv => whnf); (try dsimp +instances only); refine hK_ _ ?_; clear hK_ K_; (conv => (arg 2; whnf))
  repeat' (first | with_reducible refine And.intro ?_ ?_ | ((try with_reducible refine gv_more ?_); first | ((with_reducible show K_ _); (try dsimp +instances only); (with_reducible refine hK_ _ ?_); clear hK_ K_) | with_reducible refine st ?_ | ((with_reducible refine sr ?_); intro K_ hK_; conv => whnf) | ((with_reducible refine w_cond ?_); (conv => arg 2; whnf); with_reducible refine st ?_) | refine blockK_y (by rfl) ?_ | ((with_reducible refine sw ?_); conv => whnf)) | ((with_reducible refine gv_more ?_); conv => whnf) | (intro hc; (try dsimp +instances only [Dat, SDat, dflt, Ty.size, keepS, bkUpd, Gv.bk, backS, wayA, maxI, minI, negI] at hc); (try simp only [LS] at hc)))
  all_goals (try ((fail_if_success with_reducible refine nl ?_); (try dsimp only [Dat, SDat, dflt, Ty.size, keepS, bkUpd, Gv.bk, backS, wayA, maxI, minI, negI]); (try simp only [LS]); first | done | exact dsc | ((try simp only [allP, lo, hi, room, true_and, and_true, implies_true]); (repeat' (first | with_reducible refine And.intro ?_ ?_ | ((with_reducible refine preA_t ?_ ?_); rotate_left; exact sameP_t) | intro hv)) <;> (try omega))))
  all_goals (first
    | exact (hc1 hc).symm
    | (have hb := hbd hc; omega)
    | (have hb := hbd (by assumption); omega)
    | (rw [hc2 (by assumption), if_pos hc]; done)
    | (rw [hc2 (by assumption), if_neg (by assumption), if_pos hc]; done)
    | (rw [hc2 (by assumption), if_neg (by assumption), if_neg hc]; done)
    | skip)
theorem ok_ref01_Cmp : SpecOK SP glob fi_ref01_Cmp S_ref01_Cmp := mk_ok (c := c_ref01_Cmp) (tab_ok _) mix_ok wf_ref01_Cmp (by decide) (.cons ok_ref01_Valid .nil) (fun x hx => Nat.zero_lt_one) g_ref01_Cmp

@[reducible] noncomputable def S_ref20_Holds : Spec := { ins := (.cons (.d tWgh) (.cons (.d tRec) (.cons (.d tRec) .nil))), pre := fun _ => True, alts := [{ outs := (.cons (.d .bool) .nil), res := (fun x => (fun t a b => (boolOf (HoW t a b), ())) x.1 x.2.1 x.2.2.1) }] }
noncomputable def c_ref20_Holds : Cf := (cf_ref20_Holds (Fl [(fi_ref04_Of, S_ref04_Of), (fi_ref01_Cmp, S_ref01_Cmp)]))
theorem g_ref20_Holds : ∀ x, S_ref20_Holds.pre x → shOK S_ref20_Holds.ins x → fnGoal c_ref20_Holds fn_ref20_Holds S_ref20_Holds x := by
  rintro ⟨t, a, b, ⟨⟩⟩ hpre hok
  clear hpre
  have hln := shLn_of _ hok; replace hok := Hd.mk hok; try simp only [shLn, datLn, inRng, lo, hi, maxLen, true_and, and_true] at hln
  first | refine fn_goal (w_head ?_)
  intro K_ hK_; (conv => whnf); (try dsimp +instances only); refine hK_ _ ?_; clear hK_ K_; (conv => (arg 2; whnf))
  repeat' (first | with_reducible refine And.intro ?_ ?_ | ((try with_reducible refine gv_more ?_); first | ((with_reducible show K_ _); (try dsimp +instances only); (with_reducible refine hK_ _ ?_); clear hK_ K_) | with_reducible refine st ?_ | ((with_reducible refine sr ?_); intro K_ hK_; conv => whnf) | ((with_reducible refine w_cond ?_); (conv => arg 2; whnf); with_reducible refine st ?_) | refine blockK_y (by rfl) ?_ | ((with_reducible refine sw ?_); conv => whnf)) | ((with_reducible refine gv_more ?_); conv => whnf) | (intro hc; (try dsimp +instances only [Dat, SDat, dflt, Ty.size, keepS, bkUpd, Gv.bk, backS, wayA, maxI, minI, negI] at hc); (try simp only [LS] at hc)))
  all_goals (try ((fail_if_success with_reducible refine nl ?_); (try dsimp only [Dat, SDat, dflt, Ty.size, keepS, bkUpd, Gv.bk, backS, wayA, maxI, minI, negI]); (try simp only [LS]); first | done | exact dsc | ((try simp only [allP, lo, hi, room, true_and, and_true, implies_true]); (repeat' (first | with_reducible refine And.intro ?_ ?_ | ((with_reducible refine preA_t ?_ ?_); rotate_left; exact sameP_t) | intro hv)) <;> (try omega))))
  · exact bF fun h => by
      have h1 := h.lo
      have h2 := h.ha
      have h3 := h.hb
      omega
  · exact bC ⟨fun h => ⟨by omega, by omega, by omega, h.1, h.2⟩, fun h => ⟨h.ok, h.ge⟩⟩
theorem ok_ref20_Holds : SpecOK SP glob fi_ref20_Holds S_ref20_Holds := mk_ok (c := c_ref20_Holds) (tab_ok _) mix_ok wf_ref20_Holds (by decide) (.cons ok_ref04_Of (.cons ok_ref01_Cmp .nil)) (fun x hx => Nat.zero_lt_one) g_ref20_Holds

@[reducible] noncomputable def S_ref20_Score : Spec := { ins := (.cons (.d tMat) (.cons (.d tRec) (.cons (.d tRec) .nil))), pre := fun _ => True, alts := [{ outs := (.cons (.d tInt) (.cons (.d (.sl .bool)) .nil)), res := (fun x => (fun m a b => (scS m a b, scL m a b, ())) x.1 x.2.1 x.2.2.1) }] }
noncomputable def c_ref20_Score : Cf := (cf_ref20_Score (Fl [(fi_ref20_About, S_ref20_About), (fi_ref20_Holds, S_ref20_Holds)]))
theorem g_ref20_Score : ∀ x, S_ref20_Score.pre x → shOK S_ref20_Score.ins x → fnGoal c_ref20_Score fn_ref20_Score S_ref20_Score x := by
  rintro ⟨m, a, b, ⟨⟩⟩ hpre hok
  clear hpre
  have hln := shLn_of _ hok; replace hok := Hd.mk hok; try simp only [shLn, datLn, inRng, lo, hi, maxLen, true_and, and_true] at hln
  first | refine fn_goal (w_head ?_)
  intro K_ hK_; (conv => whnf); (try dsimp +instances only); refine hK_ _ ?_; clear hK_ K_; (conv => (arg 2; whnf))
  repeat' (first | with_reducible refine And.intro ?_ ?_ | ((try with_reducible refine gv_more ?_); first | ((with_reducible show K_ _); (try dsimp +instances only); (with_reducible refine hK_ _ ?_); clear hK_ K_) | with_reducible refine st ?_ | ((with_reducible refine sr ?_); intro K_ hK_; conv => whnf) | ((with_reducible refine w_cond ?_); (conv => arg 2; whnf); with_reducible refine st ?_) | refine blockK_y (by rfl) ?_ | ((with_reducible refine sw ?_); conv => whnf)) | ((with_reducible refine gv_more ?_); conv => whnf) | (intro hc; (try dsimp +instances only [Dat, SDat, dflt, Ty.size, keepS, bkUpd, Gv.bk, backS, wayA, maxI, minI, negI] at hc); (try simp only [LS] at hc)))
  all_goals (try ((fail_if_success with_reducible refine nl ?_); (try dsimp only [Dat, SDat, dflt, Ty.size, keepS, bkUpd, Gv.bk, backS, wayA, maxI, minI, negI]); (try simp only [LS]); first | done | exact dsc | ((try simp only [allP, lo, hi, room, true_and, and_true, implies_true]); (repeat' (first | with_reducible refine And.intro ?_ ?_ | ((with_reducible refine preA_t ?_ ?_); rotate_left; exact sameP_t) | intro hv)) <;> (try omega))))
  · unfold scS; rw [if_neg hc]
  · unfold scL; rw [if_neg hc]
  refine w_loop [(8, .d tInt), (9, .row .bool), (10, .d tInt)] [] (fun y => ∃ k : Nat, y.1.2.2.1 = (k : Int) ∧ k ≤ m.2.2.2.1.length ∧ y.1.1 = coS a b (m.2.2.2.1.take k) ∧ (y.1.2.1 : List Bool) = coL a b (m.2.2.2.1.take k)) (fun y => m.2.2.2.1.length - y.1.2.2.1.toNat) ?_
  conv => whnf
  refine And.intro ?_ ?_
  · exact ⟨0, rfl, Nat.zero_le _, rfl, rfl⟩
  rintro ⟨⟨(su : Int), row, _, ⟨⟩⟩, ⟨⟩⟩ ⟨k, rfl, hk, hs, hr⟩
  have hs : su = coS a b (m.2.2.2.1.take k) := hs
  have hr : (row : List Bool) = coL a b (m.2.2.2.1.take k) := hr
  have b1 := coS_bound (a := a) (b := b) (l := m.2.2.2.1.take k) fun t ht => hc.ok.all t (List.mem_of_mem_take ht)
  have b3 := hc.ok.few
  rw [List.length_take, ← hs] at b1
  have hrl : List.length (row : List Bool) ≤ 200 := by
    rw [hr]
    unfold coL
    rw [List.length_map, List.length_take]
    omega
  have hw := fun (h : k < m.2.2.2.1.length) => hc.ok.all _ (getD_mem (d := ((0, 0, 0, (0, 0, ()), 0, 0, ()) : Wg)) h)
  have q1 := fun (h : k < m.2.2.2.1.length) => coS_snoc (a := a) (b := b) (d := ((0, 0, 0, (0, 0, ()), 0, 0, ()) : Wg)) h
  have q2 := fun (h : k < m.2.2.2.1.length) => coL_snoc (a := a) (b := b) (d := ((0, 0, 0, (0, 0, ()), 0, 0, ()) : Wg)) h
  have c1 := fun (h : k < m.2.2.2.1.length) => (hw h).giv
  have c2 := fun (h : k < m.2.2.2.1.length) => (hw h).tak
  have n1 := fun (h : k < m.2.2.2.1.length) (hh : HoW (m.2.2.2.1.getD k ((0, 0, 0, (0, 0, ()), 0, 0, ()) : Wg)) a b) => show ∃ k_1 : Nat, (k : Int) + 1 = (k_1 : Int) ∧ k_1 ≤ m.2.2.2.1.length ∧ su + (m.2.2.2.1.getD k ((0, 0, 0, (0, 0, ()), 0, 0, ()) : Wg)).2.2.2.2.1 = coS a b (m.2.2.2.1.take k_1) ∧ (row ++ [boolOf (HoW (m.2.2.2.1.getD k ((0, 0, 0, (0, 0, ()), 0, 0, ()) : Wg)) a b)] : List Bool) = coL a b (m.2.2.2.1.take k_1) from
    ⟨k + 1, by omega, by omega, by rw [q1 h, ← hs, co_pos hh], by rw [q2 h, ← hr, co_pos hh, boolOf_eq]⟩
  have n2 := fun (h : k < m.2.2.2.1.length) (hh : ¬ HoW (m.2.2.2.1.getD k ((0, 0, 0, (0, 0, ()), 0, 0, ()) : Wg)) a b) => show ∃ k_1 : Nat, (k : Int) + 1 = (k_1 : Int) ∧ k_1 ≤ m.2.2.2.1.length ∧ su - (m.2.2.2.1.getD k ((0, 0, 0, (0, 0, ()), 0, 0, ()) : Wg)).2.2.2.2.2.1 = coS a b (m.2.2.2.1.take k_1) ∧ (row ++ [boolOf (HoW (m.2.2.2.1.getD k ((0, 0, 0, (0, 0, ()), 0, 0, ()) : Wg)) a b)] : List Bool) = coL a b (m.2.2.2.1.take k_1) from
    ⟨k + 1, by omega, by omega, by rw [q1 h, ← hs, co_neg hh, Int.sub_eq_add_neg], by rw [q2 h, ← hr, co_neg hh, boolOf_eq]⟩
  have hA := hc
  repeat' (first | with_reducible refine And.intro ?_ ?_ | ((try with_reducible refine gv_more ?_); first | ((with_reducible show K_ _); (try dsimp +instances only); (with_reducible refine hK_ _ ?_); clear hK_ K_) | with_reducible refine st ?_ | ((with_reducible refine sr ?_); intro K_ hK_; conv => whnf) | ((with_reducible refine w_cond ?_); (conv => arg 2; whnf); with_reducible refine st ?_) | refine blockK_y (by rfl) ?_ | ((with_reducible refine sw ?_); conv => whnf)) | ((with_reducible refine gv_more ?_); conv => whnf) | (intro hc; (try dsimp +instances only [Dat, SDat, dflt, Ty.size, keepS, bkUpd, Gv.bk, backS, wayA, maxI, minI, negI] at hc); (try simp only [LS] at hc)))
  all_goals (try ((fail_if_success with_reducible refine nl ?_); (try dsimp only [Dat, SDat, dflt, Ty.size, keepS, bkUpd, Gv.bk, backS, wayA, maxI, minI, negI]); (try simp only [LS]); first | done | exact dsc | ((try simp only [allP, lo, hi, room, true_and, and_true, implies_true]); (repeat' (first | with_reducible refine And.intro ?_ ?_ | ((with_reducible refine preA_t ?_ ?_); rotate_left; exact sameP_t) | intro hv)) <;> (try omega))))
  all_goals (first
    | exact n1 (by omega) hc
    | exact n2 (by omega) hc
    | (have := c1 (by omega); omega)
    | (have := c2 (by omega); omega)
    | (unfold scS; rw [if_pos hA, hs, List.take_of_length_le (by omega)]; done)
    | (unfold scL; rw [if_pos hA, hr, List.take_of_length_le (by omega)]; done)
    | skip)
theorem ok_ref20_Score : SpecOK SP glob fi_ref20_Score S_ref20_Score := mk_ok (c := c_ref20_Score) (tab_ok _) mix_ok wf_ref20_Score (by decide) (.cons ok_ref20_About (.cons ok_ref20_Holds .nil)) (fun x hx => Nat.zero_lt_one) g_ref20_Score

@[reducible] noncomputable def S_ref20_Weight : Spec := { ins := (.cons (.d (.sl tMat)) (.cons (.d tRec) (.cons (.d tRec) .nil))), pre := (fun x => (fun l a b => l.length ≤ 1000000) x.1 x.2.1 x.2.2.1), alts := [{ outs := (.cons (.d tInt) .nil), res := (fun x => (fun l a b => (wtS l a b, ())) x.1 x.2.1 x.2.2.1) }] }
noncomputable def c_ref20_Weight : Cf := (cf_ref20_Weight (Fl [(fi_ref20_About, S_ref20_About), (fi_ref20_Score, S_ref20_Score)]))
theorem g_ref20_Weight : ∀ x, S_ref20_Weight.pre x → shOK S_ref20_Weight.ins x → fnGoal c_ref20_Weight fn_ref20_Weight S_ref20_Weight x := by
  rintro ⟨l, a, b, ⟨⟩⟩ hpre hok
  try dsimp only [Dat, SDat, dflt, Ty.size, keepS, bkUpd, Gv.bk, backS, wayA, maxI, minI, negI] at hpre
  have hln := shLn_of _ hok; replace hok := Hd.mk hok; try simp only [shLn, datLn, inRng, lo, hi, maxLen, true_and, and_true] at hln
  first | refine fn_goal (w_head ?_)
  intro K_ hK_; (conv => whnf); (try dsimp +instances only); refine hK_ _ ?_; clear hK_ K_; (conv => (arg 2; whnf))
  repeat' (first | with_reducible refine And.intro ?_ ?_ | ((try with_reducible refine gv_more ?_); first | ((with_reducible show K_ _); (try dsimp +instances only); (with_reducible refine hK_ _ ?_); clear hK_ K_) | with_reducible refine st ?_ | ((with_reducible refine sr ?_); intro K_ hK_; conv => whnf) | ((with_reducible refine w_cond ?_); (conv => arg 2; whnf); with_reducible refine st ?_) | refine blockK_y (by rfl) ?_ | ((with_reducible refine sw ?_); conv => whnf)) | ((with_reducible refine gv_more ?_); conv => whnf) | (intro hc; (try dsimp +instances only [Dat, SDat, dflt, Ty.size, keepS, bkUpd, Gv.bk, backS, wayA, maxI, minI, negI] at hc); (try simp only [LS] at hc)))
  all_goals (try ((fail_if_success with_reducible refine nl ?_); (try dsimp only [Dat, SDat, dflt, Ty.size, keepS, bkUpd, Gv.bk, backS, wayA, maxI, minI, negI]); (try simp only [LS]); first | done | exact dsc | ((try simp only [allP, lo, hi, room, true_and, and_true, implies_true]); (repeat' (first | with_reducible refine And.intro ?_ ?_ | ((with_reducible refine preA_t ?_ ?_); rotate_left; exact sameP_t) | intro hv)) <;> (try omega))))
  refine w_loop [(7, .d tInt), (8, .d tInt)] [] (fun y => ∃ k : Nat, y.1.2.1 = (k : Int) ∧ k ≤ l.length ∧ y.1.1 = wtS (l.take k) a b) (fun y => l.length - y.1.2.1.toNat) ?_
  conv => whnf
  refine And.intro ?_ ?_
  · exact ⟨0, rfl, Nat.zero_le _, rfl⟩
  rintro ⟨⟨(s : Int), _, ⟨⟩⟩, ⟨⟩⟩ ⟨k, rfl, hk, hs⟩
  have hs : s = wtS (l.take k) a b := hs
  have b1 := wtS_bound (a := a) (b := b) (l := l.take k)
  rw [List.length_take, ← hs] at b1
  have b2 := scS_bound (m := l.getD k (([], 0, 0, [], ()) : Ma)) (a := a) (b := b)
  have b3 := fun (h : AbM (l.getD k (([], 0, 0, [], ()) : Ma)) a b) => h.ok.at_
  have hst := fun h => wtS_snoc (a := a) (b := b) (l := l) (k := k) (d := (([], 0, 0, [], ()) : Ma)) h
  have hw1 := fun (h : AbM (l.getD k (([], 0, 0, [], ()) : Ma)) a b) => show wtM a b (l.getD k (([], 0, 0, [], ()) : Ma)) = scS (l.getD k (([], 0, 0, [], ()) : Ma)) a b - (l.getD k (([], 0, 0, [], ()) : Ma)).2.2.1 by unfold wtM; rw [if_pos h]
  have hw0 := fun (h : ¬ AbM (l.getD k (([], 0, 0, [], ()) : Ma)) a b) => show wtM a b (l.getD k (([], 0, 0, [], ()) : Ma)) = 0 by unfold wtM; rw [if_neg h]
  have f1 := fun (h : AbM (l.getD k (([], 0, 0, [], ()) : Ma)) a b) => show (-9223372036854775808 ≤ scS (l.getD k (([], 0, 0, [], ()) : Ma)) a b - (l.getD k (([], 0, 0, [], ()) : Ma)).2.2.1 ∧ scS (l.getD k (([], 0, 0, [], ()) : Ma)) a b - (l.getD k (([], 0, 0, [], ()) : Ma)).2.2.1 ≤ 9223372036854775807) ∧ -9223372036854775808 ≤ s + (scS (l.getD k (([], 0, 0, [], ()) : Ma)) a b - (l.getD k (([], 0, 0, [], ()) : Ma)).2.2.1) ∧ s + (scS (l.getD k (([], 0, 0, [], ()) : Ma)) a b - (l.getD k (([], 0, 0, [], ()) : Ma)).2.2.1) ≤ 9223372036854775807 by
    have := b3 h
    omega
  have f2 := fun (hk2 : k < l.length) (h : AbM (l.getD k (([], 0, 0, [], ()) : Ma)) a b) => show ∃ k_1 : Nat, (k : Int) + 1 = (k_1 : Int) ∧ k_1 ≤ l.length ∧ s + (scS (l.getD k (([], 0, 0, [], ()) : Ma)) a b - (l.getD k (([], 0, 0, [], ()) : Ma)).2.2.1) = wtS (l.take k_1) a b from ⟨k + 1, by omega, by omega, by rw [hst hk2, hw1 h, hs]⟩
  repeat' (first | with_reducible refine And.intro ?_ ?_ | ((try with_reducible refine gv_more ?_); first | ((with_reducible show K_ _); (try dsimp +instances only); (with_reducible refine hK_ _ ?_); clear hK_ K_) | with_reducible refine st ?_ | ((with_reducible refine sr ?_); intro K_ hK_; conv => whnf) | ((with_reducible refine w_cond ?_); (conv => arg 2; whnf); with_reducible refine st ?_) | refine blockK_y (by rfl) ?_ | ((with_reducible refine sw ?_); conv => whnf)) | ((with_reducible refine gv_more ?_); conv => whnf) | (intro hc; (try dsimp +instances only [Dat, SDat, dflt, Ty.size, keepS, bkUpd, Gv.bk, backS, wayA, maxI, minI, negI] at hc); (try simp only [LS] at hc)))
  all_goals (try ((fail_if_success with_reducible refine nl ?_); (try dsimp only [Dat, SDat, dflt, Ty.size, keepS, bkUpd, Gv.bk, backS, wayA, maxI, minI, negI]); (try simp only [LS]); first | done | exact dsc | ((try simp only [allP, lo, hi, room, true_and, and_true, implies_true]); (repeat' (first | with_reducible refine And.intro ?_ ?_ | ((with_reducible refine preA_t ?_ ?_); rotate_left; exact sameP_t) | intro hv)) <;> (try omega))))
  all_goals (first
    | exact (f1 hc).1.1
    | exact (f1 hc).1.2
    | exact (f1 hc).2.1
    | exact (f1 hc).2.2
    | exact f2 (by omega) hc
    | exact ⟨k + 1, by omega, by omega, by rw [hst (by omega), hw0 hc, hs, Int.add_zero]⟩
    | (rw [hs, List.take_of_length_le (by omega)]; done)
    | skip)
theorem ok_ref20_Weight : SpecOK SP glob fi_ref20_Weight S_ref20_Weight := mk_ok (c := c_ref20_Weight) (tab_ok _) mix_ok wf_ref20_Weight (by decide) (.cons ok_ref20_About (.cons ok_ref20_Score .nil)) (fun x hx => Nat.zero_lt_one) g_ref20_Weight

@[reducible] noncomputable def S_ref20_less : Spec := { ins := (.cons (.d tPr) (.cons (.d tPr) .nil)), pre := fun _ => True, alts := [{ outs := (.cons (.d .bool) .nil), res := (fun x => (fun a b => (decide (ltR a b), ())) x.1 x.2.1) }] }
noncomputable def c_ref20_less : Cf := (cf_ref20_less (Fl []))
theorem g_ref20_less : ∀ x, S_ref20_less.pre x → shOK S_ref20_less.ins x → fnGoal c_ref20_less fn_ref20_less S_ref20_less x := by
  rintro ⟨a, b, ⟨⟩⟩ hpre hok
  clear hpre
  have hln := shLn_of _ hok; replace hok := Hd.mk hok; try simp only [shLn, datLn, inRng, lo, hi, maxLen, true_and, and_true] at hln
  first | refine fn_goal (w_head ?_)
  intro K_ hK_; (conv => whnf); (try dsimp +instances only); refine hK_ _ ?_; clear hK_ K_; (conv => (arg 2; whnf))
  repeat' (first | with_reducible refine And.intro ?_ ?_ | ((try with_reducible refine gv_more ?_); first | ((with_reducible show K_ _); (try dsimp +instances only); (with_reducible refine hK_ _ ?_); clear hK_ K_) | with_reducible refine st ?_ | ((with_reducible refine sr ?_); intro K_ hK_; conv => whnf) | ((with_reducible refine w_cond ?_); (conv => arg 2; whnf); with_reducible refine st ?_) | refine blockK_y (by rfl) ?_ | ((with_reducible refine sw ?_); conv => whnf)) | ((with_reducible refine gv_more ?_); conv => whnf) | (intro hc; (try dsimp +instances only [Dat, SDat, dflt, Ty.size, keepS, bkUpd, Gv.bk, backS, wayA, maxI, minI, negI] at hc); (try simp only [LS] at hc)))
  all_goals (try ((fail_if_success with_reducible refine nl ?_); (try dsimp only [Dat, SDat, dflt, Ty.size, keepS, bkUpd, Gv.bk, backS, wayA, maxI, minI, negI]); (try simp only [LS]); first | done | exact dsc | ((try simp only [allP, lo, hi, room, true_and, and_true, implies_true]); (repeat' (first | with_reducible refine And.intro ?_ ?_ | ((with_reducible refine preA_t ?_ ?_); rotate_left; exact sameP_t) | intro hv)) <;> (try omega))))
  all_goals (first | (rw [boolOf_eq]; rfl) | skip)
theorem ok_ref20_less : SpecOK SP glob fi_ref20_less S_ref20_less := mk_ok (c := c_ref20_less) (tab_ok _) mix_ok wf_ref20_less (by decide) .nil (fun x hx => Nat.zero_lt_one) g_ref20_less

@[reducible] noncomputable def S_ref20_both : Spec := { ins := (.cons (.d (.sl tPr)) (.cons (.d (.sl tPr)) .nil)), pre := (fun x => (fun a b => (incR a ∧ incR b) ∧ (twoR a ∧ twoR b) ∧ a.length + b.length ≤ 1000000) x.1 x.2.1), alts := [{ outs := (.cons (.d (.sl tPr)) .nil), res := (fun x => (fun a b => (srR (a ++ b), ())) x.1 x.2.1) }] }
noncomputable def c_ref20_both : Cf := (cf_ref20_both (Fl [(fi_ref20_less, S_ref20_less)]))
theorem g_ref20_both : ∀ x, S_ref20_both.pre x → shOK S_ref20_both.ins x → fnGoal c_ref20_both fn_ref20_both S_ref20_both x := by
  rintro ⟨a, b, ⟨⟩⟩ hpre hok
  try dsimp only [Dat, SDat, dflt, Ty.size, keepS, bkUpd, Gv.bk, backS, wayA, maxI, minI, negI] at hpre
  have hln := shLn_of _ hok; replace hok := Hd.mk hok; try simp only [shLn, datLn, inRng, lo, hi, maxLen, true_and, and_true] at hln
  obtain ⟨⟨ha, hb⟩, ⟨ta, tb⟩, hl⟩ := hpre
  first | refine fn_goal (w_head ?_)
  intro K_ hK_; (conv => whnf); (try dsimp +instances only); refine hK_ _ ?_; clear hK_ K_; (conv => (arg 2; whnf))
  repeat' (first | with_reducible refine And.intro ?_ ?_ | ((try with_reducible refine gv_more ?_); first | ((with_reducible show K_ _); (try dsimp +instances only); (with_reducible refine hK_ _ ?_); clear hK_ K_) | with_reducible refine st ?_ | ((with_reducible refine sr ?_); intro K_ hK_; conv => whnf) | ((with_reducible refine w_cond ?_); (conv => arg 2; whnf); with_reducible refine st ?_) | refine blockK_y (by rfl) ?_ | ((with_reducible refine sw ?_); conv => whnf)) | ((with_reducible refine gv_more ?_); conv => whnf) | (intro hc; (try dsimp +instances only [Dat, SDat, dflt, Ty.size, keepS, bkUpd, Gv.bk, backS, wayA, maxI, minI, negI] at hc); (try simp only [LS] at hc)))
  all_goals (try ((fail_if_success with_reducible refine nl ?_); (try dsimp only [Dat, SDat, dflt, Ty.size, keepS, bkUpd, Gv.bk, backS, wayA, maxI, minI, negI]); (try simp only [LS]); first | done | exact dsc | ((try simp only [allP, lo, hi, room, true_and, and_true, implies_true]); (repeat' (first | with_reducible refine And.intro ?_ ?_ | ((with_reducible refine preA_t ?_ ?_); rotate_left; exact sameP_t) | intro hv)) <;> (try omega))))
  refine w_loop [(0, .d (.sl tPr)), (1, .d (.sl tPr)), (5, .row tPr)] [] (fun y => BInv a b y.1.1 y.1.2.1 y.1.2.2.1) (fun y => List.length y.1.1 + List.length y.1.2.1) ?_
  conv => whnf
  refine And.intro ?_ ?_
  · exact BInv.start ha hb ta tb
  rintro ⟨⟨a', b', o, ⟨⟩⟩, ⟨⟩⟩ hB
  have hB : BInv a b a' b' o := hB
  have hl2 := hB.len
  have ea : List.take (List.length a') a' = a' := List.take_length
  have eb : List.take (List.length b') b' = b' := List.take_length
  repeat' (first | with_reducible refine And.intro ?_ ?_ | ((try with_reducible refine gv_more ?_); first | ((with_reducible show K_ _); (try dsimp +instances only); (with_reducible refine hK_ _ ?_); clear hK_ K_) | with_reducible refine st ?_ | ((with_reducible refine sr ?_); intro K_ hK_; conv => whnf) | ((with_reducible refine w_cond ?_); (conv => arg 2; whnf); with_reducible refine st ?_) | refine blockK_y (by rfl) ?_ | ((with_reducible refine sw ?_); conv => whnf)) | ((with_reducible refine gv_more ?_); conv => whnf) | (intro hc; (try dsimp +instances only [Dat, SDat, dflt, Ty.size, keepS, bkUpd, Gv.bk, backS, wayA, maxI, minI, negI] at hc); (try simp only [LS] at hc)))
  all_goals (try ((fail_if_success with_reducible refine nl ?_); (try dsimp only [Dat, SDat, dflt, Ty.size, keepS, bkUpd, Gv.bk, backS, wayA, maxI, minI, negI]); (try simp only [LS]); first | done | exact dsc | ((try simp only [allP, lo, hi, room, true_and, and_true, implies_true]); (repeat' (first | with_reducible refine And.intro ?_ ?_ | ((with_reducible refine preA_t ?_ ?_); rotate_left; exact sameP_t) | intro hv)) <;> (try omega))))
  all_goals (try rw [ea])
  all_goals (try rw [eb])
  all_goals (first
    | exact hB.same (by omega) (by omega) (fun h => hc.2 h) (by rename_i h5; exact (h5.resolve_left (by omega)).2)
    | (rw [List.length_drop, List.length_drop]; omega)
    | (rw [List.length_drop]; omega)
    | skip)
  · refine hB.left (by omega) fun h0 => Classical.byContradiction fun h9 => hc ⟨by omega, h9⟩
  · refine hB.right (by omega) fun h0 => Classical.byContradiction fun h9 => hc (.inr ⟨by omega, h9⟩)
  · have e1 : a' = [] := List.length_eq_zero_iff.1 (by omega)
    have e2 : b' = [] := List.length_eq_zero_iff.1 (by omega)
    subst e1; subst e2
    exact hB.done ta tb
theorem ok_ref20_both : SpecOK SP glob fi_ref20_both S_ref20_both := mk_ok (c := c_ref20_both) (tab_ok _) mix_ok wf_ref20_both (by decide) (.cons ok_ref20_less .nil) (fun x hx => Nat.zero_lt_one) g_ref20_both

theorem half_len {n : Nat} : (Int.tdiv (n : Int) 2) = ((n / 2 : Nat) : Int) := by rw [Int.tdiv_eq_ediv_of_nonneg (by omega)]; rfl
@[reducible] noncomputable def S_ref20_Pairs (kk : Nat) : Spec := { ins := (.cons (.d (.sl tPr)) .nil), pre := (fun x => (fun l => 0 < kk ∧ l.length ≤ 2 ^ (kk - 1) ∧ twoR l ∧ l.length ≤ 1000000) x.1), alts := [{ outs := (.cons (.d (.sl tPr)) .nil), res := (fun x => (fun l => (srR l, ())) x.1) }] }
noncomputable def c_ref20_Pairs (kk : Nat) : Cf := cf_ref20_Pairs (Fl [(fi_ref20_Pairs, S_ref20_Pairs kk), (fi_ref20_both, S_ref20_both)])
theorem g_ref20_Pairs (kk : Nat) : ∀ x, (S_ref20_Pairs (kk + 1)).pre x → shOK (S_ref20_Pairs (kk + 1)).ins x → fnGoal (c_ref20_Pairs kk) fn_ref20_Pairs (S_ref20_Pairs (kk + 1)) x := by
  rintro ⟨l, ⟨⟩⟩ hpre hok
  try dsimp only [Dat, SDat, dflt, Ty.size, keepS, bkUpd, Gv.bk, backS, wayA, maxI, minI, negI] at hpre
  have hln := shLn_of _ hok; replace hok := Hd.mk hok; try simp only [shLn, datLn, inRng, lo, hi, maxLen, true_and, and_true] at hln
  obtain ⟨_, h1, h2, h3⟩ := hpre
  have eh := half_len (n := l.length)
  have e1 : List.drop 0 (List.take (Int.tdiv (List.length l : Int) 2).toNat l) = List.take (l.length / 2) l := by rw [eh, Int.toNat_natCast]; rfl
  have e2 : List.drop (Int.tdiv (List.length l : Int) 2).toNat (List.take (List.length l) l) = List.drop (l.length / 2) l := by rw [eh, Int.toNat_natCast, List.take_length]
  have h1 : List.length l ≤ 2 ^ kk := h1
  have hk0 : ¬ (List.length l : Int) < 2 → 0 < kk ∧ l.length / 2 ≤ 2 ^ (kk - 1) ∧ l.length - l.length / 2 ≤ 2 ^ (kk - 1) := fun h => by
    rcases Nat.eq_zero_or_pos kk with rfl | hk
    · simp at h1; omega
    · obtain ⟨j, rfl⟩ : ∃ j, kk = j + 1 := ⟨kk - 1, by omega⟩
      rw [Nat.pow_succ] at h1
      rw [Nat.add_sub_cancel]
      omega
  have t1 : twoR (List.take (l.length / 2) l) := fun q hq => h2 q (List.mem_of_mem_take hq)
  have t2 : twoR (List.drop (l.length / 2) l) := fun q hq => h2 q (List.mem_of_mem_drop hq)
  have s1 := srR_spec t1
  have s2 := srR_spec t2
  have l1 := srR_len (ps := List.take (l.length / 2) l)
  have l2 := srR_len (ps := List.drop (l.length / 2) l)
  rw [List.length_take] at l1
  rw [List.length_drop] at l2
  have hh := srR_halves h2 (l.length / 2)
  first | refine fn_goal (w_head ?_)
  intro K_ hK_; (conv => whnf); (try dsimp +instances only); refine hK_ _ ?_; clear hK_ K_; (conv => (arg 2; whnf))
  repeat' (first | with_reducible refine And.intro ?_ ?_ | ((try with_reducible refine gv_more ?_); first | ((with_reducible show K_ _); (try dsimp +instances only); (with_reducible refine hK_ _ ?_); clear hK_ K_) | with_reducible refine st ?_ | ((with_reducible refine sr ?_); intro K_ hK_; conv => whnf) | ((with_reducible refine w_cond ?_); (conv => arg 2; whnf); with_reducible refine st ?_) | refine blockK_y (by rfl) ?_ | ((with_reducible refine sw ?_); conv => whnf)) | ((with_reducible refine gv_more ?_); conv => whnf) | (intro hc; (try dsimp +instances only [Dat, SDat, dflt, Ty.size, keepS, bkUpd, Gv.bk, backS, wayA, maxI, minI, negI] at hc); (try simp only [LS] at hc)))
  all_goals (try ((fail_if_success with_reducible refine nl ?_); (try dsimp only [Dat, SDat, dflt, Ty.size, keepS, bkUpd, Gv.bk, backS, wayA, maxI, minI, negI]); (try simp only [LS]); first | done | exact dsc | ((try simp only [allP, lo, hi, room, true_and, and_true, implies_true]); (repeat' (first | with_reducible refine And.intro ?_ ?_ | ((with_reducible refine preA_t ?_ ?_); rotate_left; exact sameP_t) | intro hv)) <;> (try omega))))
  all_goals (try rw [e1])
  all_goals (try rw [e2])
  all_goals (first
    | exact srR_short (by omega)
    | exact (hk0 (by assumption)).1
    | (rw [List.length_take]; have := hk0 (by assumption); omega)
    | (rw [List.length_drop]; have := hk0 (by assumption); omega)
    | (rename_i hv; rw [e1] at hv; first | exact t1 _ hv | exact srR_two t1 _ hv)
    | (rename_i hv; rw [e2] at hv; first | exact t2 _ hv | exact srR_two t2 _ hv)
    | exact s1.1
    | exact s2.1
    | exact hh
    | omega)
theorem ok_ref20_Pairs : ∀ kk, SpecOK SP glob fi_ref20_Pairs (S_ref20_Pairs kk)
  | 0 => mk_ok (c := cf_ref20_Pairs (Fl [])) (tab_ok _) mix_ok wf_ref20_Pairs (Nat.le_of_ble_eq_true rfl) .nil (fun x hx => Nat.zero_lt_one) (fun x hx _ => absurd hx.1 (Nat.lt_irrefl 0))
  | kk + 1 => mk_ok (c := c_ref20_Pairs kk) (tab_ok _) mix_ok wf_ref20_Pairs (Nat.le_of_ble_eq_true rfl) (.cons (ok_ref20_Pairs kk) (.cons ok_ref20_both .nil)) (fun x hx => Nat.zero_lt_one) (g_ref20_Pairs kk)
@[reducible] noncomputable def S_pairs : Spec := S_ref20_Pairs 20
theorem ok_pairs : SpecOK SP glob fi_ref20_Pairs S_pairs := ok_ref20_Pairs 20

theorem pr_bad {n : Nat} {p : Pi2} : ((p.getD 0 0 < 0 ∨ p.getD 1 0 ≤ p.getD 0 0) ∨ (n : Int) ≤ p.getD 1 0) ↔ ¬ okP n p := by unfold okP; omega
@[reducible] noncomputable def S_ref20_Edges : Spec := { ins := (.cons (.d (.sl tMat)) (.cons (.d (.sl tRec)) (.cons (.d (.sl tPr)) .nil))), pre := fun _ => True, alts := [{ outs := (.cons (.d (.sl tEdg)) (.cons (.d tInt) .nil)), res := (fun x => (fun ms rs ps => (edV ms rs ps, edEr ms rs ps, ())) x.1 x.2.1 x.2.2.1) }] }
noncomputable def c_ref20_Edges : Cf := (cf_ref20_Edges (Fl [(fi_ref20_Weight, S_ref20_Weight), (fi_ref20_Pairs, S_pairs)]))
theorem g_ref20_Edges : ∀ x, S_ref20_Edges.pre x → shOK S_ref20_Edges.ins x → fnGoal c_ref20_Edges fn_ref20_Edges S_ref20_Edges x := by
  rintro ⟨ms, rs, ps, ⟨⟩⟩ hpre hok
  clear hpre
  have hln := shLn_of _ hok; replace hok := Hd.mk hok; try simp only [shLn, datLn, inRng, lo, hi, maxLen, true_and, and_true] at hln
  have ht : twoR ps := fun p hp => by
    have h2 : p.length = 2 := (hok.out.2.2.1.2 p hp).1
    match p, h2 with
    | [a, b], _ => rfl
  first | refine fn_goal (w_head ?_)
  intro K_ hK_; (conv => whnf); (try dsimp +instances only); refine hK_ _ ?_; clear hK_ K_; (conv => (arg 2; whnf))
  repeat' (first | with_reducible refine And.intro ?_ ?_ | ((try with_reducible refine gv_more ?_); first | ((with_reducible show K_ _); (try dsimp +instances only); (with_reducible refine hK_ _ ?_); clear hK_ K_) | with_reducible refine st ?_ | ((with_reducible refine sr ?_); intro K_ hK_; conv => whnf) | ((with_reducible refine w_cond ?_); (conv => arg 2; whnf); with_reducible refine st ?_) | refine blockK_y (by rfl) ?_ | ((with_reducible refine sw ?_); conv => whnf)) | ((with_reducible refine gv_more ?_); conv => whnf) | (intro hc; (try dsimp +instances only [Dat, SDat, dflt, Ty.size, keepS, bkUpd, Gv.bk, backS, wayA, maxI, minI, negI] at hc); (try simp only [LS] at hc)))
  all_goals (try ((fail_if_success with_reducible refine nl ?_); (try dsimp only [Dat, SDat, dflt, Ty.size, keepS, bkUpd, Gv.bk, backS, wayA, maxI, minI, negI]); (try simp only [LS]); first | done | exact dsc | ((try simp only [allP, lo, hi, room, true_and, and_true, implies_true]); (repeat' (first | with_reducible refine And.intro ?_ ?_ | ((with_reducible refine preA_t ?_ ?_); rotate_left; exact sameP_t) | intro hv)) <;> (try omega))))
  all_goals (try (first | exact (ed_many hc).1.symm | exact (ed_many hc).2.symm))
  have hfew := hc
  refine w_loop [(8, .d tInt)] [] (fun y => ∃ k : Nat, y.1.1 = (k : Int) ∧ k ≤ ps.length ∧ ∀ p ∈ ps.take k, okP rs.length p) (fun y => ps.length - y.1.1.toNat) ?_
  conv => whnf
  refine And.intro ?_ ?_
  · exact ⟨0, rfl, Nat.zero_le _, by simp⟩
  rintro ⟨⟨_, ⟨⟩⟩, ⟨⟩⟩ ⟨k, rfl, hk, hok1⟩
  repeat' (first | with_reducible refine And.intro ?_ ?_ | ((try with_reducible refine gv_more ?_); first | ((with_reducible show K_ _); (try dsimp +instances only); (with_reducible refine hK_ _ ?_); clear hK_ K_) | with_reducible refine st ?_ | ((with_reducible refine sr ?_); intro K_ hK_; conv => whnf) | ((with_reducible refine w_cond ?_); (conv => arg 2; whnf); with_reducible refine st ?_) | refine blockK_y (by rfl) ?_ | ((with_reducible refine sw ?_); conv => whnf)) | ((with_reducible refine gv_more ?_); conv => whnf) | (intro hc; (try dsimp +instances only [Dat, SDat, dflt, Ty.size, keepS, bkUpd, Gv.bk, backS, wayA, maxI, minI, negI] at hc); (try simp only [LS] at hc)))
  all_goals (try ((fail_if_success with_reducible refine nl ?_); (try dsimp only [Dat, SDat, dflt, Ty.size, keepS, bkUpd, Gv.bk, backS, wayA, maxI, minI, negI]); (try simp only [LS]); first | done | exact dsc | ((try simp only [allP, lo, hi, room, true_and, and_true, implies_true]); (repeat' (first | with_reducible refine And.intro ?_ ?_ | ((with_reducible refine preA_t ?_ ?_); rotate_left; exact sameP_t) | intro hv)) <;> (try omega))))
  all_goals (try ((fail_if_success with_reducible refine nl ?_); (first | exact (ed_bad hfew fun h => (pr_bad.1 hc) (h _ (getD_mem (by omega)))).1.symm | exact (ed_bad hfew fun h => (pr_bad.1 hc) (h _ (getD_mem (by omega)))).2.symm | exact ⟨k + 1, by omega, by omega, all_step (d := List.replicate 2 0) hok1 (by omega) (Classical.byContradiction fun h => hc (pr_bad.2 h))⟩ | exact ht _ (by assumption) | (show List.length ps ≤ 2 ^ 19; omega) | exact (by decide : 0 < 20))))
  have hall : ∀ p ∈ ps, okP rs.length p := all_end hok1 (by omega)
  have hgood := ed_good hfew hall
  clear hok1 hc hk
  have hsl := srR_len (ps := ps)
  have hse := edF_is (W := wE ms rs) ht
  have hal : ∀ p ∈ srR ps, okP rs.length p := fun p hp => hall p (((srR_spec ht).2 p).1 hp)
  have hfl : ∀ k, (edF (wE ms rs) ((srR ps).take k)).length ≤ k := fun k => by
    unfold edF
    have := List.length_filter_le (fun e : Ed => decide (e.2.2.1 ≠ 0)) (((srR ps).take k).map (edO (wE ms rs)))
    rw [List.length_map, List.length_take] at this
    omega
  refine w_loop [(9, .row tEdg), (11, .d tInt)] [] (fun y => ∃ k : Nat, y.1.2.1 = (k : Int) ∧ k ≤ (srR ps).length ∧ @Eq (List Ed) y.1.1 (edF (wE ms rs) ((srR ps).take k))) (fun y => (srR ps).length - y.1.2.1.toNat) ?_
  conv => whnf
  refine And.intro ?_ ?_
  · exact ⟨0, rfl, Nat.zero_le _, rfl⟩
  rintro ⟨⟨o, _, ⟨⟩⟩, ⟨⟩⟩ ⟨k, rfl, hk, ho⟩
  have ho : @Eq (List Ed) o (edF (wE ms rs) ((srR ps).take k)) := ho
  have hol : List.length (o : List Ed) ≤ 20000 := by rw [ho]; have := hfl k; omega
  have hp := fun (h : k < (srR ps).length) => hal _ (getD_mem (d := (List.replicate 2 (0 : Int))) h)
  have hsn := fun (h : k < (srR ps).length) => show edF (wE ms rs) ((srR ps).take (k + 1)) = edF (wE ms rs) ((srR ps).take k) ++ (if wE ms rs (((srR ps).getD k (List.replicate 2 (0 : Int))).getD 0 0) (((srR ps).getD k (List.replicate 2 (0 : Int))).getD 1 0) ≠ 0 then [edO (wE ms rs) ((srR ps).getD k (List.replicate 2 (0 : Int)))] else []) by
    rw [List.take_succ_eq_append_getElem h, ← getD_ok (List.replicate 2 (0 : Int)) h, edF_snoc]
  have hp2 := fun (h : k < (srR ps).length) => show (0 ≤ ((srR ps).getD k (List.replicate 2 (0 : Int))).getD 0 0 ∧ ((srR ps).getD k (List.replicate 2 (0 : Int))).getD 0 0 < (rs.length : Int)) ∧ 0 ≤ ((srR ps).getD k (List.replicate 2 (0 : Int))).getD 1 0 ∧ ((srR ps).getD k (List.replicate 2 (0 : Int))).getD 1 0 < (rs.length : Int) by
    have h5 := hp h
    unfold okP at h5
    omega
  have hn1 := fun (h : k < (srR ps).length) (q : ¬ wE ms rs (((srR ps).getD k (List.replicate 2 (0 : Int))).getD 0 0) (((srR ps).getD k (List.replicate 2 (0 : Int))).getD 1 0) = 0) => show ∃ k_1 : Nat, (k : Int) + 1 = (k_1 : Int) ∧ k_1 ≤ (srR ps).length ∧ @Eq (List Ed) (o ++ [edO (wE ms rs) ((srR ps).getD k (List.replicate 2 (0 : Int)))]) (edF (wE ms rs) ((srR ps).take k_1)) from
    ⟨k + 1, by omega, by omega, by rw [hsn h, if_pos q, ho]⟩
  have hn0 := fun (h : k < (srR ps).length) (q : wE ms rs (((srR ps).getD k (List.replicate 2 (0 : Int))).getD 0 0) (((srR ps).getD k (List.replicate 2 (0 : Int))).getD 1 0) = 0) => show ∃ k_1 : Nat, (k : Int) + 1 = (k_1 : Int) ∧ k_1 ≤ (srR ps).length ∧ @Eq (List Ed) o (edF (wE ms rs) ((srR ps).take k_1)) from
    ⟨k + 1, by omega, by omega, by rw [hsn h, if_neg (fun h => h q), ho, List.append_nil]⟩
  have hend := fun (h : ¬ k < (srR ps).length) => show @Eq (List Ed) o (edV ms rs ps) by rw [hgood.1, ho, List.take_of_length_le (by omega)]; exact hse
  repeat' (first | with_reducible refine And.intro ?_ ?_ | ((try with_reducible refine gv_more ?_); first | ((with_reducible show K_ _); (try dsimp +instances only); (with_reducible refine hK_ _ ?_); clear hK_ K_) | with_reducible refine st ?_ | ((with_reducible refine sr ?_); intro K_ hK_; conv => whnf) | ((with_reducible refine w_cond ?_); (conv => arg 2; whnf); with_reducible refine st ?_) | refine blockK_y (by rfl) ?_ | ((with_reducible refine sw ?_); conv => whnf)) | ((with_reducible refine gv_more ?_); conv => whnf) | (intro hc; (try dsimp +instances only [Dat, SDat, dflt, Ty.size, keepS, bkUpd, Gv.bk, backS, wayA, maxI, minI, negI] at hc); (try simp only [LS] at hc)))
  all_goals (try ((fail_if_success with_reducible refine nl ?_); (try dsimp only [Dat, SDat, dflt, Ty.size, keepS, bkUpd, Gv.bk, backS, wayA, maxI, minI, negI]); (try simp only [LS]); first | done | exact dsc | ((try simp only [allP, lo, hi, room, true_and, and_true, implies_true]); (repeat' (first | with_reducible refine And.intro ?_ ?_ | ((with_reducible refine preA_t ?_ ?_); rotate_left; exact sameP_t) | intro hv)) <;> (try omega))))
  all_goals (first
    | exact (hp2 (by omega)).1.1
    | exact (hp2 (by omega)).1.2
    | exact (hp2 (by omega)).2.1
    | exact (hp2 (by omega)).2.2
    | exact hn1 (by omega) hc
    | exact hn0 (by omega) hc
    | exact hend (by omega)
    | exact hgood.2.symm
    | skip)
theorem ok_ref20_Edges : SpecOK SP glob fi_ref20_Edges S_ref20_Edges := mk_ok (c := c_ref20_Edges) (tab_ok _) mix_ok wf_ref20_Edges (by decide) (.cons ok_ref20_Weight (.cons ok_pairs .nil)) (fun x hx => Nat.zero_lt_one) g_ref20_Edges

@[reducible] noncomputable def S_law20_MatchMatchesReference : Spec := { ins := (.cons (.d (.sl tMat)) (.cons (.d (.sl tRec)) (.cons (.d (.sl tPr)) .nil))), pre := fun _ => True, alts := [{ outs := (.cons (.d .bool) .nil), res := (fun x => (fun ms rs ps => (true, ())) x.1 x.2.1 x.2.2.1) }], noisy := true }
noncomputable def c_law20_MatchMatchesReference : Cf := { cf_law20_MatchMatchesReference (Fl [(fi_law20_head, S_law20_head), (fi_ref20_Few, S_ref20_Few), (fi_match_Score, S_match_Score), (fi_ref20_Score, S_ref20_Score), (fi_ref20_Bools, S_ref20_Bools), (fi_match_Weight, S_match_Weight), (fi_ref20_Weight, S_ref20_Weight), (fi_match_Edges, S_match_Edges), (fi_ref20_Edges, S_ref20_Edges), (fi_ref20_Same, S_ref20_Same)]) with nz := true }
theorem g_law20_MatchMatchesReference : ∀ x, S_law20_MatchMatchesReference.pre x → shOK S_law20_MatchMatchesReference.ins x → fnGoal c_law20_MatchMatchesReference fn_law20_MatchMatchesReference S_law20_MatchMatchesReference x := by
  rintro ⟨ms, rs, ps, ⟨⟩⟩ hpre hok
  clear hpre
  have hln := shLn_of _ hok; replace hok := Hd.mk hok; try simp only [shLn, datLn, inRng, lo, hi, maxLen, true_and, and_true] at hln
  have hf : ¬ (¬ FewM ms rs 12 ∨ 200 < (List.length ps : Int)) → ms.length ≤ 8 ∧ (rs.length : Int) ≤ 12 := fun h => by
    have := Classical.not_not.1 (not_or.1 h).1
    exact ⟨this.fm, this.fr⟩
  first | refine fn_goal (w_head ?_)
  intro K_ hK_; (conv => whnf); (try dsimp +instances only); refine hK_ _ ?_; clear hK_ K_; (conv => (arg 2; whnf))
  repeat' (first | with_reducible refine And.intro ?_ ?_ | ((try with_reducible refine gv_more ?_); first | ((with_reducible show K_ _); (try dsimp +instances only); (with_reducible refine hK_ _ ?_); clear hK_ K_) | with_reducible refine st ?_ | ((with_reducible refine sr ?_); intro K_ hK_; conv => whnf) | ((with_reducible refine w_cond ?_); (conv => arg 2; whnf); with_reducible refine st ?_) | refine blockK_y (by rfl) ?_ | ((with_reducible refine sw ?_); conv => whnf)) | ((with_reducible refine gv_more ?_); conv => whnf) | (intro hc; (try dsimp +instances only [Dat, SDat, dflt, Ty.size, keepS, bkUpd, Gv.bk, backS, wayA, maxI, minI, negI] at hc); (try simp only [LS] at hc)))
  all_goals (try ((fail_if_success with_reducible refine nl ?_); (try dsimp only [Dat, SDat, dflt, Ty.size, keepS, bkUpd, Gv.bk, backS, wayA, maxI, minI, negI]); (try simp only [LS]); first | done | exact dsc | ((try simp only [allP, lo, hi, room, true_and, and_true, implies_true]); (repeat' (first | with_reducible refine And.intro ?_ ?_ | ((with_reducible refine preA_t ?_ ?_); rotate_left; exact sameP_t) | intro hv)) <;> (try omega))))
  have hfm := hf hc
  refine w_loop [(8, .d tInt)] [] (fun y => ∃ i : Nat, y.1.1 = (i : Int) ∧ i ≤ rs.length) (fun y => rs.length - y.1.1.toNat) ?_
  conv => whnf
  refine And.intro ?_ ?_
  · exact ⟨0, rfl, Nat.zero_le _⟩
  rintro ⟨⟨_, ⟨⟩⟩, ⟨⟩⟩ ⟨i, rfl, hi⟩
  repeat' (first | with_reducible refine And.intro ?_ ?_ | ((try with_reducible refine gv_more ?_); first | ((with_reducible show K_ _); (try dsimp +instances only); (with_reducible refine hK_ _ ?_); clear hK_ K_) | with_reducible refine st ?_ | ((with_reducible refine sr ?_); intro K_ hK_; conv => whnf) | ((with_reducible refine w_cond ?_); (conv => arg 2; whnf); with_reducible refine st ?_) | refine blockK_y (by rfl) ?_ | ((with_reducible refine sw ?_); conv => whnf)) | ((with_reducible refine gv_more ?_); conv => whnf) | (intro hc; (try dsimp +instances only [Dat, SDat, dflt, Ty.size, keepS, bkUpd, Gv.bk, backS, wayA, maxI, minI, negI] at hc); (try simp only [LS] at hc)))
  all_goals (try ((fail_if_success with_reducible refine nl ?_); (try dsimp only [Dat, SDat, dflt, Ty.size, keepS, bkUpd, Gv.bk, backS, wayA, maxI, minI, negI]); (try simp only [LS]); first | done | exact dsc | ((try simp only [allP, lo, hi, room, true_and, and_true, implies_true]); (repeat' (first | with_reducible refine And.intro ?_ ?_ | ((with_reducible refine preA_t ?_ ?_); rotate_left; exact sameP_t) | intro hv)) <;> (try omega))))
  all_goals (try (simp only [Gv.hi]; omega))
  refine w_loop [(9, .d tInt)] [] (fun y => ∃ k : Nat, y.1.1 = (k : Int) ∧ k ≤ ms.length) (fun y => ms.length - y.1.1.toNat) ?_
  conv => whnf
  refine And.intro ?_ ?_
  · exact ⟨0, rfl, Nat.zero_le _⟩
  rintro ⟨⟨_, ⟨⟩⟩, ⟨⟩⟩ ⟨k, rfl, hk⟩
  repeat' (first | with_reducible refine And.intro ?_ ?_ | ((try with_reducible refine gv_more ?_); first | ((with_reducible show K_ _); (try dsimp +instances only); (with_reducible refine hK_ _ ?_); clear hK_ K_) | with_reducible refine st ?_ | ((with_reducible refine sr ?_); intro K_ hK_; conv => whnf) | ((with_reducible refine w_cond ?_); (conv => arg 2; whnf); with_reducible refine st ?_) | refine blockK_y (by rfl) ?_ | ((with_reducible refine sw ?_); conv => whnf)) | ((with_reducible refine gv_more ?_); conv => whnf) | (intro hc; (try dsimp +instances only [Dat, SDat, dflt, Ty.size, keepS, bkUpd, Gv.bk, backS, wayA, maxI, minI, negI] at hc); (try simp only [LS] at hc)))
  all_goals (try ((fail_if_success with_reducible refine nl ?_); (try dsimp only [Dat, SDat, dflt, Ty.size, keepS, bkUpd, Gv.bk, backS, wayA, maxI, minI, negI]); (try simp only [LS]); first | done | exact dsc | ((try simp only [allP, lo, hi, room, true_and, and_true, implies_true]); (repeat' (first | with_reducible refine And.intro ?_ ?_ | ((with_reducible refine preA_t ?_ ?_); rotate_left; exact sameP_t) | intro hv)) <;> (try omega))))
  all_goals (try (simp only [Gv.hi]; omega))
  all_goals (first | exact ⟨k + 1, by omega, by omega⟩ | exact ⟨i + 1, by omega, by omega⟩ | skip)
  all_goals (exact (hc.elim id id).elim)
theorem ok_law20_MatchMatchesReference : SpecOK SP glob fi_law20_MatchMatchesReference S_law20_MatchMatchesReference := mk_ok (c := c_law20_MatchMatchesReference) (tab_ok _) mix_ok wf_law20_MatchMatchesReference (by decide) (.cons ok_law20_head (.cons ok_ref20_Few (.cons ok_match_Score (.cons ok_ref20_Score (.cons ok_ref20_Bools (.cons ok_match_Weight (.cons ok_ref20_Weight (.cons ok_match_Edges (.cons ok_ref20_Edges (.cons ok_ref20_Same .nil)))))))))) (fun x hx => Nat.zero_lt_one) g_law20_MatchMatchesReference
end Go.Gv
