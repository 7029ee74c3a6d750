/- The statement of chapter 4 on sets. -/
import Derived.Test.YtjlighbppoffhaaDoorR04c
import Derived.Test.YtjlighbppoffhaaDoorP04i
set_option linter.all false
namespace Go.Gv
open Go Go.Proofs Go.Proofs.YtjlighbppoffhaaDoor

noncomputable def sumN (a b : Rt) : Int := a.1 * b.2.1 + b.1 * a.2.1
noncomputable def sumD (a b : Rt) : Int := a.2.1 * b.2.1
noncomputable def sumV (a b : Rt) : Rt := if validR a ∧ validR b then mkV (sumN a b) (sumD a b) else rt 0 0
noncomputable def sumE (a b : Rt) : Int := if validR a ∧ validR b then mkE (sumN a b) (sumD a b) else 1
theorem sumV_ok {a b : Rt} (h : validR a ∧ validR b) : sumV a b = mkV (sumN a b) (sumD a b) := by unfold sumV; rw [if_pos h]
theorem sumE_ok {a b : Rt} (h : validR a ∧ validR b) : sumE a b = mkE (sumN a b) (sumD a b) := by unfold sumE; rw [if_pos h]
theorem add_bad {a b : Rt} (h : ¬ validR a ∨ ¬ validR b) : rt 0 0 = sumV a b ∧ 1 = sumE a b := by
  unfold sumV sumE
  rw [if_neg fun k => h.elim (fun a => a k.1) (fun a => a k.2), if_neg fun k => h.elim (fun a => a k.1) (fun a => a k.2)]
  exact ⟨rfl, rfl⟩
theorem add_fits {n d n' d' : Int} (h : validR (n, d, ()) ∧ validR (n', d', ())) : (-1000000000000000000 ≤ n * d' ∧ n * d' ≤ 1000000000000000000) ∧ (-1000000000000000000 ≤ n' * d ∧ n' * d ≤ 1000000000000000000) ∧ -1000000000000000000 ≤ d * d' ∧ d * d' ≤ 1000000000000000000 := by
  have k1 := (valid_cases n d).1 h.1
  have k2 := (valid_cases n' d').1 h.2
  exact ⟨mul_abs ⟨k1.2.2.1, k1.2.2.2.1⟩ ⟨k2.1, k2.2.1⟩, mul_abs ⟨k2.2.2.1, k2.2.2.2.1⟩ ⟨k1.1, k1.2.1⟩, mul_abs ⟨by omega, k1.2.1⟩ ⟨k2.1, k2.2.1⟩⟩

@[reducible] noncomputable def S_ratio_Add_1 : Spec := { ins := (.cons (.d (.pt tRt)) (.cons (.d (.pt tRt)) .nil)), pre := (fun x => (fun a b => ∃ x y : Rt, a = some x ∧ b = some y ∧ validR x ∧ validR y) x.1 x.2.1), alts := [{ outs := (.cons (.d tRt) (.cons (.d tInt) .nil)), res := (fun x => (fun a b => (mkV (sumN (a.getD (rt 0 0)) (b.getD (rt 0 0))) (sumD (a.getD (rt 0 0)) (b.getD (rt 0 0))), mkE (sumN (a.getD (rt 0 0)) (b.getD (rt 0 0))) (sumD (a.getD (rt 0 0)) (b.getD (rt 0 0))), ())) x.1 x.2.1) }] }
noncomputable def c_ratio_Add_1 : Cf := (cf_ratio_Add_1 (Fl [(fi_ratio_Make, S_ratio_Make)]))
set_option maxRecDepth 100000 in
set_option maxHeartbeats 4000000 in
theorem g_ratio_Add_1 : ∀ x, S_ratio_Add_1.pre x → shOK S_ratio_Add_1.ins x → fnGoal c_ratio_Add_1 fn_ratio_Add_1 S_ratio_Add_1 x := by
  rintro ⟨a, b, ⟨⟩⟩ hpre hok
  try dsimp only [Dat, SDat, dflt, Ty.size, keepS, bkUpd, Gv.bk, backS, wayA, maxI, minI, negI] at hpre
  have hln := shLn_of _ hok; replace hok := Hd.mk hok; try simp only [shLn, datLn, inRng, lo, hi, maxLen, true_and, and_true] at hln
  obtain ⟨⟨(n : Int), (d : Int), ⟨⟩⟩, ⟨(n' : Int), (d' : Int), ⟨⟩⟩, rfl, rfl, hv1, hv2⟩ := hpre
  have hb := add_fits ⟨hv1, hv2⟩
  have e1 : mkV (n * d' + n' * d) (d * d') = mkV (sumN (n, d, ()) (n', d', ())) (sumD (n, d, ()) (n', d', ())) := rfl
  have e2 : mkE (n * d' + n' * d) (d * d') = mkE (sumN (n, d, ()) (n', d', ())) (sumD (n, d, ()) (n', d', ())) := rfl
  first | refine fn_goal (w_head ?_)
  intro K_ hK_; (conv => whnf); (try dsimp +instances only); refine hK_ _ ?_; clear hK_ K_; (conv => (arg 2; whnf))
  repeat' (first | with_reducible refine And.intro ?_ ?_ | ((try with_reducible refine gv_more ?_); first | ((with_reducible show K_ _); (try dsimp +instances only); (with_reducible refine hK_ _ ?_); clear hK_ K_) | with_reducible refine st ?_ | ((with_reducible first | refine w_region ?_ | refine w_head ?_); intro K_ hK_; conv => whnf) | ((with_reducible refine w_cond ?_); (conv => arg 2; whnf); with_reducible first | refine condK_p ?_ ?_ | refine st ?_ | refine condK_b ?_ ?_) | refine blockK_y (by rfl) ?_ | ((with_reducible first | refine loopK_at ?_ | refine retK_r ?_ | refine retK_n ?_); conv => whnf)) | ((with_reducible refine gv_more ?_); conv => whnf) | (intro hc; (try dsimp +instances only [Dat, SDat, dflt, Ty.size, keepS, bkUpd, Gv.bk, backS, wayA, maxI, minI, negI] at hc); (try simp only [LS] at hc)))
  all_goals (try ((fail_if_success with_reducible refine nl ?_); (try dsimp only [Dat, SDat, dflt, Ty.size, keepS, bkUpd, Gv.bk, backS, wayA, maxI, minI, negI]); (try simp only [LS]); first | done | exact trivial | rfl | omega | exact boolOf_eq _ | (simp only [allP, lo, hi, room, true_and, and_true, implies_true]; done) | ((try simp only [allP, lo, hi, room, true_and, and_true, implies_true]); (repeat' (first | with_reducible refine And.intro ?_ ?_ | ((with_reducible refine preA_t ?_ ?_); rotate_left; (focus (repeat (first | exact trivial | ((conv => whnf); refine And.intro (by rfl) ?_))))) | intro hv)) <;> (try omega))))
  all_goals (first | exact e1 | exact e2 | skip)
set_option maxRecDepth 100000 in
theorem ok_ratio_Add_1 : SpecOK SP glob fi_ratio_Add_1 S_ratio_Add_1 := mk_ok (c := c_ratio_Add_1) (tab_ok _) mix_ok wf_ratio_Add_1 (by decide) (.cons ok_ratio_Make .nil) (fun x hx => Nat.zero_lt_one) g_ratio_Add_1

@[reducible] noncomputable def S_ratio_on : Spec := { ins := (.cons (.d tRt) (.cons (.d tRt) (.cons (.clos fi_ratio_Add_1 (.cons (.d (.pt tRt)) (.cons (.d (.pt tRt)) .nil))) .nil))), pre := (fun x => (fun a b c => c.1 = some a ∧ c.2.1 = some b) x.1 x.2.1 x.2.2.1), alts := [{ outs := (.cons (.d tRt) (.cons (.d tInt) .nil)), res := (fun x => (fun a b c => (sumV a b, sumE a b, ())) x.1 x.2.1 x.2.2.1) }] }
noncomputable def c_ratio_on : Cf := (cf_ratio_on (Fl [(fi_ratio_Valid, S_ratio_Valid), (fi_ratio_Add_1, S_ratio_Add_1)]))
set_option maxRecDepth 100000 in
set_option maxHeartbeats 4000000 in
theorem g_ratio_on : ∀ x, S_ratio_on.pre x → shOK S_ratio_on.ins x → fnGoal c_ratio_on fn_ratio_on S_ratio_on x := by
  rintro ⟨⟨(n : Int), (d : Int), ⟨⟩⟩, ⟨(n' : Int), (d' : Int), ⟨⟩⟩, ⟨c1, c2, ⟨⟩⟩, ⟨⟩⟩ hpre hok
  try dsimp only [Dat, SDat, dflt, Ty.size, keepS, bkUpd, Gv.bk, backS, wayA, maxI, minI, negI] at hpre
  have hln := shLn_of _ hok; replace hok := Hd.mk hok; try simp only [shLn, datLn, inRng, lo, hi, maxLen, true_and, and_true] at hln
  obtain ⟨e1, e2⟩ := hpre
  cases e1
  cases e2
  have hx := fun h => add_bad (a := (n, d, ())) (b := (n', d', ())) h
  have hy : ¬ (¬ validR (n, d, ()) ∨ ¬ validR (n', d', ())) → validR (n, d, ()) ∧ validR (n', d', ()) := fun h => ⟨Classical.not_not.1 (not_or.1 h).1, Classical.not_not.1 (not_or.1 h).2⟩
  first | refine fn_goal (w_head ?_)
  intro K_ hK_; (conv => whnf); (try dsimp +instances only); refine hK_ _ ?_; clear hK_ K_; (conv => (arg 2; whnf))
  repeat' (first | with_reducible refine And.intro ?_ ?_ | ((try with_reducible refine gv_more ?_); first | ((with_reducible show K_ _); (try dsimp +instances only); (with_reducible refine hK_ _ ?_); clear hK_ K_) | with_reducible refine st ?_ | ((with_reducible first | refine w_region ?_ | refine w_head ?_); intro K_ hK_; conv => whnf) | ((with_reducible refine w_cond ?_); (conv => arg 2; whnf); with_reducible first | refine condK_p ?_ ?_ | refine st ?_ | refine condK_b ?_ ?_) | refine blockK_y (by rfl) ?_ | ((with_reducible first | refine loopK_at ?_ | refine retK_r ?_ | refine retK_n ?_); conv => whnf)) | ((with_reducible refine gv_more ?_); conv => whnf) | (intro hc; (try dsimp +instances only [Dat, SDat, dflt, Ty.size, keepS, bkUpd, Gv.bk, backS, wayA, maxI, minI, negI] at hc); (try simp only [LS] at hc)))
  all_goals (try ((fail_if_success with_reducible refine nl ?_); (try dsimp only [Dat, SDat, dflt, Ty.size, keepS, bkUpd, Gv.bk, backS, wayA, maxI, minI, negI]); (try simp only [LS]); first | done | exact trivial | rfl | omega | exact boolOf_eq _ | (simp only [allP, lo, hi, room, true_and, and_true, implies_true]; done) | ((try simp only [allP, lo, hi, room, true_and, and_true, implies_true]); (repeat' (first | with_reducible refine And.intro ?_ ?_ | ((with_reducible refine preA_t ?_ ?_); rotate_left; (focus (repeat (first | exact trivial | ((conv => whnf); refine And.intro (by rfl) ?_))))) | intro hv)) <;> (try omega))))
  · exact (hx hc).1
  · exact (hx hc).2
  · exact ⟨_, _, rfl, rfl, hy hc⟩
  · exact (sumV_ok (hy hc)).symm
  · exact (sumE_ok (hy hc)).symm
set_option maxRecDepth 100000 in
theorem ok_ratio_on : SpecOK SP glob fi_ratio_on S_ratio_on := mk_ok (c := c_ratio_on) (tab_ok _) mix_ok wf_ratio_on (by decide) (.cons ok_ratio_Valid (.cons ok_ratio_Add_1 .nil)) (fun x hx => Nat.zero_lt_one) g_ratio_on

@[reducible] noncomputable def S_ratio_Add : Spec := { ins := (.cons (.d tRt) (.cons (.d tRt) .nil)), pre := fun _ => True, alts := [{ outs := (.cons (.d tRt) (.cons (.d tInt) .nil)), res := (fun x => (fun a b => (sumV a b, sumE a b, ())) x.1 x.2.1) }] }
noncomputable def c_ratio_Add : Cf := (cf_ratio_Add (Fl [(fi_ratio_on, S_ratio_on)]))
set_option maxRecDepth 100000 in
set_option maxHeartbeats 4000000 in
theorem g_ratio_Add : ∀ x, S_ratio_Add.pre x → shOK S_ratio_Add.ins x → fnGoal c_ratio_Add fn_ratio_Add S_ratio_Add x := by
  rintro ⟨⟨(n : Int), (d : Int), ⟨⟩⟩, ⟨(n' : Int), (d' : Int), ⟨⟩⟩, ⟨⟩⟩ hpre hok
  clear hpre
  have hln := shLn_of _ hok; replace hok := Hd.mk hok; try simp only [shLn, datLn, inRng, lo, hi, maxLen, true_and, and_true] at hln
  first | refine fn_goal (w_head ?_)
  intro K_ hK_; (conv => whnf); (try dsimp +instances only); refine hK_ _ ?_; clear hK_ K_; (conv => (arg 2; whnf))
  repeat' (first | with_reducible refine And.intro ?_ ?_ | ((try with_reducible refine gv_more ?_); first | ((with_reducible show K_ _); (try dsimp +instances only); (with_reducible refine hK_ _ ?_); clear hK_ K_) | with_reducible refine st ?_ | ((with_reducible first | refine w_region ?_ | refine w_head ?_); intro K_ hK_; conv => whnf) | ((with_reducible refine w_cond ?_); (conv => arg 2; whnf); with_reducible first | refine condK_p ?_ ?_ | refine st ?_ | refine condK_b ?_ ?_) | refine blockK_y (by rfl) ?_ | ((with_reducible first | refine loopK_at ?_ | refine retK_r ?_ | refine retK_n ?_); conv => whnf)) | ((with_reducible refine gv_more ?_); conv => whnf) | (intro hc; (try dsimp +instances only [Dat, SDat, dflt, Ty.size, keepS, bkUpd, Gv.bk, backS, wayA, maxI, minI, negI] at hc); (try simp only [LS] at hc)))
  all_goals (try ((fail_if_success with_reducible refine nl ?_); (try dsimp only [Dat, SDat, dflt, Ty.size, keepS, bkUpd, Gv.bk, backS, wayA, maxI, minI, negI]); (try simp only [LS]); first | done | exact trivial | rfl | omega | exact boolOf_eq _ | (simp only [allP, lo, hi, room, true_and, and_true, implies_true]; done) | ((try simp only [allP, lo, hi, room, true_and, and_true, implies_true]); (repeat' (first | with_reducible refine And.intro ?_ ?_ | ((with_reducible refine preA_t ?_ ?_); rotate_left; (focus (repeat (first | exact trivial | ((conv => whnf); refine And.intro (by rfl) ?_))))) | intro hv)) <;> (try omega))))
set_option maxRecDepth 100000 in
theorem ok_ratio_Add : SpecOK SP glob fi_ratio_Add S_ratio_Add := mk_ok (c := c_ratio_Add) (tab_ok _) mix_ok wf_ratio_Add (by decide) (.cons ok_ratio_on .nil) (fun x hx => Nat.zero_lt_one) g_ratio_Add

def inAll (a b : List (List UInt8)) : Prop := ∀ z, z ∈ a → z ∈ b
def apartL (a b : List (List UInt8)) : Prop := ∀ z, z ∈ a → z ∉ b

@[reducible] noncomputable def S_law04_within : Spec := { ins := (.cons (.d (.sl .str)) (.cons (.d (.sl .str)) .nil)), pre := fun _ => True, alts := [{ outs := (.cons (.d .bool) .nil), res := (fun x => (fun a b => (boolOf (inAll a b), ())) x.1 x.2.1) }] }
noncomputable def c_law04_within : Cf := (cf_law04_within (Fl []))
set_option maxRecDepth 100000 in
set_option maxHeartbeats 4000000 in
theorem g_law04_within : ∀ x, S_law04_within.pre x → shOK S_law04_within.ins x → fnGoal c_law04_within fn_law04_within S_law04_within x := by
  rintro ⟨a, b, ⟨⟩⟩ hpre hok
  clear hpre
  have hln := shLn_of _ hok; replace hok := Hd.mk hok; try simp only [shLn, datLn, inRng, lo, hi, maxLen, true_and, and_true] at hln
  first | refine fn_goal (w_head ?_)
  intro K_ hK_; (conv => whnf); (try dsimp +instances only); refine hK_ _ ?_; clear hK_ K_; (conv => (arg 2; whnf))
  repeat' (first | with_reducible refine And.intro ?_ ?_ | ((try with_reducible refine gv_more ?_); first | ((with_reducible show K_ _); (try dsimp +instances only); (with_reducible refine hK_ _ ?_); clear hK_ K_) | with_reducible refine st ?_ | ((with_reducible first | refine w_region ?_ | refine w_head ?_); intro K_ hK_; conv => whnf) | ((with_reducible refine w_cond ?_); (conv => arg 2; whnf); with_reducible first | refine condK_p ?_ ?_ | refine st ?_ | refine condK_b ?_ ?_) | refine blockK_y (by rfl) ?_ | ((with_reducible first | refine loopK_at ?_ | refine retK_r ?_ | refine retK_n ?_); conv => whnf)) | ((with_reducible refine gv_more ?_); conv => whnf) | (intro hc; (try dsimp +instances only [Dat, SDat, dflt, Ty.size, keepS, bkUpd, Gv.bk, backS, wayA, maxI, minI, negI] at hc); (try simp only [LS] at hc)))
  all_goals (try ((fail_if_success with_reducible refine nl ?_); (try dsimp only [Dat, SDat, dflt, Ty.size, keepS, bkUpd, Gv.bk, backS, wayA, maxI, minI, negI]); (try simp only [LS]); first | done | exact trivial | rfl | omega | exact boolOf_eq _ | (simp only [allP, lo, hi, room, true_and, and_true, implies_true]; done) | ((try simp only [allP, lo, hi, room, true_and, and_true, implies_true]); (repeat' (first | with_reducible refine And.intro ?_ ?_ | ((with_reducible refine preA_t ?_ ?_); rotate_left; (focus (repeat (first | exact trivial | ((conv => whnf); refine And.intro (by rfl) ?_))))) | intro hv)) <;> (try omega))))
  refine w_loop [(5, .d tInt)] [] (fun y => ∃ i : Nat, y.1.1 = (i : Int) ∧ i ≤ a.length ∧ ∀ z, z ∈ a.take i → z ∈ b) (fun y => a.length - y.1.1.toNat) ?_
  conv => whnf
  refine And.intro ?_ ?_
  · exact ⟨0, rfl, Nat.zero_le _, by simp⟩
  rintro ⟨⟨_, ⟨⟩⟩, ⟨⟩⟩ ⟨i, rfl, hi, hin⟩
  repeat' (first | with_reducible refine And.intro ?_ ?_ | ((try with_reducible refine gv_more ?_); first | ((with_reducible show K_ _); (try dsimp +instances only); (with_reducible refine hK_ _ ?_); clear hK_ K_) | with_reducible refine st ?_ | ((with_reducible first | refine w_region ?_ | refine w_head ?_); intro K_ hK_; conv => whnf) | ((with_reducible refine w_cond ?_); (conv => arg 2; whnf); with_reducible first | refine condK_p ?_ ?_ | refine st ?_ | refine condK_b ?_ ?_) | refine blockK_y (by rfl) ?_ | ((with_reducible first | refine loopK_at ?_ | refine retK_r ?_ | refine retK_n ?_); conv => whnf)) | ((with_reducible refine gv_more ?_); conv => whnf) | (intro hc; (try dsimp +instances only [Dat, SDat, dflt, Ty.size, keepS, bkUpd, Gv.bk, backS, wayA, maxI, minI, negI] at hc); (try simp only [LS] at hc)))
  all_goals (try ((fail_if_success with_reducible refine nl ?_); (try dsimp only [Dat, SDat, dflt, Ty.size, keepS, bkUpd, Gv.bk, backS, wayA, maxI, minI, negI]); (try simp only [LS]); first | done | exact trivial | rfl | omega | exact boolOf_eq _ | (simp only [allP, lo, hi, room, true_and, and_true, implies_true]; done) | ((try simp only [allP, lo, hi, room, true_and, and_true, implies_true]); (repeat' (first | with_reducible refine And.intro ?_ ?_ | ((with_reducible refine preA_t ?_ ?_); rotate_left; (focus (repeat (first | exact trivial | ((conv => whnf); refine And.intro (by rfl) ?_))))) | intro hv)) <;> (try omega))))
  all_goals (try (simp only [Gv.hi]; omega))
  · refine w_loop [(6, .d .bool), (7, .d tInt)] [] (fun y => ∃ k : Nat, y.1.2.1 = (k : Int) ∧ k ≤ b.length ∧ (y.1.1 = true ↔ a.getD i [] ∈ b.take k)) (fun y => b.length - y.1.2.1.toNat) ?_
    conv => whnf
    refine And.intro ?_ ?_
    · exact ⟨0, rfl, Nat.zero_le _, by simp⟩
    rintro ⟨⟨(fo : Bool), _, ⟨⟩⟩, ⟨⟩⟩ ⟨k, rfl, hk, hfo⟩
    have hfo : fo = true ↔ a.getD i [] ∈ b.take k := hfo
    repeat' (first | with_reducible refine And.intro ?_ ?_ | ((try with_reducible refine gv_more ?_); first | ((with_reducible show K_ _); (try dsimp +instances only); (with_reducible refine hK_ _ ?_); clear hK_ K_) | with_reducible refine st ?_ | ((with_reducible first | refine w_region ?_ | refine w_head ?_); intro K_ hK_; conv => whnf) | ((with_reducible refine w_cond ?_); (conv => arg 2; whnf); with_reducible first | refine condK_p ?_ ?_ | refine st ?_ | refine condK_b ?_ ?_) | refine blockK_y (by rfl) ?_ | ((with_reducible first | refine loopK_at ?_ | refine retK_r ?_ | refine retK_n ?_); conv => whnf)) | ((with_reducible refine gv_more ?_); conv => whnf) | (intro hc; (try dsimp +instances only [Dat, SDat, dflt, Ty.size, keepS, bkUpd, Gv.bk, backS, wayA, maxI, minI, negI] at hc); (try simp only [LS] at hc)))
    all_goals (try ((fail_if_success with_reducible refine nl ?_); (try dsimp only [Dat, SDat, dflt, Ty.size, keepS, bkUpd, Gv.bk, backS, wayA, maxI, minI, negI]); (try simp only [LS]); first | done | exact trivial | rfl | omega | exact boolOf_eq _ | (simp only [allP, lo, hi, room, true_and, and_true, implies_true]; done) | ((try simp only [allP, lo, hi, room, true_and, and_true, implies_true]); (repeat' (first | with_reducible refine And.intro ?_ ?_ | ((with_reducible refine preA_t ?_ ?_); rotate_left; (focus (repeat (first | exact trivial | ((conv => whnf); refine And.intro (by rfl) ?_))))) | intro hv)) <;> (try omega))))
    · simp only [Gv.hi]; omega
    · refine ⟨k + 1, by omega, by omega, ?_⟩
      have h2 : k < b.length := by omega
      rw [List.take_succ_eq_append_getElem h2, List.mem_append, List.mem_singleton, ← getD_ok [] h2, ← hfo]
    · refine bF fun h => ?_
      have h3 : i < a.length := by omega
      have := hfo.2 (by rw [List.take_of_length_le (by omega)]; exact h _ (getD_mem h3))
      rw [hc] at this; cases this
    · simp only [Gv.hi]; omega
    · refine ⟨i + 1, by omega, by omega, fun z hz => ?_⟩
      have h3 : i < a.length := by omega
      rw [List.take_succ_eq_append_getElem h3, List.mem_append, List.mem_singleton] at hz
      rcases hz with hz | hz
      · exact hin z hz
      · rw [hz, ← getD_ok [] h3]
        exact List.mem_of_mem_take (hfo.1 (by simpa using hc))
  · rw [List.take_of_length_le (by omega)] at hin
    exact bT hin
set_option maxRecDepth 100000 in
theorem ok_law04_within : SpecOK SP glob fi_law04_within S_law04_within := mk_ok (c := c_law04_within) (tab_ok _) mix_ok wf_law04_within (by decide) .nil (fun x hx => Nat.zero_lt_one) g_law04_within

theorem one_take {a : List (List UInt8)} {i : Nat} (h : i < a.length) : List.drop i (List.take (i + 1) a) = [a.getD i []] := by
  rw [List.take_succ_eq_append_getElem h, List.drop_append_of_le_length (by rw [List.length_take]; omega), List.drop_of_length_le (by rw [List.length_take]; omega), getD_ok [] h]; rfl

@[reducible] noncomputable def S_law04_apart : Spec := { ins := (.cons (.d (.sl .str)) (.cons (.d (.sl .str)) .nil)), pre := fun _ => True, alts := [{ outs := (.cons (.d .bool) .nil), res := (fun x => (fun a b => (boolOf (apartL a b), ())) x.1 x.2.1) }] }
noncomputable def c_law04_apart : Cf := (cf_law04_apart (Fl [(fi_law04_within, S_law04_within)]))
set_option maxRecDepth 100000 in
set_option maxHeartbeats 4000000 in
theorem g_law04_apart : ∀ x, S_law04_apart.pre x → shOK S_law04_apart.ins x → fnGoal c_law04_apart fn_law04_apart S_law04_apart x := by
  rintro ⟨a, b, ⟨⟩⟩ hpre hok
  clear hpre
  have hln := shLn_of _ hok; replace hok := Hd.mk hok; try simp only [shLn, datLn, inRng, lo, hi, maxLen, true_and, and_true] at hln
  first | refine fn_goal (w_head ?_)
  intro K_ hK_; (conv => whnf); (try dsimp +instances only); refine hK_ _ ?_; clear hK_ K_; (conv => (arg 2; whnf))
  repeat' (first | with_reducible refine And.intro ?_ ?_ | ((try with_reducible refine gv_more ?_); first | ((with_reducible show K_ _); (try dsimp +instances only); (with_reducible refine hK_ _ ?_); clear hK_ K_) | with_reducible refine st ?_ | ((with_reducible first | refine w_region ?_ | refine w_head ?_); intro K_ hK_; conv => whnf) | ((with_reducible refine w_cond ?_); (conv => arg 2; whnf); with_reducible first | refine condK_p ?_ ?_ | refine st ?_ | refine condK_b ?_ ?_) | refine blockK_y (by rfl) ?_ | ((with_reducible first | refine loopK_at ?_ | refine retK_r ?_ | refine retK_n ?_); conv => whnf)) | ((with_reducible refine gv_more ?_); conv => whnf) | (intro hc; (try dsimp +instances only [Dat, SDat, dflt, Ty.size, keepS, bkUpd, Gv.bk, backS, wayA, maxI, minI, negI] at hc); (try simp only [LS] at hc)))
  all_goals (try ((fail_if_success with_reducible refine nl ?_); (try dsimp only [Dat, SDat, dflt, Ty.size, keepS, bkUpd, Gv.bk, backS, wayA, maxI, minI, negI]); (try simp only [LS]); first | done | exact trivial | rfl | omega | exact boolOf_eq _ | (simp only [allP, lo, hi, room, true_and, and_true, implies_true]; done) | ((try simp only [allP, lo, hi, room, true_and, and_true, implies_true]); (repeat' (first | with_reducible refine And.intro ?_ ?_ | ((with_reducible refine preA_t ?_ ?_); rotate_left; (focus (repeat (first | exact trivial | ((conv => whnf); refine And.intro (by rfl) ?_))))) | intro hv)) <;> (try omega))))
  refine w_loop [(5, .d tInt)] [] (fun y => ∃ i : Nat, y.1.1 = (i : Int) ∧ i ≤ a.length ∧ ∀ z, z ∈ a.take i → z ∉ b) (fun y => a.length - y.1.1.toNat) ?_
  conv => whnf
  refine And.intro ?_ ?_
  · exact ⟨0, rfl, Nat.zero_le _, by simp⟩
  rintro ⟨⟨_, ⟨⟩⟩, ⟨⟩⟩ ⟨i, rfl, hi, hin⟩
  have ei : ((i : Int) + 1).toNat = i + 1 := by omega
  have ho : i < a.length → (inAll (List.drop i (List.take (i + 1) a)) b ↔ a.getD i [] ∈ b) := fun h => by
    rw [one_take h]; unfold inAll; simp
  repeat' (first | with_reducible refine And.intro ?_ ?_ | ((try with_reducible refine gv_more ?_); first | ((with_reducible show K_ _); (try dsimp +instances only); (with_reducible refine hK_ _ ?_); clear hK_ K_) | with_reducible refine st ?_ | ((with_reducible first | refine w_region ?_ | refine w_head ?_); intro K_ hK_; conv => whnf) | ((with_reducible refine w_cond ?_); (conv => arg 2; whnf); with_reducible first | refine condK_p ?_ ?_ | refine st ?_ | refine condK_b ?_ ?_) | refine blockK_y (by rfl) ?_ | ((with_reducible first | refine loopK_at ?_ | refine retK_r ?_ | refine retK_n ?_); conv => whnf)) | ((with_reducible refine gv_more ?_); conv => whnf) | (intro hc; (try dsimp +instances only [Dat, SDat, dflt, Ty.size, keepS, bkUpd, Gv.bk, backS, wayA, maxI, minI, negI] at hc); (try simp only [LS] at hc)))
  all_goals (try ((fail_if_success with_reducible refine nl ?_); (try dsimp only [Dat, SDat, dflt, Ty.size, keepS, bkUpd, Gv.bk, backS, wayA, maxI, minI, negI]); (try simp only [LS]); first | done | exact trivial | rfl | omega | exact boolOf_eq _ | (simp only [allP, lo, hi, room, true_and, and_true, implies_true]; done) | ((try simp only [allP, lo, hi, room, true_and, and_true, implies_true]); (repeat' (first | with_reducible refine And.intro ?_ ?_ | ((with_reducible refine preA_t ?_ ?_); rotate_left; (focus (repeat (first | exact trivial | ((conv => whnf); refine And.intro (by rfl) ?_))))) | intro hv)) <;> (try omega))))
  · simp only [Gv.hi]; omega
  · have h3 : i < a.length := by omega
    rw [ei, ho h3] at hc
    exact bF fun h => h _ (getD_mem h3) hc
  · simp only [Gv.hi]; omega
  · refine ⟨i + 1, by omega, by omega, fun z hz => ?_⟩
    have h3 : i < a.length := by omega
    rw [ei, ho h3] at hc
    rw [List.take_succ_eq_append_getElem h3, List.mem_append, List.mem_singleton] at hz
    rcases hz with hz | hz
    · exact hin z hz
    · rw [hz, ← getD_ok [] h3]; exact hc
  · rw [List.take_of_length_le (by omega)] at hin
    exact bT hin
set_option maxRecDepth 100000 in
theorem ok_law04_apart : SpecOK SP glob fi_law04_apart S_law04_apart := mk_ok (c := c_law04_apart) (tab_ok _) mix_ok wf_law04_apart (by decide) (.cons ok_law04_within .nil) (fun x hx => Nat.zero_lt_one) g_law04_apart

@[reducible] noncomputable def S_law04_MeasureSets : Spec := { ins := (.cons (.d (.sl .str)) (.cons (.d (.sl .str)) (.cons (.d (.sl .str)) .nil))), pre := fun _ => True, alts := [{ outs := (.cons (.d .bool) .nil), res := (fun x => (fun l m n => (true, ())) x.1 x.2.1 x.2.2.1) }], noisy := true }
noncomputable def c_law04_MeasureSets : Cf := { cf_law04_MeasureSets (Fl [(fi_law04_head, S_law04_head), (fi_ref04_Few, S_ref04_Few), (fi_measure_Jaccard, S_measure_Jaccard), (fi_law04_of, S_law04_of), (fi_law04_within, S_law04_within), (fi_law04_apart, S_law04_apart), (fi_ratio_Add, S_ratio_Add), (fi_ratio_Cmp, S_ratio_Cmp)]) with nz := true }
set_option maxRecDepth 100000 in
set_option maxHeartbeats 4000000 in
theorem g_law04_MeasureSets : ∀ x, S_law04_MeasureSets.pre x → shOK S_law04_MeasureSets.ins x → fnGoal c_law04_MeasureSets fn_law04_MeasureSets S_law04_MeasureSets x := by
  rintro ⟨l, m, n, ⟨⟩⟩ hpre hok
  clear hpre
  have hln := shLn_of _ hok; replace hok := Hd.mk hok; try simp only [shLn, datLn, inRng, lo, hi, maxLen, true_and, and_true] at hln
  have hs : fewL [l, m, n] → l.length ≤ 40 ∧ m.length ≤ 40 ∧ n.length ≤ 40 := fun h => ⟨(h l (by simp)).1, (h m (by simp)).1, (h n (by simp)).1⟩
  have h1 : fewL [l, m, n] → (jcV l m = rt 1 1 ↔ inAll l m ∧ inAll m l) := fun h => jc_one (by have := hs h; omega) (by have := hs h; omega)
  have h0 : fewL [l, m, n] → (jcV l m = rt 0 1 ↔ apartL l m ∧ (0 < (l.length : Int) ∨ 0 < (m.length : Int))) := fun h => by
    rw [jc_none (by have := hs h; omega) (by have := hs h; omega)]
    unfold apartL
    cases l <;> cases m <;> simp
    all_goals (try omega)
  have ht : fewL [l, m, n] → sumE (rt 1 1) (jcV l m) = 0 ∧ sumE (jcV l n) (jcV n m) = 0 ∧ 0 ≤ cmpR (sumV (rt 1 1) (jcV l m)) (sumV (jcV l n) (jcV n m)) := fun h => by
    have k := hs h
    have u1 := (jc_unit (a := l) (b := m) (by omega) (by omega)).1
    have u2 := (jc_unit (a := l) (b := n) (by omega) (by omega)).1
    have u3 := (jc_unit (a := n) (b := m) (by omega) (by omega)).1
    have u4 : validR (rt 1 1) := by decide
    have t := jc_tri k.1 k.2.1 k.2.2
    rw [sumE_ok ⟨u4, u1⟩, sumE_ok ⟨u2, u3⟩, sumV_ok ⟨u4, u1⟩, sumV_ok ⟨u2, u3⟩]
    exact ⟨t.1, t.2.1, Int.not_lt.1 t.2.2⟩
  first | refine fn_goal (w_head ?_)
  intro K_ hK_; (conv => whnf); (try dsimp +instances only); refine hK_ _ ?_; clear hK_ K_; (conv => (arg 2; whnf))
  repeat' (first | with_reducible refine And.intro ?_ ?_ | ((try with_reducible refine gv_more ?_); first | ((with_reducible show K_ _); (try dsimp +instances only); (with_reducible refine hK_ _ ?_); clear hK_ K_) | with_reducible refine st ?_ | ((with_reducible first | refine w_region ?_ | refine w_head ?_); intro K_ hK_; conv => whnf) | ((with_reducible refine w_cond ?_); (conv => arg 2; whnf); with_reducible first | refine condK_p ?_ ?_ | refine st ?_ | refine condK_b ?_ ?_) | refine blockK_y (by rfl) ?_ | ((with_reducible first | refine loopK_at ?_ | refine retK_r ?_ | refine retK_n ?_); conv => whnf)) | ((with_reducible refine gv_more ?_); conv => whnf) | (intro hc; (try dsimp +instances only [Dat, SDat, dflt, Ty.size, keepS, bkUpd, Gv.bk, backS, wayA, maxI, minI, negI] at hc); (try simp only [LS] at hc)))
  all_goals (try ((fail_if_success with_reducible refine nl ?_); (try dsimp only [Dat, SDat, dflt, Ty.size, keepS, bkUpd, Gv.bk, backS, wayA, maxI, minI, negI]); (try simp only [LS]); first | done | exact trivial | rfl | omega | exact boolOf_eq _ | (simp only [allP, lo, hi, room, true_and, and_true, implies_true]; done) | ((try simp only [allP, lo, hi, room, true_and, and_true, implies_true]); (repeat' (first | with_reducible refine And.intro ?_ ?_ | ((with_reducible refine preA_t ?_ ?_); rotate_left; (focus (repeat (first | exact trivial | ((conv => whnf); refine And.intro (by rfl) ?_))))) | intro hv)) <;> (try omega))))
  all_goals (have k : fewL [l, m, n] := by assumption)
  all_goals (have hs := hs k)
  all_goals (first
    | omega
    | (exfalso; exact hc.elim (fun h => h (h1 k)) fun h => h (h0 k))
    | exact (ht k).1
    | exact (ht k).2.1
    | exact (ht k).2.2)
set_option maxRecDepth 100000 in
theorem ok_law04_MeasureSets : SpecOK SP glob fi_law04_MeasureSets S_law04_MeasureSets := mk_ok (c := c_law04_MeasureSets) (tab_ok _) mix_ok wf_law04_MeasureSets (by decide) (.cons ok_law04_head (.cons ok_ref04_Few (.cons ok_measure_Jaccard (.cons ok_law04_of (.cons ok_law04_within (.cons ok_law04_apart (.cons ok_ratio_Add (.cons ok_ratio_Cmp .nil)))))))) (fun x hx => Nat.zero_lt_one) g_law04_MeasureSets
end Go.Gv
