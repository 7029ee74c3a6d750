/- Chapter 4: sizes of the statements' arguments; validity of ratios by the reference. -/
import Derived.Test.YtjlighbppoffhaaDoorC04e
set_option linter.all false
namespace Go.Gv
open Go Go.Proofs Go.Proofs.YtjlighbppoffhaaDoor

def shortL (n : Int) (l : List (List UInt8)) : Prop := ∀ s ∈ l, (s.length : Int) ≤ n

@[reducible] noncomputable def S_ref04_Short : Spec := { ins := (.cons (.d tInt) (.cons (.d (.sl .str)) .nil)), pre := fun _ => True, alts := [{ outs := (.cons (.d .bool) .nil), res := (fun x => (fun n l => (boolOf (shortL n l), ())) x.1 x.2.1) }] }
noncomputable def c_ref04_Short : Cf := (cf_ref04_Short (Fl []))
set_option maxRecDepth 100000 in
set_option maxHeartbeats 4000000 in
theorem g_ref04_Short : ∀ x, S_ref04_Short.pre x → shOK S_ref04_Short.ins x → fnGoal c_ref04_Short fn_ref04_Short S_ref04_Short x := by
  rintro ⟨n, l, ⟨⟩⟩ hpre hok
  clear hpre
  have hln := shLn_of _ hok; replace hok := Hd.mk hok; try simp only [shLn, datLn, inRng, lo, hi, maxLen, true_and, and_true] at hln
  first | refine fn_goal (w_head ?_)
  intro K_ hK_; (conv => whnf); (try dsimp +instances only); refine hK_ _ ?_; clear hK_ K_; (conv => (arg 2; whnf))
  repeat' (first | with_reducible refine And.intro ?_ ?_ | ((try with_reducible refine gv_more ?_); first | ((with_reducible show K_ _); (try dsimp +instances only); (with_reducible refine hK_ _ ?_); clear hK_ K_) | with_reducible refine st ?_ | ((with_reducible first | refine w_region ?_ | refine w_head ?_); intro K_ hK_; conv => whnf) | ((with_reducible refine w_cond ?_); (conv => arg 2; whnf); with_reducible first | refine condK_p ?_ ?_ | refine st ?_ | refine condK_b ?_ ?_) | refine blockK_y (by rfl) ?_ | ((with_reducible first | refine loopK_at ?_ | refine retK_r ?_ | refine retK_n ?_); conv => whnf)) | ((with_reducible refine gv_more ?_); conv => whnf) | (intro hc; (try dsimp +instances only [Dat, SDat, dflt, Ty.size, keepS, bkUpd, Gv.bk, backS, wayA, maxI, minI, negI] at hc); (try simp only [LS] at hc)))
  all_goals (try ((fail_if_success with_reducible refine nl ?_); (try dsimp only [Dat, SDat, dflt, Ty.size, keepS, bkUpd, Gv.bk, backS, wayA, maxI, minI, negI]); (try simp only [LS]); first | done | exact trivial | rfl | omega | exact boolOf_eq _ | (simp only [allP, lo, hi, room, true_and, and_true, implies_true]; done) | ((try simp only [allP, lo, hi, room, true_and, and_true, implies_true]); (repeat' (first | with_reducible refine And.intro ?_ ?_ | ((with_reducible refine preA_t ?_ ?_); rotate_left; (focus (repeat (first | exact trivial | ((conv => whnf); refine And.intro (by rfl) ?_))))) | intro hv)) <;> (try omega))))
  refine w_loop [(5, .d tInt)] [] (fun y => ∃ k : Nat, y.1.1 = (k : Int) ∧ k ≤ l.length ∧ ∀ s ∈ l.take k, (List.length s : Int) ≤ n) (fun y => l.length - y.1.1.toNat) ?_
  conv => whnf
  refine And.intro ?_ ?_
  · exact ⟨0, rfl, Nat.zero_le _, by simp⟩
  rintro ⟨⟨_, ⟨⟩⟩, ⟨⟩⟩ ⟨k, rfl, hk, hi⟩
  repeat' (first | with_reducible refine And.intro ?_ ?_ | ((try with_reducible refine gv_more ?_); first | ((with_reducible show K_ _); (try dsimp +instances only); (with_reducible refine hK_ _ ?_); clear hK_ K_) | with_reducible refine st ?_ | ((with_reducible first | refine w_region ?_ | refine w_head ?_); intro K_ hK_; conv => whnf) | ((with_reducible refine w_cond ?_); (conv => arg 2; whnf); with_reducible first | refine condK_p ?_ ?_ | refine st ?_ | refine condK_b ?_ ?_) | refine blockK_y (by rfl) ?_ | ((with_reducible first | refine loopK_at ?_ | refine retK_r ?_ | refine retK_n ?_); conv => whnf)) | ((with_reducible refine gv_more ?_); conv => whnf) | (intro hc; (try dsimp +instances only [Dat, SDat, dflt, Ty.size, keepS, bkUpd, Gv.bk, backS, wayA, maxI, minI, negI] at hc); (try simp only [LS] at hc)))
  all_goals (try ((fail_if_success with_reducible refine nl ?_); (try dsimp only [Dat, SDat, dflt, Ty.size, keepS, bkUpd, Gv.bk, backS, wayA, maxI, minI, negI]); (try simp only [LS]); first | done | exact trivial | rfl | omega | exact boolOf_eq _ | (simp only [allP, lo, hi, room, true_and, and_true, implies_true]; done) | ((try simp only [allP, lo, hi, room, true_and, and_true, implies_true]); (repeat' (first | with_reducible refine And.intro ?_ ?_ | ((with_reducible refine preA_t ?_ ?_); rotate_left; (focus (repeat (first | exact trivial | ((conv => whnf); refine And.intro (by rfl) ?_))))) | intro hv)) <;> (try omega))))
  all_goals (try (simp only [Gv.hi]; omega))
  · have h2 : k < l.length := by omega
    exact bF fun h => absurd (h _ (getD_mem (d := []) h2)) (by omega)
  · have h2 : k < l.length := by omega
    refine ⟨k + 1, by omega, by omega, fun s hs => ?_⟩
    rw [List.take_succ_eq_append_getElem h2, List.mem_append, List.mem_singleton] at hs
    rcases hs with hs | hs
    · exact hi s hs
    · rw [hs, ← getD_ok [] h2]; omega
  · rw [List.take_of_length_le (by omega)] at hi
    exact bT hi
set_option maxRecDepth 100000 in
theorem ok_ref04_Short : SpecOK SP glob fi_ref04_Short S_ref04_Short := mk_ok (c := c_ref04_Short) (tab_ok _) mix_ok wf_ref04_Short (by decide) .nil (fun x hx => Nat.zero_lt_one) g_ref04_Short

def fewL (l : List (List (List UInt8))) : Prop := ∀ m ∈ l, m.length ≤ 40 ∧ shortL 100 m

@[reducible] noncomputable def S_ref04_Few : Spec := { ins := (.cons (.d (.sl (.sl .str))) .nil), pre := fun _ => True, alts := [{ outs := (.cons (.d .bool) .nil), res := (fun x => (fun l => (boolOf (fewL l), ())) x.1) }] }
noncomputable def c_ref04_Few : Cf := (cf_ref04_Few (Fl [(fi_ref04_Short, S_ref04_Short)]))
set_option maxRecDepth 100000 in
set_option maxHeartbeats 4000000 in
theorem g_ref04_Few : ∀ x, S_ref04_Few.pre x → shOK S_ref04_Few.ins x → fnGoal c_ref04_Few fn_ref04_Few S_ref04_Few x := by
  rintro ⟨l, ⟨⟩⟩ hpre hok
  clear hpre
  have hln := shLn_of _ hok; replace hok := Hd.mk hok; try simp only [shLn, datLn, inRng, lo, hi, maxLen, true_and, and_true] at hln
  first | refine fn_goal (w_head ?_)
  intro K_ hK_; (conv => whnf); (try dsimp +instances only); refine hK_ _ ?_; clear hK_ K_; (conv => (arg 2; whnf))
  repeat' (first | with_reducible refine And.intro ?_ ?_ | ((try with_reducible refine gv_more ?_); first | ((with_reducible show K_ _); (try dsimp +instances only); (with_reducible refine hK_ _ ?_); clear hK_ K_) | with_reducible refine st ?_ | ((with_reducible first | refine w_region ?_ | refine w_head ?_); intro K_ hK_; conv => whnf) | ((with_reducible refine w_cond ?_); (conv => arg 2; whnf); with_reducible first | refine condK_p ?_ ?_ | refine st ?_ | refine condK_b ?_ ?_) | refine blockK_y (by rfl) ?_ | ((with_reducible first | refine loopK_at ?_ | refine retK_r ?_ | refine retK_n ?_); conv => whnf)) | ((with_reducible refine gv_more ?_); conv => whnf) | (intro hc; (try dsimp +instances only [Dat, SDat, dflt, Ty.size, keepS, bkUpd, Gv.bk, backS, wayA, maxI, minI, negI] at hc); (try simp only [LS] at hc)))
  all_goals (try ((fail_if_success with_reducible refine nl ?_); (try dsimp only [Dat, SDat, dflt, Ty.size, keepS, bkUpd, Gv.bk, backS, wayA, maxI, minI, negI]); (try simp only [LS]); first | done | exact trivial | rfl | omega | exact boolOf_eq _ | (simp only [allP, lo, hi, room, true_and, and_true, implies_true]; done) | ((try simp only [allP, lo, hi, room, true_and, and_true, implies_true]); (repeat' (first | with_reducible refine And.intro ?_ ?_ | ((with_reducible refine preA_t ?_ ?_); rotate_left; (focus (repeat (first | exact trivial | ((conv => whnf); refine And.intro (by rfl) ?_))))) | intro hv)) <;> (try omega))))
  refine w_loop [(3, .d tInt)] [] (fun y => ∃ k : Nat, y.1.1 = (k : Int) ∧ k ≤ l.length ∧ ∀ m ∈ l.take k, List.length m ≤ 40 ∧ shortL 100 m) (fun y => l.length - y.1.1.toNat) ?_
  conv => whnf
  refine And.intro ?_ ?_
  · exact ⟨0, rfl, Nat.zero_le _, by simp⟩
  rintro ⟨⟨_, ⟨⟩⟩, ⟨⟩⟩ ⟨k, rfl, hk, hi⟩
  repeat' (first | with_reducible refine And.intro ?_ ?_ | ((try with_reducible refine gv_more ?_); first | ((with_reducible show K_ _); (try dsimp +instances only); (with_reducible refine hK_ _ ?_); clear hK_ K_) | with_reducible refine st ?_ | ((with_reducible first | refine w_region ?_ | refine w_head ?_); intro K_ hK_; conv => whnf) | ((with_reducible refine w_cond ?_); (conv => arg 2; whnf); with_reducible first | refine condK_p ?_ ?_ | refine st ?_ | refine condK_b ?_ ?_) | refine blockK_y (by rfl) ?_ | ((with_reducible first | refine loopK_at ?_ | refine retK_r ?_ | refine retK_n ?_); conv => whnf)) | ((with_reducible refine gv_more ?_); conv => whnf) | (intro hc; (try dsimp +instances only [Dat, SDat, dflt, Ty.size, keepS, bkUpd, Gv.bk, backS, wayA, maxI, minI, negI] at hc); (try simp only [LS] at hc)))
  all_goals (try ((fail_if_success with_reducible refine nl ?_); (try dsimp only [Dat, SDat, dflt, Ty.size, keepS, bkUpd, Gv.bk, backS, wayA, maxI, minI, negI]); (try simp only [LS]); first | done | exact trivial | rfl | omega | exact boolOf_eq _ | (simp only [allP, lo, hi, room, true_and, and_true, implies_true]; done) | ((try simp only [allP, lo, hi, room, true_and, and_true, implies_true]); (repeat' (first | with_reducible refine And.intro ?_ ?_ | ((with_reducible refine preA_t ?_ ?_); rotate_left; (focus (repeat (first | exact trivial | ((conv => whnf); refine And.intro (by rfl) ?_))))) | intro hv)) <;> (try omega))))
  all_goals (try (simp only [Gv.hi]; omega))
  · have h2 : k < l.length := by omega
    refine bF fun h => ?_
    have h3 := h _ (getD_mem (d := []) h2)
    rcases hc with hc | hc
    · omega
    · exact hc h3.2
  · have h2 : k < l.length := by omega
    refine ⟨k + 1, by omega, by omega, fun s hs => ?_⟩
    rw [List.take_succ_eq_append_getElem h2, List.mem_append, List.mem_singleton] at hs
    rcases hs with hs | hs
    · exact hi s hs
    · rw [hs, ← getD_ok [] h2]
      obtain ⟨c1, c2⟩ := not_or.1 hc
      exact ⟨by omega, Classical.not_not.1 c2⟩
  · rw [List.take_of_length_le (by omega)] at hi
    exact bT hi
set_option maxRecDepth 100000 in
theorem ok_ref04_Few : SpecOK SP glob fi_ref04_Few S_ref04_Few := mk_ok (c := c_ref04_Few) (tab_ok _) mix_ok wf_ref04_Few (by decide) (.cons ok_ref04_Short .nil) (fun x hx => Nat.zero_lt_one) g_ref04_Few

@[reducible] noncomputable def S_law04_of : Spec := { ins := (.cons (.d tInt) (.cons (.d tInt) .nil)), pre := fun _ => True, alts := [{ outs := (.cons (.d tRt) .nil), res := (fun x => (fun n d => (rt n d, ())) x.1 x.2.1) }] }
noncomputable def c_law04_of : Cf := (cf_law04_of (Fl []))
set_option maxRecDepth 100000 in
set_option maxHeartbeats 4000000 in
theorem g_law04_of : ∀ x, S_law04_of.pre x → shOK S_law04_of.ins x → fnGoal c_law04_of fn_law04_of S_law04_of x := by
  rintro ⟨n, d, ⟨⟩⟩ hpre hok
  clear hpre
  have hln := shLn_of _ hok; replace hok := Hd.mk hok; try simp only [shLn, datLn, inRng, lo, hi, maxLen, true_and, and_true] at hln
  first | refine fn_goal (w_head ?_)
  intro K_ hK_; (conv => whnf); (try dsimp +instances only); refine hK_ _ ?_; clear hK_ K_; (conv => (arg 2; whnf))
  repeat' (first | with_reducible refine And.intro ?_ ?_ | ((try with_reducible refine gv_more ?_); first | ((with_reducible show K_ _); (try dsimp +instances only); (with_reducible refine hK_ _ ?_); clear hK_ K_) | with_reducible refine st ?_ | ((with_reducible first | refine w_region ?_ | refine w_head ?_); intro K_ hK_; conv => whnf) | ((with_reducible refine w_cond ?_); (conv => arg 2; whnf); with_reducible first | refine condK_p ?_ ?_ | refine st ?_ | refine condK_b ?_ ?_) | refine blockK_y (by rfl) ?_ | ((with_reducible first | refine loopK_at ?_ | refine retK_r ?_ | refine retK_n ?_); conv => whnf)) | ((with_reducible refine gv_more ?_); conv => whnf) | (intro hc; (try dsimp +instances only [Dat, SDat, dflt, Ty.size, keepS, bkUpd, Gv.bk, backS, wayA, maxI, minI, negI] at hc); (try simp only [LS] at hc)))
  all_goals (try ((fail_if_success with_reducible refine nl ?_); (try dsimp only [Dat, SDat, dflt, Ty.size, keepS, bkUpd, Gv.bk, backS, wayA, maxI, minI, negI]); (try simp only [LS]); first | done | exact trivial | rfl | omega | exact boolOf_eq _ | (simp only [allP, lo, hi, room, true_and, and_true, implies_true]; done) | ((try simp only [allP, lo, hi, room, true_and, and_true, implies_true]); (repeat' (first | with_reducible refine And.intro ?_ ?_ | ((with_reducible refine preA_t ?_ ?_); rotate_left; (focus (repeat (first | exact trivial | ((conv => whnf); refine And.intro (by rfl) ?_))))) | intro hv)) <;> (try omega))))
set_option maxRecDepth 100000 in
theorem ok_law04_of : SpecOK SP glob fi_law04_of S_law04_of := mk_ok (c := c_law04_of) (tab_ok _) mix_ok wf_law04_of (by decide) .nil (fun x hx => Nat.zero_lt_one) g_law04_of

@[reducible] noncomputable def S_law04_text : Spec := { ins := (.cons (.d .str) .nil), pre := fun _ => True, alts := [{ outs := (.cons (.d tVal) .nil), res := (fun x => (fun s => (((1 : Int), (0 : Int), s, ()), ())) x.1) }] }
noncomputable def c_law04_text : Cf := (cf_law04_text (Fl []))
set_option maxRecDepth 100000 in
set_option maxHeartbeats 4000000 in
theorem g_law04_text : ∀ x, S_law04_text.pre x → shOK S_law04_text.ins x → fnGoal c_law04_text fn_law04_text S_law04_text x := by
  rintro ⟨s, ⟨⟩⟩ hpre hok
  clear hpre
  have hln := shLn_of _ hok; replace hok := Hd.mk hok; try simp only [shLn, datLn, inRng, lo, hi, maxLen, true_and, and_true] at hln
  first | refine fn_goal (w_head ?_)
  intro K_ hK_; (conv => whnf); (try dsimp +instances only); refine hK_ _ ?_; clear hK_ K_; (conv => (arg 2; whnf))
  repeat' (first | with_reducible refine And.intro ?_ ?_ | ((try with_reducible refine gv_more ?_); first | ((with_reducible show K_ _); (try dsimp +instances only); (with_reducible refine hK_ _ ?_); clear hK_ K_) | with_reducible refine st ?_ | ((with_reducible first | refine w_region ?_ | refine w_head ?_); intro K_ hK_; conv => whnf) | ((with_reducible refine w_cond ?_); (conv => arg 2; whnf); with_reducible first | refine condK_p ?_ ?_ | refine st ?_ | refine condK_b ?_ ?_) | refine blockK_y (by rfl) ?_ | ((with_reducible first | refine loopK_at ?_ | refine retK_r ?_ | refine retK_n ?_); conv => whnf)) | ((with_reducible refine gv_more ?_); conv => whnf) | (intro hc; (try dsimp +instances only [Dat, SDat, dflt, Ty.size, keepS, bkUpd, Gv.bk, backS, wayA, maxI, minI, negI] at hc); (try simp only [LS] at hc)))
  all_goals (try ((fail_if_success with_reducible refine nl ?_); (try dsimp only [Dat, SDat, dflt, Ty.size, keepS, bkUpd, Gv.bk, backS, wayA, maxI, minI, negI]); (try simp only [LS]); first | done | exact trivial | rfl | omega | exact boolOf_eq _ | (simp only [allP, lo, hi, room, true_and, and_true, implies_true]; done) | ((try simp only [allP, lo, hi, room, true_and, and_true, implies_true]); (repeat' (first | with_reducible refine And.intro ?_ ?_ | ((with_reducible refine preA_t ?_ ?_); rotate_left; (focus (repeat (first | exact trivial | ((conv => whnf); refine And.intro (by rfl) ?_))))) | intro hv)) <;> (try omega))))
set_option maxRecDepth 100000 in
theorem ok_law04_text : SpecOK SP glob fi_law04_text S_law04_text := mk_ok (c := c_law04_text) (tab_ok _) mix_ok wf_law04_text (by decide) .nil (fun x hx => Nat.zero_lt_one) g_law04_text

theorem hm1 : edD [107, 105, 116, 116, 101, 110] [115, 105, 116, 116, 105, 110, 103] = 3 := by simp [ed_cons, ed_nil, ed_nilr]
theorem hm2 : alV [107, 105, 116, 116, 101, 110] [115, 105, 116, 116, 105, 110, 103] = rt 4 7 := by unfold alV; rw [hm1]; decide +kernel
theorem hm3 : alV [] [] = rt 1 1 := by unfold alV; rw [if_pos (by decide)]
theorem hm4 : jcV [[97], [98]] [[98], [99], [100]] = rt 1 4 := by decide +kernel
theorem hm5 : jrV [109, 97, 114, 116, 104, 97] [109, 97, 114, 104, 116, 97] = rt 17 18 := by decide +kernel
theorem hm6 : jrV [100, 105, 120, 111, 110] [100, 105, 99, 107, 115, 111, 110, 120] = rt 23 30 := by decide +kernel
theorem hm7 : nrV 10 12 3 = rt 1 2 := by decide +kernel
theorem hm8 : nrV 10 14 3 = rt 0 1 := by decide +kernel
theorem hm9 : ofV 3 0 (1, 0, [65, 110, 110, 32, 76, 101, 101], ()) (1, 0, [76, 69, 69, 44, 32, 65, 110, 110], ()) = rt 1 1 := by decide +kernel
theorem hm10 : ofE 3 0 (1, 0, [65, 110, 110, 32, 76, 101, 101], ()) (1, 0, [76, 69, 69, 44, 32, 65, 110, 110], ()) = 0 := by decide +kernel
theorem hm11 : ofE 2 0 (1, 0, [120], ()) (2, 0, [], ()) = 10 := by decide +kernel

@[reducible] noncomputable def S_law04_head : Spec := { ins := .nil, pre := fun _ => True, alts := [{ outs := (.cons (.d .bool) .nil), res := (fun _ => (true, ())) }], noisy := true }
noncomputable def c_law04_head : Cf := { cf_law04_head (Fl [(fi_law04_of, S_law04_of), (fi_law04_text, S_law04_text), (fi_measure_Edit, S_measure_Edit), (fi_measure_Alike, S_measure_Alike), (fi_measure_Jaccard, S_measure_Jaccard), (fi_measure_Jaro, S_measure_Jaro), (fi_measure_Near, S_measure_Near), (fi_measure_Of, S_measure_Of)]) with nz := true }
set_option maxRecDepth 100000 in
set_option maxHeartbeats 4000000 in
theorem g_law04_head : ∀ x, S_law04_head.pre x → shOK S_law04_head.ins x → fnGoal c_law04_head fn_law04_head S_law04_head x := by
  rintro ⟨⟩ hpre hok
  clear hpre
  have hln := shLn_of _ hok; replace hok := Hd.mk hok; try simp only [shLn, datLn, inRng, lo, hi, maxLen, true_and, and_true] at hln
  first | refine fn_goal (w_head ?_)
  intro K_ hK_; (conv => whnf); (try dsimp +instances only); refine hK_ _ ?_; clear hK_ K_; (conv => (arg 2; whnf))
  repeat' (first | with_reducible refine And.intro ?_ ?_ | ((try with_reducible refine gv_more ?_); first | ((with_reducible show K_ _); (try dsimp +instances only); (with_reducible refine hK_ _ ?_); clear hK_ K_) | with_reducible refine st ?_ | ((with_reducible first | refine w_region ?_ | refine w_head ?_); intro K_ hK_; conv => whnf) | ((with_reducible refine w_cond ?_); (conv => arg 2; whnf); with_reducible first | refine condK_p ?_ ?_ | refine st ?_ | refine condK_b ?_ ?_) | refine blockK_y (by rfl) ?_ | ((with_reducible first | refine loopK_at ?_ | refine retK_r ?_ | refine retK_n ?_); conv => whnf)) | ((with_reducible refine gv_more ?_); conv => whnf) | (intro hc; (try dsimp +instances only [Dat, SDat, dflt, Ty.size, keepS, bkUpd, Gv.bk, backS, wayA, maxI, minI, negI] at hc); (try simp only [LS] at hc)))
  all_goals (try ((fail_if_success with_reducible refine nl ?_); (try dsimp only [Dat, SDat, dflt, Ty.size, keepS, bkUpd, Gv.bk, backS, wayA, maxI, minI, negI]); (try simp only [LS]); first | done | exact trivial | rfl | omega | exact boolOf_eq _ | (simp only [allP, lo, hi, room, true_and, and_true, implies_true]; done) | ((try simp only [allP, lo, hi, room, true_and, and_true, implies_true]); (repeat' (first | with_reducible refine And.intro ?_ ?_ | ((with_reducible refine preA_t ?_ ?_); rotate_left; (focus (repeat (first | exact trivial | ((conv => whnf); refine And.intro (by rfl) ?_))))) | intro hv)) <;> (try omega))))
  all_goals (first
    | (rw [hm1]; rfl)
    | exact hm2
    | (rw [ed_nil]; rfl)
    | exact hm3
    | exact hm4
    | exact hm5
    | exact hm6
    | exact hm7
    | exact hm8
    | exact hm9
    | exact hm10
    | exact hm11)
set_option maxRecDepth 100000 in
theorem ok_law04_head : SpecOK SP glob fi_law04_head S_law04_head := mk_ok (c := c_law04_head) (tab_ok _) mix_ok wf_law04_head (by decide) (.cons ok_law04_of (.cons ok_law04_text (.cons ok_measure_Edit (.cons ok_measure_Alike (.cons ok_measure_Jaccard (.cons ok_measure_Jaro (.cons ok_measure_Near (.cons ok_measure_Of .nil)))))))) (fun x hx => Nat.zero_lt_one) g_law04_head

theorem short3 {n : Int} {a b c : List UInt8} (h : shortL n [a, b, c]) : (a.length : Int) ≤ n ∧ (b.length : Int) ≤ n ∧ (c.length : Int) ≤ n := ⟨h a (by simp), h b (by simp), h c (by simp)⟩

@[reducible] noncomputable def S_law04_MeasureMetric : Spec := { ins := (.cons (.d .str) (.cons (.d .str) (.cons (.d .str) .nil))), pre := fun _ => True, alts := [{ outs := (.cons (.d .bool) .nil), res := (fun x => (fun a b c => (true, ())) x.1 x.2.1 x.2.2.1) }], noisy := true }
noncomputable def c_law04_MeasureMetric : Cf := { cf_law04_MeasureMetric (Fl [(fi_law04_head, S_law04_head), (fi_ref04_Short, S_ref04_Short), (fi_measure_Edit, S_measure_Edit)]) with nz := true }
set_option maxRecDepth 100000 in
set_option maxHeartbeats 4000000 in
theorem g_law04_MeasureMetric : ∀ x, S_law04_MeasureMetric.pre x → shOK S_law04_MeasureMetric.ins x → fnGoal c_law04_MeasureMetric fn_law04_MeasureMetric S_law04_MeasureMetric x := by
  rintro ⟨a, b, c, ⟨⟩⟩ hpre hok
  clear hpre
  have hln := shLn_of _ hok; replace hok := Hd.mk hok; try simp only [shLn, datLn, inRng, lo, hi, maxLen, true_and, and_true] at hln
  have t1 := ed_tri a c b
  have s1 := ed_symm a b
  have l1 := ed_lower a b
  have l2 := ed_lower b a
  have u1 := ed_upper a b
  have z1 := ed_zero a b
  have e1 : a = b → edD a b = 0 := fun e => by rw [e]; exact ed_self b
  have u2 := ed_upper a c
  have u3 := ed_upper c b
  have hs := short3 (n := 300) (a := a) (b := b) (c := c)
  first | refine fn_goal (w_head ?_)
  intro K_ hK_; (conv => whnf); (try dsimp +instances only); refine hK_ _ ?_; clear hK_ K_; (conv => (arg 2; whnf))
  repeat' (first | with_reducible refine And.intro ?_ ?_ | ((try with_reducible refine gv_more ?_); first | ((with_reducible show K_ _); (try dsimp +instances only); (with_reducible refine hK_ _ ?_); clear hK_ K_) | with_reducible refine st ?_ | ((with_reducible first | refine w_region ?_ | refine w_head ?_); intro K_ hK_; conv => whnf) | ((with_reducible refine w_cond ?_); (conv => arg 2; whnf); with_reducible first | refine condK_p ?_ ?_ | refine st ?_ | refine condK_b ?_ ?_) | refine blockK_y (by rfl) ?_ | ((with_reducible first | refine loopK_at ?_ | refine retK_r ?_ | refine retK_n ?_); conv => whnf)) | ((with_reducible refine gv_more ?_); conv => whnf) | (intro hc; (try dsimp +instances only [Dat, SDat, dflt, Ty.size, keepS, bkUpd, Gv.bk, backS, wayA, maxI, minI, negI] at hc); (try simp only [LS] at hc)))
  all_goals (try ((fail_if_success with_reducible refine nl ?_); (try dsimp only [Dat, SDat, dflt, Ty.size, keepS, bkUpd, Gv.bk, backS, wayA, maxI, minI, negI]); (try simp only [LS]); first | done | exact trivial | rfl | omega | exact boolOf_eq _ | (simp only [allP, lo, hi, room, true_and, and_true, implies_true]; done) | ((try simp only [allP, lo, hi, room, true_and, and_true, implies_true]); (repeat' (first | with_reducible refine And.intro ?_ ?_ | ((with_reducible refine preA_t ?_ ?_); rotate_left; (focus (repeat (first | exact trivial | ((conv => whnf); refine And.intro (by rfl) ?_))))) | intro hv)) <;> (try omega))))
  all_goals (have hs := hs (by assumption))
  all_goals (try omega)
  rcases hc with (hc | hc) | hc
  · exact (hc ⟨fun h => z1 (by omega), fun h => by rw [e1 h]; rfl⟩).elim
  · omega
  · omega
set_option maxRecDepth 100000 in
theorem ok_law04_MeasureMetric : SpecOK SP glob fi_law04_MeasureMetric S_law04_MeasureMetric := mk_ok (c := c_law04_MeasureMetric) (tab_ok _) mix_ok wf_law04_MeasureMetric (by decide) (.cons ok_law04_head (.cons ok_ref04_Short (.cons ok_measure_Edit .nil))) (fun x hx => Nat.zero_lt_one) g_law04_MeasureMetric

theorem tmod_len (q : Int) (n : Nat) (h : 0 ≤ q) : 0 ≤ Int.tmod q ((n : Int) + 1) ∧ Int.tmod q ((n : Int) + 1) ≤ (n : Int) := by
  rw [Int.tmod_eq_emod_of_nonneg h]
  have h1 := Int.emod_nonneg q (show ((n : Int) + 1) ≠ 0 by omega)
  have h2 := Int.emod_lt_of_pos q (show 0 < ((n : Int) + 1) by omega)
  omega
theorem ins_one (x : UInt8) (a b : Bs) (k : Nat) : edD (List.drop 0 (List.take k a) ++ [x] ++ List.drop k (List.take a.length a)) b ≤ edD a b + 1 ∧ edD a b ≤ edD (List.drop 0 (List.take k a) ++ [x] ++ List.drop k (List.take a.length a)) b + 1 := by
  have h := ed_one x (a.take k) (a.drop k) b
  rw [List.take_append_drop] at h
  rw [List.drop_zero, List.take_length]
  exact h

@[reducible] noncomputable def S_law04_MeasureParts : Spec := { ins := (.cons (.d .str) (.cons (.d .str) (.cons (.d .str) (.cons (.d tBy) (.cons (.d tBy) .nil))))), pre := fun _ => True, alts := [{ outs := (.cons (.d .bool) .nil), res := (fun x => (fun a b c q x => (true, ())) x.1 x.2.1 x.2.2.1 x.2.2.2.1 x.2.2.2.2.1) }], noisy := true }
noncomputable def c_law04_MeasureParts : Cf := { cf_law04_MeasureParts (Fl [(fi_law04_head, S_law04_head), (fi_ref04_Short, S_ref04_Short), (fi_measure_Edit, S_measure_Edit)]) with nz := true }
set_option maxRecDepth 100000 in
set_option maxHeartbeats 4000000 in
theorem g_law04_MeasureParts : ∀ x, S_law04_MeasureParts.pre x → shOK S_law04_MeasureParts.ins x → fnGoal c_law04_MeasureParts fn_law04_MeasureParts S_law04_MeasureParts x := by
  rintro ⟨a, b, c, q, x, ⟨⟩⟩ hpre hok
  clear hpre
  have hln := shLn_of _ hok; replace hok := Hd.mk hok; try simp only [shLn, datLn, inRng, lo, hi, maxLen, true_and, and_true] at hln
  have hs := short3 (n := 150) (a := a) (b := b) (c := c)
  have hab : 0 ≤ q ∧ q ≤ 255 := hln.2.2.2.1
  have htm := tmod_len q a.length hab.1
  have ud := ed_upper a b
  have p1 : edD (c ++ a) (c ++ b) = edD a b := ed_pre c a b
  have p2 : edD (a ++ c) (b ++ c) = edD a b := ed_suf c a b
  have p3 := ins_one (byteOf x) a b (Int.tmod q (a.length + 1)).toNat
  have ln1 : (List.drop 0 (List.take (Int.tmod q (a.length + 1)).toNat a)).length = (Int.tmod q (a.length + 1)).toNat := by rw [List.drop_zero, List.length_take]; omega
  have ln2 : (List.drop (Int.tmod q (a.length + 1)).toNat (List.take a.length a)).length = a.length - (Int.tmod q (a.length + 1)).toNat := by rw [List.length_drop, List.take_length]
  first | refine fn_goal (w_head ?_)
  intro K_ hK_; (conv => whnf); (try dsimp +instances only); refine hK_ _ ?_; clear hK_ K_; (conv => (arg 2; whnf))
  repeat' (first | with_reducible refine And.intro ?_ ?_ | ((try with_reducible refine gv_more ?_); first | ((with_reducible show K_ _); (try dsimp +instances only); (with_reducible refine hK_ _ ?_); clear hK_ K_) | with_reducible refine st ?_ | ((with_reducible first | refine w_region ?_ | refine w_head ?_); intro K_ hK_; conv => whnf) | ((with_reducible refine w_cond ?_); (conv => arg 2; whnf); with_reducible first | refine condK_p ?_ ?_ | refine st ?_ | refine condK_b ?_ ?_) | refine blockK_y (by rfl) ?_ | ((with_reducible first | refine loopK_at ?_ | refine retK_r ?_ | refine retK_n ?_); conv => whnf)) | ((with_reducible refine gv_more ?_); conv => whnf) | (intro hc; (try dsimp +instances only [Dat, SDat, dflt, Ty.size, keepS, bkUpd, Gv.bk, backS, wayA, maxI, minI, negI] at hc); (try simp only [LS] at hc)))
  all_goals (try ((fail_if_success with_reducible refine nl ?_); (try dsimp only [Dat, SDat, dflt, Ty.size, keepS, bkUpd, Gv.bk, backS, wayA, maxI, minI, negI]); (try simp only [LS]); first | done | exact trivial | rfl | omega | exact boolOf_eq _ | (simp only [allP, lo, hi, room, true_and, and_true, implies_true]; done) | ((try simp only [allP, lo, hi, room, true_and, and_true, implies_true]); (repeat' (first | with_reducible refine And.intro ?_ ?_ | ((with_reducible refine preA_t ?_ ?_); rotate_left; (focus (repeat (first | exact trivial | ((conv => whnf); refine And.intro (by rfl) ?_))))) | intro hv)) <;> (try omega))))
  all_goals (have hs := hs (by assumption))
  all_goals (try rw [ln1])
  all_goals (try rw [ln2])
  all_goals (try (simp only [maxLen]; omega))
  all_goals (try omega)
  · have := p3.1; rw [List.map_singleton]; omega
  · have := p3.2; rw [List.map_singleton]; omega
set_option maxRecDepth 100000 in
theorem ok_law04_MeasureParts : SpecOK SP glob fi_law04_MeasureParts S_law04_MeasureParts := mk_ok (c := c_law04_MeasureParts) (tab_ok _) mix_ok wf_law04_MeasureParts (by decide) (.cons ok_law04_head (.cons ok_ref04_Short (.cons ok_measure_Edit .nil))) (fun x hx => Nat.zero_lt_one) g_law04_MeasureParts
end Go.Gv
