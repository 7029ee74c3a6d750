/- Chapter 20: sizes, validity by the reference, examples; both ways. -/
import Derived.Test.YtganngkllfpgiaaGreatDoorC20b
set_option linter.all false
namespace Go.Gv
open Go Go.Proofs Go.Proofs.YtganngkllfpgiaaGreatDoor
set_option maxRecDepth 100000
set_option maxHeartbeats 4000000

structure FewM (ms : List Ma) (rs : List Rc) (n : Int) : Prop where
  fm : ms.length ≤ 8
  fr : (rs.length : Int) ≤ n
  ft : ∀ m ∈ ms, m.2.2.2.1.length ≤ 20
  fc : ∀ r ∈ rs, r.2.2.2.1.length ≤ 14 ∧ ∀ c ∈ r.2.2.2.1, (c : Ce).1.2.2.1.length ≤ 210

@[reducible] noncomputable def S_ref20_Few : Spec := { ins := (.cons (.d (.sl tMat)) (.cons (.d (.sl tRec)) (.cons (.d tInt) .nil))), pre := fun _ => True, alts := [{ outs := (.cons (.d .bool) .nil), res := (fun x => (fun ms rs n => (boolOf (FewM ms rs n), ())) x.1 x.2.1 x.2.2.1) }] }
noncomputable def c_ref20_Few : Cf := (cf_ref20_Few (Fl []))
theorem g_ref20_Few : ∀ x, S_ref20_Few.pre x → shOK S_ref20_Few.ins x → fnGoal c_ref20_Few fn_ref20_Few S_ref20_Few x := by
  rintro ⟨ms, rs, n, ⟨⟩⟩ hpre hok
  clear hpre
  have hln := shLn_of _ hok; replace hok := Hd.mk hok; try simp only [shLn, datLn, inRng, lo, hi, maxLen, true_and, and_true] at hln
  first | refine fn_goal (w_head ?_)
  intro K_ hK_; (conv => whnf); (try dsimp +instances only); refine hK_ _ ?_; clear hK_ K_; (conv => (arg 2; whnf))
  repeat' (first | with_reducible refine And.intro ?_ ?_ | ((try with_reducible refine gv_more ?_); first | ((with_reducible show K_ _); (try dsimp +instances only); (with_reducible refine hK_ _ ?_); clear hK_ K_) | with_reducible refine st ?_ | ((with_reducible refine sr ?_); intro K_ hK_; conv => whnf) | ((with_reducible refine w_cond ?_); (conv => arg 2; whnf); with_reducible refine st ?_) | refine blockK_y (by rfl) ?_ | ((with_reducible refine sw ?_); conv => whnf)) | ((with_reducible refine gv_more ?_); conv => whnf) | (intro hc; (try dsimp +instances only [Dat, SDat, dflt, Ty.size, keepS, bkUpd, Gv.bk, backS, wayA, maxI, minI, negI] at hc); (try simp only [LS] at hc)))
  all_goals (try ((fail_if_success with_reducible refine nl ?_); (try dsimp only [Dat, SDat, dflt, Ty.size, keepS, bkUpd, Gv.bk, backS, wayA, maxI, minI, negI]); (try simp only [LS]); first | done | exact dsc | ((try simp only [allP, lo, hi, room, true_and, and_true, implies_true]); (repeat' (first | with_reducible refine And.intro ?_ ?_ | ((with_reducible refine preA_t ?_ ?_); rotate_left; exact sameP_t) | intro hv)) <;> (try omega))))
  · exact bF fun h => hc.elim (fun k => by have := h.fm; omega) fun k => by have := h.fr; omega
  have h0 := hc
  refine w_loop [(7, .d tInt)] [] (fun y => ∃ k : Nat, y.1.1 = (k : Int) ∧ k ≤ ms.length ∧ ∀ m ∈ ms.take k, (m : Ma).2.2.2.1.length ≤ 20) (fun y => ms.length - y.1.1.toNat) ?_
  conv => whnf
  refine And.intro ?_ ?_
  · exact ⟨0, rfl, Nat.zero_le _, by simp⟩
  rintro ⟨⟨_, ⟨⟩⟩, ⟨⟩⟩ ⟨k, rfl, hk, hm⟩
  repeat' (first | with_reducible refine And.intro ?_ ?_ | ((try with_reducible refine gv_more ?_); first | ((with_reducible show K_ _); (try dsimp +instances only); (with_reducible refine hK_ _ ?_); clear hK_ K_) | with_reducible refine st ?_ | ((with_reducible refine sr ?_); intro K_ hK_; conv => whnf) | ((with_reducible refine w_cond ?_); (conv => arg 2; whnf); with_reducible refine st ?_) | refine blockK_y (by rfl) ?_ | ((with_reducible refine sw ?_); conv => whnf)) | ((with_reducible refine gv_more ?_); conv => whnf) | (intro hc; (try dsimp +instances only [Dat, SDat, dflt, Ty.size, keepS, bkUpd, Gv.bk, backS, wayA, maxI, minI, negI] at hc); (try simp only [LS] at hc)))
  all_goals (try ((fail_if_success with_reducible refine nl ?_); (try dsimp only [Dat, SDat, dflt, Ty.size, keepS, bkUpd, Gv.bk, backS, wayA, maxI, minI, negI]); (try simp only [LS]); first | done | exact dsc | ((try simp only [allP, lo, hi, room, true_and, and_true, implies_true]); (repeat' (first | with_reducible refine And.intro ?_ ?_ | ((with_reducible refine preA_t ?_ ?_); rotate_left; exact sameP_t) | intro hv)) <;> (try omega))))
  · have hk2 : k < ms.length := by omega
    exact bF fun h => by have := h.ft _ (getD_mem (d := (([], 0, 0, [], ()) : Ma)) hk2); omega
  · have hk2 : k < ms.length := by omega
    exact ⟨k + 1, by omega, by omega, all_step (d := (([], 0, 0, [], ()) : Ma)) hm hk2 (by omega)⟩
  have hm' : ∀ m ∈ ms, (m : Ma).2.2.2.1.length ≤ 20 := all_end hm (by omega)
  clear hm
  refine w_loop [(8, .d tInt)] [] (fun y => ∃ i : Nat, y.1.1 = (i : Int) ∧ i ≤ rs.length ∧ ∀ r ∈ rs.take i, (r : Rc).2.2.2.1.length ≤ 14 ∧ ∀ c ∈ r.2.2.2.1, (c : Ce).1.2.2.1.length ≤ 210) (fun y => rs.length - y.1.1.toNat) ?_
  conv => whnf
  refine And.intro ?_ ?_
  · exact ⟨0, rfl, Nat.zero_le _, by simp⟩
  rintro ⟨⟨_, ⟨⟩⟩, ⟨⟩⟩ ⟨i, rfl, hi, hr⟩
  repeat' (first | with_reducible refine And.intro ?_ ?_ | ((try with_reducible refine gv_more ?_); first | ((with_reducible show K_ _); (try dsimp +instances only); (with_reducible refine hK_ _ ?_); clear hK_ K_) | with_reducible refine st ?_ | ((with_reducible refine sr ?_); intro K_ hK_; conv => whnf) | ((with_reducible refine w_cond ?_); (conv => arg 2; whnf); with_reducible refine st ?_) | refine blockK_y (by rfl) ?_ | ((with_reducible refine sw ?_); conv => whnf)) | ((with_reducible refine gv_more ?_); conv => whnf) | (intro hc; (try dsimp +instances only [Dat, SDat, dflt, Ty.size, keepS, bkUpd, Gv.bk, backS, wayA, maxI, minI, negI] at hc); (try simp only [LS] at hc)))
  all_goals (try ((fail_if_success with_reducible refine nl ?_); (try dsimp only [Dat, SDat, dflt, Ty.size, keepS, bkUpd, Gv.bk, backS, wayA, maxI, minI, negI]); (try simp only [LS]); first | done | exact dsc | ((try simp only [allP, lo, hi, room, true_and, and_true, implies_true]); (repeat' (first | with_reducible refine And.intro ?_ ?_ | ((with_reducible refine preA_t ?_ ?_); rotate_left; exact sameP_t) | intro hv)) <;> (try omega))))
  · have hi2 : i < rs.length := by omega
    exact bF fun h => by have := (h.fc _ (getD_mem (d := (((0, [], [], ()), 0, 0, [], ()) : Rc)) hi2)).1; omega
  · refine w_loop [(9, .d tInt)] [] (fun y => ∃ j : Nat, y.1.1 = (j : Int) ∧ j ≤ (rs.getD i (((0, [], [], ()), 0, 0, [], ()) : Rc)).2.2.2.1.length ∧ ∀ c ∈ (rs.getD i (((0, [], [], ()), 0, 0, [], ()) : Rc)).2.2.2.1.take j, (c : Ce).1.2.2.1.length ≤ 210) (fun y => (rs.getD i (((0, [], [], ()), 0, 0, [], ()) : Rc)).2.2.2.1.length - y.1.1.toNat) ?_
    conv => whnf
    refine And.intro ?_ ?_
    · exact ⟨0, rfl, Nat.zero_le _, by simp⟩
    rintro ⟨⟨_, ⟨⟩⟩, ⟨⟩⟩ ⟨j, rfl, hj, hce⟩
    repeat' (first | with_reducible refine And.intro ?_ ?_ | ((try with_reducible refine gv_more ?_); first | ((with_reducible show K_ _); (try dsimp +instances only); (with_reducible refine hK_ _ ?_); clear hK_ K_) | with_reducible refine st ?_ | ((with_reducible refine sr ?_); intro K_ hK_; conv => whnf) | ((with_reducible refine w_cond ?_); (conv => arg 2; whnf); with_reducible refine st ?_) | refine blockK_y (by rfl) ?_ | ((with_reducible refine sw ?_); conv => whnf)) | ((with_reducible refine gv_more ?_); conv => whnf) | (intro hc; (try dsimp +instances only [Dat, SDat, dflt, Ty.size, keepS, bkUpd, Gv.bk, backS, wayA, maxI, minI, negI] at hc); (try simp only [LS] at hc)))
    all_goals (try ((fail_if_success with_reducible refine nl ?_); (try dsimp only [Dat, SDat, dflt, Ty.size, keepS, bkUpd, Gv.bk, backS, wayA, maxI, minI, negI]); (try simp only [LS]); first | done | exact dsc | ((try simp only [allP, lo, hi, room, true_and, and_true, implies_true]); (repeat' (first | with_reducible refine And.intro ?_ ?_ | ((with_reducible refine preA_t ?_ ?_); rotate_left; exact sameP_t) | intro hv)) <;> (try omega))))
    all_goals (try (simp only [Gv.hi]; omega))
    · have hi2 : i < rs.length := by omega
      have hj2 : j < (rs.getD i (((0, [], [], ()), 0, 0, [], ()) : Rc)).2.2.2.1.length := by omega
      exact bF fun h => by have := (h.fc _ (getD_mem (d := (((0, [], [], ()), 0, 0, [], ()) : Rc)) hi2)).2 _ (getD_mem (d := (((0, 0, [], ()), 0, 0, ()) : Ce)) hj2); omega
    · have hj2 : j < (rs.getD i (((0, [], [], ()), 0, 0, [], ()) : Rc)).2.2.2.1.length := by omega
      exact ⟨j + 1, by omega, by omega, all_step (d := (((0, 0, [], ()), 0, 0, ()) : Ce)) hce hj2 (by omega)⟩
    · have hi2 : i < rs.length := by omega
      exact ⟨i + 1, by omega, by omega, all_step (d := (((0, [], [], ()), 0, 0, [], ()) : Rc)) hr hi2 ⟨by omega, all_end hce (by omega)⟩⟩
  · exact bT ⟨by omega, by omega, hm', all_end hr (by omega)⟩
theorem ok_ref20_Few : SpecOK SP glob fi_ref20_Few S_ref20_Few := mk_ok (c := c_ref20_Few) (tab_ok _) mix_ok wf_ref20_Few (by decide) .nil (fun x hx => Nat.zero_lt_one) g_ref20_Few

@[reducible] noncomputable def S_ref20_Bools : Spec := { ins := (.cons (.d (.sl .bool)) (.cons (.d (.sl .bool)) .nil)), pre := fun _ => True, alts := [{ outs := (.cons (.d .bool) .nil), res := (fun x => (fun a b => (boolOf (a = b), ())) x.1 x.2.1) }] }
noncomputable def c_ref20_Bools : Cf := (cf_ref20_Bools (Fl []))
theorem g_ref20_Bools : ∀ x, S_ref20_Bools.pre x → shOK S_ref20_Bools.ins x → fnGoal c_ref20_Bools fn_ref20_Bools S_ref20_Bools x := by
  rintro ⟨a, b, ⟨⟩⟩ hpre hok
  clear hpre
  have hln := shLn_of _ hok; replace hok := Hd.mk hok; try simp only [shLn, datLn, inRng, lo, hi, maxLen, true_and, and_true] at hln
  first | refine fn_goal (w_head ?_)
  intro K_ hK_; (conv => whnf); (try dsimp +instances only); refine hK_ _ ?_; clear hK_ K_; (conv => (arg 2; whnf))
  repeat' (first | with_reducible refine And.intro ?_ ?_ | ((try with_reducible refine gv_more ?_); first | ((with_reducible show K_ _); (try dsimp +instances only); (with_reducible refine hK_ _ ?_); clear hK_ K_) | with_reducible refine st ?_ | ((with_reducible refine sr ?_); intro K_ hK_; conv => whnf) | ((with_reducible refine w_cond ?_); (conv => arg 2; whnf); with_reducible refine st ?_) | refine blockK_y (by rfl) ?_ | ((with_reducible refine sw ?_); conv => whnf)) | ((with_reducible refine gv_more ?_); conv => whnf) | (intro hc; (try dsimp +instances only [Dat, SDat, dflt, Ty.size, keepS, bkUpd, Gv.bk, backS, wayA, maxI, minI, negI] at hc); (try simp only [LS] at hc)))
  all_goals (try ((fail_if_success with_reducible refine nl ?_); (try dsimp only [Dat, SDat, dflt, Ty.size, keepS, bkUpd, Gv.bk, backS, wayA, maxI, minI, negI]); (try simp only [LS]); first | done | exact dsc | ((try simp only [allP, lo, hi, room, true_and, and_true, implies_true]); (repeat' (first | with_reducible refine And.intro ?_ ?_ | ((with_reducible refine preA_t ?_ ?_); rotate_left; exact sameP_t) | intro hv)) <;> (try omega))))
  · exact bF fun h => hc (by rw [h])
  refine w_loop [(5, .d tInt)] [] (fun y => ∃ k : Nat, y.1.1 = (k : Int) ∧ k ≤ a.length ∧ a.take k = b.take k) (fun y => a.length - y.1.1.toNat) ?_
  conv => whnf
  refine And.intro ?_ ?_
  · exact ⟨0, rfl, Nat.zero_le _, by simp⟩
  rintro ⟨⟨i, ⟨⟩⟩, ⟨⟩⟩ ⟨k, hk, hkl, hi⟩
  dsimp only at hk
  subst hk
  have hln2 : a.length = b.length := by omega
  repeat' (first | with_reducible refine And.intro ?_ ?_ | ((try with_reducible refine gv_more ?_); first | ((with_reducible show K_ _); (try dsimp +instances only); (with_reducible refine hK_ _ ?_); clear hK_ K_) | with_reducible refine st ?_ | ((with_reducible refine sr ?_); intro K_ hK_; conv => whnf) | ((with_reducible refine w_cond ?_); (conv => arg 2; whnf); with_reducible refine st ?_) | refine blockK_y (by rfl) ?_ | ((with_reducible refine sw ?_); conv => whnf)) | ((with_reducible refine gv_more ?_); conv => whnf) | (intro hc; (try dsimp +instances only [Dat, SDat, dflt, Ty.size, keepS, bkUpd, Gv.bk, backS, wayA, maxI, minI, negI] at hc); (try simp only [LS] at hc)))
  all_goals (try ((fail_if_success with_reducible refine nl ?_); (try dsimp only [Dat, SDat, dflt, Ty.size, keepS, bkUpd, Gv.bk, backS, wayA, maxI, minI, negI]); (try simp only [LS]); first | done | exact dsc | ((try simp only [allP, lo, hi, room, true_and, and_true, implies_true]); (repeat' (first | with_reducible refine And.intro ?_ ?_ | ((with_reducible refine preA_t ?_ ?_); rotate_left; exact sameP_t) | intro hv)) <;> (try omega))))
  all_goals (try (simp only [Gv.hi]; omega))
  · exact bF fun h => hc (by rw [h])
  · refine ⟨k + 1, by omega, by omega, ?_⟩
    have h1 : k < a.length := by omega
    have h2 : k < b.length := by omega
    have hc := Bool.eq_iff_iff.2 hc
    rw [getD_ok _ h1, getD_ok _ h2] at hc
    rw [List.take_succ_eq_append_getElem h1, List.take_succ_eq_append_getElem h2, hi, hc]
  · refine bT ?_
    rw [List.take_of_length_le (by omega), List.take_of_length_le (by omega)] at hi
    exact hi
theorem ok_ref20_Bools : SpecOK SP glob fi_ref20_Bools S_ref20_Bools := mk_ok (c := c_ref20_Bools) (tab_ok _) mix_ok wf_ref20_Bools (by decide) .nil (fun x hx => Nat.zero_lt_one) g_ref20_Bools

@[reducible] noncomputable def S_ref20_Same : Spec := { ins := (.cons (.d (.sl tEdg)) (.cons (.d (.sl tEdg)) .nil)), pre := fun _ => True, alts := [{ outs := (.cons (.d .bool) .nil), res := (fun x => (fun a b => (boolOf (a = b), ())) x.1 x.2.1) }] }
noncomputable def c_ref20_Same : Cf := (cf_ref20_Same (Fl []))
theorem g_ref20_Same : ∀ x, S_ref20_Same.pre x → shOK S_ref20_Same.ins x → fnGoal c_ref20_Same fn_ref20_Same S_ref20_Same x := by
  rintro ⟨a, b, ⟨⟩⟩ hpre hok
  clear hpre
  have hln := shLn_of _ hok; replace hok := Hd.mk hok; try simp only [shLn, datLn, inRng, lo, hi, maxLen, true_and, and_true] at hln
  first | refine fn_goal (w_head ?_)
  intro K_ hK_; (conv => whnf); (try dsimp +instances only); refine hK_ _ ?_; clear hK_ K_; (conv => (arg 2; whnf))
  repeat' (first | with_reducible refine And.intro ?_ ?_ | ((try with_reducible refine gv_more ?_); first | ((with_reducible show K_ _); (try dsimp +instances only); (with_reducible refine hK_ _ ?_); clear hK_ K_) | with_reducible refine st ?_ | ((with_reducible refine sr ?_); intro K_ hK_; conv => whnf) | ((with_reducible refine w_cond ?_); (conv => arg 2; whnf); with_reducible refine st ?_) | refine blockK_y (by rfl) ?_ | ((with_reducible refine sw ?_); conv => whnf)) | ((with_reducible refine gv_more ?_); conv => whnf) | (intro hc; (try dsimp +instances only [Dat, SDat, dflt, Ty.size, keepS, bkUpd, Gv.bk, backS, wayA, maxI, minI, negI] at hc); (try simp only [LS] at hc)))
  all_goals (try ((fail_if_success with_reducible refine nl ?_); (try dsimp only [Dat, SDat, dflt, Ty.size, keepS, bkUpd, Gv.bk, backS, wayA, maxI, minI, negI]); (try simp only [LS]); first | done | exact dsc | ((try simp only [allP, lo, hi, room, true_and, and_true, implies_true]); (repeat' (first | with_reducible refine And.intro ?_ ?_ | ((with_reducible refine preA_t ?_ ?_); rotate_left; exact sameP_t) | intro hv)) <;> (try omega))))
  · exact bF fun h => hc (by rw [h])
  refine w_loop [(5, .d tInt)] [] (fun y => ∃ k : Nat, y.1.1 = (k : Int) ∧ k ≤ a.length ∧ a.take k = b.take k) (fun y => a.length - y.1.1.toNat) ?_
  conv => whnf
  refine And.intro ?_ ?_
  · exact ⟨0, rfl, Nat.zero_le _, by simp⟩
  rintro ⟨⟨i, ⟨⟩⟩, ⟨⟩⟩ ⟨k, hk, hkl, hi⟩
  dsimp only at hk
  subst hk
  have hln2 : a.length = b.length := by omega
  repeat' (first | with_reducible refine And.intro ?_ ?_ | ((try with_reducible refine gv_more ?_); first | ((with_reducible show K_ _); (try dsimp +instances only); (with_reducible refine hK_ _ ?_); clear hK_ K_) | with_reducible refine st ?_ | ((with_reducible refine sr ?_); intro K_ hK_; conv => whnf) | ((with_reducible refine w_cond ?_); (conv => arg 2; whnf); with_reducible refine st ?_) | refine blockK_y (by rfl) ?_ | ((with_reducible refine sw ?_); conv => whnf)) | ((with_reducible refine gv_more ?_); conv => whnf) | (intro hc; (try dsimp +instances only [Dat, SDat, dflt, Ty.size, keepS, bkUpd, Gv.bk, backS, wayA, maxI, minI, negI] at hc); (try simp only [LS] at hc)))
  all_goals (try ((fail_if_success with_reducible refine nl ?_); (try dsimp only [Dat, SDat, dflt, Ty.size, keepS, bkUpd, Gv.bk, backS, wayA, maxI, minI, negI]); (try simp only [LS]); first | done | exact dsc | ((try simp only [allP, lo, hi, room, true_and, and_true, implies_true]); (repeat' (first | with_reducible refine And.intro ?_ ?_ | ((with_reducible refine preA_t ?_ ?_); rotate_left; exact sameP_t) | intro hv)) <;> (try omega))))
  all_goals (try (simp only [Gv.hi]; omega))
  · exact bF fun h => hc (by rw [h])
  · refine ⟨k + 1, by omega, by omega, ?_⟩
    have h1 : k < a.length := by omega
    have h2 : k < b.length := by omega
    rw [getD_ok _ h1, getD_ok _ h2] at hc
    rw [List.take_succ_eq_append_getElem h1, List.take_succ_eq_append_getElem h2, hi, hc]
  · refine bT ?_
    rw [List.take_of_length_le (by omega), List.take_of_length_le (by omega)] at hi
    exact hi
theorem ok_ref20_Same : SpecOK SP glob fi_ref20_Same S_ref20_Same := mk_ok (c := c_ref20_Same) (tab_ok _) mix_ok wf_ref20_Same (by decide) .nil (fun x hx => Nat.zero_lt_one) g_ref20_Same

theorem wg_bad1 {t : Wg} (h : ((t.2.1 < 1 ∨ 5 < t.2.1) ∨ t.2.2.1 < 0) ∨ 1000000000 < t.2.2.1) : ¬ WgOK t := fun k => by
  have h1 := k.meas
  have h2 := k.tol
  omega
theorem wg_bad2 {t : Wg} (h : (((((¬ validR t.2.2.2.1 ∨ t.2.2.2.1.1 < 0) ∨ t.2.2.2.1.2.1 < t.2.2.2.1.1) ∨ t.2.2.2.2.1 < 0) ∨ 1000 < t.2.2.2.2.1) ∨ t.2.2.2.2.2.1 < 0) ∨ 1000 < t.2.2.2.2.2.1) : ¬ WgOK t := fun k => by
  have h1 := k.lo
  have h2 := k.hi
  have h3 := k.giv
  have h4 := k.tak
  rcases h with (((((h | h) | h) | h) | h) | h) | h
  · exact h k.least
  all_goals omega
theorem wg_good {t : Wg} (h : ¬ (((t.2.1 < 1 ∨ 5 < t.2.1) ∨ t.2.2.1 < 0) ∨ 1000000000 < t.2.2.1)) (k : ¬ ((((((¬ validR t.2.2.2.1 ∨ t.2.2.2.1.1 < 0) ∨ t.2.2.2.1.2.1 < t.2.2.2.1.1) ∨ t.2.2.2.2.1 < 0) ∨ 1000 < t.2.2.2.2.1) ∨ t.2.2.2.2.2.1 < 0) ∨ 1000 < t.2.2.2.2.2.1)) : WgOK t := by
  simp only [not_or] at k
  obtain ⟨⟨⟨⟨⟨⟨k1, k2⟩, k3⟩, k4⟩, k5⟩, k6⟩, k7⟩ := k
  exact ⟨Classical.not_not.1 k1, by omega, by omega, by omega, by omega, by omega, by omega⟩

@[reducible] noncomputable def S_ref20_Valid : Spec := { ins := (.cons (.d tMat) .nil), pre := fun _ => True, alts := [{ outs := (.cons (.d .bool) .nil), res := (fun x => (fun m => (boolOf (MOK m), ())) x.1) }] }
noncomputable def c_ref20_Valid : Cf := (cf_ref20_Valid (Fl [(fi_ref01_Valid, S_ref01_Valid)]))
theorem g_ref20_Valid : ∀ x, S_ref20_Valid.pre x → shOK S_ref20_Valid.ins x → fnGoal c_ref20_Valid fn_ref20_Valid S_ref20_Valid x := by
  rintro ⟨⟨nm, (tb : Int), (at_ : Int), l, ⟨⟩⟩, ⟨⟩⟩ hpre hok
  clear hpre
  have hln := shLn_of _ hok; replace hok := Hd.mk hok; try simp only [shLn, datLn, inRng, lo, hi, maxLen, true_and, and_true] at hln
  first | refine fn_goal (w_head ?_)
  intro K_ hK_; (conv => whnf); (try dsimp +instances only); refine hK_ _ ?_; clear hK_ K_; (conv => (arg 2; whnf))
  repeat' (first | with_reducible refine And.intro ?_ ?_ | ((try with_reducible refine gv_more ?_); first | ((with_reducible show K_ _); (try dsimp +instances only); (with_reducible refine hK_ _ ?_); clear hK_ K_) | with_reducible refine st ?_ | ((with_reducible refine sr ?_); intro K_ hK_; conv => whnf) | ((with_reducible refine w_cond ?_); (conv => arg 2; whnf); with_reducible refine st ?_) | refine blockK_y (by rfl) ?_ | ((with_reducible refine sw ?_); conv => whnf)) | ((with_reducible refine gv_more ?_); conv => whnf) | (intro hc; (try dsimp +instances only [Dat, SDat, dflt, Ty.size, keepS, bkUpd, Gv.bk, backS, wayA, maxI, minI, negI] at hc); (try simp only [LS] at hc)))
  all_goals (try ((fail_if_success with_reducible refine nl ?_); (try dsimp only [Dat, SDat, dflt, Ty.size, keepS, bkUpd, Gv.bk, backS, wayA, maxI, minI, negI]); (try simp only [LS]); first | done | exact dsc | ((try simp only [allP, lo, hi, room, true_and, and_true, implies_true]); (repeat' (first | with_reducible refine And.intro ?_ ?_ | ((with_reducible refine preA_t ?_ ?_); rotate_left; exact sameP_t) | intro hv)) <;> (try omega))))
  · exact bF fun h => by
      have h1 : 0 ≤ at_ ∧ at_ ≤ 10000 := h.at_
      have h2 : l.length ≤ 200 := h.few
      omega
  refine w_loop [(3, .d tInt)] [] (fun y => ∃ k : Nat, y.1.1 = (k : Int) ∧ k ≤ l.length ∧ ∀ t ∈ l.take k, WgOK t) (fun y => l.length - y.1.1.toNat) ?_
  conv => whnf
  refine And.intro ?_ ?_
  · exact ⟨0, rfl, Nat.zero_le _, by simp⟩
  rintro ⟨⟨_, ⟨⟩⟩, ⟨⟩⟩ ⟨k, rfl, hk, hw⟩
  repeat' (first | with_reducible refine And.intro ?_ ?_ | ((try with_reducible refine gv_more ?_); first | ((with_reducible show K_ _); (try dsimp +instances only); (with_reducible refine hK_ _ ?_); clear hK_ K_) | with_reducible refine st ?_ | ((with_reducible refine sr ?_); intro K_ hK_; conv => whnf) | ((with_reducible refine w_cond ?_); (conv => arg 2; whnf); with_reducible refine st ?_) | refine blockK_y (by rfl) ?_ | ((with_reducible refine sw ?_); conv => whnf)) | ((with_reducible refine gv_more ?_); conv => whnf) | (intro hc; (try dsimp +instances only [Dat, SDat, dflt, Ty.size, keepS, bkUpd, Gv.bk, backS, wayA, maxI, minI, negI] at hc); (try simp only [LS] at hc)))
  all_goals (try ((fail_if_success with_reducible refine nl ?_); (try dsimp only [Dat, SDat, dflt, Ty.size, keepS, bkUpd, Gv.bk, backS, wayA, maxI, minI, negI]); (try simp only [LS]); first | done | exact dsc | ((try simp only [allP, lo, hi, room, true_and, and_true, implies_true]); (repeat' (first | with_reducible refine And.intro ?_ ?_ | ((with_reducible refine preA_t ?_ ?_); rotate_left; exact sameP_t) | intro hv)) <;> (try omega))))
  · have h2 : k < l.length := by omega
    exact bF fun h => wg_bad1 hc (h.all _ (getD_mem h2))
  · have h2 : k < l.length := by omega
    exact bF fun h => wg_bad2 hc (h.all _ (getD_mem h2))
  · have h2 : k < l.length := by omega
    exact ⟨k + 1, by omega, by omega, all_step hw h2 (wg_good (by assumption) hc)⟩
  · have h9 : ∀ t ∈ l, WgOK t := all_end hw (by omega)
    exact bT ⟨by show 0 ≤ at_ ∧ at_ ≤ 10000; omega, by show l.length ≤ 200; omega, h9⟩
theorem ok_ref20_Valid : SpecOK SP glob fi_ref20_Valid S_ref20_Valid := mk_ok (c := c_ref20_Valid) (tab_ok _) mix_ok wf_ref20_Valid (by decide) (.cons ok_ref01_Valid .nil) (fun x hx => Nat.zero_lt_one) g_ref20_Valid

@[reducible] noncomputable def S_ref20_About : Spec := { ins := (.cons (.d tMat) (.cons (.d tRec) (.cons (.d tRec) .nil))), pre := fun _ => True, alts := [{ outs := (.cons (.d .bool) .nil), res := (fun x => (fun m a b => (boolOf (AbM m a b), ())) x.1 x.2.1 x.2.2.1) }] }
noncomputable def c_ref20_About : Cf := (cf_ref20_About (Fl [(fi_ref20_Valid, S_ref20_Valid)]))
theorem g_ref20_About : ∀ x, S_ref20_About.pre x → shOK S_ref20_About.ins x → fnGoal c_ref20_About fn_ref20_About S_ref20_About x := by
  rintro ⟨m, a, b, ⟨⟩⟩ hpre hok
  clear hpre
  have hln := shLn_of _ hok; replace hok := Hd.mk hok; try simp only [shLn, datLn, inRng, lo, hi, maxLen, true_and, and_true] at hln
  first | refine fn_goal (w_head ?_)
  intro K_ hK_; (conv => whnf); (try dsimp +instances only); refine hK_ _ ?_; clear hK_ K_; (conv => (arg 2; whnf))
  repeat' (first | with_reducible refine And.intro ?_ ?_ | ((try with_reducible refine gv_more ?_); first | ((with_reducible show K_ _); (try dsimp +instances only); (with_reducible refine hK_ _ ?_); clear hK_ K_) | with_reducible refine st ?_ | ((with_reducible refine sr ?_); intro K_ hK_; conv => whnf) | ((with_reducible refine w_cond ?_); (conv => arg 2; whnf); with_reducible refine st ?_) | refine blockK_y (by rfl) ?_ | ((with_reducible refine sw ?_); conv => whnf)) | ((with_reducible refine gv_more ?_); conv => whnf) | (intro hc; (try dsimp +instances only [Dat, SDat, dflt, Ty.size, keepS, bkUpd, Gv.bk, backS, wayA, maxI, minI, negI] at hc); (try simp only [LS] at hc)))
  all_goals (try ((fail_if_success with_reducible refine nl ?_); (try dsimp only [Dat, SDat, dflt, Ty.size, keepS, bkUpd, Gv.bk, backS, wayA, maxI, minI, negI]); (try simp only [LS]); first | done | exact dsc | ((try simp only [allP, lo, hi, room, true_and, and_true, implies_true]); (repeat' (first | with_reducible refine And.intro ?_ ?_ | ((with_reducible refine preA_t ?_ ?_); rotate_left; exact sameP_t) | intro hv)) <;> (try omega))))
  exact bC ⟨fun ⟨⟨h3, h1⟩, h2⟩ => ⟨h1.symm, h2.symm, h3⟩, fun h => ⟨⟨h.ok, h.ta.symm⟩, h.tb.symm⟩⟩
theorem ok_ref20_About : SpecOK SP glob fi_ref20_About S_ref20_About := mk_ok (c := c_ref20_About) (tab_ok _) mix_ok wf_ref20_About (by decide) (.cons ok_ref20_Valid .nil) (fun x hx => Nat.zero_lt_one) g_ref20_About

def recV (s : List UInt8) (n : Int) : Rc := ((0, [], [], ()), 0, 0, [((1, 0, s, ()), 0, 0, ()), ((if n < 0 then (0, 0, [], ()) else (2, n, [], ())), 0, 0, ())], ())
def exM : Ma := ([], 0, 3, [(0, 2, 0, (1, 2, ()), 5, 2, ()), (1, 5, 10, (4, 5, ()), 1, 0, ())], ())

@[reducible] noncomputable def S_law20_record : Spec := { ins := (.cons (.d .str) (.cons (.d tInt) .nil)), pre := fun _ => True, alts := [{ outs := (.cons (.d tRec) .nil), res := (fun x => (fun s n => (recV s n, ())) x.1 x.2.1) }] }
noncomputable def c_law20_record : Cf := (cf_law20_record (Fl []))
theorem g_law20_record : ∀ x, S_law20_record.pre x → shOK S_law20_record.ins x → fnGoal c_law20_record fn_law20_record S_law20_record x := by
  rintro ⟨s, n, ⟨⟩⟩ hpre hok
  clear hpre
  have hln := shLn_of _ hok; replace hok := Hd.mk hok; try simp only [shLn, datLn, inRng, lo, hi, maxLen, true_and, and_true] at hln
  first | refine fn_goal (w_head ?_)
  intro K_ hK_; (conv => whnf); (try dsimp +instances only); refine hK_ _ ?_; clear hK_ K_; (conv => (arg 2; whnf))
  repeat' (first | with_reducible refine And.intro ?_ ?_ | ((try with_reducible refine gv_more ?_); first | ((with_reducible show K_ _); (try dsimp +instances only); (with_reducible refine hK_ _ ?_); clear hK_ K_) | with_reducible refine st ?_ | ((with_reducible refine sr ?_); intro K_ hK_; conv => whnf) | ((with_reducible refine w_cond ?_); (conv => arg 2; whnf); with_reducible refine st ?_) | refine blockK_y (by rfl) ?_ | ((with_reducible refine sw ?_); conv => whnf)) | ((with_reducible refine gv_more ?_); conv => whnf) | (intro hc; (try dsimp +instances only [Dat, SDat, dflt, Ty.size, keepS, bkUpd, Gv.bk, backS, wayA, maxI, minI, negI] at hc); (try simp only [LS] at hc)))
  all_goals (try ((fail_if_success with_reducible refine nl ?_); (try dsimp only [Dat, SDat, dflt, Ty.size, keepS, bkUpd, Gv.bk, backS, wayA, maxI, minI, negI]); (try simp only [LS]); first | done | exact dsc | ((try simp only [allP, lo, hi, room, true_and, and_true, implies_true]); (repeat' (first | with_reducible refine And.intro ?_ ?_ | ((with_reducible refine preA_t ?_ ?_); rotate_left; exact sameP_t) | intro hv)) <;> (try omega))))
  all_goals (unfold recV)
  · rw [if_pos hc]
  · rw [if_neg hc]
theorem ok_law20_record : SpecOK SP glob fi_law20_record S_law20_record := mk_ok (c := c_law20_record) (tab_ok _) mix_ok wf_law20_record (by decide) .nil (fun x hx => Nat.zero_lt_one) g_law20_record

@[reducible] noncomputable def S_law20_example : Spec := { ins := .nil, pre := fun _ => True, alts := [{ outs := (.cons (.d tMat) .nil), res := (fun _ => (exM, ())) }] }
noncomputable def c_law20_example : Cf := (cf_law20_example (Fl []))
theorem g_law20_example : ∀ x, S_law20_example.pre x → shOK S_law20_example.ins x → fnGoal c_law20_example fn_law20_example S_law20_example x := by
  rintro ⟨⟩ hpre hok
  clear hpre
  have hln := shLn_of _ hok; replace hok := Hd.mk hok; try simp only [shLn, datLn, inRng, lo, hi, maxLen, true_and, and_true] at hln
  first | refine fn_goal (w_head ?_)
  intro K_ hK_; (conv => whnf); (try dsimp +instances only); refine hK_ _ ?_; clear hK_ K_; (conv => (arg 2; whnf))
  repeat' (first | with_reducible refine And.intro ?_ ?_ | ((try with_reducible refine gv_more ?_); first | ((with_reducible show K_ _); (try dsimp +instances only); (with_reducible refine hK_ _ ?_); clear hK_ K_) | with_reducible refine st ?_ | ((with_reducible refine sr ?_); intro K_ hK_; conv => whnf) | ((with_reducible refine w_cond ?_); (conv => arg 2; whnf); with_reducible refine st ?_) | refine blockK_y (by rfl) ?_ | ((with_reducible refine sw ?_); conv => whnf)) | ((with_reducible refine gv_more ?_); conv => whnf) | (intro hc; (try dsimp +instances only [Dat, SDat, dflt, Ty.size, keepS, bkUpd, Gv.bk, backS, wayA, maxI, minI, negI] at hc); (try simp only [LS] at hc)))
  all_goals (try ((fail_if_success with_reducible refine nl ?_); (try dsimp only [Dat, SDat, dflt, Ty.size, keepS, bkUpd, Gv.bk, backS, wayA, maxI, minI, negI]); (try simp only [LS]); first | done | exact dsc | ((try simp only [allP, lo, hi, room, true_and, and_true, implies_true]); (repeat' (first | with_reducible refine And.intro ?_ ?_ | ((with_reducible refine preA_t ?_ ?_); rotate_left; exact sameP_t) | intro hv)) <;> (try omega))))
theorem ok_law20_example : SpecOK SP glob fi_law20_example S_law20_example := mk_ok (c := c_law20_example) (tab_ok _) mix_ok wf_law20_example (by decide) .nil (fun x hx => Nat.zero_lt_one) g_law20_example
end Go.Gv
