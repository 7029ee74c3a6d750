/- Chapter 4: similarities of values. -/
import Derived.Test.YtganngkllfpgiaaGreatDoorC04d
import Derived.Test.YtganngkllfpgiaaGreatDoorC03d
set_option linter.all false
namespace Go.Gv
open Go Go.Proofs Go.Proofs.YtganngkllfpgiaaGreatDoor
set_option maxRecDepth 100000
set_option maxHeartbeats 4000000

abbrev Vl := Int × Int × List UInt8 × Unit
@[reducible] def tVal : Ty := .st (.cs tInt (.cs tInt (.cs .str .nl)))
def vlV (v : Vl) : Prop := (v.1 = 0 ∧ v.2.1 = 0 ∧ v.2.2.1 = []) ∨ (v.1 = 1 ∧ v.2.1 = 0 ∧ v.2.2.1.length ≤ 200) ∨ (v.1 = 2 ∧ -1000000000 ≤ v.2.1 ∧ v.2.1 ≤ 1000000000 ∧ v.2.2.1 = []) ∨ (v.1 = 3 ∧ 0 ≤ v.2.1 ∧ v.2.1 ≤ 73048 ∧ v.2.2.1 = []) ∨ (v.1 = 4 ∧ 0 ≤ v.2.1 ∧ v.2.1 ≤ 1 ∧ v.2.2.1 = [])
instance {v : Vl} : Decidable (vlV v) := by unfold vlV; infer_instance

@[reducible] noncomputable def S_value_Valid : Spec := { ins := (.cons (.d tVal) .nil), pre := fun _ => True, alts := [{ outs := (.cons (.d .bool) .nil), res := (fun x => (fun v => (boolOf (vlV v), ())) x.1) }] }
noncomputable def c_value_Valid : Cf := (cf_value_Valid (Fl []))
theorem g_value_Valid : ∀ x, S_value_Valid.pre x → shOK S_value_Valid.ins x → fnGoal c_value_Valid fn_value_Valid S_value_Valid x := by
  rintro ⟨⟨kd, n, s, ⟨⟩⟩, ⟨⟩⟩ hpre hok
  clear hpre
  have hln := shLn_of _ hok; replace hok := Hd.mk hok; try simp only [shLn, datLn, inRng, lo, hi, maxLen, true_and, and_true] at hln
  have hv : ∀ (kd n : Int) (s : List UInt8), (vlV (kd, n, s, ()) ↔ ((kd = 0 ∧ n = 0 ∧ s = []) ∨ (kd = 1 ∧ n = 0 ∧ s.length ≤ 200) ∨ (kd = 2 ∧ -1000000000 ≤ n ∧ n ≤ 1000000000 ∧ s = []) ∨ (kd = 3 ∧ 0 ≤ n ∧ n ≤ 73048 ∧ s = []) ∨ (kd = 4 ∧ 0 ≤ n ∧ n ≤ 1 ∧ s = []))) := fun _ _ _ => Iff.rfl
  have hv := hv kd n s
  first | refine fn_goal (w_head ?_)
  intro K_ hK_; (conv => whnf); (try dsimp +instances only); refine hK_ _ ?_; clear hK_ K_; (conv => (arg 2; whnf))
  repeat' (first | with_reducible refine And.intro ?_ ?_ | ((try with_reducible refine gv_more ?_); first | ((with_reducible show K_ _); (try dsimp +instances only); (with_reducible refine hK_ _ ?_); clear hK_ K_) | with_reducible refine st ?_ | ((with_reducible refine sr ?_); intro K_ hK_; conv => whnf) | ((with_reducible refine w_cond ?_); (conv => arg 2; whnf); with_reducible refine st ?_) | refine blockK_y (by rfl) ?_ | ((with_reducible refine sw ?_); conv => whnf)) | ((with_reducible refine gv_more ?_); conv => whnf) | (intro hc; (try dsimp +instances only [Dat, SDat, dflt, Ty.size, keepS, bkUpd, Gv.bk, backS, wayA, maxI, minI, negI] at hc); (try simp only [LS] at hc)))
  all_goals (try ((fail_if_success with_reducible refine nl ?_); (try dsimp only [Dat, SDat, dflt, Ty.size, keepS, bkUpd, Gv.bk, backS, wayA, maxI, minI, negI]); (try simp only [LS]); first | done | exact dsc | ((try simp only [allP, lo, hi, room, true_and, and_true, implies_true]); (repeat' (first | with_reducible refine And.intro ?_ ?_ | ((with_reducible refine preA_t ?_ ?_); rotate_left; exact sameP_t) | intro hv)) <;> (try omega))))
  all_goals (first | refine bF (fun h => ?_) | refine bC ?_)
  all_goals (rw [hv] at *)
  all_goals
    by_cases hs : s = []
    · simp only [hs, List.length_nil, and_true, not_true_eq_false, and_false, not_false_eq_true] at *
      first | done | omega
    · simp only [hs, and_false, or_false, false_or, not_false_eq_true, and_true] at *
      first | done | omega
theorem ok_value_Valid : SpecOK SP glob fi_value_Valid S_value_Valid := mk_ok (c := c_value_Valid) (tab_ok _) mix_ok wf_value_Valid (by decide) .nil (fun x hx => Nat.zero_lt_one) g_value_Valid

@[reducible] noncomputable def S_measure_texts_1 : Spec := { ins := (.cons (.d .str) (.cons (.d .str) .nil)), pre := (fun x => (fun a b => a.length ≤ 100000 ∧ b.length ≤ 100000) x.1 x.2.1), alts := [{ outs := (.cons (.d tRt) .nil), res := (fun x => (fun a b => (alV (foldT a) (foldT b), ())) x.1 x.2.1) }], noisy := true }
noncomputable def c_measure_texts_1 : Cf := { cf_measure_texts_1 (Fl [(fi_words_Fold, S_words_Fold), (fi_measure_Alike, S_measure_Alike)]) with nz := true }
theorem g_measure_texts_1 : ∀ x, S_measure_texts_1.pre x → shOK S_measure_texts_1.ins x → fnGoal c_measure_texts_1 fn_measure_texts_1 S_measure_texts_1 x := by
  rintro ⟨a, b, ⟨⟩⟩ hpre hok
  try dsimp only [Dat, SDat, dflt, Ty.size, keepS, bkUpd, Gv.bk, backS, wayA, maxI, minI, negI] at hpre
  have hln := shLn_of _ hok; replace hok := Hd.mk hok; try simp only [shLn, datLn, inRng, lo, hi, maxLen, true_and, and_true] at hln
  have hal := hpre.1
  have hbl := hpre.2
  have hfa := fold_len a
  have hfb := fold_len b
  first | refine fn_goal (w_head ?_)
  intro K_ hK_; (conv => whnf); (try dsimp +instances only); refine hK_ _ ?_; clear hK_ K_; (conv => (arg 2; whnf))
  repeat' (first | with_reducible refine And.intro ?_ ?_ | ((try with_reducible refine gv_more ?_); first | ((with_reducible show K_ _); (try dsimp +instances only); (with_reducible refine hK_ _ ?_); clear hK_ K_) | with_reducible refine st ?_ | ((with_reducible refine sr ?_); intro K_ hK_; conv => whnf) | ((with_reducible refine w_cond ?_); (conv => arg 2; whnf); with_reducible refine st ?_) | refine blockK_y (by rfl) ?_ | ((with_reducible refine sw ?_); conv => whnf)) | ((with_reducible refine gv_more ?_); conv => whnf) | (intro hc; (try dsimp +instances only [Dat, SDat, dflt, Ty.size, keepS, bkUpd, Gv.bk, backS, wayA, maxI, minI, negI] at hc); (try simp only [LS] at hc)))
  all_goals (try ((fail_if_success with_reducible refine nl ?_); (try dsimp only [Dat, SDat, dflt, Ty.size, keepS, bkUpd, Gv.bk, backS, wayA, maxI, minI, negI]); (try simp only [LS]); first | done | exact dsc | ((try simp only [allP, lo, hi, room, true_and, and_true, implies_true]); (repeat' (first | with_reducible refine And.intro ?_ ?_ | ((with_reducible refine preA_t ?_ ?_); rotate_left; exact sameP_t) | intro hv)) <;> (try omega))))
theorem ok_measure_texts_1 : SpecOK SP glob fi_measure_texts_1 S_measure_texts_1 := mk_ok (c := c_measure_texts_1) (tab_ok _) mix_ok wf_measure_texts_1 (by decide) (.cons ok_words_Fold (.cons ok_measure_Alike .nil)) (fun x hx => Nat.zero_lt_one) g_measure_texts_1

@[reducible] noncomputable def S_measure_texts_2 : Spec := { ins := (.cons (.d .str) (.cons (.d .str) .nil)), pre := (fun x => (fun a b => a.length ≤ 100000 ∧ b.length ≤ 100000) x.1 x.2.1), alts := [{ outs := (.cons (.d tRt) .nil), res := (fun x => (fun a b => (jcV (sorS (Ws a)) (sorS (Ws b)), ())) x.1 x.2.1) }], noisy := true }
noncomputable def c_measure_texts_2 : Cf := { cf_measure_texts_2 (Fl [(fi_words_Tokens, S_words_Tokens), (fi_measure_Jaccard, S_measure_Jaccard)]) with nz := true }
theorem g_measure_texts_2 : ∀ x, S_measure_texts_2.pre x → shOK S_measure_texts_2.ins x → fnGoal c_measure_texts_2 fn_measure_texts_2 S_measure_texts_2 x := by
  rintro ⟨a, b, ⟨⟩⟩ hpre hok
  try dsimp only [Dat, SDat, dflt, Ty.size, keepS, bkUpd, Gv.bk, backS, wayA, maxI, minI, negI] at hpre
  have hln := shLn_of _ hok; replace hok := Hd.mk hok; try simp only [shLn, datLn, inRng, lo, hi, maxLen, true_and, and_true] at hln
  have hal := hpre.1
  have hbl := hpre.2
  have hfa := sorS_len (Ws a) []
  have hfb := sorS_len (Ws b) []
  have hwa := Ws_len a
  have hwb := Ws_len b
  have hta : (sorS (Ws a)).length ≤ 1000000 := Nat.le_trans hfa (by simp only [List.length_nil]; omega)
  have htb : (sorS (Ws b)).length ≤ 1000000 := Nat.le_trans hfb (by simp only [List.length_nil]; omega)
  first | refine fn_goal (w_head ?_)
  intro K_ hK_; (conv => whnf); (try dsimp +instances only); refine hK_ _ ?_; clear hK_ K_; (conv => (arg 2; whnf))
  repeat' (first | with_reducible refine And.intro ?_ ?_ | ((try with_reducible refine gv_more ?_); first | ((with_reducible show K_ _); (try dsimp +instances only); (with_reducible refine hK_ _ ?_); clear hK_ K_) | with_reducible refine st ?_ | ((with_reducible refine sr ?_); intro K_ hK_; conv => whnf) | ((with_reducible refine w_cond ?_); (conv => arg 2; whnf); with_reducible refine st ?_) | refine blockK_y (by rfl) ?_ | ((with_reducible refine sw ?_); conv => whnf)) | ((with_reducible refine gv_more ?_); conv => whnf) | (intro hc; (try dsimp +instances only [Dat, SDat, dflt, Ty.size, keepS, bkUpd, Gv.bk, backS, wayA, maxI, minI, negI] at hc); (try simp only [LS] at hc)))
  all_goals (try ((fail_if_success with_reducible refine nl ?_); (try dsimp only [Dat, SDat, dflt, Ty.size, keepS, bkUpd, Gv.bk, backS, wayA, maxI, minI, negI]); (try simp only [LS]); first | done | exact dsc | ((try simp only [allP, lo, hi, room, true_and, and_true, implies_true]); (repeat' (first | with_reducible refine And.intro ?_ ?_ | ((with_reducible refine preA_t ?_ ?_); rotate_left; exact sameP_t) | intro hv)) <;> (try omega))))
theorem ok_measure_texts_2 : SpecOK SP glob fi_measure_texts_2 S_measure_texts_2 := mk_ok (c := c_measure_texts_2) (tab_ok _) mix_ok wf_measure_texts_2 (by decide) (.cons ok_words_Tokens (.cons ok_measure_Jaccard .nil)) (fun x hx => Nat.zero_lt_one) g_measure_texts_2

@[reducible] noncomputable def S_measure_texts_3 : Spec := { ins := (.cons (.d .str) (.cons (.d .str) .nil)), pre := (fun x => (fun a b => a.length ≤ 100000 ∧ b.length ≤ 100000) x.1 x.2.1), alts := [{ outs := (.cons (.d tRt) .nil), res := (fun x => (fun a b => (jrV (foldT a) (foldT b), ())) x.1 x.2.1) }], noisy := true }
noncomputable def c_measure_texts_3 : Cf := { cf_measure_texts_3 (Fl [(fi_words_Fold, S_words_Fold), (fi_measure_Jaro, S_measure_Jaro)]) with nz := true }
theorem g_measure_texts_3 : ∀ x, S_measure_texts_3.pre x → shOK S_measure_texts_3.ins x → fnGoal c_measure_texts_3 fn_measure_texts_3 S_measure_texts_3 x := by
  rintro ⟨a, b, ⟨⟩⟩ hpre hok
  try dsimp only [Dat, SDat, dflt, Ty.size, keepS, bkUpd, Gv.bk, backS, wayA, maxI, minI, negI] at hpre
  have hln := shLn_of _ hok; replace hok := Hd.mk hok; try simp only [shLn, datLn, inRng, lo, hi, maxLen, true_and, and_true] at hln
  have hal := hpre.1
  have hbl := hpre.2
  have hfa := fold_len a
  have hfb := fold_len b
  first | refine fn_goal (w_head ?_)
  intro K_ hK_; (conv => whnf); (try dsimp +instances only); refine hK_ _ ?_; clear hK_ K_; (conv => (arg 2; whnf))
  repeat' (first | with_reducible refine And.intro ?_ ?_ | ((try with_reducible refine gv_more ?_); first | ((with_reducible show K_ _); (try dsimp +instances only); (with_reducible refine hK_ _ ?_); clear hK_ K_) | with_reducible refine st ?_ | ((with_reducible refine sr ?_); intro K_ hK_; conv => whnf) | ((with_reducible refine w_cond ?_); (conv => arg 2; whnf); with_reducible refine st ?_) | refine blockK_y (by rfl) ?_ | ((with_reducible refine sw ?_); conv => whnf)) | ((with_reducible refine gv_more ?_); conv => whnf) | (intro hc; (try dsimp +instances only [Dat, SDat, dflt, Ty.size, keepS, bkUpd, Gv.bk, backS, wayA, maxI, minI, negI] at hc); (try simp only [LS] at hc)))
  all_goals (try ((fail_if_success with_reducible refine nl ?_); (try dsimp only [Dat, SDat, dflt, Ty.size, keepS, bkUpd, Gv.bk, backS, wayA, maxI, minI, negI]); (try simp only [LS]); first | done | exact dsc | ((try simp only [allP, lo, hi, room, true_and, and_true, implies_true]); (repeat' (first | with_reducible refine And.intro ?_ ?_ | ((with_reducible refine preA_t ?_ ?_); rotate_left; exact sameP_t) | intro hv)) <;> (try omega))))
theorem ok_measure_texts_3 : SpecOK SP glob fi_measure_texts_3 S_measure_texts_3 := mk_ok (c := c_measure_texts_3) (tab_ok _) mix_ok wf_measure_texts_3 (by decide) (.cons ok_words_Fold (.cons ok_measure_Jaro .nil)) (fun x hx => Nat.zero_lt_one) g_measure_texts_3

@[reducible] noncomputable def S_measure_texts : Spec := { ins := .nil, pre := fun _ => True, alts := [{ outs := (.cons (.map tInt .fn) .nil), res := (fun _ => ([((2 : Int), some fi_measure_texts_1), ((3 : Int), some fi_measure_texts_2), ((4 : Int), some fi_measure_texts_3)], ())) }] }
noncomputable def c_measure_texts : Cf := (cf_measure_texts (Fl []))
theorem g_measure_texts : ∀ x, S_measure_texts.pre x → shOK S_measure_texts.ins x → fnGoal c_measure_texts fn_measure_texts S_measure_texts x := by
  rintro ⟨⟩ hpre hok
  clear hpre
  have hln := shLn_of _ hok; replace hok := Hd.mk hok; try simp only [shLn, datLn, inRng, lo, hi, maxLen, true_and, and_true] at hln
  first | refine fn_goal (w_head ?_)
  intro K_ hK_; (conv => whnf); (try dsimp +instances only); refine hK_ _ ?_; clear hK_ K_; (conv => (arg 2; whnf))
  repeat' (first | with_reducible refine And.intro ?_ ?_ | ((try with_reducible refine gv_more ?_); first | ((with_reducible show K_ _); (try dsimp +instances only); (with_reducible refine hK_ _ ?_); clear hK_ K_) | with_reducible refine st ?_ | ((with_reducible refine sr ?_); intro K_ hK_; conv => whnf) | ((with_reducible refine w_cond ?_); (conv => arg 2; whnf); with_reducible refine st ?_) | refine blockK_y (by rfl) ?_ | ((with_reducible refine sw ?_); conv => whnf)) | ((with_reducible refine gv_more ?_); conv => whnf) | (intro hc; (try dsimp +instances only [Dat, SDat, dflt, Ty.size, keepS, bkUpd, Gv.bk, backS, wayA, maxI, minI, negI] at hc); (try simp only [LS] at hc)))
  all_goals (try ((fail_if_success with_reducible refine nl ?_); (try dsimp only [Dat, SDat, dflt, Ty.size, keepS, bkUpd, Gv.bk, backS, wayA, maxI, minI, negI]); (try simp only [LS]); first | done | exact dsc | ((try simp only [allP, lo, hi, room, true_and, and_true, implies_true]); (repeat' (first | with_reducible refine And.intro ?_ ?_ | ((with_reducible refine preA_t ?_ ?_); rotate_left; exact sameP_t) | intro hv)) <;> (try omega))))
theorem ok_measure_texts : SpecOK SP glob fi_measure_texts S_measure_texts := mk_ok (c := c_measure_texts) (tab_ok _) mix_ok wf_measure_texts (by decide) .nil (fun x hx => Nat.zero_lt_one) g_measure_texts

/-- What measure.Of answers. -/
def badT (m t : Int) (a b : Vl) : Prop := ¬ (1 ≤ m ∧ m ≤ 5) ∨ ¬ vlV a ∨ ¬ vlV b ∨ (m = 5 ∧ (t < 0 ∨ 1000000000 ≤ t))
def nulT (a b : Vl) : Prop := a.1 = 0 ∨ b.1 = 0
def typT (m : Int) (a b : Vl) : Prop := ¬ a.1 = b.1 ∨ (m = 5 ∧ ¬ a.1 = 2 ∧ ¬ a.1 = 3) ∨ (¬ m = 5 ∧ ¬ a.1 = 1)
instance {m t : Int} {a b : Vl} : Decidable (badT m t a b) := by unfold badT; infer_instance
instance {a b : Vl} : Decidable (nulT a b) := by unfold nulT; infer_instance
instance {m : Int} {a b : Vl} : Decidable (typT m a b) := by unfold typT; infer_instance
def ofE (m t : Int) (a b : Vl) : Int := if badT m t a b then 1 else if nulT a b then 0 else if m = 1 then 0 else if typT m a b then 10 else 0
def txV (m : Int) (x y : List UInt8) : Rt := if m = 2 then alV (foldT x) (foldT y) else if m = 3 then jcV (sorS (Ws x)) (sorS (Ws y)) else jrV (foldT x) (foldT y)
def ofV (m t : Int) (a b : Vl) : Rt := if badT m t a b then rt 0 0 else if nulT a b then rt 0 1 else if m = 1 then (if a = b then rt 1 1 else rt 0 1) else if typT m a b then rt 0 0 else if m = 5 then nrV a.2.1 b.2.1 t else txV m a.2.2.1 b.2.2.1

theorem of_bad {m t : Int} {a b : Vl} (h : badT m t a b) : ofV m t a b = rt 0 0 ∧ ofE m t a b = 1 := by unfold ofV ofE; rw [if_pos h, if_pos h]; exact ⟨rfl, rfl⟩
theorem of_nul {m t : Int} {a b : Vl} (h : ¬ badT m t a b) (h2 : nulT a b) : ofV m t a b = rt 0 1 ∧ ofE m t a b = 0 := by unfold ofV ofE; rw [if_neg h, if_neg h, if_pos h2, if_pos h2]; exact ⟨rfl, rfl⟩
theorem of_eq {m t : Int} {a b : Vl} (h : ¬ badT m t a b) (h2 : ¬ nulT a b) (h3 : m = 1) : ofV m t a b = (if a = b then rt 1 1 else rt 0 1) ∧ ofE m t a b = 0 := by unfold ofV ofE; rw [if_neg h, if_neg h, if_neg h2, if_neg h2, if_pos h3, if_pos h3]; exact ⟨rfl, rfl⟩
theorem of_typ {m t : Int} {a b : Vl} (h : ¬ badT m t a b) (h2 : ¬ nulT a b) (h3 : ¬ m = 1) (h4 : typT m a b) : ofV m t a b = rt 0 0 ∧ ofE m t a b = 10 := by unfold ofV ofE; rw [if_neg h, if_neg h, if_neg h2, if_neg h2, if_neg h3, if_neg h3, if_pos h4, if_pos h4]; exact ⟨rfl, rfl⟩
theorem of_nr {m t : Int} {a b : Vl} (h : ¬ badT m t a b) (h2 : ¬ nulT a b) (h3 : m = 5) (h4 : ¬ typT m a b) : ofV m t a b = nrV a.2.1 b.2.1 t ∧ ofE m t a b = 0 := by unfold ofV ofE; rw [if_neg h, if_neg h, if_neg h2, if_neg h2, if_neg (show ¬ m = 1 by omega), if_neg (show ¬ m = 1 by omega), if_neg h4, if_neg h4, if_pos h3]; exact ⟨rfl, rfl⟩
theorem of_tx {m t : Int} {a b : Vl} (h : ¬ badT m t a b) (h2 : ¬ nulT a b) (h1 : ¬ m = 1) (h3 : ¬ m = 5) (h4 : ¬ typT m a b) : ofV m t a b = txV m a.2.2.1 b.2.2.1 ∧ ofE m t a b = 0 := by unfold ofV ofE; rw [if_neg h, if_neg h, if_neg h2, if_neg h2, if_neg h1, if_neg h1, if_neg h4, if_neg h4, if_neg h3]; exact ⟨rfl, rfl⟩
theorem good_of {m t : Int} {a b : Vl} (h1 : 1 ≤ m ∧ m ≤ 5) (h2 : vlV a) (h3 : vlV b) (h4 : ¬ (m = 5 ∧ (t < 0 ∨ 1000000000 ≤ t))) : ¬ badT m t a b := fun h => h.elim (fun h => h h1) fun h => h.elim (fun h => h h2) fun h => h.elim (fun h => h h3) h4
theorem vl_text {v : Vl} (h : vlV v) : v.2.2.1.length ≤ 200 := by
  rcases h with h | h | h | h | h
  · rw [h.2.2]; simp
  · exact h.2.2
  · rw [h.2.2.2]; simp
  · rw [h.2.2.2]; simp
  · rw [h.2.2.2]; simp

theorem four_of (m : Int) : m = 2 ∨ m = 3 ∨ m = 4 ∨ ¬ (m = 2 ∨ m = 3 ∨ m = 4) := by omega
theorem fn_out {m : Int} (h : ¬ (m = 2 ∨ m = 3 ∨ m = 4)) : (@mget (Dat tInt) (Dat .fn) (instDecidableEqDat tInt) [((2 : Int), some fi_measure_texts_1), ((3 : Int), some fi_measure_texts_2), ((4 : Int), some fi_measure_texts_3)] m).getD none = none := by
  unfold mget
  rw [if_neg fun e => h (.inl e.symm)]
  unfold mget
  rw [if_neg fun e => h (.inr (.inl e.symm))]
  unfold mget
  rw [if_neg fun e => h (.inr (.inr e.symm))]
  rfl

theorem fn_in {m : Int} (h : ¬ (m = 2 ∨ m = 3 ∨ m = 4)) (k : ¬ (((@mget (Dat tInt) (Dat .fn) (instDecidableEqDat tInt) [((2 : Int), some fi_measure_texts_1), ((3 : Int), some fi_measure_texts_2), ((4 : Int), some fi_measure_texts_3)] m).getD none = none ∧ ¬ m = 5) ∧ ¬ m = 1)) : m = 5 ∨ m = 1 := by
  rcases Classical.em (m = 5) with e | e
  · exact .inl e
  · rcases Classical.em (m = 1) with f | f
    · exact .inr f
    · exact (k ⟨⟨fn_out h, e⟩, f⟩).elim


@[reducible] noncomputable def S_measure_Of : Spec := { ins := (.cons (.d tInt) (.cons (.d tInt) (.cons (.d tVal) (.cons (.d tVal) .nil)))), pre := fun _ => True, alts := [{ outs := (.cons (.d tRt) (.cons (.d tInt) .nil)), res := (fun x => (fun m t a b => (ofV m t a b, ofE m t a b, ())) x.1 x.2.1 x.2.2.1 x.2.2.2.1) }], noisy := true }
noncomputable def c_measure_Of : Cf := { cf_measure_Of (Fl [(fi_measure_texts, S_measure_texts), (fi_value_Valid, S_value_Valid), (fi_measure_Near, S_measure_Near), (fi_measure_texts_1, S_measure_texts_1), (fi_measure_texts_2, S_measure_texts_2), (fi_measure_texts_3, S_measure_texts_3)]) with nz := true }
theorem g_measure_Of : ∀ x, S_measure_Of.pre x → shOK S_measure_Of.ins x → fnGoal c_measure_Of fn_measure_Of S_measure_Of x := by
  rintro ⟨m, t, a, b, ⟨⟩⟩ hpre hok
  clear hpre
  have hln := shLn_of _ hok; replace hok := Hd.mk hok; try simp only [shLn, datLn, inRng, lo, hi, maxLen, true_and, and_true] at hln
  have hsp := four_of m
  rcases hsp with rfl | rfl | rfl | hm
  · first | refine fn_goal (w_head ?_)
    intro K_ hK_; (conv => whnf); (try dsimp +instances only); refine hK_ _ ?_; clear hK_ K_; (conv => (arg 2; whnf))
    repeat' (first | with_reducible refine And.intro ?_ ?_ | ((try with_reducible refine gv_more ?_); first | ((with_reducible show K_ _); (try dsimp +instances only); (with_reducible refine hK_ _ ?_); clear hK_ K_) | with_reducible refine st ?_ | ((with_reducible refine sr ?_); intro K_ hK_; conv => whnf) | ((with_reducible refine w_cond ?_); (conv => arg 2; whnf); with_reducible refine st ?_) | refine blockK_y (by rfl) ?_ | ((with_reducible refine sw ?_); conv => whnf)) | ((with_reducible refine gv_more ?_); conv => whnf) | (intro hc; (try dsimp +instances only [Dat, SDat, dflt, Ty.size, keepS, bkUpd, Gv.bk, backS, wayA, maxI, minI, negI] at hc); (try simp only [LS] at hc)))
    all_goals (try ((fail_if_success with_reducible refine nl ?_); (try dsimp only [Dat, SDat, dflt, Ty.size, keepS, bkUpd, Gv.bk, backS, wayA, maxI, minI, negI]); (try simp only [LS]); first | done | exact dsc | ((try simp only [allP, lo, hi, room, true_and, and_true, implies_true]); (repeat' (first | with_reducible refine And.intro ?_ ?_ | ((with_reducible refine preA_t ?_ ?_); rotate_left; exact sameP_t) | intro hv)) <;> (try omega))))
    all_goals (first
      | (exfalso; first | contradiction | omega)
      | exact (of_bad (.inl (by omega))).1.symm
      | exact (of_bad (.inl (by omega))).2.symm
      | exact (of_bad (.inr (.inl (by assumption)))).1.symm
      | exact (of_bad (.inr (.inl (by assumption)))).2.symm
      | exact (of_bad (.inr (.inr (.inl (by assumption))))).1.symm
      | exact (of_bad (.inr (.inr (.inl (by assumption))))).2.symm
      | exact (of_bad (.inr (.inr (.inr (by omega))))).1.symm
      | exact (of_bad (.inr (.inr (.inr (by omega))))).2.symm
      | exact (of_nul (good_of (by omega) (by assumption) (by assumption) (by omega)) (by unfold nulT; omega)).1.symm
      | exact (of_nul (good_of (by omega) (by assumption) (by assumption) (by omega)) (by unfold nulT; omega)).2.symm
      | exact (of_typ (good_of (by omega) (by assumption) (by assumption) (by omega)) (by unfold nulT; omega) (by omega) (by unfold typT; omega)).1.symm
      | exact (of_typ (good_of (by omega) (by assumption) (by assumption) (by omega)) (by unfold nulT; omega) (by omega) (by unfold typT; omega)).2.symm
      | exact (of_nr (good_of (by omega) (by assumption) (by assumption) (by omega)) (by unfold nulT; omega) (by omega) (by unfold typT; omega)).1.symm
      | exact (of_nr (good_of (by omega) (by assumption) (by assumption) (by omega)) (by unfold nulT; omega) (by omega) (by unfold typT; omega)).2.symm
      | exact (of_tx (good_of (by omega) (by assumption) (by assumption) (by omega)) (by unfold nulT; omega) (by omega) (by omega) (by unfold typT; omega)).1.symm
      | exact (of_tx (good_of (by omega) (by assumption) (by assumption) (by omega)) (by unfold nulT; omega) (by omega) (by omega) (by unfold typT; omega)).2.symm
      | (rw [(of_eq (good_of (by omega) (by assumption) (by assumption) (by omega)) (by unfold nulT; omega) (by omega)).1, if_pos (by first | exact hc.2 | assumption)]; rfl)
      | (rw [(of_eq (good_of (by omega) (by assumption) (by assumption) (by omega)) (by unfold nulT; omega) (by omega)).1, if_neg (by first | assumption | (intro e; exact (by assumption : ¬ (m = 1 ∧ a = b)) ⟨by assumption, e⟩))]; rfl)
      | (rw [(of_eq (good_of (by omega) (by assumption) (by assumption) (by omega)) (by unfold nulT; omega) (by omega)).2]; done)
      | (rw [(of_tx (good_of (by omega) (by assumption) (by assumption) (by omega)) (by unfold nulT; omega) (by omega) (by omega) (by unfold typT; omega)).1]; first | rfl | (unfold txV; simp; done))
      | (exfalso; exact absurd (And.intro (And.intro (fn_out (by assumption)) (by omega)) (by omega)) (by assumption))
      | (have hx := vl_text (v := a) (by assumption); have hy := vl_text (v := b) (by assumption); exact ⟨by omega, by omega⟩)
      | (have hx := vl_text (v := a) (by assumption); omega)
      | (have hx := vl_text (v := b) (by assumption); omega)
      | skip)
  · first | refine fn_goal (w_head ?_)
    intro K_ hK_; (conv => whnf); (try dsimp +instances only); refine hK_ _ ?_; clear hK_ K_; (conv => (arg 2; whnf))
    repeat' (first | with_reducible refine And.intro ?_ ?_ | ((try with_reducible refine gv_more ?_); first | ((with_reducible show K_ _); (try dsimp +instances only); (with_reducible refine hK_ _ ?_); clear hK_ K_) | with_reducible refine st ?_ | ((with_reducible refine sr ?_); intro K_ hK_; conv => whnf) | ((with_reducible refine w_cond ?_); (conv => arg 2; whnf); with_reducible refine st ?_) | refine blockK_y (by rfl) ?_ | ((with_reducible refine sw ?_); conv => whnf)) | ((with_reducible refine gv_more ?_); conv => whnf) | (intro hc; (try dsimp +instances only [Dat, SDat, dflt, Ty.size, keepS, bkUpd, Gv.bk, backS, wayA, maxI, minI, negI] at hc); (try simp only [LS] at hc)))
    all_goals (try ((fail_if_success with_reducible refine nl ?_); (try dsimp only [Dat, SDat, dflt, Ty.size, keepS, bkUpd, Gv.bk, backS, wayA, maxI, minI, negI]); (try simp only [LS]); first | done | exact dsc | ((try simp only [allP, lo, hi, room, true_and, and_true, implies_true]); (repeat' (first | with_reducible refine And.intro ?_ ?_ | ((with_reducible refine preA_t ?_ ?_); rotate_left; exact sameP_t) | intro hv)) <;> (try omega))))
    all_goals (first
      | (exfalso; first | contradiction | omega)
      | exact (of_bad (.inl (by omega))).1.symm
      | exact (of_bad (.inl (by omega))).2.symm
      | exact (of_bad (.inr (.inl (by assumption)))).1.symm
      | exact (of_bad (.inr (.inl (by assumption)))).2.symm
      | exact (of_bad (.inr (.inr (.inl (by assumption))))).1.symm
      | exact (of_bad (.inr (.inr (.inl (by assumption))))).2.symm
      | exact (of_bad (.inr (.inr (.inr (by omega))))).1.symm
      | exact (of_bad (.inr (.inr (.inr (by omega))))).2.symm
      | exact (of_nul (good_of (by omega) (by assumption) (by assumption) (by omega)) (by unfold nulT; omega)).1.symm
      | exact (of_nul (good_of (by omega) (by assumption) (by assumption) (by omega)) (by unfold nulT; omega)).2.symm
      | exact (of_typ (good_of (by omega) (by assumption) (by assumption) (by omega)) (by unfold nulT; omega) (by omega) (by unfold typT; omega)).1.symm
      | exact (of_typ (good_of (by omega) (by assumption) (by assumption) (by omega)) (by unfold nulT; omega) (by omega) (by unfold typT; omega)).2.symm
      | exact (of_nr (good_of (by omega) (by assumption) (by assumption) (by omega)) (by unfold nulT; omega) (by omega) (by unfold typT; omega)).1.symm
      | exact (of_nr (good_of (by omega) (by assumption) (by assumption) (by omega)) (by unfold nulT; omega) (by omega) (by unfold typT; omega)).2.symm
      | exact (of_tx (good_of (by omega) (by assumption) (by assumption) (by omega)) (by unfold nulT; omega) (by omega) (by omega) (by unfold typT; omega)).1.symm
      | exact (of_tx (good_of (by omega) (by assumption) (by assumption) (by omega)) (by unfold nulT; omega) (by omega) (by omega) (by unfold typT; omega)).2.symm
      | (rw [(of_eq (good_of (by omega) (by assumption) (by assumption) (by omega)) (by unfold nulT; omega) (by omega)).1, if_pos (by first | exact hc.2 | assumption)]; rfl)
      | (rw [(of_eq (good_of (by omega) (by assumption) (by assumption) (by omega)) (by unfold nulT; omega) (by omega)).1, if_neg (by first | assumption | (intro e; exact (by assumption : ¬ (m = 1 ∧ a = b)) ⟨by assumption, e⟩))]; rfl)
      | (rw [(of_eq (good_of (by omega) (by assumption) (by assumption) (by omega)) (by unfold nulT; omega) (by omega)).2]; done)
      | (rw [(of_tx (good_of (by omega) (by assumption) (by assumption) (by omega)) (by unfold nulT; omega) (by omega) (by omega) (by unfold typT; omega)).1]; first | rfl | (unfold txV; simp; done))
      | (exfalso; exact absurd (And.intro (And.intro (fn_out (by assumption)) (by omega)) (by omega)) (by assumption))
      | (have hx := vl_text (v := a) (by assumption); have hy := vl_text (v := b) (by assumption); exact ⟨by omega, by omega⟩)
      | (have hx := vl_text (v := a) (by assumption); omega)
      | (have hx := vl_text (v := b) (by assumption); omega)
      | skip)
  · first | refine fn_goal (w_head ?_)
    intro K_ hK_; (conv => whnf); (try dsimp +instances only); refine hK_ _ ?_; clear hK_ K_; (conv => (arg 2; whnf))
    repeat' (first | with_reducible refine And.intro ?_ ?_ | ((try with_reducible refine gv_more ?_); first | ((with_reducible show K_ _); (try dsimp +instances only); (with_reducible refine hK_ _ ?_); clear hK_ K_) | with_reducible refine st ?_ | ((with_reducible refine sr ?_); intro K_ hK_; conv => whnf) | ((with_reducible refine w_cond ?_); (conv => arg 2; whnf); with_reducible refine st ?_) | refine blockK_y (by rfl) ?_ | ((with_reducible refine sw ?_); conv => whnf)) | ((with_reducible refine gv_more ?_); conv => whnf) | (intro hc; (try dsimp +instances only [Dat, SDat, dflt, Ty.size, keepS, bkUpd, Gv.bk, backS, wayA, maxI, minI, negI] at hc); (try simp only [LS] at hc)))
    all_goals (try ((fail_if_success with_reducible refine nl ?_); (try dsimp only [Dat, SDat, dflt, Ty.size, keepS, bkUpd, Gv.bk, backS, wayA, maxI, minI, negI]); (try simp only [LS]); first | done | exact dsc | ((try simp only [allP, lo, hi, room, true_and, and_true, implies_true]); (repeat' (first | with_reducible refine And.intro ?_ ?_ | ((with_reducible refine preA_t ?_ ?_); rotate_left; exact sameP_t) | intro hv)) <;> (try omega))))
    all_goals (first
      | (exfalso; first | contradiction | omega)
      | exact (of_bad (.inl (by omega))).1.symm
      | exact (of_bad (.inl (by omega))).2.symm
      | exact (of_bad (.inr (.inl (by assumption)))).1.symm
      | exact (of_bad (.inr (.inl (by assumption)))).2.symm
      | exact (of_bad (.inr (.inr (.inl (by assumption))))).1.symm
      | exact (of_bad (.inr (.inr (.inl (by assumption))))).2.symm
      | exact (of_bad (.inr (.inr (.inr (by omega))))).1.symm
      | exact (of_bad (.inr (.inr (.inr (by omega))))).2.symm
      | exact (of_nul (good_of (by omega) (by assumption) (by assumption) (by omega)) (by unfold nulT; omega)).1.symm
      | exact (of_nul (good_of (by omega) (by assumption) (by assumption) (by omega)) (by unfold nulT; omega)).2.symm
      | exact (of_typ (good_of (by omega) (by assumption) (by assumption) (by omega)) (by unfold nulT; omega) (by omega) (by unfold typT; omega)).1.symm
      | exact (of_typ (good_of (by omega) (by assumption) (by assumption) (by omega)) (by unfold nulT; omega) (by omega) (by unfold typT; omega)).2.symm
      | exact (of_nr (good_of (by omega) (by assumption) (by assumption) (by omega)) (by unfold nulT; omega) (by omega) (by unfold typT; omega)).1.symm
      | exact (of_nr (good_of (by omega) (by assumption) (by assumption) (by omega)) (by unfold nulT; omega) (by omega) (by unfold typT; omega)).2.symm
      | exact (of_tx (good_of (by omega) (by assumption) (by assumption) (by omega)) (by unfold nulT; omega) (by omega) (by omega) (by unfold typT; omega)).1.symm
      | exact (of_tx (good_of (by omega) (by assumption) (by assumption) (by omega)) (by unfold nulT; omega) (by omega) (by omega) (by unfold typT; omega)).2.symm
      | (rw [(of_eq (good_of (by omega) (by assumption) (by assumption) (by omega)) (by unfold nulT; omega) (by omega)).1, if_pos (by first | exact hc.2 | assumption)]; rfl)
      | (rw [(of_eq (good_of (by omega) (by assumption) (by assumption) (by omega)) (by unfold nulT; omega) (by omega)).1, if_neg (by first | assumption | (intro e; exact (by assumption : ¬ (m = 1 ∧ a = b)) ⟨by assumption, e⟩))]; rfl)
      | (rw [(of_eq (good_of (by omega) (by assumption) (by assumption) (by omega)) (by unfold nulT; omega) (by omega)).2]; done)
      | (rw [(of_tx (good_of (by omega) (by assumption) (by assumption) (by omega)) (by unfold nulT; omega) (by omega) (by omega) (by unfold typT; omega)).1]; first | rfl | (unfold txV; simp; done))
      | (exfalso; exact absurd (And.intro (And.intro (fn_out (by assumption)) (by omega)) (by omega)) (by assumption))
      | (have hx := vl_text (v := a) (by assumption); have hy := vl_text (v := b) (by assumption); exact ⟨by omega, by omega⟩)
      | (have hx := vl_text (v := a) (by assumption); omega)
      | (have hx := vl_text (v := b) (by assumption); omega)
      | skip)
  · first | refine fn_goal (w_head ?_)
    intro K_ hK_; (conv => whnf); (try dsimp +instances only); refine hK_ _ ?_; clear hK_ K_; (conv => (arg 2; whnf))
    repeat' (first | with_reducible refine And.intro ?_ ?_ | ((try with_reducible refine gv_more ?_); first | ((with_reducible show K_ _); (try dsimp +instances only); (with_reducible refine hK_ _ ?_); clear hK_ K_) | with_reducible refine st ?_ | ((with_reducible refine sr ?_); intro K_ hK_; conv => whnf) | ((with_reducible refine w_cond ?_); (conv => arg 2; whnf); with_reducible refine st ?_) | refine blockK_y (by rfl) ?_ | ((with_reducible refine sw ?_); conv => whnf)) | ((with_reducible refine gv_more ?_); conv => whnf) | (intro hc; (try dsimp +instances only [Dat, SDat, dflt, Ty.size, keepS, bkUpd, Gv.bk, backS, wayA, maxI, minI, negI] at hc); (try simp only [LS] at hc)))
    all_goals (try ((fail_if_success with_reducible refine nl ?_); (try dsimp only [Dat, SDat, dflt, Ty.size, keepS, bkUpd, Gv.bk, backS, wayA, maxI, minI, negI]); (try simp only [LS]); first | done | exact dsc | ((try simp only [allP, lo, hi, room, true_and, and_true, implies_true]); (repeat' (first | with_reducible refine And.intro ?_ ?_ | ((with_reducible refine preA_t ?_ ?_); rotate_left; exact sameP_t) | intro hv)) <;> (try omega))))
    all_goals (try (have h51 := fn_in hm (by assumption)))
    all_goals (first
      | (exfalso; first | contradiction | omega)
      | exact (of_bad (.inl (by omega))).1.symm
      | exact (of_bad (.inl (by omega))).2.symm
      | exact (of_bad (.inr (.inl (by assumption)))).1.symm
      | exact (of_bad (.inr (.inl (by assumption)))).2.symm
      | exact (of_bad (.inr (.inr (.inl (by assumption))))).1.symm
      | exact (of_bad (.inr (.inr (.inl (by assumption))))).2.symm
      | exact (of_bad (.inr (.inr (.inr (by omega))))).1.symm
      | exact (of_bad (.inr (.inr (.inr (by omega))))).2.symm
      | exact (of_nul (good_of (by omega) (by assumption) (by assumption) (by omega)) (by unfold nulT; omega)).1.symm
      | exact (of_nul (good_of (by omega) (by assumption) (by assumption) (by omega)) (by unfold nulT; omega)).2.symm
      | exact (of_typ (good_of (by omega) (by assumption) (by assumption) (by omega)) (by unfold nulT; omega) (by omega) (by unfold typT; omega)).1.symm
      | exact (of_typ (good_of (by omega) (by assumption) (by assumption) (by omega)) (by unfold nulT; omega) (by omega) (by unfold typT; omega)).2.symm
      | exact (of_nr (good_of (by omega) (by assumption) (by assumption) (by omega)) (by unfold nulT; omega) (by omega) (by unfold typT; omega)).1.symm
      | exact (of_nr (good_of (by omega) (by assumption) (by assumption) (by omega)) (by unfold nulT; omega) (by omega) (by unfold typT; omega)).2.symm
      | exact (of_tx (good_of (by omega) (by assumption) (by assumption) (by omega)) (by unfold nulT; omega) (by omega) (by omega) (by unfold typT; omega)).1.symm
      | exact (of_tx (good_of (by omega) (by assumption) (by assumption) (by omega)) (by unfold nulT; omega) (by omega) (by omega) (by unfold typT; omega)).2.symm
      | (rw [(of_eq (good_of (by omega) (by assumption) (by assumption) (by omega)) (by unfold nulT; omega) (by omega)).1, if_pos (by first | exact hc.2 | assumption)]; rfl)
      | (rw [(of_eq (good_of (by omega) (by assumption) (by assumption) (by omega)) (by unfold nulT; omega) (by omega)).1, if_neg (by first | assumption | (intro e; exact (by assumption : ¬ (m = 1 ∧ a = b)) ⟨by assumption, e⟩))]; rfl)
      | (rw [(of_eq (good_of (by omega) (by assumption) (by assumption) (by omega)) (by unfold nulT; omega) (by omega)).2]; done)
      | (rw [(of_tx (good_of (by omega) (by assumption) (by assumption) (by omega)) (by unfold nulT; omega) (by omega) (by omega) (by unfold typT; omega)).1]; first | rfl | (unfold txV; simp; done))
      | (exfalso; exact absurd (And.intro (And.intro (fn_out (by assumption)) (by omega)) (by omega)) (by assumption))
      | (have hx := vl_text (v := a) (by assumption); have hy := vl_text (v := b) (by assumption); exact ⟨by omega, by omega⟩)
      | (have hx := vl_text (v := a) (by assumption); omega)
      | (have hx := vl_text (v := b) (by assumption); omega)
      | skip)
theorem ok_measure_Of : SpecOK SP glob fi_measure_Of S_measure_Of := mk_ok (c := c_measure_Of) (tab_ok _) mix_ok wf_measure_Of (by decide) (.cons ok_measure_texts (.cons ok_value_Valid (.cons ok_measure_Near (.cons ok_measure_texts_1 (.cons ok_measure_texts_2 (.cons ok_measure_texts_3 .nil)))))) (fun x hx => Nat.zero_lt_one) g_measure_Of
end Go.Gv
