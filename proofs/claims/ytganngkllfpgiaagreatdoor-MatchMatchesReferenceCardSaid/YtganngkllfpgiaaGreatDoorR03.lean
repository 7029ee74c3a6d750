/- Chapter 3: the reference. -/
import Derived.Test.YtganngkllfpgiaaGreatDoorC03d
set_option linter.all false
namespace Go.Gv
open Go Go.Proofs Go.Proofs.YtganngkllfpgiaaGreatDoor
set_option maxRecDepth 100000
set_option maxHeartbeats 4000000

set_option maxRecDepth 100000 in
theorem lowU_low : ∀ c : UInt8, (0 : Int) ≤ lowB (c.toNat : Int) ∧ lowB (c.toNat : Int) ≤ 127 := by
  refine u8_all ?_
  decide

@[reducible] noncomputable def S_ref03_Lower : Spec := { ins := (.cons (.d tBy) .nil), pre := fun _ => True, alts := [{ outs := (.cons (.d tBy) .nil), res := (fun x => (fun c => (lowB c, ())) x.1) }] }
noncomputable def c_ref03_Lower : Cf := (cf_ref03_Lower (Fl []))
theorem g_ref03_Lower : ∀ x, S_ref03_Lower.pre x → shOK S_ref03_Lower.ins x → fnGoal c_ref03_Lower fn_ref03_Lower S_ref03_Lower x := by
  rintro ⟨c, ⟨⟩⟩ hpre hok
  clear hpre
  have hln := shLn_of _ hok; replace hok := Hd.mk hok; try simp only [shLn, datLn, inRng, lo, hi, maxLen, true_and, and_true] at hln
  first | refine fn_goal (w_head ?_)
  intro K_ hK_; (conv => whnf); (try dsimp +instances only); refine hK_ _ ?_; clear hK_ K_; (conv => (arg 2; whnf))
  repeat' (first | with_reducible refine And.intro ?_ ?_ | ((try with_reducible refine gv_more ?_); first | ((with_reducible show K_ _); (try dsimp +instances only); (with_reducible refine hK_ _ ?_); clear hK_ K_) | with_reducible refine st ?_ | ((with_reducible refine sr ?_); intro K_ hK_; conv => whnf) | ((with_reducible refine w_cond ?_); (conv => arg 2; whnf); with_reducible refine st ?_) | refine blockK_y (by rfl) ?_ | ((with_reducible refine sw ?_); conv => whnf)) | ((with_reducible refine gv_more ?_); conv => whnf) | (intro hc; (try dsimp +instances only [Dat, SDat, dflt, Ty.size, keepS, bkUpd, Gv.bk, backS, wayA, maxI, minI, negI] at hc); (try simp only [LS] at hc)))
  all_goals (try ((fail_if_success with_reducible refine nl ?_); (try dsimp only [Dat, SDat, dflt, Ty.size, keepS, bkUpd, Gv.bk, backS, wayA, maxI, minI, negI]); (try simp only [LS]); first | done | exact dsc | ((try simp only [allP, lo, hi, room, true_and, and_true, implies_true]); (repeat' (first | with_reducible refine And.intro ?_ ?_ | ((with_reducible refine preA_t ?_ ?_); rotate_left; exact sameP_t) | intro hv)) <;> (try omega))))
  all_goals (try (simp only [lowB]; split <;> (try split) <;> omega))
theorem ok_ref03_Lower : SpecOK SP glob fi_ref03_Lower S_ref03_Lower := mk_ok (c := c_ref03_Lower) (tab_ok _) mix_ok wf_ref03_Lower (by decide) .nil (fun x hx => Nat.zero_lt_one) g_ref03_Lower

theorem wordsU_nil {w : Bs} : wordsU w [] = if w = [] then [] else [w] := rfl
theorem wordsU_cons {w : Bs} {c : UInt8} {r : Bs} : wordsU w (c :: r) = if lowU c = 0 then (if w = [] then wordsU [] r else w :: wordsU [] r) else wordsU (w ++ [lowU c]) r := rfl

@[reducible] noncomputable def S_ref03_Words : Spec := { ins := (.cons (.d .str) .nil), pre := (fun x => (fun text => text.length ≤ 1000000) x.1), alts := [{ outs := (.cons (.d (.sl .str)) .nil), res := (fun x => (fun text => (Ws text, ())) x.1) }] }
noncomputable def c_ref03_Words : Cf := (cf_ref03_Words (Fl [(fi_ref03_Lower, S_ref03_Lower)]))
theorem g_ref03_Words : ∀ x, S_ref03_Words.pre x → shOK S_ref03_Words.ins x → fnGoal c_ref03_Words fn_ref03_Words S_ref03_Words x := by
  rintro ⟨text, ⟨⟩⟩ hpre hok
  try dsimp only [Dat, SDat, dflt, Ty.size, keepS, bkUpd, Gv.bk, backS, wayA, maxI, minI, negI] at hpre
  have hln := shLn_of _ hok; replace hok := Hd.mk hok; try simp only [shLn, datLn, inRng, lo, hi, maxLen, true_and, and_true] at hln
  have hwl := Ws_len text
  first | refine fn_goal (w_head ?_)
  intro K_ hK_; (conv => whnf); (try dsimp +instances only); refine hK_ _ ?_; clear hK_ K_; (conv => (arg 2; whnf))
  repeat' (first | with_reducible refine And.intro ?_ ?_ | ((try with_reducible refine gv_more ?_); first | ((with_reducible show K_ _); (try dsimp +instances only); (with_reducible refine hK_ _ ?_); clear hK_ K_) | with_reducible refine st ?_ | ((with_reducible refine sr ?_); intro K_ hK_; conv => whnf) | ((with_reducible refine w_cond ?_); (conv => arg 2; whnf); with_reducible refine st ?_) | refine blockK_y (by rfl) ?_ | ((with_reducible refine sw ?_); conv => whnf)) | ((with_reducible refine gv_more ?_); conv => whnf) | (intro hc; (try dsimp +instances only [Dat, SDat, dflt, Ty.size, keepS, bkUpd, Gv.bk, backS, wayA, maxI, minI, negI] at hc); (try simp only [LS] at hc)))
  all_goals (try ((fail_if_success with_reducible refine nl ?_); (try dsimp only [Dat, SDat, dflt, Ty.size, keepS, bkUpd, Gv.bk, backS, wayA, maxI, minI, negI]); (try simp only [LS]); first | done | exact dsc | ((try simp only [allP, lo, hi, room, true_and, and_true, implies_true]); (repeat' (first | with_reducible refine And.intro ?_ ?_ | ((with_reducible refine preA_t ?_ ?_); rotate_left; exact sameP_t) | intro hv)) <;> (try omega))))
  refine w_loop [(3, .row .str), (4, .d .str), (5, .d tInt)] [] (fun y => ∃ k : Nat, y.1.2.2.1 = (k : Int) ∧ k ≤ text.length ∧ List.length y.1.2.1 ≤ k ∧ (y.1.1 : List Bs) ++ wordsU y.1.2.1 (text.drop k) = Ws text) (fun y => text.length - y.1.2.2.1.toNat) ?_
  conv => whnf
  refine And.intro ?_ ?_
  · exact ⟨0, rfl, Nat.zero_le _, Nat.le_refl _, rfl⟩
  rintro ⟨⟨out, w, _, ⟨⟩⟩, ⟨⟩⟩ ⟨k, rfl, hkl, hw, hi⟩
  dsimp only at hw hi
  have hol := congrArg List.length hi
  rw [List.length_append] at hol
  have hd : (k : Int) < (text.length : Int) → List.drop k text = text.getD k 0 :: List.drop (k + 1) text := fun h => by
    have h' : k < text.length := by omega
    rw [List.drop_eq_getElem_cons h', List.getD_eq_getElem?_getD, List.getElem?_eq_getElem h']; rfl
  have hlb := lowU_low (text.getD k 0)
  repeat' (first | with_reducible refine And.intro ?_ ?_ | ((try with_reducible refine gv_more ?_); first | ((with_reducible show K_ _); (try dsimp +instances only); (with_reducible refine hK_ _ ?_); clear hK_ K_) | with_reducible refine st ?_ | ((with_reducible refine sr ?_); intro K_ hK_; conv => whnf) | ((with_reducible refine w_cond ?_); (conv => arg 2; whnf); with_reducible refine st ?_) | refine blockK_y (by rfl) ?_ | ((with_reducible refine sw ?_); conv => whnf)) | ((with_reducible refine gv_more ?_); conv => whnf) | (intro hc; (try dsimp +instances only [Dat, SDat, dflt, Ty.size, keepS, bkUpd, Gv.bk, backS, wayA, maxI, minI, negI] at hc); (try simp only [LS] at hc)))
  all_goals (try ((fail_if_success with_reducible refine nl ?_); (try dsimp only [Dat, SDat, dflt, Ty.size, keepS, bkUpd, Gv.bk, backS, wayA, maxI, minI, negI]); (try simp only [LS]); first | done | exact dsc | ((try simp only [allP, lo, hi, room, true_and, and_true, implies_true]); (repeat' (first | with_reducible refine And.intro ?_ ?_ | ((with_reducible refine preA_t ?_ ?_); rotate_left; exact sameP_t) | intro hv)) <;> (try omega))))
  all_goals (try (simp only [Gv.hi, Gv.lo, maxLen]; omega))
  all_goals (try omega)
  · rename_i h1
    rw [hd h1, wordsU_cons, if_neg (fun e => hc ((lowU_zero _).2 e))] at hi
    exact ⟨k + 1, by omega, by omega, by omega, hi⟩
  · rename_i h1 h2
    rw [hd h1, wordsU_cons, if_pos ((lowU_zero _).1 h2), if_neg hc] at hi
    refine ⟨k + 1, by omega, by omega, by omega, ?_⟩
    rw [List.append_assoc]; exact hi
  · rename_i h1 h2
    rw [hd h1, wordsU_cons, if_pos ((lowU_zero _).1 h2), if_pos hc] at hi
    refine ⟨k + 1, by omega, by omega, by omega, ?_⟩
    rw [hc]; exact hi
  · rename_i h1
    rw [show k = text.length by omega, List.drop_length, wordsU_nil, if_neg hc] at hi
    exact hi
  · rename_i h1
    rw [show k = text.length by omega, List.drop_length, wordsU_nil, if_pos hc, List.append_nil] at hi
    exact hi
theorem ok_ref03_Words : SpecOK SP glob fi_ref03_Words S_ref03_Words := mk_ok (c := c_ref03_Words) (tab_ok _) mix_ok wf_ref03_Words (by decide) (.cons ok_ref03_Lower .nil) (fun x hx => Nat.zero_lt_one) g_ref03_Words

theorem join_snocW (sep : List UInt8) : ∀ (xs : List (List UInt8)) (y : List UInt8), Lib.join (xs ++ [y]) sep = Lib.join xs sep ++ (if xs = [] then [] else sep) ++ y
  | [], y => by simp [Lib.join_one, Lib.join_nil]
  | x :: r, y => by
    rw [List.cons_append, Lib.join_cons, Lib.join_cons]
    simp [Lib.joinTail]
theorem join_take {l : List Bs} {sep : Bs} {k : Nat} (h : k < l.length) : Lib.join (l.take (k + 1)) sep = Lib.join (l.take k) sep ++ (if 0 < k then sep else []) ++ l.getD k [] := by
  rw [List.take_succ_eq_append_getElem h, join_snocW, getD_ok _ h]
  cases k with
  | zero => simp
  | succ k =>
    rw [if_neg (fun e => ?_), if_pos (by omega)]
    have := congrArg List.length e
    rw [List.length_take, List.length_nil] at this
    omega
theorem join_le (sep : Bs) (k : Nat) : ∀ (l : List Bs), (Lib.join (l.take k) sep).length ≤ (Lib.join l sep).length
  | [] => by simp
  | x :: r => by
    cases k with
    | zero => simp [Lib.join_nil]
    | succ k =>
      rw [List.take_succ_cons, Lib.join_cons, Lib.join_cons, List.length_append, List.length_append]
      have := Lib.joinTail_take_le sep r k
      omega

@[reducible] noncomputable def S_ref03_Fold : Spec := { ins := (.cons (.d .str) .nil), pre := (fun x => (fun text => text.length ≤ 1000000) x.1), alts := [{ outs := (.cons (.d .str) .nil), res := (fun x => (fun text => (foldT text, ())) x.1) }] }
noncomputable def c_ref03_Fold : Cf := (cf_ref03_Fold (Fl [(fi_ref03_Words, S_ref03_Words)]))
theorem g_ref03_Fold : ∀ x, S_ref03_Fold.pre x → shOK S_ref03_Fold.ins x → fnGoal c_ref03_Fold fn_ref03_Fold S_ref03_Fold x := by
  rintro ⟨text, ⟨⟩⟩ hpre hok
  try dsimp only [Dat, SDat, dflt, Ty.size, keepS, bkUpd, Gv.bk, backS, wayA, maxI, minI, negI] at hpre
  have hln := shLn_of _ hok; replace hok := Hd.mk hok; try simp only [shLn, datLn, inRng, lo, hi, maxLen, true_and, and_true] at hln
  have hwl := Ws_len text
  have hfl := fold_len text
  first | refine fn_goal (w_head ?_)
  intro K_ hK_; (conv => whnf); (try dsimp +instances only); refine hK_ _ ?_; clear hK_ K_; (conv => (arg 2; whnf))
  repeat' (first | with_reducible refine And.intro ?_ ?_ | ((try with_reducible refine gv_more ?_); first | ((with_reducible show K_ _); (try dsimp +instances only); (with_reducible refine hK_ _ ?_); clear hK_ K_) | with_reducible refine st ?_ | ((with_reducible refine sr ?_); intro K_ hK_; conv => whnf) | ((with_reducible refine w_cond ?_); (conv => arg 2; whnf); with_reducible refine st ?_) | refine blockK_y (by rfl) ?_ | ((with_reducible refine sw ?_); conv => whnf)) | ((with_reducible refine gv_more ?_); conv => whnf) | (intro hc; (try dsimp +instances only [Dat, SDat, dflt, Ty.size, keepS, bkUpd, Gv.bk, backS, wayA, maxI, minI, negI] at hc); (try simp only [LS] at hc)))
  all_goals (try ((fail_if_success with_reducible refine nl ?_); (try dsimp only [Dat, SDat, dflt, Ty.size, keepS, bkUpd, Gv.bk, backS, wayA, maxI, minI, negI]); (try simp only [LS]); first | done | exact dsc | ((try simp only [allP, lo, hi, room, true_and, and_true, implies_true]); (repeat' (first | with_reducible refine And.intro ?_ ?_ | ((with_reducible refine preA_t ?_ ?_); rotate_left; exact sameP_t) | intro hv)) <;> (try omega))))
  refine w_loop [(4, .d .str), (5, .d tInt)] [] (fun y => ∃ k : Nat, y.1.2.1 = (k : Int) ∧ k ≤ (Ws text).length ∧ y.1.1 = Lib.join ((Ws text).take k) [32]) (fun y => (Ws text).length - y.1.2.1.toNat) ?_
  conv => whnf
  refine And.intro ?_ ?_
  · exact ⟨0, rfl, Nat.zero_le _, rfl⟩
  rintro ⟨⟨out, _, ⟨⟩⟩, ⟨⟩⟩ ⟨k, rfl, hk, hi⟩
  have hi : out = Lib.join ((Ws text).take k) [32] := hi
  subst hi
  have hs := fun h => join_take (l := Ws text) (sep := [32]) (k := k) h
  have hl : (Lib.join ((Ws text).take (k + 1)) [32]).length ≤ text.length := Nat.le_trans (join_le [32] (k + 1) (Ws text)) hfl
  have hl0 : (Lib.join ((Ws text).take k) [32]).length ≤ text.length := Nat.le_trans (join_le [32] k (Ws text)) hfl
  have hC : k < (Ws text).length → 0 < k → Lib.join ((Ws text).take (k + 1)) [32] = Lib.join ((Ws text).take k) [32] ++ [32] ++ (Ws text).getD k [] := fun h h0 => by rw [hs h, if_pos h0]
  have hD : k < (Ws text).length → ¬ 0 < k → Lib.join ((Ws text).take (k + 1)) [32] = Lib.join ((Ws text).take k) [32] ++ (Ws text).getD k [] := fun h h0 => by rw [hs h, if_neg h0, List.append_nil]
  have hA : k < (Ws text).length → 0 < k → (Lib.join ((Ws text).take k) [32]).length + 1 + ((Ws text).getD k []).length ≤ 1000000 := fun h h0 => by
    rw [hC h h0] at hl
    simp only [List.length_append, List.length_cons, List.length_nil] at hl
    omega
  have hB : k < (Ws text).length → (Lib.join ((Ws text).take k) [32]).length + ((Ws text).getD k []).length ≤ 1000000 := fun h => by
    rw [hs h] at hl
    simp only [List.length_append] at hl
    omega
  repeat' (first | with_reducible refine And.intro ?_ ?_ | ((try with_reducible refine gv_more ?_); first | ((with_reducible show K_ _); (try dsimp +instances only); (with_reducible refine hK_ _ ?_); clear hK_ K_) | with_reducible refine st ?_ | ((with_reducible refine sr ?_); intro K_ hK_; conv => whnf) | ((with_reducible refine w_cond ?_); (conv => arg 2; whnf); with_reducible refine st ?_) | refine blockK_y (by rfl) ?_ | ((with_reducible refine sw ?_); conv => whnf)) | ((with_reducible refine gv_more ?_); conv => whnf) | (intro hc; (try dsimp +instances only [Dat, SDat, dflt, Ty.size, keepS, bkUpd, Gv.bk, backS, wayA, maxI, minI, negI] at hc); (try simp only [LS] at hc)))
  all_goals (try ((fail_if_success with_reducible refine nl ?_); (try dsimp only [Dat, SDat, dflt, Ty.size, keepS, bkUpd, Gv.bk, backS, wayA, maxI, minI, negI]); (try simp only [LS]); first | done | exact dsc | ((try simp only [allP, lo, hi, room, true_and, and_true, implies_true]); (repeat' (first | with_reducible refine And.intro ?_ ?_ | ((with_reducible refine preA_t ?_ ?_); rotate_left; exact sameP_t) | intro hv)) <;> (try omega))))
  all_goals (try (have hB := hB (by omega); simp only [Gv.hi, maxLen]; omega))
  all_goals (try (have hA := hA (by omega) (by omega); simp only [Gv.hi, maxLen]; omega))
  · exact ⟨k + 1, by omega, by omega, (hC (by omega) (by omega)).symm⟩
  · exact ⟨k + 1, by omega, by omega, (hD (by omega) (by omega)).symm⟩
  · rw [List.take_of_length_le (by omega)]; rfl
theorem ok_ref03_Fold : SpecOK SP glob fi_ref03_Fold S_ref03_Fold := mk_ok (c := c_ref03_Fold) (tab_ok _) mix_ok wf_ref03_Fold (by decide) (.cons ok_ref03_Words .nil) (fun x hx => Nat.zero_lt_one) g_ref03_Fold




/-- A text is put into a sorted list. -/
theorem insS_hit : ∀ {l : List Bs} {x : Bs} {k : Nat}, (∀ j, j < k → l.getD j [] < x) → k < l.length → l.getD k [] = x → insS l x = l
  | [], _, _, _, h, _ => by simp at h
  | y :: l, x, 0, _, _, h => by
    have h : y = x := h
    unfold insS
    rw [if_neg (by rw [h]; exact bs_irr _), if_pos h]
  | y :: l, x, k + 1, hj, hk, h => by
    have h0 : y < x := hj 0 (by omega)
    unfold insS
    rw [if_pos h0, insS_hit (k := k) (fun j hjk => hj (j + 1) (by omega)) (by simpa using hk) h]
theorem insS_miss : ∀ {l : List Bs} {x : Bs} {k : Nat}, (∀ j, j < k → l.getD j [] < x) → k ≤ l.length → (k < l.length → x < l.getD k []) → insS l x = l.take k ++ x :: l.drop k
  | [], _, k, _, _, _ => by simp [insS]
  | y :: l, x, 0, _, _, h => by
    have h : x < y := h (by simp)
    unfold insS
    rw [if_neg (fun k => bs_irr _ (bs_trans h k)), if_neg (fun e => by subst e; exact bs_irr _ h)]
    rfl
  | y :: l, x, k + 1, hj, hk, h => by
    have h0 : y < x := hj 0 (by omega)
    unfold insS
    rw [if_pos h0, insS_miss (k := k) (fun j hjk => hj (j + 1) (by omega)) (by simpa using hk) (fun hlt => h (by simpa using hlt))]
    rfl
theorem sorS_step {l : List Bs} {i : Nat} (h : i < l.length) : sorS (l.take (i + 1)) = insS (sorS (l.take i)) (l.getD i []) := by
  rw [List.take_succ_eq_append_getElem h, sorS_snoc, getD_ok _ h]

@[reducible] noncomputable def S_ref03_Sorted : Spec := { ins := (.cons (.d (.sl .str)) .nil), pre := (fun x => (fun l => l.length ≤ 1000000) x.1), alts := [{ outs := (.cons (.d (.sl .str)) .nil), res := (fun x => (fun l => (sorS l, ())) x.1) }] }
noncomputable def c_ref03_Sorted : Cf := (cf_ref03_Sorted (Fl []))
theorem g_ref03_Sorted : ∀ x, S_ref03_Sorted.pre x → shOK S_ref03_Sorted.ins x → fnGoal c_ref03_Sorted fn_ref03_Sorted S_ref03_Sorted x := by
  rintro ⟨l, ⟨⟩⟩ hpre hok
  try dsimp only [Dat, SDat, dflt, Ty.size, keepS, bkUpd, Gv.bk, backS, wayA, maxI, minI, negI] at hpre
  have hln := shLn_of _ hok; replace hok := Hd.mk hok; try simp only [shLn, datLn, inRng, lo, hi, maxLen, true_and, and_true] at hln
  first | refine fn_goal (w_head ?_)
  intro K_ hK_; (conv => whnf); (try dsimp +instances only); refine hK_ _ ?_; clear hK_ K_; (conv => (arg 2; whnf))
  repeat' (first | with_reducible refine And.intro ?_ ?_ | ((try with_reducible refine gv_more ?_); first | ((with_reducible show K_ _); (try dsimp +instances only); (with_reducible refine hK_ _ ?_); clear hK_ K_) | with_reducible refine st ?_ | ((with_reducible refine sr ?_); intro K_ hK_; conv => whnf) | ((with_reducible refine w_cond ?_); (conv => arg 2; whnf); with_reducible refine st ?_) | refine blockK_y (by rfl) ?_ | ((with_reducible refine sw ?_); conv => whnf)) | ((with_reducible refine gv_more ?_); conv => whnf) | (intro hc; (try dsimp +instances only [Dat, SDat, dflt, Ty.size, keepS, bkUpd, Gv.bk, backS, wayA, maxI, minI, negI] at hc); (try simp only [LS] at hc)))
  all_goals (try ((fail_if_success with_reducible refine nl ?_); (try dsimp only [Dat, SDat, dflt, Ty.size, keepS, bkUpd, Gv.bk, backS, wayA, maxI, minI, negI]); (try simp only [LS]); first | done | exact dsc | ((try simp only [allP, lo, hi, room, true_and, and_true, implies_true]); (repeat' (first | with_reducible refine And.intro ?_ ?_ | ((with_reducible refine preA_t ?_ ?_); rotate_left; exact sameP_t) | intro hv)) <;> (try omega))))
  refine w_loop [(3, .d (.sl .str)), (4, .d tInt)] [] (fun y => ∃ i : Nat, y.1.2.1 = (i : Int) ∧ i ≤ l.length ∧ @Eq (List Bs) y.1.1 (sorS (l.take i))) (fun y => l.length - y.1.2.1.toNat) ?_
  conv => whnf
  refine And.intro ?_ ?_
  · exact ⟨0, rfl, Nat.zero_le _, rfl⟩
  rintro ⟨⟨out, _, ⟨⟩⟩, ⟨⟩⟩ ⟨i, rfl, hil, hou⟩
  have hou : @Eq (List Bs) out (sorS (l.take i)) := hou
  have hos := sorS_inc (l.take i)
  rw [← hou] at hos
  have hol := sorS_len (l.take i) []
  have hol : List.length out ≤ 1000000 := by
    have e : List.length out = (sorS (l.take i)).length := by rw [hou]
    rw [List.length_take] at hol
    rw [e, sorS]
    simp only [List.length_nil] at hol
    omega
  have hst := fun h => sorS_step (l := l) (i := i) h
  rw [← hou] at hst
  repeat' (first | with_reducible refine And.intro ?_ ?_ | ((try with_reducible refine gv_more ?_); first | ((with_reducible show K_ _); (try dsimp +instances only); (with_reducible refine hK_ _ ?_); clear hK_ K_) | with_reducible refine st ?_ | ((with_reducible refine sr ?_); intro K_ hK_; conv => whnf) | ((with_reducible refine w_cond ?_); (conv => arg 2; whnf); with_reducible refine st ?_) | refine blockK_y (by rfl) ?_ | ((with_reducible refine sw ?_); conv => whnf)) | ((with_reducible refine gv_more ?_); conv => whnf) | (intro hc; (try dsimp +instances only [Dat, SDat, dflt, Ty.size, keepS, bkUpd, Gv.bk, backS, wayA, maxI, minI, negI] at hc); (try simp only [LS] at hc)))
  all_goals (try ((fail_if_success with_reducible refine nl ?_); (try dsimp only [Dat, SDat, dflt, Ty.size, keepS, bkUpd, Gv.bk, backS, wayA, maxI, minI, negI]); (try simp only [LS]); first | done | exact dsc | ((try simp only [allP, lo, hi, room, true_and, and_true, implies_true]); (repeat' (first | with_reducible refine And.intro ?_ ?_ | ((with_reducible refine preA_t ?_ ?_); rotate_left; exact sameP_t) | intro hv)) <;> (try omega))))
  refine w_loop [(5, .d tInt)] [] (fun y => ∃ k : Nat, y.1.1 = (k : Int) ∧ k ≤ List.length out ∧ ∀ j, j < k → List.getD out j [] < List.getD l i []) (fun y => List.length out - y.1.1.toNat) ?_
  conv => whnf
  refine And.intro ?_ ?_
  · exact ⟨0, rfl, Nat.zero_le _, by simp⟩
  rintro ⟨⟨_, ⟨⟩⟩, ⟨⟩⟩ ⟨k, rfl, hk, hlo⟩
  have hd0 : (List.drop 0 (List.take k out)).length = k := by rw [List.drop_zero, List.length_take]; omega
  have hd1 : (List.drop k (List.take (List.length out) out)).length = List.length out - k := by rw [List.length_drop, List.take_length]
  repeat' (first | with_reducible refine And.intro ?_ ?_ | ((try with_reducible refine gv_more ?_); first | ((with_reducible show K_ _); (try dsimp +instances only); (with_reducible refine hK_ _ ?_); clear hK_ K_) | with_reducible refine st ?_ | ((with_reducible refine sr ?_); intro K_ hK_; conv => whnf) | ((with_reducible refine w_cond ?_); (conv => arg 2; whnf); with_reducible refine st ?_) | refine blockK_y (by rfl) ?_ | ((with_reducible refine sw ?_); conv => whnf)) | ((with_reducible refine gv_more ?_); conv => whnf) | (intro hc; (try dsimp +instances only [Dat, SDat, dflt, Ty.size, keepS, bkUpd, Gv.bk, backS, wayA, maxI, minI, negI] at hc); (try simp only [LS] at hc)))
  all_goals (try ((fail_if_success with_reducible refine nl ?_); (try dsimp only [Dat, SDat, dflt, Ty.size, keepS, bkUpd, Gv.bk, backS, wayA, maxI, minI, negI]); (try simp only [LS]); first | done | exact dsc | ((try simp only [allP, lo, hi, room, true_and, and_true, implies_true]); (repeat' (first | with_reducible refine And.intro ?_ ?_ | ((with_reducible refine preA_t ?_ ?_); rotate_left; exact sameP_t) | intro hv)) <;> (try omega))))
  · refine ⟨k + 1, by omega, by omega, fun j hj => ?_⟩
    rcases Nat.lt_or_ge j k with h | h
    · exact hlo j h
    · rw [show j = k by omega]; exact strLt_lt.1 hc.2
  · rename_i h1 h2
    refine ⟨i + 1, by omega, by omega, ?_⟩
    rw [hst (by omega), insS_hit hlo (by omega) hc.2]
  all_goals (try (rw [hd0]; simp only [Nat.reduceMul]; omega))
  all_goals (try (rw [hd0, hd1]; simp only [Nat.reduceMul]; omega))
  · rename_i h1 h2
    refine ⟨i + 1, by omega, by omega, ?_⟩
    rw [hst (by omega), insS_miss hlo hk fun h => bs_tri (fun h3 => h2 ⟨by omega, strLt_lt.2 h3⟩) fun h3 => hc ⟨by omega, h3⟩]
    simp
  · rw [hou, List.take_of_length_le (by omega)]
theorem ok_ref03_Sorted : SpecOK SP glob fi_ref03_Sorted S_ref03_Sorted := mk_ok (c := c_ref03_Sorted) (tab_ok _) mix_ok wf_ref03_Sorted (by decide) .nil (fun x hx => Nat.zero_lt_one) g_ref03_Sorted

@[reducible] noncomputable def S_ref03_Tokens : Spec := { ins := (.cons (.d .str) .nil), pre := (fun x => (fun text => text.length ≤ 100000) x.1), alts := [{ outs := (.cons (.d (.sl .str)) .nil), res := (fun x => (fun text => (sorS (Ws text), ())) x.1) }] }
noncomputable def c_ref03_Tokens : Cf := (cf_ref03_Tokens (Fl [(fi_ref03_Words, S_ref03_Words), (fi_ref03_Sorted, S_ref03_Sorted)]))
theorem g_ref03_Tokens : ∀ x, S_ref03_Tokens.pre x → shOK S_ref03_Tokens.ins x → fnGoal c_ref03_Tokens fn_ref03_Tokens S_ref03_Tokens x := by
  rintro ⟨text, ⟨⟩⟩ hpre hok
  try dsimp only [Dat, SDat, dflt, Ty.size, keepS, bkUpd, Gv.bk, backS, wayA, maxI, minI, negI] at hpre
  have hln := shLn_of _ hok; replace hok := Hd.mk hok; try simp only [shLn, datLn, inRng, lo, hi, maxLen, true_and, and_true] at hln
  have hwl := Ws_len text
  first | refine fn_goal (w_head ?_)
  intro K_ hK_; (conv => whnf); (try dsimp +instances only); refine hK_ _ ?_; clear hK_ K_; (conv => (arg 2; whnf))
  repeat' (first | with_reducible refine And.intro ?_ ?_ | ((try with_reducible refine gv_more ?_); first | ((with_reducible show K_ _); (try dsimp +instances only); (with_reducible refine hK_ _ ?_); clear hK_ K_) | with_reducible refine st ?_ | ((with_reducible refine sr ?_); intro K_ hK_; conv => whnf) | ((with_reducible refine w_cond ?_); (conv => arg 2; whnf); with_reducible refine st ?_) | refine blockK_y (by rfl) ?_ | ((with_reducible refine sw ?_); conv => whnf)) | ((with_reducible refine gv_more ?_); conv => whnf) | (intro hc; (try dsimp +instances only [Dat, SDat, dflt, Ty.size, keepS, bkUpd, Gv.bk, backS, wayA, maxI, minI, negI] at hc); (try simp only [LS] at hc)))
  all_goals (try ((fail_if_success with_reducible refine nl ?_); (try dsimp only [Dat, SDat, dflt, Ty.size, keepS, bkUpd, Gv.bk, backS, wayA, maxI, minI, negI]); (try simp only [LS]); first | done | exact dsc | ((try simp only [allP, lo, hi, room, true_and, and_true, implies_true]); (repeat' (first | with_reducible refine And.intro ?_ ?_ | ((with_reducible refine preA_t ?_ ?_); rotate_left; exact sameP_t) | intro hv)) <;> (try omega))))
theorem ok_ref03_Tokens : SpecOK SP glob fi_ref03_Tokens S_ref03_Tokens := mk_ok (c := c_ref03_Tokens) (tab_ok _) mix_ok wf_ref03_Tokens (by decide) (.cons ok_ref03_Words (.cons ok_ref03_Sorted .nil)) (fun x hx => Nat.zero_lt_one) g_ref03_Tokens

end Go.Gv
