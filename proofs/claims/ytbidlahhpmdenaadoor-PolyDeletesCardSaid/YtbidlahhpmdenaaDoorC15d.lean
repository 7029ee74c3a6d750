/- Chapter 15: texts. -/
import Derived.Test.YtbidlahhpmdenaaDoorGg
import Derived.Test.YtbidlahhpmdenaaDoorC15b
set_option linter.all false
namespace Go.Gv
open Go Go.Proofs Go.Proofs.YtbidlahhpmdenaaDoor
def dgs (n : Int) : List UInt8 := if n = 0 then [] else Lib.decDigits n.toNat

theorem dig1 : ∀ c : Nat, c < 10 → List.drop c (List.take (c + 1) ([48, 49, 50, 51, 52, 53, 54, 55, 56, 57] : List UInt8)) = [UInt8.ofNat (48 + c)] := by decide
theorem dgs_step {u : Nat} (h : u ≠ 0) : dgs ((u / 10 : Nat) : Int) ++ [UInt8.ofNat (48 + u % 10)] = dgs (u : Int) := by
  unfold dgs
  rw [if_neg (by omega : ¬ (u : Int) = 0)]
  by_cases hu : u < 10
  · rw [if_pos (by omega), show ((u : Int)).toNat = u by omega, Lib.decDigits_one hu, Nat.mod_eq_of_lt hu]; rfl
  · rw [if_neg (by omega)]
    conv => rhs; rw [Lib.decDigits]
    rw [dif_neg (by omega)]; rfl
theorem dec_dgs (u : Nat) : dgs ((u / 10 : Nat) : Int) ++ [UInt8.ofNat (48 + u % 10)] = Lib.itoa (u : Int) := by
  rw [Lib.itoa_nonneg]
  by_cases h : u = 0
  · subst h; rw [Lib.decDigits_one (by omega)]; rfl
  · rw [dgs_step h]; unfold dgs; rw [if_neg (by omega)]; rfl
theorem dgs_len {u : Nat} (h : u < 18446744073709551616) : (dgs (u : Int)).length ≤ 20 := by
  unfold dgs
  split
  · simp
  · exact decDigits_le _ (by omega)

@[reducible] noncomputable def S_ref15_digits (kk : Nat) : Spec := { ins := (.cons (.d tInt) .nil), pre := (fun x => (fun n => 0 < kk ∧ 0 ≤ n ∧ n < 10 ^ (kk - 1)) x.1), alts := [{ outs := (.cons (.d .str) .nil), res := (fun x => (fun n => (dgs n, ())) x.1) }] }
noncomputable def c_ref15_digits (kk : Nat) : Cf := cf_ref15_digits (Fl [(fi_ref15_digits, S_ref15_digits kk)])
set_option maxRecDepth 100000 in
set_option maxHeartbeats 4000000 in
theorem g_ref15_digits (kk : Nat) : ∀ x, (S_ref15_digits (kk + 1)).pre x → shOK (S_ref15_digits (kk + 1)).ins x → fnGoal (c_ref15_digits kk) fn_ref15_digits (S_ref15_digits (kk + 1)) x := by
  rintro ⟨n, ⟨⟩⟩ hpre hok
  try dsimp only [Dat, SDat, dflt, Ty.size, keepS, bkUpd, Gv.bk, backS, wayA, maxI, minI, negI] at hpre
  have hln := shLn_of _ hok; replace hok := Hd.mk hok; try simp only [shLn, datLn, inRng, lo, hi, maxLen, true_and, and_true] at hln
  obtain ⟨_, h0, h1⟩ := hpre
  obtain ⟨u, rfl⟩ : ∃ u : Nat, n = (u : Int) := ⟨Int.toNat n, (Int.toNat_of_nonneg h0).symm⟩
  have hu : u < 9223372036854775808 := by have h2 : (u : Int) ≤ 9223372036854775807 := hln.2; omega
  have ht : Int.tdiv (u : Int) 10 = ((u / 10 : Nat) : Int) := by rw [Int.tdiv_eq_ediv_of_nonneg (by omega)]; omega
  have hm : Int.tmod (u : Int) 10 = ((u % 10 : Nat) : Int) := by rw [Int.tmod_eq_emod_of_nonneg (by omega)]; omega
  have hu2 : u < 10 ^ kk := by
    have h1 : (u : Int) < 10 ^ kk := h1
    exact_mod_cast h1
  have hl := dgs_len (u := u / 10) (by omega)
  have hc10 : u % 10 < 10 := by omega
  first | refine fn_goal (w_head ?_) | refine w_fn (w_head ?_)
  intro K_ hK_; (conv => whnf); (try dsimp +instances only); refine hK_ _ ?_; clear hK_ K_; (conv => (arg 2; whnf))
  repeat' (first | (with_reducible refine And.intro ?_ ?_) | ((try (with_reducible refine gv_more ?_)); first | ((with_reducible show K_ _); (try dsimp +instances only); (with_reducible refine hK_ _ ?_); clear hK_ K_) | (with_reducible (first | refine w_seq ?_ | refine thenK_n ?_ | refine w_block ?_ | refine blockK_n ?_)) | ((with_reducible refine w_region ?_); intro K_ hK_; (conv => whnf)) | ((with_reducible refine w_cond ?_); (conv => (arg 2; whnf)); (with_reducible (first | refine condK_p ?_ ?_ | refine condK_t ?_ | refine condK_f ?_ | refine condK_b ?_ ?_))) | (with_reducible (first | refine w_skip ?_ | refine w_exit ?_ | refine w_ret ?_ | refine thenK_r ?_ | refine thenK_e ?_ | refine blockK_r ?_ | refine blockK_x ?_ | refine blockK_y (by rfl) ?_ | refine loopK_r ?_ | refine loopK_e ?_ | refine w_label ?_)) | ((with_reducible (first | refine loopK_at ?_ | refine retK_r ?_ | refine retK_n ?_)); (conv => whnf)) | ((with_reducible refine w_head ?_); intro K_ hK_; (conv => whnf))) | ((with_reducible refine gv_more ?_); (conv => whnf)) | (intro hc; (try dsimp +instances only [Dat, SDat, dflt, Ty.size, keepS, bkUpd, Gv.bk, backS, wayA, maxI, minI, negI] at hc); (try simp only [Int.toNat_natCast, Int.toNat_zero, Int.toNat_one, Classical.not_not, boolOf_true, decide_eq_true_eq, decide_eq_false_iff_not, ne_eq, true_implies, not_true_eq_false, not_false_eq_true, Bool.not_eq_true, Prod.mk.injEq, and_true, true_and, forall_const, preA_f, selB_0, selB_1, boolOf_eq_false, rep1, rep2, rep3, List.length_set, List.length_append, List.length_map, List.length_cons, List.length_nil, List.length_replicate, Nat.zero_add, Nat.add_zero] at hc)))
  all_goals (try ((fail_if_success (with_reducible refine w_at ?_)); (fail_if_success refine Exists.intro (0 : Nat) (Exists.intro (_ : Alt _) ?_)); (try dsimp only [Dat, SDat, dflt, Ty.size, keepS, bkUpd, Gv.bk, backS, wayA, maxI, minI, negI]); (try simp only [Int.toNat_natCast, Int.toNat_zero, Int.toNat_one, Classical.not_not, boolOf_true, decide_eq_true_eq, decide_eq_false_iff_not, ne_eq, true_implies, not_true_eq_false, not_false_eq_true, Bool.not_eq_true, Prod.mk.injEq, and_true, true_and, forall_const, preA_f, selB_0, selB_1, boolOf_eq_false, rep1, rep2, rep3, List.length_set, List.length_append, List.length_map, List.length_cons, List.length_nil, List.length_replicate, Nat.zero_add, Nat.add_zero]); first | done | exact trivial | rfl | omega | exact boolOf_eq _ | (simp only [allP, lo, hi, room, true_and, and_true, implies_true]; done) | ((try simp only [allP, lo, hi, room, true_and, and_true, implies_true]); (repeat' (first | (with_reducible refine And.intro ?_ ?_) | ((with_reducible refine preA_t ?_ ?_); rotate_left; (focus (repeat (first | exact trivial | ((conv => whnf); refine And.intro (by rfl) ?_))))) | intro hv)) <;> (try omega))))
  all_goals (try simp only [ht, hm])
  all_goals (try rw [show (((u % 10 : Nat) : Int) + 1).toNat = u % 10 + 1 by omega, Int.toNat_natCast, dig1 _ hc10])
  all_goals (first
    | (rw [show u = 0 by omega]; rfl)
    | omega
    | exact dgs_step (by omega)
    | (simp only [List.length_cons, List.length_nil, maxLen]; omega)
    | (rcases Nat.eq_zero_or_pos kk with rfl | h; (rw [Nat.pow_zero] at hu2; omega); exact h)
    | (rcases Nat.eq_zero_or_pos kk with rfl | h
       · rw [Nat.pow_zero] at hu2; omega
       · obtain ⟨j, rfl⟩ : ∃ j, kk = j + 1 := ⟨kk - 1, by omega⟩
         rw [Nat.pow_succ] at hu2
         have h3 : u / 10 < 10 ^ j := Nat.div_lt_of_lt_mul (by omega)
         show ((u / 10 : Nat) : Int) < (10 : Int) ^ j
         exact_mod_cast h3))
set_option maxRecDepth 100000 in
theorem ok_ref15_digits : ∀ kk, SpecOK SP glob fi_ref15_digits (S_ref15_digits kk)
  | 0 => mk_ok (c := cf_ref15_digits (Fl [])) (tab_ok _) mix_ok wf_ref15_digits (Nat.le_of_ble_eq_true rfl) .nil (fun x hx => Nat.zero_lt_one) (fun x hx _ => absurd hx.1 (Nat.lt_irrefl 0))
  | kk + 1 => mk_ok (c := c_ref15_digits kk) (tab_ok _) mix_ok wf_ref15_digits (Nat.le_of_ble_eq_true rfl) (.cons (ok_ref15_digits kk) .nil) (fun x hx => Nat.zero_lt_one) (g_ref15_digits kk)
@[reducible] noncomputable def S_dig20 : Spec := S_ref15_digits 20
theorem ok_dig20 : SpecOK SP glob fi_ref15_digits S_dig20 := ok_ref15_digits 20

@[reducible] noncomputable def S_ref15_Decimal : Spec := { ins := (.cons (.d tInt) .nil), pre := (fun x => (fun n => 0 ≤ n) x.1), alts := [{ outs := (.cons (.d .str) .nil), res := (fun x => (fun n => (Lib.itoa n, ())) x.1) }] }
noncomputable def c_ref15_Decimal : Cf := (cf_ref15_Decimal (Fl [(fi_ref15_digits, S_dig20)]))
set_option maxRecDepth 100000 in
set_option maxHeartbeats 4000000 in
theorem g_ref15_Decimal : ∀ x, S_ref15_Decimal.pre x → shOK S_ref15_Decimal.ins x → fnGoal c_ref15_Decimal fn_ref15_Decimal S_ref15_Decimal x := by
  rintro ⟨n, ⟨⟩⟩ hpre hok
  try dsimp only [Dat, SDat, dflt, Ty.size, keepS, bkUpd, Gv.bk, backS, wayA, maxI, minI, negI] at hpre
  have hln := shLn_of _ hok; replace hok := Hd.mk hok; try simp only [shLn, datLn, inRng, lo, hi, maxLen, true_and, and_true] at hln
  have h0 : 0 ≤ n := hpre
  obtain ⟨u, rfl⟩ : ∃ u : Nat, n = (u : Int) := ⟨Int.toNat n, (Int.toNat_of_nonneg h0).symm⟩
  have hu : u < 9223372036854775808 := by have h2 : (u : Int) ≤ 9223372036854775807 := hln.2; omega
  have ht : Int.tdiv (u : Int) 10 = ((u / 10 : Nat) : Int) := by rw [Int.tdiv_eq_ediv_of_nonneg (by omega)]; omega
  have hm : Int.tmod (u : Int) 10 = ((u % 10 : Nat) : Int) := by rw [Int.tmod_eq_emod_of_nonneg (by omega)]; omega
  have hl := dgs_len (u := u / 10) (by omega)
  have hc10 : u % 10 < 10 := by omega
  first | refine fn_goal (w_head ?_) | refine w_fn (w_head ?_)
  intro K_ hK_; (conv => whnf); (try dsimp +instances only); refine hK_ _ ?_; clear hK_ K_; (conv => (arg 2; whnf))
  repeat' (first | (with_reducible refine And.intro ?_ ?_) | ((try (with_reducible refine gv_more ?_)); first | ((with_reducible show K_ _); (try dsimp +instances only); (with_reducible refine hK_ _ ?_); clear hK_ K_) | (with_reducible (first | refine w_seq ?_ | refine thenK_n ?_ | refine w_block ?_ | refine blockK_n ?_)) | ((with_reducible refine w_region ?_); intro K_ hK_; (conv => whnf)) | ((with_reducible refine w_cond ?_); (conv => (arg 2; whnf)); (with_reducible (first | refine condK_p ?_ ?_ | refine condK_t ?_ | refine condK_f ?_ | refine condK_b ?_ ?_))) | (with_reducible (first | refine w_skip ?_ | refine w_exit ?_ | refine w_ret ?_ | refine thenK_r ?_ | refine thenK_e ?_ | refine blockK_r ?_ | refine blockK_x ?_ | refine blockK_y (by rfl) ?_ | refine loopK_r ?_ | refine loopK_e ?_ | refine w_label ?_)) | ((with_reducible (first | refine loopK_at ?_ | refine retK_r ?_ | refine retK_n ?_)); (conv => whnf)) | ((with_reducible refine w_head ?_); intro K_ hK_; (conv => whnf))) | ((with_reducible refine gv_more ?_); (conv => whnf)) | (intro hc; (try dsimp +instances only [Dat, SDat, dflt, Ty.size, keepS, bkUpd, Gv.bk, backS, wayA, maxI, minI, negI] at hc); (try simp only [Int.toNat_natCast, Int.toNat_zero, Int.toNat_one, Classical.not_not, boolOf_true, decide_eq_true_eq, decide_eq_false_iff_not, ne_eq, true_implies, not_true_eq_false, not_false_eq_true, Bool.not_eq_true, Prod.mk.injEq, and_true, true_and, forall_const, preA_f, selB_0, selB_1, boolOf_eq_false, rep1, rep2, rep3, List.length_set, List.length_append, List.length_map, List.length_cons, List.length_nil, List.length_replicate, Nat.zero_add, Nat.add_zero] at hc)))
  all_goals (try ((fail_if_success (with_reducible refine w_at ?_)); (fail_if_success refine Exists.intro (0 : Nat) (Exists.intro (_ : Alt _) ?_)); (try dsimp only [Dat, SDat, dflt, Ty.size, keepS, bkUpd, Gv.bk, backS, wayA, maxI, minI, negI]); (try simp only [Int.toNat_natCast, Int.toNat_zero, Int.toNat_one, Classical.not_not, boolOf_true, decide_eq_true_eq, decide_eq_false_iff_not, ne_eq, true_implies, not_true_eq_false, not_false_eq_true, Bool.not_eq_true, Prod.mk.injEq, and_true, true_and, forall_const, preA_f, selB_0, selB_1, boolOf_eq_false, rep1, rep2, rep3, List.length_set, List.length_append, List.length_map, List.length_cons, List.length_nil, List.length_replicate, Nat.zero_add, Nat.add_zero]); first | done | exact trivial | rfl | omega | exact boolOf_eq _ | (simp only [allP, lo, hi, room, true_and, and_true, implies_true]; done) | ((try simp only [allP, lo, hi, room, true_and, and_true, implies_true]); (repeat' (first | (with_reducible refine And.intro ?_ ?_) | ((with_reducible refine preA_t ?_ ?_); rotate_left; (focus (repeat (first | exact trivial | ((conv => whnf); refine And.intro (by rfl) ?_))))) | intro hv)) <;> (try omega))))
  all_goals (try simp only [ht, hm])
  all_goals (try rw [show (((u % 10 : Nat) : Int) + 1).toNat = u % 10 + 1 by omega, Int.toNat_natCast, dig1 _ hc10])
  all_goals (first
    | omega
    | (simp only [List.length_cons, List.length_nil, maxLen]; omega)
    | (exfalso; have := hc; omega)
    | exact dec_dgs u)
set_option maxRecDepth 100000 in
theorem ok_ref15_Decimal : SpecOK SP glob fi_ref15_Decimal S_ref15_Decimal := mk_ok (c := c_ref15_Decimal) (tab_ok _) mix_ok wf_ref15_Decimal (by decide) (.cons ok_dig20 .nil) (fun x hx => Nat.zero_lt_one) g_ref15_Decimal
end Go.Gv
