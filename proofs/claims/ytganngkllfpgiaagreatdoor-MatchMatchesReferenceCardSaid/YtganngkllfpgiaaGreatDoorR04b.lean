/- The statements of chapter 4 on shares: similar, near, values, Jaro. -/
import Derived.Test.YtganngkllfpgiaaGreatDoorC04e
import Derived.Test.YtganngkllfpgiaaGreatDoorP04g
set_option linter.all false
namespace Go.Gv
open Go Go.Proofs Go.Proofs.YtganngkllfpgiaaGreatDoor
set_option maxRecDepth 100000
set_option maxHeartbeats 4000000

@[reducible] noncomputable def S_ref01_size : Spec := { ins := (.cons (.d tInt) .nil), pre := fun _ => True, alts := [{ outs := (.cons (.d tU64) .nil), res := (fun x => (fun n => (absI n, ())) x.1) }] }
noncomputable def c_ref01_size : Cf := { cf_ref01_size (Fl []) with E := { (cf_ref01_size (Fl [])).E with wraps := [6, 7, 9] } }
theorem g_ref01_size : ∀ x, S_ref01_size.pre x → shOK S_ref01_size.ins x → fnGoal c_ref01_size fn_ref01_size S_ref01_size x := by
  rintro ⟨n, ⟨⟩⟩ hpre hok
  clear hpre
  have hln := shLn_of _ hok; replace hok := Hd.mk hok; try simp only [shLn, datLn, inRng, lo, hi, maxLen, true_and, and_true] at hln
  have hb : -9223372036854775808 ≤ n ∧ n ≤ 9223372036854775807 := hln
  have hab := abs_cases n
  first | refine fn_goal (w_head ?_)
  intro K_ hK_; (conv => whnf); (try dsimp +instances only); refine hK_ _ ?_; clear hK_ K_; (conv => (arg 2; whnf))
  repeat' (first | with_reducible refine And.intro ?_ ?_ | ((try with_reducible refine gv_more ?_); first | ((with_reducible show K_ _); (try dsimp +instances only); (with_reducible refine hK_ _ ?_); clear hK_ K_) | with_reducible refine st ?_ | ((with_reducible refine sr ?_); intro K_ hK_; conv => whnf) | ((with_reducible refine w_cond ?_); (conv => arg 2; whnf); with_reducible refine st ?_) | refine blockK_y (by rfl) ?_ | ((with_reducible refine sw ?_); conv => whnf)) | ((with_reducible refine gv_more ?_); conv => whnf) | (intro hc; (try dsimp +instances only [Dat, SDat, dflt, Ty.size, keepS, bkUpd, Gv.bk, backS, wayA, maxI, minI, negI] at hc); (try simp only [LS] at hc)))
  all_goals (try ((fail_if_success with_reducible refine nl ?_); (try dsimp only [Dat, SDat, dflt, Ty.size, keepS, bkUpd, Gv.bk, backS, wayA, maxI, minI, negI]); (try simp only [LS]); first | done | exact dsc | ((try simp only [allP, lo, hi, room, true_and, and_true, implies_true]); (repeat' (first | with_reducible refine And.intro ?_ ?_ | ((with_reducible refine preA_t ?_ ?_); rotate_left; exact sameP_t) | intro hv)) <;> (try omega))))
theorem ok_ref01_size : SpecOK SP glob fi_ref01_size S_ref01_size := mk_ok (c := c_ref01_size) (tab_ok _) mix_ok wf_ref01_size (by decide) .nil (fun x hx => Nat.zero_lt_one) g_ref01_size

@[reducible] noncomputable def S_ref01_Gcd : Spec := { ins := (.cons (.d tU64) (.cons (.d tU64) .nil)), pre := (fun x => (fun a b => 0 ≤ a ∧ a ≤ 18446744073709551615 ∧ 0 ≤ b ∧ b ≤ 18446744073709551615) x.1 x.2.1), alts := [{ outs := (.cons (.d tU64) .nil), res := (fun x => (fun a b => (gcdI a b, ())) x.1 x.2.1) }] }
noncomputable def c_ref01_Gcd : Cf := (cf_ref01_Gcd (Fl []))
theorem g_ref01_Gcd : ∀ x, S_ref01_Gcd.pre x → shOK S_ref01_Gcd.ins x → fnGoal c_ref01_Gcd fn_ref01_Gcd S_ref01_Gcd x := by
  rintro ⟨a, b, ⟨⟩⟩ hpre hok
  try dsimp only [Dat, SDat, dflt, Ty.size, keepS, bkUpd, Gv.bk, backS, wayA, maxI, minI, negI] at hpre
  have hln := shLn_of _ hok; replace hok := Hd.mk hok; try simp only [shLn, datLn, inRng, lo, hi, maxLen, true_and, and_true] at hln
  have ha := hpre.1
  have ha2 := hpre.2.1
  have hb := hpre.2.2.1
  have hb2 := hpre.2.2.2
  first | refine fn_goal (w_head ?_)
  intro K_ hK_; (conv => whnf); (try dsimp +instances only); refine hK_ _ ?_; clear hK_ K_; (conv => (arg 2; whnf))
  repeat' (first | with_reducible refine And.intro ?_ ?_ | ((try with_reducible refine gv_more ?_); first | ((with_reducible show K_ _); (try dsimp +instances only); (with_reducible refine hK_ _ ?_); clear hK_ K_) | with_reducible refine st ?_ | ((with_reducible refine sr ?_); intro K_ hK_; conv => whnf) | ((with_reducible refine w_cond ?_); (conv => arg 2; whnf); with_reducible refine st ?_) | refine blockK_y (by rfl) ?_ | ((with_reducible refine sw ?_); conv => whnf)) | ((with_reducible refine gv_more ?_); conv => whnf) | (intro hc; (try dsimp +instances only [Dat, SDat, dflt, Ty.size, keepS, bkUpd, Gv.bk, backS, wayA, maxI, minI, negI] at hc); (try simp only [LS] at hc)))
  all_goals (try ((fail_if_success with_reducible refine nl ?_); (try dsimp only [Dat, SDat, dflt, Ty.size, keepS, bkUpd, Gv.bk, backS, wayA, maxI, minI, negI]); (try simp only [LS]); first | done | exact dsc | ((try simp only [allP, lo, hi, room, true_and, and_true, implies_true]); (repeat' (first | with_reducible refine And.intro ?_ ?_ | ((with_reducible refine preA_t ?_ ?_); rotate_left; exact sameP_t) | intro hv)) <;> (try omega))))
  refine w_loop [(0, .d tU64), (1, .d tU64)] [] (fun y => 0 ≤ y.1.1 ∧ y.1.1 ≤ 18446744073709551615 ∧ 0 ≤ y.1.2.1 ∧ y.1.2.1 ≤ 18446744073709551615 ∧ gcdI y.1.1 y.1.2.1 = gcdI a b) (fun y => y.1.2.1.toNat) ?_
  conv => whnf
  refine And.intro ?_ ?_
  · exact ⟨ha, ha2, hb, hb2, rfl⟩
  rintro ⟨⟨(g' : Int), (x : Int), ⟨⟩⟩, ⟨⟩⟩ ⟨h0, h0m, h1, h1m, hgx⟩
  dsimp only at h0 h0m h1 h1m hgx
  have htm := fun h => tmod_in h0 h1 h
  have hgd := fun (h : 0 < x) => gcdI_mod h0 h
  repeat' (first | with_reducible refine And.intro ?_ ?_ | ((try with_reducible refine gv_more ?_); first | ((with_reducible show K_ _); (try dsimp +instances only); (with_reducible refine hK_ _ ?_); clear hK_ K_) | with_reducible refine st ?_ | ((with_reducible refine sr ?_); intro K_ hK_; conv => whnf) | ((with_reducible refine w_cond ?_); (conv => arg 2; whnf); with_reducible refine st ?_) | refine blockK_y (by rfl) ?_ | ((with_reducible refine sw ?_); conv => whnf)) | ((with_reducible refine gv_more ?_); conv => whnf) | (intro hc; (try dsimp +instances only [Dat, SDat, dflt, Ty.size, keepS, bkUpd, Gv.bk, backS, wayA, maxI, minI, negI] at hc); (try simp only [LS] at hc)))
  all_goals (try ((fail_if_success with_reducible refine nl ?_); (try dsimp only [Dat, SDat, dflt, Ty.size, keepS, bkUpd, Gv.bk, backS, wayA, maxI, minI, negI]); (try simp only [LS]); first | done | exact dsc | ((try simp only [allP, lo, hi, room, true_and, and_true, implies_true]); (repeat' (first | with_reducible refine And.intro ?_ ?_ | ((with_reducible refine preA_t ?_ ?_); rotate_left; exact sameP_t) | intro hv)) <;> (try omega))))
  all_goals (first
    | (rw [hgd (by omega)]; exact hgx)
    | exact Int.le_trans (Int.le_of_lt (htm (by omega)).2) h1m
    | exact (htm (by omega)).1
    | (have := htm (by omega); omega)
    | (have hx0 : x = 0 := by omega
       rw [← hgx, hx0, gcdI_zeror h0])
    | skip)
theorem ok_ref01_Gcd : SpecOK SP glob fi_ref01_Gcd S_ref01_Gcd := mk_ok (c := c_ref01_Gcd) (tab_ok _) mix_ok wf_ref01_Gcd (by decide) .nil (fun x hx => Nat.zero_lt_one) g_ref01_Gcd

theorem valid_cases (n d : Int) : validR (n, d, ()) ↔ (0 < d ∧ d ≤ 1000000000 ∧ -1000000000 ≤ n ∧ n ≤ 1000000000 ∧ gcdI n d = 1) := by
  unfold validR absI
  constructor
  · rintro ⟨h1, h2, h3, h4⟩; exact ⟨h1, h2, by omega, by omega, h4⟩
  · rintro ⟨h1, h2, h3, h4, h5⟩; exact ⟨h1, h2, by omega, h5⟩
theorem gcdI_abs (n d : Int) : gcdI (absI n) (absI d) = gcdI n d := by unfold gcdI absI; simp

@[reducible] noncomputable def S_ref01_Valid : Spec := { ins := (.cons (.d tRt) .nil), pre := fun _ => True, alts := [{ outs := (.cons (.d .bool) .nil), res := (fun x => (fun a => (boolOf (validR a), ())) x.1) }] }
noncomputable def c_ref01_Valid : Cf := (cf_ref01_Valid (Fl [(fi_ref01_size, S_ref01_size), (fi_ref01_Gcd, S_ref01_Gcd)]))
theorem g_ref01_Valid : ∀ x, S_ref01_Valid.pre x → shOK S_ref01_Valid.ins x → fnGoal c_ref01_Valid fn_ref01_Valid S_ref01_Valid x := by
  rintro ⟨⟨(n : Int), (d : Int), ⟨⟩⟩, ⟨⟩⟩ hpre hok
  clear hpre
  have hln := shLn_of _ hok; replace hok := Hd.mk hok; try simp only [shLn, datLn, inRng, lo, hi, maxLen, true_and, and_true] at hln
  have hv := valid_cases n d
  have hg := gcdI_abs n d
  have hb := hln
  have hbn := abs_bound hb.1.1 hb.1.2
  have hbd := abs_bound hb.2.1 hb.2.2
  first | refine fn_goal (w_head ?_)
  intro K_ hK_; (conv => whnf); (try dsimp +instances only); refine hK_ _ ?_; clear hK_ K_; (conv => (arg 2; whnf))
  repeat' (first | with_reducible refine And.intro ?_ ?_ | ((try with_reducible refine gv_more ?_); first | ((with_reducible show K_ _); (try dsimp +instances only); (with_reducible refine hK_ _ ?_); clear hK_ K_) | with_reducible refine st ?_ | ((with_reducible refine sr ?_); intro K_ hK_; conv => whnf) | ((with_reducible refine w_cond ?_); (conv => arg 2; whnf); with_reducible refine st ?_) | refine blockK_y (by rfl) ?_ | ((with_reducible refine sw ?_); conv => whnf)) | ((with_reducible refine gv_more ?_); conv => whnf) | (intro hc; (try dsimp +instances only [Dat, SDat, dflt, Ty.size, keepS, bkUpd, Gv.bk, backS, wayA, maxI, minI, negI] at hc); (try simp only [LS] at hc)))
  all_goals (try ((fail_if_success with_reducible refine nl ?_); (try dsimp only [Dat, SDat, dflt, Ty.size, keepS, bkUpd, Gv.bk, backS, wayA, maxI, minI, negI]); (try simp only [LS]); first | done | exact dsc | ((try simp only [allP, lo, hi, room, true_and, and_true, implies_true]); (repeat' (first | with_reducible refine And.intro ?_ ?_ | ((with_reducible refine preA_t ?_ ?_); rotate_left; exact sameP_t) | intro hv)) <;> (try omega))))
  refine bC ?_
  rw [hv, hg]
  omega
theorem ok_ref01_Valid : SpecOK SP glob fi_ref01_Valid S_ref01_Valid := mk_ok (c := c_ref01_Valid) (tab_ok _) mix_ok wf_ref01_Valid (by decide) (.cons ok_ref01_size (.cons ok_ref01_Gcd .nil)) (fun x hx => Nat.zero_lt_one) g_ref01_Valid


@[reducible] noncomputable def S_ratio_Valid : Spec := { ins := (.cons (.d tRt) .nil), pre := fun _ => True, alts := [{ outs := (.cons (.d .bool) .nil), res := (fun x => (fun a => (boolOf (validR a), ())) x.1) }] }
noncomputable def c_ratio_Valid : Cf := (cf_ratio_Valid (Fl [(fi_ratio_magnitude_int, S_ratio_magnitude_int), (fi_ratio_common, S_ratio_common)]))
theorem g_ratio_Valid : ∀ x, S_ratio_Valid.pre x → shOK S_ratio_Valid.ins x → fnGoal c_ratio_Valid fn_ratio_Valid S_ratio_Valid x := by
  rintro ⟨⟨(n : Int), (d : Int), ⟨⟩⟩, ⟨⟩⟩ hpre hok
  clear hpre
  have hln := shLn_of _ hok; replace hok := Hd.mk hok; try simp only [shLn, datLn, inRng, lo, hi, maxLen, true_and, and_true] at hln
  have hv := valid_cases n d
  have hg := gcdI_abs n d
  have hb := hln
  have hbn := abs_bound hb.1.1 hb.1.2
  have hbd := abs_bound hb.2.1 hb.2.2
  have hgl : gcdL [absI n, absI d] = gcdI n d := (gcdL_two hbn.1).trans hg
  have ha := abs_cases n
  first | refine fn_goal (w_head ?_)
  intro K_ hK_; (conv => whnf); (try dsimp +instances only); refine hK_ _ ?_; clear hK_ K_; (conv => (arg 2; whnf))
  repeat' (first | with_reducible refine And.intro ?_ ?_ | ((try with_reducible refine gv_more ?_); first | ((with_reducible show K_ _); (try dsimp +instances only); (with_reducible refine hK_ _ ?_); clear hK_ K_) | with_reducible refine st ?_ | ((with_reducible refine sr ?_); intro K_ hK_; conv => whnf) | ((with_reducible refine w_cond ?_); (conv => arg 2; whnf); with_reducible refine st ?_) | refine blockK_y (by rfl) ?_ | ((with_reducible refine sw ?_); conv => whnf)) | ((with_reducible refine gv_more ?_); conv => whnf) | (intro hc; (try dsimp +instances only [Dat, SDat, dflt, Ty.size, keepS, bkUpd, Gv.bk, backS, wayA, maxI, minI, negI] at hc); (try simp only [LS] at hc)))
  all_goals (try ((fail_if_success with_reducible refine nl ?_); (try dsimp only [Dat, SDat, dflt, Ty.size, keepS, bkUpd, Gv.bk, backS, wayA, maxI, minI, negI]); (try simp only [LS]); first | done | exact dsc | ((try simp only [allP, lo, hi, room, true_and, and_true, implies_true]); (repeat' (first | with_reducible refine And.intro ?_ ?_ | ((with_reducible refine preA_t ?_ ?_); rotate_left; exact sameP_t) | intro hv)) <;> (try omega))))
  · exact okL_two hbn.1 (by omega) hbd.1 (by omega)
  · refine bC ?_
    rw [hv, hgl]
    omega
theorem ok_ratio_Valid : SpecOK SP glob fi_ratio_Valid S_ratio_Valid := mk_ok (c := c_ratio_Valid) (tab_ok _) mix_ok wf_ratio_Valid (by decide) (.cons ok_ratio_magnitude_int (.cons ok_ratio_common .nil)) (fun x hx => Nat.zero_lt_one) g_ratio_Valid

theorem mul_abs {x y : Int} (h : -1000000000 ≤ x ∧ x ≤ 1000000000) (k : 0 < y ∧ y ≤ 1000000000) : -1000000000000000000 ≤ x * y ∧ x * y ≤ 1000000000000000000 := by
  have a1 : x * y ≤ 1000000000 * y := Int.mul_le_mul_of_nonneg_right h.2 (by omega)
  have a2 : -1000000000 * y ≤ x * y := Int.mul_le_mul_of_nonneg_right h.1 (by omega)
  omega

@[reducible] noncomputable def S_ratio_Cmp : Spec := { ins := (.cons (.d tRt) (.cons (.d tRt) .nil)), pre := fun _ => True, alts := [{ outs := (.cons (.d tInt) .nil), res := (fun x => (fun a b => (cmpR a b, ())) x.1 x.2.1) }] }
noncomputable def c_ratio_Cmp : Cf := (cf_ratio_Cmp (Fl [(fi_ratio_Valid, S_ratio_Valid)]))
theorem g_ratio_Cmp : ∀ x, S_ratio_Cmp.pre x → shOK S_ratio_Cmp.ins x → fnGoal c_ratio_Cmp fn_ratio_Cmp S_ratio_Cmp x := by
  rintro ⟨⟨(n : Int), (d : Int), ⟨⟩⟩, ⟨(n' : Int), (d' : Int), ⟨⟩⟩, ⟨⟩⟩ hpre hok
  clear hpre
  have hln := shLn_of _ hok; replace hok := Hd.mk hok; try simp only [shLn, datLn, inRng, lo, hi, maxLen, true_and, and_true] at hln
  have hv1 := valid_cases n d
  have hv2 := valid_cases n' d'
  have hc1 : ∀ {x y : Rt}, (¬ validR x ∨ ¬ validR y) → cmpR x y = 0 := fun {x y} h => by unfold cmpR; rw [if_neg fun k => h.elim (fun a => a k.1) (fun a => a k.2)]
  have hc2 : ¬ (¬ validR (n, d, ()) ∨ ¬ validR (n', d', ())) → cmpR (n, d, ()) (n', d', ()) = (if n * d' - n' * d < 0 then -1 else if 0 < n * d' - n' * d then 1 else 0) := fun h => by
    unfold cmpR
    rw [if_pos ⟨Classical.not_not.1 (not_or.1 h).1, Classical.not_not.1 (not_or.1 h).2⟩]
  have hbd : ¬ (¬ validR (n, d, ()) ∨ ¬ validR (n', d', ())) → (-1000000000000000000 ≤ n * d' ∧ n * d' ≤ 1000000000000000000) ∧ -1000000000000000000 ≤ n' * d ∧ n' * d ≤ 1000000000000000000 := fun h => by
    have k1 := hv1.1 (Classical.not_not.1 (not_or.1 h).1)
    have k2 := hv2.1 (Classical.not_not.1 (not_or.1 h).2)
    exact ⟨mul_abs ⟨k1.2.2.1, k1.2.2.2.1⟩ ⟨k2.1, k2.2.1⟩, mul_abs ⟨k2.2.2.1, k2.2.2.2.1⟩ ⟨k1.1, k1.2.1⟩⟩
  first | refine fn_goal (w_head ?_)
  intro K_ hK_; (conv => whnf); (try dsimp +instances only); refine hK_ _ ?_; clear hK_ K_; (conv => (arg 2; whnf))
  repeat' (first | with_reducible refine And.intro ?_ ?_ | ((try with_reducible refine gv_more ?_); first | ((with_reducible show K_ _); (try dsimp +instances only); (with_reducible refine hK_ _ ?_); clear hK_ K_) | with_reducible refine st ?_ | ((with_reducible refine sr ?_); intro K_ hK_; conv => whnf) | ((with_reducible refine w_cond ?_); (conv => arg 2; whnf); with_reducible refine st ?_) | refine blockK_y (by rfl) ?_ | ((with_reducible refine sw ?_); conv => whnf)) | ((with_reducible refine gv_more ?_); conv => whnf) | (intro hc; (try dsimp +instances only [Dat, SDat, dflt, Ty.size, keepS, bkUpd, Gv.bk, backS, wayA, maxI, minI, negI] at hc); (try simp only [LS] at hc)))
  all_goals (try ((fail_if_success with_reducible refine nl ?_); (try dsimp only [Dat, SDat, dflt, Ty.size, keepS, bkUpd, Gv.bk, backS, wayA, maxI, minI, negI]); (try simp only [LS]); first | done | exact dsc | ((try simp only [allP, lo, hi, room, true_and, and_true, implies_true]); (repeat' (first | with_reducible refine And.intro ?_ ?_ | ((with_reducible refine preA_t ?_ ?_); rotate_left; exact sameP_t) | intro hv)) <;> (try omega))))
  all_goals (first
    | exact (hc1 hc).symm
    | (have hb := hbd hc; omega)
    | (have hb := hbd (by assumption); omega)
    | (rw [hc2 (by assumption), if_pos hc]; done)
    | (rw [hc2 (by assumption), if_neg (by assumption), if_pos hc]; done)
    | (rw [hc2 (by assumption), if_neg (by assumption), if_neg hc]; done)
    | skip)
theorem ok_ratio_Cmp : SpecOK SP glob fi_ratio_Cmp S_ratio_Cmp := mk_ok (c := c_ratio_Cmp) (tab_ok _) mix_ok wf_ratio_Cmp (by decide) (.cons ok_ratio_Valid .nil) (fun x hx => Nat.zero_lt_one) g_ratio_Cmp
end Go.Gv
