/- Chapter 4: the reference: shares, distances, sets. -/
import Derived.Test.YtganngkllfpgiaaGreatDoorR04b
import Derived.Test.YtganngkllfpgiaaGreatDoorP04f
import Derived.Test.YtganngkllfpgiaaGreatDoorR03
set_option linter.all false
namespace Go.Gv
open Go Go.Proofs Go.Proofs.YtganngkllfpgiaaGreatDoor
set_option maxRecDepth 100000
set_option maxHeartbeats 4000000

noncomputable def ofV1 (s : Bool) (n d : Int) : Rt := if d = 0 then rt 0 0 else redV s n d
noncomputable def ofE1 (n d : Int) : Int := if d = 0 then 1 else redE n d

@[reducible] noncomputable def S_ref01_of : Spec := { ins := (.cons (.d .bool) (.cons (.d tU64) (.cons (.d tU64) .nil))), pre := (fun x => (fun s n d => 0 ≤ n ∧ n ≤ 9223372036854775808 ∧ 0 ≤ d ∧ d ≤ 9223372036854775808) x.1 x.2.1 x.2.2.1), alts := [{ outs := (.cons (.d tRt) (.cons (.d tInt) .nil)), res := (fun x => (fun s n d => (ofV1 s n d, ofE1 n d, ())) x.1 x.2.1 x.2.2.1) }] }
noncomputable def c_ref01_of : Cf := (cf_ref01_of (Fl [(fi_ref01_Gcd, S_ref01_Gcd)]))
theorem g_ref01_of : ∀ x, S_ref01_of.pre x → shOK S_ref01_of.ins x → fnGoal c_ref01_of fn_ref01_of S_ref01_of x := by
  rintro ⟨(s : Bool), (n : Int), (d : Int), ⟨⟩⟩ hpre hok
  try dsimp only [Dat, SDat, dflt, Ty.size, keepS, bkUpd, Gv.bk, backS, wayA, maxI, minI, negI] at hpre
  have hln := shLn_of _ hok; replace hok := Hd.mk hok; try simp only [shLn, datLn, inRng, lo, hi, maxLen, true_and, and_true] at hln
  have hn0 : 0 ≤ n := hpre.1
  have hn1 : n ≤ 9223372036854775808 := hpre.2.1
  have hd0 : 0 ≤ d := hpre.2.2.1
  have hd1 : d ≤ 9223372036854775808 := hpre.2.2.2
  have hz : d = 0 → ofV1 s n d = rt 0 0 ∧ ofE1 n d = 1 := fun h => by unfold ofV1 ofE1; rw [if_pos h, if_pos h]; exact ⟨rfl, rfl⟩
  have hgp : ¬ d = 0 → 0 < gcdI n d := fun h => gcdI_pos h
  have hN : ¬ d = 0 → Int.tdiv n (gcdI n d) = n / gcdI n d := fun h => Int.tdiv_eq_ediv_of_nonneg hn0
  have hD : ¬ d = 0 → Int.tdiv d (gcdI n d) = d / gcdI n d := fun h => Int.tdiv_eq_ediv_of_nonneg hd0
  have hNp : ¬ d = 0 → 0 ≤ Int.tdiv n (gcdI n d) ∧ Int.tdiv n (gcdI n d) ≤ n := fun h => by rw [hN h]; exact ⟨Int.ediv_nonneg hn0 (Int.le_of_lt (hgp h)), div_le_self' hn0 (hgp h)⟩
  have hDp : ¬ d = 0 → 0 ≤ Int.tdiv d (gcdI n d) ∧ Int.tdiv d (gcdI n d) ≤ d := fun h => by rw [hD h]; exact ⟨Int.ediv_nonneg hd0 (Int.le_of_lt (hgp h)), div_le_self' hd0 (hgp h)⟩
  have hB : ¬ d = 0 → (bigR n d ↔ (1000000000 < Int.tdiv n (gcdI n d) ∨ 1000000000 < Int.tdiv d (gcdI n d))) := fun h => by unfold bigR; rw [hN h, hD h, absI_of hn0, absI_of hd0]
  have hge : ¬ d = 0 → gcdI n d ≠ 0 := fun h => by have := hgp h; omega
  have hbig : ¬ d = 0 → bigR n d → ofV1 s n d = rt 0 0 ∧ ofE1 n d = 2 := fun h k => by unfold ofV1 ofE1 redV redE; rw [if_neg h, if_neg h, if_pos k, if_pos k]; exact ⟨rfl, rfl⟩
  have hfit : ¬ d = 0 → ¬ bigR n d → ofV1 s n d = (if s = true then rt (-(Int.tdiv n (gcdI n d))) (Int.tdiv d (gcdI n d)) else rt (Int.tdiv n (gcdI n d)) (Int.tdiv d (gcdI n d))) ∧ ofE1 n d = 0 := fun h k => by unfold ofV1 ofE1 redV redE; rw [if_neg h, if_neg h, if_neg k, if_neg k, hN h, hD h]; exact ⟨rfl, rfl⟩
  first | refine fn_goal (w_head ?_)
  intro K_ hK_; (conv => whnf); (try dsimp +instances only); refine hK_ _ ?_; clear hK_ K_; (conv => (arg 2; whnf))
  repeat' (first | with_reducible refine And.intro ?_ ?_ | ((try with_reducible refine gv_more ?_); first | ((with_reducible show K_ _); (try dsimp +instances only); (with_reducible refine hK_ _ ?_); clear hK_ K_) | with_reducible refine st ?_ | ((with_reducible refine sr ?_); intro K_ hK_; conv => whnf) | ((with_reducible refine w_cond ?_); (conv => arg 2; whnf); with_reducible refine st ?_) | refine blockK_y (by rfl) ?_ | ((with_reducible refine sw ?_); conv => whnf)) | ((with_reducible refine gv_more ?_); conv => whnf) | (intro hc; (try dsimp +instances only [Dat, SDat, dflt, Ty.size, keepS, bkUpd, Gv.bk, backS, wayA, maxI, minI, negI] at hc); (try simp only [LS] at hc)))
  all_goals (try ((fail_if_success with_reducible refine nl ?_); (try dsimp only [Dat, SDat, dflt, Ty.size, keepS, bkUpd, Gv.bk, backS, wayA, maxI, minI, negI]); (try simp only [LS]); first | done | exact dsc | ((try simp only [allP, lo, hi, room, true_and, and_true, implies_true]); (repeat' (first | with_reducible refine And.intro ?_ ?_ | ((with_reducible refine preA_t ?_ ?_); rotate_left; exact sameP_t) | intro hv)) <;> (try omega))))
  all_goals (first
    | exact (hz hc).1.symm
    | exact (hz hc).2.symm
    | exact (hbig (by assumption) ((hB (by assumption)).2 hc)).1.symm
    | exact (hbig (by assumption) ((hB (by assumption)).2 hc)).2.symm
    | (rename_i h; have hf := hfit (by assumption) (fun e => h ((hB (by assumption)).1 e)); first | exact hf.2.symm | (rw [hf.1, if_pos hc, Int.zero_sub]; rfl) | (rw [hf.1, if_neg (by rw [hc]; simp)]; rfl)))
theorem ok_ref01_of : SpecOK SP glob fi_ref01_of S_ref01_of := mk_ok (c := c_ref01_of) (tab_ok _) mix_ok wf_ref01_of (by decide) (.cons ok_ref01_Gcd .nil) (fun x hx => Nat.zero_lt_one) g_ref01_of

@[reducible] noncomputable def S_ref01_Make : Spec := { ins := (.cons (.d tInt) (.cons (.d tInt) .nil)), pre := fun _ => True, alts := [{ outs := (.cons (.d tRt) (.cons (.d tInt) .nil)), res := (fun x => (fun n d => (mkV n d, mkE n d, ())) x.1 x.2.1) }] }
noncomputable def c_ref01_Make : Cf := (cf_ref01_Make (Fl [(fi_ref01_size, S_ref01_size), (fi_ref01_of, S_ref01_of)]))
theorem g_ref01_Make : ∀ x, S_ref01_Make.pre x → shOK S_ref01_Make.ins x → fnGoal c_ref01_Make fn_ref01_Make S_ref01_Make x := by
  rintro ⟨(n : Int), (d : Int), ⟨⟩⟩ hpre hok
  clear hpre
  have hln := shLn_of _ hok; replace hok := Hd.mk hok; try simp only [shLn, datLn, inRng, lo, hi, maxLen, true_and, and_true] at hln
  have hb := hln
  have hbn := abs_bound hb.1.1 hb.1.2
  have hbd := abs_bound hb.2.1 hb.2.2
  have hr : ofV1 (boolOf (¬ (n < 0 ↔ d < 0))) (absI n) (absI d) = mkV n d ∧ ofE1 (absI n) (absI d) = mkE n d := by
    unfold ofV1 ofE1
    by_cases h : d = 0
    · have he : mkE n d = 1 := by unfold mkE; rw [if_pos h]
      rw [if_pos (absI_zero.2 h), if_pos (absI_zero.2 h), he]
      refine ⟨?_, rfl⟩
      unfold mkV; rw [if_neg (show ¬ mkE n d = 0 by omega)]
    · rw [if_neg fun e => h (absI_zero.1 e), if_neg fun e => h (absI_zero.1 e)]
      exact mk_red h
  first | refine fn_goal (w_head ?_)
  intro K_ hK_; (conv => whnf); (try dsimp +instances only); refine hK_ _ ?_; clear hK_ K_; (conv => (arg 2; whnf))
  repeat' (first | with_reducible refine And.intro ?_ ?_ | ((try with_reducible refine gv_more ?_); first | ((with_reducible show K_ _); (try dsimp +instances only); (with_reducible refine hK_ _ ?_); clear hK_ K_) | with_reducible refine st ?_ | ((with_reducible refine sr ?_); intro K_ hK_; conv => whnf) | ((with_reducible refine w_cond ?_); (conv => arg 2; whnf); with_reducible refine st ?_) | refine blockK_y (by rfl) ?_ | ((with_reducible refine sw ?_); conv => whnf)) | ((with_reducible refine gv_more ?_); conv => whnf) | (intro hc; (try dsimp +instances only [Dat, SDat, dflt, Ty.size, keepS, bkUpd, Gv.bk, backS, wayA, maxI, minI, negI] at hc); (try simp only [LS] at hc)))
  all_goals (try ((fail_if_success with_reducible refine nl ?_); (try dsimp only [Dat, SDat, dflt, Ty.size, keepS, bkUpd, Gv.bk, backS, wayA, maxI, minI, negI]); (try simp only [LS]); first | done | exact dsc | ((try simp only [allP, lo, hi, room, true_and, and_true, implies_true]); (repeat' (first | with_reducible refine And.intro ?_ ?_ | ((with_reducible refine preA_t ?_ ?_); rotate_left; exact sameP_t) | intro hv)) <;> (try omega))))
  all_goals (first | exact hr.1 | exact hr.2)
theorem ok_ref01_Make : SpecOK SP glob fi_ref01_Make S_ref01_Make := mk_ok (c := c_ref01_Make) (tab_ok _) mix_ok wf_ref01_Make (by decide) (.cons ok_ref01_size (.cons ok_ref01_of .nil)) (fun x hx => Nat.zero_lt_one) g_ref01_Make

@[reducible] noncomputable def S_ref04_share : Spec := { ins := (.cons (.d tInt) (.cons (.d tInt) .nil)), pre := fun _ => True, alts := [{ outs := (.cons (.d tRt) .nil), res := (fun x => (fun n d => (shV n d, ())) x.1 x.2.1) }] }
noncomputable def c_ref04_share : Cf := (cf_ref04_share (Fl [(fi_ref01_Make, S_ref01_Make)]))
theorem g_ref04_share : ∀ x, S_ref04_share.pre x → shOK S_ref04_share.ins x → fnGoal c_ref04_share fn_ref04_share S_ref04_share x := by
  rintro ⟨n, d, ⟨⟩⟩ hpre hok
  clear hpre
  have hln := shLn_of _ hok; replace hok := Hd.mk hok; try simp only [shLn, datLn, inRng, lo, hi, maxLen, true_and, and_true] at hln
  first | refine fn_goal (w_head ?_)
  intro K_ hK_; (conv => whnf); (try dsimp +instances only); refine hK_ _ ?_; clear hK_ K_; (conv => (arg 2; whnf))
  repeat' (first | with_reducible refine And.intro ?_ ?_ | ((try with_reducible refine gv_more ?_); first | ((with_reducible show K_ _); (try dsimp +instances only); (with_reducible refine hK_ _ ?_); clear hK_ K_) | with_reducible refine st ?_ | ((with_reducible refine sr ?_); intro K_ hK_; conv => whnf) | ((with_reducible refine w_cond ?_); (conv => arg 2; whnf); with_reducible refine st ?_) | refine blockK_y (by rfl) ?_ | ((with_reducible refine sw ?_); conv => whnf)) | ((with_reducible refine gv_more ?_); conv => whnf) | (intro hc; (try dsimp +instances only [Dat, SDat, dflt, Ty.size, keepS, bkUpd, Gv.bk, backS, wayA, maxI, minI, negI] at hc); (try simp only [LS] at hc)))
  all_goals (try ((fail_if_success with_reducible refine nl ?_); (try dsimp only [Dat, SDat, dflt, Ty.size, keepS, bkUpd, Gv.bk, backS, wayA, maxI, minI, negI]); (try simp only [LS]); first | done | exact dsc | ((try simp only [allP, lo, hi, room, true_and, and_true, implies_true]); (repeat' (first | with_reducible refine And.intro ?_ ?_ | ((with_reducible refine preA_t ?_ ?_); rotate_left; exact sameP_t) | intro hv)) <;> (try omega))))
  · unfold shV; rw [if_neg hc]; rfl
  · unfold shV; rw [if_pos hc]
theorem ok_ref04_share : SpecOK SP glob fi_ref04_share S_ref04_share := mk_ok (c := c_ref04_share) (tab_ok _) mix_ok wf_ref04_share (by decide) (.cons ok_ref01_Make .nil) (fun x hx => Nat.zero_lt_one) g_ref04_share

@[reducible] noncomputable def S_ref04_Edit : Spec := { ins := (.cons (.d .str) (.cons (.d .str) .nil)), pre := (fun x => (fun a b => a.length ≤ 1000000 ∧ b.length ≤ 1000000) x.1 x.2.1), alts := [{ outs := (.cons (.d tInt) .nil), res := (fun x => (fun a b => ((edD a b : Int), ())) x.1 x.2.1) }] }
noncomputable def c_ref04_Edit : Cf := (cf_ref04_Edit (Fl []))
theorem g_ref04_Edit : ∀ x, S_ref04_Edit.pre x → shOK S_ref04_Edit.ins x → fnGoal c_ref04_Edit fn_ref04_Edit S_ref04_Edit x := by
  rintro ⟨a, b, ⟨⟩⟩ hpre hok
  try dsimp only [Dat, SDat, dflt, Ty.size, keepS, bkUpd, Gv.bk, backS, wayA, maxI, minI, negI] at hpre
  have hln := shLn_of _ hok; replace hok := Hd.mk hok; try simp only [shLn, datLn, inRng, lo, hi, maxLen, true_and, and_true] at hln
  have hal : a.length ≤ 1000000 := hpre.1
  have hbl : b.length ≤ 1000000 := hpre.2
  first | refine fn_goal (w_head ?_)
  intro K_ hK_; (conv => whnf); (try dsimp +instances only); refine hK_ _ ?_; clear hK_ K_; (conv => (arg 2; whnf))
  repeat' (first | with_reducible refine And.intro ?_ ?_ | ((try with_reducible refine gv_more ?_); first | ((with_reducible show K_ _); (try dsimp +instances only); (with_reducible refine hK_ _ ?_); clear hK_ K_) | with_reducible refine st ?_ | ((with_reducible refine sr ?_); intro K_ hK_; conv => whnf) | ((with_reducible refine w_cond ?_); (conv => arg 2; whnf); with_reducible refine st ?_) | refine blockK_y (by rfl) ?_ | ((with_reducible refine sw ?_); conv => whnf)) | ((with_reducible refine gv_more ?_); conv => whnf) | (intro hc; (try dsimp +instances only [Dat, SDat, dflt, Ty.size, keepS, bkUpd, Gv.bk, backS, wayA, maxI, minI, negI] at hc); (try simp only [LS] at hc)))
  all_goals (try ((fail_if_success with_reducible refine nl ?_); (try dsimp only [Dat, SDat, dflt, Ty.size, keepS, bkUpd, Gv.bk, backS, wayA, maxI, minI, negI]); (try simp only [LS]); first | done | exact dsc | ((try simp only [allP, lo, hi, room, true_and, and_true, implies_true]); (repeat' (first | with_reducible refine And.intro ?_ ?_ | ((with_reducible refine preA_t ?_ ?_); rotate_left; exact sameP_t) | intro hv)) <;> (try omega))))
  refine w_loop [(5, .row tInt), (6, .d tInt)] [] (fun y => ∃ k : Nat, y.1.2.1 = (k : Int) ∧ k ≤ b.length + 1 ∧ List.length y.1.1 = b.length + 1 ∧ ∀ u, u < k → List.getD y.1.1 u 0 = (u : Int)) (fun y => b.length + 1 - y.1.2.1.toNat) ?_
  conv => whnf
  refine And.intro ?_ ?_
  · refine ⟨0, rfl, Nat.zero_le _, ?_, fun u hu => by omega⟩
    show (List.replicate _ _).length = _
    rw [List.length_replicate]; omega
  rintro ⟨⟨row, _, ⟨⟩⟩, ⟨⟩⟩ ⟨k, rfl, hk, hrl, hr⟩
  have hrl : List.length (row : List Int) = b.length + 1 := hrl
  have hr : ∀ u, u < k → List.getD (row : List Int) u 0 = (u : Int) := hr
  repeat' (first | with_reducible refine And.intro ?_ ?_ | ((try with_reducible refine gv_more ?_); first | ((with_reducible show K_ _); (try dsimp +instances only); (with_reducible refine hK_ _ ?_); clear hK_ K_) | with_reducible refine st ?_ | ((with_reducible refine sr ?_); intro K_ hK_; conv => whnf) | ((with_reducible refine w_cond ?_); (conv => arg 2; whnf); with_reducible refine st ?_) | refine blockK_y (by rfl) ?_ | ((with_reducible refine sw ?_); conv => whnf)) | ((with_reducible refine gv_more ?_); conv => whnf) | (intro hc; (try dsimp +instances only [Dat, SDat, dflt, Ty.size, keepS, bkUpd, Gv.bk, backS, wayA, maxI, minI, negI] at hc); (try simp only [LS] at hc)))
  all_goals (try ((fail_if_success with_reducible refine nl ?_); (try dsimp only [Dat, SDat, dflt, Ty.size, keepS, bkUpd, Gv.bk, backS, wayA, maxI, minI, negI]); (try simp only [LS]); first | done | exact dsc | ((try simp only [allP, lo, hi, room, true_and, and_true, implies_true]); (repeat' (first | with_reducible refine And.intro ?_ ?_ | ((with_reducible refine preA_t ?_ ?_); rotate_left; exact sameP_t) | intro hv)) <;> (try omega))))
  · refine ⟨k + 1, by omega, by omega, hrl, fun u hu => ?_⟩
    rw [set_at (by omega)]
    split
    · rename_i h; omega
    · exact hr u (by omega)
  refine w_loop [(5, .row tInt), (7, .d tInt)] [] (fun y => ∃ i : Nat, y.1.2.1 = (i : Int) ∧ i ≤ a.length ∧ List.length y.1.1 = b.length + 1 ∧ ∀ u, u ≤ b.length → List.getD y.1.1 u 0 = (edP a b i u : Int)) (fun y => a.length - y.1.2.1.toNat) ?_
  conv => whnf
  refine And.intro ?_ ?_
  · refine ⟨0, rfl, Nat.zero_le _, hrl, fun u hu => ?_⟩
    show List.getD (row : List Int) u 0 = _
    rw [hr u (by omega), edP_zero _ _ _ hu]
  clear hr hrl hk
  rintro ⟨⟨row, _, ⟨⟩⟩, ⟨⟩⟩ ⟨i, rfl, hi, hrl, hr⟩
  have hrl : List.length (row : List Int) = b.length + 1 := hrl
  have hr : ∀ u, u ≤ b.length → List.getD (row : List Int) u 0 = (edP a b i u : Int) := hr
  repeat' (first | with_reducible refine And.intro ?_ ?_ | ((try with_reducible refine gv_more ?_); first | ((with_reducible show K_ _); (try dsimp +instances only); (with_reducible refine hK_ _ ?_); clear hK_ K_) | with_reducible refine st ?_ | ((with_reducible refine sr ?_); intro K_ hK_; conv => whnf) | ((with_reducible refine w_cond ?_); (conv => arg 2; whnf); with_reducible refine st ?_) | refine blockK_y (by rfl) ?_ | ((with_reducible refine sw ?_); conv => whnf)) | ((with_reducible refine gv_more ?_); conv => whnf) | (intro hc; (try dsimp +instances only [Dat, SDat, dflt, Ty.size, keepS, bkUpd, Gv.bk, backS, wayA, maxI, minI, negI] at hc); (try simp only [LS] at hc)))
  all_goals (try ((fail_if_success with_reducible refine nl ?_); (try dsimp only [Dat, SDat, dflt, Ty.size, keepS, bkUpd, Gv.bk, backS, wayA, maxI, minI, negI]); (try simp only [LS]); first | done | exact dsc | ((try simp only [allP, lo, hi, room, true_and, and_true, implies_true]); (repeat' (first | with_reducible refine And.intro ?_ ?_ | ((with_reducible refine preA_t ?_ ?_); rotate_left; exact sameP_t) | intro hv)) <;> (try omega))))
  all_goals (try (simp only [Gv.hi]; omega))
  · refine w_loop [(5, .row tInt), (8, .row tInt), (9, .d tInt)] [] (fun y => ∃ j : Nat, y.1.2.2.1 = (j : Int) ∧ j ≤ b.length ∧ List.length y.1.1 = b.length + 1 ∧ List.length y.1.2.1 = b.length + 1 ∧ (∀ u, u ≤ b.length → List.getD y.1.1 u 0 = (edP a b i u : Int)) ∧ ∀ u, u ≤ j → List.getD y.1.2.1 u 0 = (edP a b (i + 1) u : Int)) (fun y => b.length - y.1.2.2.1.toNat) ?_
    conv => whnf
    refine And.intro ?_ ?_
    · refine ⟨0, rfl, Nat.zero_le _, hrl, ?_, hr, fun u hu => ?_⟩
      · show (List.set (List.replicate _ _) _ _).length = _
        rw [List.length_set, List.length_replicate]; omega
      · show (List.set (List.replicate _ _) _ _).getD u 0 = _
        have e0 : u = 0 := by omega
        subst e0
        rw [show Int.toNat 0 = 0 from rfl, set_at (by rw [List.length_replicate]; omega), if_pos rfl, edP_zeror _ _ _ (by omega)]
        show ((i : Int) + 1) = ((i + 1 : Nat) : Int)
        omega
    have hiA : i < a.length := by omega
    clear hr hrl
    rintro ⟨⟨row, nxt, _, ⟨⟩⟩, ⟨⟩⟩ ⟨j, rfl, hj, hrl, hnl, hr, hn⟩
    have hrl : List.length (row : List Int) = b.length + 1 := hrl
    have hnl : List.length (nxt : List Int) = b.length + 1 := hnl
    have hr : ∀ u, u ≤ b.length → List.getD (row : List Int) u 0 = (edP a b i u : Int) := hr
    have hn : ∀ u, u ≤ j → List.getD (nxt : List Int) u 0 = (edP a b (i + 1) u : Int) := hn
    have q0 := hr j hj
    have q1 := hn j (Nat.le_refl _)
    have q2 := fun h => hr (j + 1) h
    have b0 := edP_le a b i j
    have b1 := edP_le a b (i + 1) j
    have b2 := edP_le a b i (j + 1)
    have hj1 : ((j : Int) + 1).toNat = j + 1 := by omega
    have hres : ∀ d : Int, j < b.length → d = List.getD (row : List Int) j 0 + (if a.getD i 0 = b.getD j 0 then 0 else 1) → ∃ j_1 : Nat, (j : Int) + 1 = (j_1 : Int) ∧ j_1 ≤ b.length ∧ List.length (row : List Int) = b.length + 1 ∧ List.length (nxt : List Int) = b.length + 1 ∧ (∀ u, u ≤ b.length → List.getD (row : List Int) u 0 = (edP a b i u : Int)) ∧ ∀ u, u ≤ j_1 → (List.set (nxt : List Int) (j + 1) (min (min d (List.getD (row : List Int) (j + 1) 0 + 1)) (List.getD (nxt : List Int) j 0 + 1))).getD u 0 = (edP a b (i + 1) u : Int) := fun d h hd => by
      refine ⟨j + 1, by omega, by omega, hrl, hnl, hr, fun u hu => ?_⟩
      rw [set_at (by omega)]
      split
      · rename_i e
        rw [e, ed_int hiA h _ rfl, hd, q0, q1, q2 (by omega), Int.min_assoc, Int.min_assoc, Int.min_comm ((edP a b (i + 1) j : Int) + 1)]
      · exact hn u (by omega)
    have g0 := ed_room q0 (by omega)
    have g1 := ed_room q1 (by omega)
    have g2 := fun h => ed_room (q2 h) (by omega)
    repeat' (first | with_reducible refine And.intro ?_ ?_ | ((try with_reducible refine gv_more ?_); first | ((with_reducible show K_ _); (try dsimp +instances only); (with_reducible refine hK_ _ ?_); clear hK_ K_) | with_reducible refine st ?_ | ((with_reducible refine sr ?_); intro K_ hK_; conv => whnf) | ((with_reducible refine w_cond ?_); (conv => arg 2; whnf); with_reducible refine st ?_) | refine blockK_y (by rfl) ?_ | ((with_reducible refine sw ?_); conv => whnf)) | ((with_reducible refine gv_more ?_); conv => whnf) | (intro hc; (try dsimp +instances only [Dat, SDat, dflt, Ty.size, keepS, bkUpd, Gv.bk, backS, wayA, maxI, minI, negI] at hc); (try simp only [LS] at hc)))
    all_goals (try ((fail_if_success with_reducible refine nl ?_); (try dsimp only [Dat, SDat, dflt, Ty.size, keepS, bkUpd, Gv.bk, backS, wayA, maxI, minI, negI]); (try simp only [LS]); first | done | exact dsc | ((try simp only [allP, lo, hi, room, true_and, and_true, implies_true]); (repeat' (first | with_reducible refine And.intro ?_ ?_ | ((with_reducible refine preA_t ?_ ?_); rotate_left; exact sameP_t) | intro hv)) <;> (try omega))))
    all_goals (try rw [hj1])
    all_goals (try (with_reducible first | exact g0.1 | exact g0.2 | exact g1.1 | exact g1.2 | exact (g2 (by omega)).1 | exact (g2 (by omega)).2))
    all_goals (try (simp only [Gv.hi]; omega))
    · refine hres _ (by omega) ?_
      rw [if_neg fun e => hc (by rw [e])]
    · refine hres _ (by omega) ?_
      rw [if_pos (UInt8.toNat_inj.1 (by omega)), Int.add_zero]
    · exact ⟨i + 1, by omega, by omega, hnl, fun u hu => hn u (by omega)⟩
  · rw [hr _ (Nat.le_refl _), show i = a.length by omega, edP_all]
theorem ok_ref04_Edit : SpecOK SP glob fi_ref04_Edit S_ref04_Edit := mk_ok (c := c_ref04_Edit) (tab_ok _) mix_ok wf_ref04_Edit (by decide) .nil (fun x hx => Nat.zero_lt_one) g_ref04_Edit

@[reducible] noncomputable def S_ref04_Alike : Spec := { ins := (.cons (.d .str) (.cons (.d .str) .nil)), pre := (fun x => (fun a b => a.length ≤ 1000000 ∧ b.length ≤ 1000000) x.1 x.2.1), alts := [{ outs := (.cons (.d tRt) .nil), res := (fun x => (fun a b => (alV a b, ())) x.1 x.2.1) }] }
noncomputable def c_ref04_Alike : Cf := (cf_ref04_Alike (Fl [(fi_ref04_Edit, S_ref04_Edit), (fi_ref04_share, S_ref04_share)]))
theorem g_ref04_Alike : ∀ x, S_ref04_Alike.pre x → shOK S_ref04_Alike.ins x → fnGoal c_ref04_Alike fn_ref04_Alike S_ref04_Alike x := by
  rintro ⟨a, b, ⟨⟩⟩ hpre hok
  try dsimp only [Dat, SDat, dflt, Ty.size, keepS, bkUpd, Gv.bk, backS, wayA, maxI, minI, negI] at hpre
  have hln := shLn_of _ hok; replace hok := Hd.mk hok; try simp only [shLn, datLn, inRng, lo, hi, maxLen, true_and, and_true] at hln
  have hal : a.length ≤ 1000000 := hpre.1
  have hbl : b.length ≤ 1000000 := hpre.2
  have hu := ed_upper a b
  first | refine fn_goal (w_head ?_)
  intro K_ hK_; (conv => whnf); (try dsimp +instances only); refine hK_ _ ?_; clear hK_ K_; (conv => (arg 2; whnf))
  repeat' (first | with_reducible refine And.intro ?_ ?_ | ((try with_reducible refine gv_more ?_); first | ((with_reducible show K_ _); (try dsimp +instances only); (with_reducible refine hK_ _ ?_); clear hK_ K_) | with_reducible refine st ?_ | ((with_reducible refine sr ?_); intro K_ hK_; conv => whnf) | ((with_reducible refine w_cond ?_); (conv => arg 2; whnf); with_reducible refine st ?_) | refine blockK_y (by rfl) ?_ | ((with_reducible refine sw ?_); conv => whnf)) | ((with_reducible refine gv_more ?_); conv => whnf) | (intro hc; (try dsimp +instances only [Dat, SDat, dflt, Ty.size, keepS, bkUpd, Gv.bk, backS, wayA, maxI, minI, negI] at hc); (try simp only [LS] at hc)))
  all_goals (try ((fail_if_success with_reducible refine nl ?_); (try dsimp only [Dat, SDat, dflt, Ty.size, keepS, bkUpd, Gv.bk, backS, wayA, maxI, minI, negI]); (try simp only [LS]); first | done | exact dsc | ((try simp only [allP, lo, hi, room, true_and, and_true, implies_true]); (repeat' (first | with_reducible refine And.intro ?_ ?_ | ((with_reducible refine preA_t ?_ ?_); rotate_left; exact sameP_t) | intro hv)) <;> (try omega))))
  · unfold alV; rw [if_pos (by omega)]; rfl
  · unfold alV
    rw [if_neg (by omega)]
    have e : (((max a.length b.length : Nat)) : Int) = max (a.length : Int) (b.length : Int) := by omega
    rw [e]
theorem ok_ref04_Alike : SpecOK SP glob fi_ref04_Alike S_ref04_Alike := mk_ok (c := c_ref04_Alike) (tab_ok _) mix_ok wf_ref04_Alike (by decide) (.cons ok_ref04_Edit (.cons ok_ref04_share .nil)) (fun x hx => Nat.zero_lt_one) g_ref04_Alike

@[reducible] noncomputable def S_ref04_in : Spec := { ins := (.cons (.d (.sl .str)) (.cons (.d tInt) (.cons (.d .str) .nil))), pre := (fun x => (fun l n s => 0 ≤ n ∧ n ≤ l.length) x.1 x.2.1 x.2.2.1), alts := [{ outs := (.cons (.d .bool) .nil), res := (fun x => (fun l n s => (boolOf (s ∈ l.take n.toNat), ())) x.1 x.2.1 x.2.2.1) }] }
noncomputable def c_ref04_in : Cf := (cf_ref04_in (Fl []))
theorem g_ref04_in : ∀ x, S_ref04_in.pre x → shOK S_ref04_in.ins x → fnGoal c_ref04_in fn_ref04_in S_ref04_in x := by
  rintro ⟨l, (n : Int), s, ⟨⟩⟩ hpre hok
  try dsimp only [Dat, SDat, dflt, Ty.size, keepS, bkUpd, Gv.bk, backS, wayA, maxI, minI, negI] at hpre
  have hln := shLn_of _ hok; replace hok := Hd.mk hok; try simp only [shLn, datLn, inRng, lo, hi, maxLen, true_and, and_true] at hln
  have h0 : 0 ≤ n := hpre.1
  have h1 : n ≤ l.length := hpre.2
  clear hpre
  obtain ⟨N, rfl⟩ : ∃ N : Nat, n = (N : Int) := ⟨Int.toNat n, (Int.toNat_of_nonneg h0).symm⟩
  have h2 : N ≤ l.length := by omega
  first | refine fn_goal (w_head ?_)
  intro K_ hK_; (conv => whnf); (try dsimp +instances only); refine hK_ _ ?_; clear hK_ K_; (conv => (arg 2; whnf))
  repeat' (first | with_reducible refine And.intro ?_ ?_ | ((try with_reducible refine gv_more ?_); first | ((with_reducible show K_ _); (try dsimp +instances only); (with_reducible refine hK_ _ ?_); clear hK_ K_) | with_reducible refine st ?_ | ((with_reducible refine sr ?_); intro K_ hK_; conv => whnf) | ((with_reducible refine w_cond ?_); (conv => arg 2; whnf); with_reducible refine st ?_) | refine blockK_y (by rfl) ?_ | ((with_reducible refine sw ?_); conv => whnf)) | ((with_reducible refine gv_more ?_); conv => whnf) | (intro hc; (try dsimp +instances only [Dat, SDat, dflt, Ty.size, keepS, bkUpd, Gv.bk, backS, wayA, maxI, minI, negI] at hc); (try simp only [LS] at hc)))
  all_goals (try ((fail_if_success with_reducible refine nl ?_); (try dsimp only [Dat, SDat, dflt, Ty.size, keepS, bkUpd, Gv.bk, backS, wayA, maxI, minI, negI]); (try simp only [LS]); first | done | exact dsc | ((try simp only [allP, lo, hi, room, true_and, and_true, implies_true]); (repeat' (first | with_reducible refine And.intro ?_ ?_ | ((with_reducible refine preA_t ?_ ?_); rotate_left; exact sameP_t) | intro hv)) <;> (try omega))))
  refine w_loop [(7, .d tInt)] [] (fun y => ∃ k : Nat, y.1.1 = (k : Int) ∧ k ≤ N ∧ s ∉ l.take k) (fun y => N - y.1.1.toNat) ?_
  conv => whnf
  refine And.intro ?_ ?_
  · exact ⟨0, rfl, Nat.zero_le _, by simp⟩
  rintro ⟨⟨_, ⟨⟩⟩, ⟨⟩⟩ ⟨k, rfl, hk, hn⟩
  repeat' (first | with_reducible refine And.intro ?_ ?_ | ((try with_reducible refine gv_more ?_); first | ((with_reducible show K_ _); (try dsimp +instances only); (with_reducible refine hK_ _ ?_); clear hK_ K_) | with_reducible refine st ?_ | ((with_reducible refine sr ?_); intro K_ hK_; conv => whnf) | ((with_reducible refine w_cond ?_); (conv => arg 2; whnf); with_reducible refine st ?_) | refine blockK_y (by rfl) ?_ | ((with_reducible refine sw ?_); conv => whnf)) | ((with_reducible refine gv_more ?_); conv => whnf) | (intro hc; (try dsimp +instances only [Dat, SDat, dflt, Ty.size, keepS, bkUpd, Gv.bk, backS, wayA, maxI, minI, negI] at hc); (try simp only [LS] at hc)))
  all_goals (try ((fail_if_success with_reducible refine nl ?_); (try dsimp only [Dat, SDat, dflt, Ty.size, keepS, bkUpd, Gv.bk, backS, wayA, maxI, minI, negI]); (try simp only [LS]); first | done | exact dsc | ((try simp only [allP, lo, hi, room, true_and, and_true, implies_true]); (repeat' (first | with_reducible refine And.intro ?_ ?_ | ((with_reducible refine preA_t ?_ ?_); rotate_left; exact sameP_t) | intro hv)) <;> (try omega))))
  all_goals (try (simp only [Gv.hi]; omega))
  · have h3 : s ∈ l.take (k + 1) := (mem_take_succ (by omega)).2 (.inr hc.symm)
    have e : l.take (k + 1) = (l.take N).take (k + 1) := by rw [List.take_take, Nat.min_eq_left (by omega)]
    exact bT (List.mem_of_mem_take (e ▸ h3))
  · exact ⟨k + 1, by omega, by omega, fun h => ((mem_take_succ (by omega)).1 h).elim hn fun e => hc e.symm⟩
  · rw [show k = N by omega] at hn
    exact bF hn
theorem ok_ref04_in : SpecOK SP glob fi_ref04_in S_ref04_in := mk_ok (c := c_ref04_in) (tab_ok _) mix_ok wf_ref04_in (by decide) .nil (fun x hx => Nat.zero_lt_one) g_ref04_in

theorem jc_left {a b : List Bs} {k : Nat} (h : k < a.length) : (a.getD k [] ∈ a.take k → cardS (a.take (k + 1)) = cardS (a.take k) ∧ cntS (fun z => decide (z ∈ b)) (a.take (k + 1)) = cntS (fun z => decide (z ∈ b)) (a.take k)) ∧
    (¬ a.getD k [] ∈ a.take k → cardS (a.take (k + 1)) = cardS (a.take k) + 1 ∧ cntS (fun z => decide (z ∈ b)) (a.take (k + 1)) = cntS (fun z => decide (z ∈ b)) (a.take k) + (if a.getD k [] ∈ b then 1 else 0)) := by
  rw [List.take_succ_eq_append_getElem h, getD_ok _ h]
  refine ⟨fun m => ⟨card_in m, cnt_in m⟩, fun m => ⟨card_out m, ?_⟩⟩
  rw [cnt_out m]
  by_cases hb : a[k] ∈ b <;> simp [hb]

@[reducible] noncomputable def S_ref04_Jaccard : Spec := { ins := (.cons (.d (.sl .str)) (.cons (.d (.sl .str)) .nil)), pre := (fun x => (fun a b => a.length ≤ 1000000 ∧ b.length ≤ 1000000) x.1 x.2.1), alts := [{ outs := (.cons (.d tRt) .nil), res := (fun x => (fun a b => (jcV a b, ())) x.1 x.2.1) }] }
noncomputable def c_ref04_Jaccard : Cf := (cf_ref04_Jaccard (Fl [(fi_ref04_in, S_ref04_in), (fi_ref04_share, S_ref04_share)]))
theorem g_ref04_Jaccard : ∀ x, S_ref04_Jaccard.pre x → shOK S_ref04_Jaccard.ins x → fnGoal c_ref04_Jaccard fn_ref04_Jaccard S_ref04_Jaccard x := by
  rintro ⟨a, b, ⟨⟩⟩ hpre hok
  try dsimp only [Dat, SDat, dflt, Ty.size, keepS, bkUpd, Gv.bk, backS, wayA, maxI, minI, negI] at hpre
  have hln := shLn_of _ hok; replace hok := Hd.mk hok; try simp only [shLn, datLn, inRng, lo, hi, maxLen, true_and, and_true] at hln
  have hal : a.length ≤ 1000000 := hpre.1
  have hbl : b.length ≤ 1000000 := hpre.2
  first | refine fn_goal (w_head ?_)
  intro K_ hK_; (conv => whnf); (try dsimp +instances only); refine hK_ _ ?_; clear hK_ K_; (conv => (arg 2; whnf))
  repeat' (first | with_reducible refine And.intro ?_ ?_ | ((try with_reducible refine gv_more ?_); first | ((with_reducible show K_ _); (try dsimp +instances only); (with_reducible refine hK_ _ ?_); clear hK_ K_) | with_reducible refine st ?_ | ((with_reducible refine sr ?_); intro K_ hK_; conv => whnf) | ((with_reducible refine w_cond ?_); (conv => arg 2; whnf); with_reducible refine st ?_) | refine blockK_y (by rfl) ?_ | ((with_reducible refine sw ?_); conv => whnf)) | ((with_reducible refine gv_more ?_); conv => whnf) | (intro hc; (try dsimp +instances only [Dat, SDat, dflt, Ty.size, keepS, bkUpd, Gv.bk, backS, wayA, maxI, minI, negI] at hc); (try simp only [LS] at hc)))
  all_goals (try ((fail_if_success with_reducible refine nl ?_); (try dsimp only [Dat, SDat, dflt, Ty.size, keepS, bkUpd, Gv.bk, backS, wayA, maxI, minI, negI]); (try simp only [LS]); first | done | exact dsc | ((try simp only [allP, lo, hi, room, true_and, and_true, implies_true]); (repeat' (first | with_reducible refine And.intro ?_ ?_ | ((with_reducible refine preA_t ?_ ?_); rotate_left; exact sameP_t) | intro hv)) <;> (try omega))))
  refine w_loop [(5, .d tInt), (6, .d tInt), (7, .d tInt)] [] (fun y => ∃ k : Nat, y.1.2.2.1 = (k : Int) ∧ k ≤ a.length ∧ y.1.2.1 = (cardS (a.take k) : Int) ∧ y.1.1 = (cntS (fun z => decide (z ∈ b)) (a.take k) : Int)) (fun y => a.length - y.1.2.2.1.toNat) ?_
  conv => whnf
  refine And.intro ?_ ?_
  · exact ⟨0, rfl, Nat.zero_le _, rfl, rfl⟩
  rintro ⟨⟨(bo : Int), (al : Int), _, ⟨⟩⟩, ⟨⟩⟩ ⟨k, rfl, hk, hal2, hbo⟩
  have hal2 : al = (cardS (a.take k) : Int) := hal2
  have hbo : bo = (cntS (fun z => decide (z ∈ b)) (a.take k) : Int) := hbo
  have c1 := card_le (a.take k)
  have c2 := cnt_le (fun z => decide (z ∈ b)) (a.take k)
  rw [List.length_take] at c1 c2
  have hst := fun (h : k < a.length) => jc_left (b := b) h
  repeat' (first | with_reducible refine And.intro ?_ ?_ | ((try with_reducible refine gv_more ?_); first | ((with_reducible show K_ _); (try dsimp +instances only); (with_reducible refine hK_ _ ?_); clear hK_ K_) | with_reducible refine st ?_ | ((with_reducible refine sr ?_); intro K_ hK_; conv => whnf) | ((with_reducible refine w_cond ?_); (conv => arg 2; whnf); with_reducible refine st ?_) | refine blockK_y (by rfl) ?_ | ((with_reducible refine sw ?_); conv => whnf)) | ((with_reducible refine gv_more ?_); conv => whnf) | (intro hc; (try dsimp +instances only [Dat, SDat, dflt, Ty.size, keepS, bkUpd, Gv.bk, backS, wayA, maxI, minI, negI] at hc); (try simp only [LS] at hc)))
  all_goals (try ((fail_if_success with_reducible refine nl ?_); (try dsimp only [Dat, SDat, dflt, Ty.size, keepS, bkUpd, Gv.bk, backS, wayA, maxI, minI, negI]); (try simp only [LS]); first | done | exact dsc | ((try simp only [allP, lo, hi, room, true_and, and_true, implies_true]); (repeat' (first | with_reducible refine And.intro ?_ ?_ | ((with_reducible refine preA_t ?_ ?_); rotate_left; exact sameP_t) | intro hv)) <;> (try omega))))
  · have hk2 : k < a.length := by omega
    have s1 := (hst hk2).1 hc
    exact ⟨k + 1, by omega, by omega, by rw [s1.1]; exact hal2, by rw [s1.2]; exact hbo⟩
  · have hk2 : k < a.length := by omega
    have s1 := (hst hk2).2 (by assumption)
    rw [List.take_length] at hc
    rw [if_pos hc] at s1
    exact ⟨k + 1, by omega, by omega, by rw [s1.1, hal2]; omega, by rw [s1.2, hbo]; omega⟩
  · have hk2 : k < a.length := by omega
    have s1 := (hst hk2).2 (by assumption)
    rw [List.take_length] at hc
    rw [if_neg hc] at s1
    exact ⟨k + 1, by omega, by omega, by rw [s1.1, hal2]; omega, by rw [s1.2, hbo]; omega⟩
  have hka : k = a.length := by omega
  clear hst
  subst hka
  rw [List.take_length] at hal2 hbo
  refine w_loop [(6, .d tInt), (8, .d tInt)] [] (fun y => ∃ j : Nat, y.1.2.1 = (j : Int) ∧ j ≤ b.length ∧ y.1.1 = (cardS (a ++ b.take j) : Int)) (fun y => b.length - y.1.2.1.toNat) ?_
  conv => whnf
  refine And.intro ?_ ?_
  · refine ⟨0, rfl, Nat.zero_le _, ?_⟩
    rw [List.take_zero, List.append_nil]; exact hal2
  rintro ⟨⟨(al2 : Int), _, ⟨⟩⟩, ⟨⟩⟩ ⟨j, rfl, hj, hal3⟩
  have hal3 : al2 = (cardS (a ++ b.take j) : Int) := hal3
  have hst := fun (h : j < b.length) => (both_step (a := a) h).2
  have c3 := card_le (a ++ b.take j)
  rw [List.length_append, List.length_take] at c3
  have hbs : (cntS (fun z => decide (z ∈ b)) a : Int) = (bothS a b : Int) := by rw [both_symm]; rfl
  repeat' (first | with_reducible refine And.intro ?_ ?_ | ((try with_reducible refine gv_more ?_); first | ((with_reducible show K_ _); (try dsimp +instances only); (with_reducible refine hK_ _ ?_); clear hK_ K_) | with_reducible refine st ?_ | ((with_reducible refine sr ?_); intro K_ hK_; conv => whnf) | ((with_reducible refine w_cond ?_); (conv => arg 2; whnf); with_reducible refine st ?_) | refine blockK_y (by rfl) ?_ | ((with_reducible refine sw ?_); conv => whnf)) | ((with_reducible refine gv_more ?_); conv => whnf) | (intro hc; (try dsimp +instances only [Dat, SDat, dflt, Ty.size, keepS, bkUpd, Gv.bk, backS, wayA, maxI, minI, negI] at hc); (try simp only [LS] at hc)))
  all_goals (try ((fail_if_success with_reducible refine nl ?_); (try dsimp only [Dat, SDat, dflt, Ty.size, keepS, bkUpd, Gv.bk, backS, wayA, maxI, minI, negI]); (try simp only [LS]); first | done | exact dsc | ((try simp only [allP, lo, hi, room, true_and, and_true, implies_true]); (repeat' (first | with_reducible refine And.intro ?_ ?_ | ((with_reducible refine preA_t ?_ ?_); rotate_left; exact sameP_t) | intro hv)) <;> (try omega))))
  · have hk2 : j < b.length := by omega
    have s1 := hst hk2
    rw [List.take_length] at hc
    rw [if_neg fun h => h.elim hc.1 hc.2] at s1
    exact ⟨j + 1, by omega, by omega, by rw [s1, hal3]; omega⟩
  · have hk2 : j < b.length := by omega
    have s1 := hst hk2
    rw [List.take_length] at hc
    rw [if_pos (Classical.byContradiction fun h => hc ⟨fun e => h (.inl e), fun e => h (.inr e)⟩)] at s1
    exact ⟨j + 1, by omega, by omega, by rw [s1]; exact hal3⟩
  all_goals
    have hkb : j = b.length := by omega
    subst hkb
    rw [List.take_length] at hal3
    unfold jcV
  · rw [if_pos (by omega)]; rfl
  · rw [if_neg (by omega), hal3, hbo, hbs]
theorem ok_ref04_Jaccard : SpecOK SP glob fi_ref04_Jaccard S_ref04_Jaccard := mk_ok (c := c_ref04_Jaccard) (tab_ok _) mix_ok wf_ref04_Jaccard (by decide) (.cons ok_ref04_in (.cons ok_ref04_share .nil)) (fun x hx => Nat.zero_lt_one) g_ref04_Jaccard
end Go.Gv
