/- Chapter 4: edit distances. -/
import Derived.Test.YtganngkllfpgiaaGreatDoorC04
set_option linter.all false
namespace Go.Gv
open Go Go.Proofs Go.Proofs.YtganngkllfpgiaaGreatDoor
set_option maxRecDepth 100000
set_option maxHeartbeats 4000000

theorem set_at {l : List Int} {j u : Nat} {v : Int} (h : j < l.length) : (l.set j v).getD u 0 = if u = j then v else l.getD u 0 := by
  rw [List.getD_eq_getElem?_getD, List.getElem?_set, List.getD_eq_getElem?_getD]
  by_cases e : j = u
  · subst e; rw [if_pos rfl, if_pos h, if_pos rfl]; rfl
  · rw [if_neg e, if_neg fun h => e h.symm]
theorem ed_int {a b : Bs} {i j : Nat} (hi : i < a.length) (hj : j < b.length) (c : Int) (hc : c = if a.getD i 0 = b.getD j 0 then 0 else 1) : ((edP a b (i + 1) (j + 1) : Nat) : Int) = min (min (edP a b i j + c) (edP a b (i + 1) j + 1)) (edP a b i (j + 1) + 1) := by
  rw [edP_step a b i j hi hj]
  subst hc
  split <;> omega
theorem edP_le (a b : Bs) (i j : Nat) : edP a b i j ≤ a.length + b.length := by
  have := ed_upper (a.take i) (b.take j)
  rw [List.length_take, List.length_take] at this
  unfold edP; omega

theorem ed_room {x : Int} {n : Nat} (h : x = (n : Int)) (hn : n ≤ 3000000) : -9223372036854775808 ≤ x + 1 ∧ x + 1 ≤ Gv.hi .i64 := by simp only [Gv.hi]; omega


@[reducible] noncomputable def S_measure_Edit : Spec := { ins := (.cons (.d .str) (.cons (.d .str) .nil)), pre := (fun x => (fun a b => a.length ≤ 1000000 ∧ b.length ≤ 1000000) x.1 x.2.1), alts := [{ outs := (.cons (.d tInt) .nil), res := (fun x => (fun a b => ((edD a b : Int), ())) x.1 x.2.1) }] }
noncomputable def c_measure_Edit : Cf := (cf_measure_Edit (Fl [(fi_measure_least, S_measure_least)]))
theorem g_measure_Edit : ∀ x, S_measure_Edit.pre x → shOK S_measure_Edit.ins x → fnGoal c_measure_Edit fn_measure_Edit S_measure_Edit x := by
  rintro ⟨a, b, ⟨⟩⟩ hpre hok
  try dsimp only [Dat, SDat, dflt, Ty.size, keepS, bkUpd, Gv.bk, backS, wayA, maxI, minI, negI] at hpre
  have hln := shLn_of _ hok; replace hok := Hd.mk hok; try simp only [shLn, datLn, inRng, lo, hi, maxLen, true_and, and_true] at hln
  have hal : a.length ≤ 1000000 := hpre.1
  have hbl : b.length ≤ 1000000 := hpre.2
  first | refine fn_goal (w_head ?_)
  intro K_ hK_; (conv => whnf); (try dsimp +instances only); refine hK_ _ ?_; clear hK_ K_; (conv => (arg 2; whnf))
  repeat' (first | with_reducible refine And.intro ?_ ?_ | ((try with_reducible refine gv_more ?_); first | ((with_reducible show K_ _); (try dsimp +instances only); (with_reducible refine hK_ _ ?_); clear hK_ K_) | with_reducible refine st ?_ | ((with_reducible refine sr ?_); intro K_ hK_; conv => whnf) | ((with_reducible refine w_cond ?_); (conv => arg 2; whnf); with_reducible refine st ?_) | refine blockK_y (by rfl) ?_ | ((with_reducible refine sw ?_); conv => whnf)) | ((with_reducible refine gv_more ?_); conv => whnf) | (intro hc; (try dsimp +instances only [Dat, SDat, dflt, Ty.size, keepS, bkUpd, Gv.bk, backS, wayA, maxI, minI, negI] at hc); (try simp only [LS] at hc)))
  all_goals (try ((fail_if_success with_reducible refine nl ?_); (try dsimp only [Dat, SDat, dflt, Ty.size, keepS, bkUpd, Gv.bk, backS, wayA, maxI, minI, negI]); (try simp only [LS]); first | done | exact dsc | ((try simp only [allP, lo, hi, room, true_and, and_true, implies_true]); (repeat' (first | with_reducible refine And.intro ?_ ?_ | ((with_reducible refine preA_t ?_ ?_); rotate_left; exact sameP_t) | intro hv)) <;> (try omega))))
  refine w_loop [(5, .row tInt), (24, .d tInt)] [] (fun y => ∃ k : Nat, y.1.2.1 = (k : Int) ∧ k ≤ (a).length + 1 ∧ List.length y.1.1 = (a).length + 1 ∧ ∀ u, u < k → List.getD y.1.1 u 0 = (u : Int)) (fun y => (a).length + 1 - y.1.2.1.toNat) ?_
  conv => whnf
  refine And.intro ?_ ?_
  · refine ⟨0, rfl, Nat.zero_le _, ?_, fun u hu => by omega⟩
    show (List.replicate _ _).length = _
    rw [List.length_replicate]; omega
  rintro ⟨⟨row, _, ⟨⟩⟩, ⟨⟩⟩ ⟨k, rfl, hk, hrl, hr⟩
  have hrl : List.length (row : List Int) = (a).length + 1 := hrl
  have hr : ∀ u, u < k → List.getD (row : List Int) u 0 = (u : Int) := hr
  repeat' (first | with_reducible refine And.intro ?_ ?_ | ((try with_reducible refine gv_more ?_); first | ((with_reducible show K_ _); (try dsimp +instances only); (with_reducible refine hK_ _ ?_); clear hK_ K_) | with_reducible refine st ?_ | ((with_reducible refine sr ?_); intro K_ hK_; conv => whnf) | ((with_reducible refine w_cond ?_); (conv => arg 2; whnf); with_reducible refine st ?_) | refine blockK_y (by rfl) ?_ | ((with_reducible refine sw ?_); conv => whnf)) | ((with_reducible refine gv_more ?_); conv => whnf) | (intro hc; (try dsimp +instances only [Dat, SDat, dflt, Ty.size, keepS, bkUpd, Gv.bk, backS, wayA, maxI, minI, negI] at hc); (try simp only [LS] at hc)))
  all_goals (try ((fail_if_success with_reducible refine nl ?_); (try dsimp only [Dat, SDat, dflt, Ty.size, keepS, bkUpd, Gv.bk, backS, wayA, maxI, minI, negI]); (try simp only [LS]); first | done | exact dsc | ((try simp only [allP, lo, hi, room, true_and, and_true, implies_true]); (repeat' (first | with_reducible refine And.intro ?_ ?_ | ((with_reducible refine preA_t ?_ ?_); rotate_left; exact sameP_t) | intro hv)) <;> (try omega))))
  · refine ⟨k + 1, by omega, by omega, hrl, fun u hu => ?_⟩
    rw [set_at (by omega)]
    split
    · rename_i h; omega
    · exact hr u (by omega)
  refine w_loop [(5, .row tInt), (34, .d tInt)] [] (fun y => ∃ i : Nat, y.1.2.1 = (i : Int) ∧ i ≤ (b).length ∧ List.length y.1.1 = (a).length + 1 ∧ ∀ u, u ≤ (a).length → List.getD y.1.1 u 0 = (edP b a i u : Int)) (fun y => (b).length - y.1.2.1.toNat) ?_
  conv => whnf
  refine And.intro ?_ ?_
  · refine ⟨0, rfl, Nat.zero_le _, hrl, fun u hu => ?_⟩
    show List.getD (row : List Int) u 0 = _
    rw [hr u (by omega), edP_zero _ _ _ hu]
  clear hr hrl hk
  rintro ⟨⟨row, _, ⟨⟩⟩, ⟨⟩⟩ ⟨i, rfl, hi, hrl, hr⟩
  have hrl : List.length (row : List Int) = (a).length + 1 := hrl
  have hr : ∀ u, u ≤ (a).length → List.getD (row : List Int) u 0 = (edP b a i u : Int) := hr
  repeat' (first | with_reducible refine And.intro ?_ ?_ | ((try with_reducible refine gv_more ?_); first | ((with_reducible show K_ _); (try dsimp +instances only); (with_reducible refine hK_ _ ?_); clear hK_ K_) | with_reducible refine st ?_ | ((with_reducible refine sr ?_); intro K_ hK_; conv => whnf) | ((with_reducible refine w_cond ?_); (conv => arg 2; whnf); with_reducible refine st ?_) | refine blockK_y (by rfl) ?_ | ((with_reducible refine sw ?_); conv => whnf)) | ((with_reducible refine gv_more ?_); conv => whnf) | (intro hc; (try dsimp +instances only [Dat, SDat, dflt, Ty.size, keepS, bkUpd, Gv.bk, backS, wayA, maxI, minI, negI] at hc); (try simp only [LS] at hc)))
  all_goals (try ((fail_if_success with_reducible refine nl ?_); (try dsimp only [Dat, SDat, dflt, Ty.size, keepS, bkUpd, Gv.bk, backS, wayA, maxI, minI, negI]); (try simp only [LS]); first | done | exact dsc | ((try simp only [allP, lo, hi, room, true_and, and_true, implies_true]); (repeat' (first | with_reducible refine And.intro ?_ ?_ | ((with_reducible refine preA_t ?_ ?_); rotate_left; exact sameP_t) | intro hv)) <;> (try omega))))
  all_goals (try (simp only [Gv.hi]; omega))
  · refine w_loop [(5, .row tInt), (8, .d tInt), (46, .d tInt)] [] (fun y => ∃ j : Nat, y.1.2.2.1 = (j : Int) ∧ j ≤ (a).length ∧ List.length y.1.1 = (a).length + 1 ∧ y.1.2.1 = (edP b a i j : Int) ∧ (∀ u, u ≤ j → List.getD y.1.1 u 0 = (edP b a (i + 1) u : Int)) ∧ ∀ u, j < u → u ≤ (a).length → List.getD y.1.1 u 0 = (edP b a i u : Int)) (fun y => (a).length - y.1.2.2.1.toNat) ?_
    conv => whnf
    refine And.intro ?_ ?_
    · refine ⟨0, rfl, Nat.zero_le _, ?_, hr 0 (Nat.zero_le _), fun u hu => ?_, fun u h1 h2 => ?_⟩
      · show (List.set _ _ _).length = _; rw [List.length_set]; exact hrl
      · show (List.set (row : List Int) _ _).getD u 0 = _
        have e0 : u = 0 := by omega
        subst e0
        rw [show Int.toNat 0 = 0 from rfl, set_at (by omega), if_pos rfl, edP_zeror _ _ _ (by omega)]
        show ((i : Int) + 1) = ((i + 1 : Nat) : Int)
        omega
      · show (List.set (row : List Int) _ _).getD u 0 = _
        rw [show Int.toNat 0 = 0 from rfl, set_at (by omega), if_neg (by omega)]; exact hr u h2
    have hiA : i < (b).length := by omega
    clear hr hrl
    rintro ⟨⟨row, (co : Int), _, ⟨⟩⟩, ⟨⟩⟩ ⟨j, rfl, hj, hrl, hco, hr1, hr2⟩
    have hrl : List.length (row : List Int) = (a).length + 1 := hrl
    have hco : co = (edP b a i j : Int) := hco
    have hr1 : ∀ u, u ≤ j → List.getD (row : List Int) u 0 = (edP b a (i + 1) u : Int) := hr1
    have hr2 : ∀ u, j < u → u ≤ (a).length → List.getD (row : List Int) u 0 = (edP b a i u : Int) := hr2
    have q1 := hr1 j (Nat.le_refl _)
    have q2 := fun h => hr2 (j + 1) (Nat.lt_succ_self _) h
    have b0 := edP_le b a i j
    have b1 := edP_le b a (i + 1) j
    have b2 := edP_le b a i (j + 1)
    have hj1 : ((j : Int) + 1).toNat = j + 1 := by omega
    have hfin : ∀ c : Int, i < (b).length → j < (a).length → (c = if (b).getD i 0 = (a).getD j 0 then 0 else 1) → List.foldl (fun a b : Int => min a b) (co + c) [List.getD (row : List Int) j 0 + 1, List.getD (row : List Int) (j + 1) 0 + 1] = (edP b a (i + 1) (j + 1) : Int) := fun c h1 h2 hc => by
      show min (min (co + c) (List.getD (row : List Int) j 0 + 1)) (List.getD (row : List Int) (j + 1) 0 + 1) = _
      rw [hco, q1, q2 (by omega)]
      exact (ed_int h1 h2 c hc).symm
    have hres : ∀ c : Int, i < (b).length → j < (a).length → (c = if (b).getD i 0 = (a).getD j 0 then 0 else 1) → ∃ j_1 : Nat, (j : Int) + 1 = (j_1 : Int) ∧ j_1 ≤ (a).length ∧ List.length (row : List Int) = (a).length + 1 ∧ List.getD (row : List Int) (j + 1) 0 = (edP b a i j_1 : Int) ∧ (∀ u, u ≤ j_1 → (List.set (row : List Int) (j + 1) (List.foldl (fun a b : Int => min a b) (co + c) [List.getD (row : List Int) j 0 + 1, List.getD (row : List Int) (j + 1) 0 + 1])).getD u 0 = (edP b a (i + 1) u : Int)) ∧ ∀ u, j_1 < u → u ≤ (a).length → (List.set (row : List Int) (j + 1) (List.foldl (fun a b : Int => min a b) (co + c) [List.getD (row : List Int) j 0 + 1, List.getD (row : List Int) (j + 1) 0 + 1])).getD u 0 = (edP b a i u : Int) := fun c h1 h2 hc => by
      refine ⟨j + 1, by omega, by omega, hrl, q2 (by omega), fun u hu => ?_, fun u h3 h4 => ?_⟩
      · rw [set_at (by omega), hfin c h1 h2 hc]
        split
        · rename_i h; rw [h]
        · exact hr1 u (by omega)
      · rw [set_at (by omega), if_neg (by omega)]
        exact hr2 u (by omega) h4
    have g1 : -9223372036854775808 ≤ List.getD (row : List Int) j 0 + 1 ∧ List.getD (row : List Int) j 0 + 1 ≤ Gv.hi .i64 := ed_room q1 (by omega)
    have g2 : j + 1 ≤ (a).length → -9223372036854775808 ≤ List.getD (row : List Int) (j + 1) 0 + 1 ∧ List.getD (row : List Int) (j + 1) 0 + 1 ≤ Gv.hi .i64 := fun h => ed_room (q2 h) (by omega)
    repeat' (first | with_reducible refine And.intro ?_ ?_ | ((try with_reducible refine gv_more ?_); first | ((with_reducible show K_ _); (try dsimp +instances only); (with_reducible refine hK_ _ ?_); clear hK_ K_) | with_reducible refine st ?_ | ((with_reducible refine sr ?_); intro K_ hK_; conv => whnf) | ((with_reducible refine w_cond ?_); (conv => arg 2; whnf); with_reducible refine st ?_) | refine blockK_y (by rfl) ?_ | ((with_reducible refine sw ?_); conv => whnf)) | ((with_reducible refine gv_more ?_); conv => whnf) | (intro hc; (try dsimp +instances only [Dat, SDat, dflt, Ty.size, keepS, bkUpd, Gv.bk, backS, wayA, maxI, minI, negI] at hc); (try simp only [LS] at hc)))
    all_goals (try ((fail_if_success with_reducible refine nl ?_); (try dsimp only [Dat, SDat, dflt, Ty.size, keepS, bkUpd, Gv.bk, backS, wayA, maxI, minI, negI]); (try simp only [LS]); first | done | exact dsc | ((try simp only [allP, lo, hi, room, true_and, and_true, implies_true]); (repeat' (first | with_reducible refine And.intro ?_ ?_ | ((with_reducible refine preA_t ?_ ?_); rotate_left; exact sameP_t) | intro hv)) <;> (try omega))))
    all_goals (try rw [hj1])
    all_goals (try (with_reducible first | exact g1.1 | exact g1.2 | exact (g2 (by omega)).1 | exact (g2 (by omega)).2))
    all_goals (try (have q2 := q2 (by omega); simp only [Gv.hi]; omega))
    all_goals (try (simp only [Gv.hi]; omega))
    · refine hres 0 hiA (by omega) ?_
      rw [if_pos (UInt8.toNat_inj.1 (by omega))]
    · refine hres 1 hiA (by omega) ?_
      rw [if_neg fun e => hc (by rw [e])]
    · refine ⟨i + 1, by omega, by omega, hrl, fun u hu => ?_⟩
      rw [hr1 u (by omega)]
  · rw [hr _ (Nat.le_refl _), show i = (b).length by omega, edP_all]; rw [ed_symm]
  refine w_loop [(5, .row tInt), (24, .d tInt)] [] (fun y => ∃ k : Nat, y.1.2.1 = (k : Int) ∧ k ≤ (b).length + 1 ∧ List.length y.1.1 = (b).length + 1 ∧ ∀ u, u < k → List.getD y.1.1 u 0 = (u : Int)) (fun y => (b).length + 1 - y.1.2.1.toNat) ?_
  conv => whnf
  refine And.intro ?_ ?_
  · refine ⟨0, rfl, Nat.zero_le _, ?_, fun u hu => by omega⟩
    show (List.replicate _ _).length = _
    rw [List.length_replicate]; omega
  rintro ⟨⟨row, _, ⟨⟩⟩, ⟨⟩⟩ ⟨k, rfl, hk, hrl, hr⟩
  have hrl : List.length (row : List Int) = (b).length + 1 := hrl
  have hr : ∀ u, u < k → List.getD (row : List Int) u 0 = (u : Int) := hr
  repeat' (first | with_reducible refine And.intro ?_ ?_ | ((try with_reducible refine gv_more ?_); first | ((with_reducible show K_ _); (try dsimp +instances only); (with_reducible refine hK_ _ ?_); clear hK_ K_) | with_reducible refine st ?_ | ((with_reducible refine sr ?_); intro K_ hK_; conv => whnf) | ((with_reducible refine w_cond ?_); (conv => arg 2; whnf); with_reducible refine st ?_) | refine blockK_y (by rfl) ?_ | ((with_reducible refine sw ?_); conv => whnf)) | ((with_reducible refine gv_more ?_); conv => whnf) | (intro hc; (try dsimp +instances only [Dat, SDat, dflt, Ty.size, keepS, bkUpd, Gv.bk, backS, wayA, maxI, minI, negI] at hc); (try simp only [LS] at hc)))
  all_goals (try ((fail_if_success with_reducible refine nl ?_); (try dsimp only [Dat, SDat, dflt, Ty.size, keepS, bkUpd, Gv.bk, backS, wayA, maxI, minI, negI]); (try simp only [LS]); first | done | exact dsc | ((try simp only [allP, lo, hi, room, true_and, and_true, implies_true]); (repeat' (first | with_reducible refine And.intro ?_ ?_ | ((with_reducible refine preA_t ?_ ?_); rotate_left; exact sameP_t) | intro hv)) <;> (try omega))))
  · refine ⟨k + 1, by omega, by omega, hrl, fun u hu => ?_⟩
    rw [set_at (by omega)]
    split
    · rename_i h; omega
    · exact hr u (by omega)
  refine w_loop [(5, .row tInt), (34, .d tInt)] [] (fun y => ∃ i : Nat, y.1.2.1 = (i : Int) ∧ i ≤ (a).length ∧ List.length y.1.1 = (b).length + 1 ∧ ∀ u, u ≤ (b).length → List.getD y.1.1 u 0 = (edP a b i u : Int)) (fun y => (a).length - y.1.2.1.toNat) ?_
  conv => whnf
  refine And.intro ?_ ?_
  · refine ⟨0, rfl, Nat.zero_le _, hrl, fun u hu => ?_⟩
    show List.getD (row : List Int) u 0 = _
    rw [hr u (by omega), edP_zero _ _ _ hu]
  clear hr hrl hk
  rintro ⟨⟨row, _, ⟨⟩⟩, ⟨⟩⟩ ⟨i, rfl, hi, hrl, hr⟩
  have hrl : List.length (row : List Int) = (b).length + 1 := hrl
  have hr : ∀ u, u ≤ (b).length → List.getD (row : List Int) u 0 = (edP a b i u : Int) := hr
  repeat' (first | with_reducible refine And.intro ?_ ?_ | ((try with_reducible refine gv_more ?_); first | ((with_reducible show K_ _); (try dsimp +instances only); (with_reducible refine hK_ _ ?_); clear hK_ K_) | with_reducible refine st ?_ | ((with_reducible refine sr ?_); intro K_ hK_; conv => whnf) | ((with_reducible refine w_cond ?_); (conv => arg 2; whnf); with_reducible refine st ?_) | refine blockK_y (by rfl) ?_ | ((with_reducible refine sw ?_); conv => whnf)) | ((with_reducible refine gv_more ?_); conv => whnf) | (intro hc; (try dsimp +instances only [Dat, SDat, dflt, Ty.size, keepS, bkUpd, Gv.bk, backS, wayA, maxI, minI, negI] at hc); (try simp only [LS] at hc)))
  all_goals (try ((fail_if_success with_reducible refine nl ?_); (try dsimp only [Dat, SDat, dflt, Ty.size, keepS, bkUpd, Gv.bk, backS, wayA, maxI, minI, negI]); (try simp only [LS]); first | done | exact dsc | ((try simp only [allP, lo, hi, room, true_and, and_true, implies_true]); (repeat' (first | with_reducible refine And.intro ?_ ?_ | ((with_reducible refine preA_t ?_ ?_); rotate_left; exact sameP_t) | intro hv)) <;> (try omega))))
  all_goals (try (simp only [Gv.hi]; omega))
  · refine w_loop [(5, .row tInt), (8, .d tInt), (46, .d tInt)] [] (fun y => ∃ j : Nat, y.1.2.2.1 = (j : Int) ∧ j ≤ (b).length ∧ List.length y.1.1 = (b).length + 1 ∧ y.1.2.1 = (edP a b i j : Int) ∧ (∀ u, u ≤ j → List.getD y.1.1 u 0 = (edP a b (i + 1) u : Int)) ∧ ∀ u, j < u → u ≤ (b).length → List.getD y.1.1 u 0 = (edP a b i u : Int)) (fun y => (b).length - y.1.2.2.1.toNat) ?_
    conv => whnf
    refine And.intro ?_ ?_
    · refine ⟨0, rfl, Nat.zero_le _, ?_, hr 0 (Nat.zero_le _), fun u hu => ?_, fun u h1 h2 => ?_⟩
      · show (List.set _ _ _).length = _; rw [List.length_set]; exact hrl
      · show (List.set (row : List Int) _ _).getD u 0 = _
        have e0 : u = 0 := by omega
        subst e0
        rw [show Int.toNat 0 = 0 from rfl, set_at (by omega), if_pos rfl, edP_zeror _ _ _ (by omega)]
        show ((i : Int) + 1) = ((i + 1 : Nat) : Int)
        omega
      · show (List.set (row : List Int) _ _).getD u 0 = _
        rw [show Int.toNat 0 = 0 from rfl, set_at (by omega), if_neg (by omega)]; exact hr u h2
    have hiA : i < (a).length := by omega
    clear hr hrl
    rintro ⟨⟨row, (co : Int), _, ⟨⟩⟩, ⟨⟩⟩ ⟨j, rfl, hj, hrl, hco, hr1, hr2⟩
    have hrl : List.length (row : List Int) = (b).length + 1 := hrl
    have hco : co = (edP a b i j : Int) := hco
    have hr1 : ∀ u, u ≤ j → List.getD (row : List Int) u 0 = (edP a b (i + 1) u : Int) := hr1
    have hr2 : ∀ u, j < u → u ≤ (b).length → List.getD (row : List Int) u 0 = (edP a b i u : Int) := hr2
    have q1 := hr1 j (Nat.le_refl _)
    have q2 := fun h => hr2 (j + 1) (Nat.lt_succ_self _) h
    have b0 := edP_le a b i j
    have b1 := edP_le a b (i + 1) j
    have b2 := edP_le a b i (j + 1)
    have hj1 : ((j : Int) + 1).toNat = j + 1 := by omega
    have hfin : ∀ c : Int, i < (a).length → j < (b).length → (c = if (a).getD i 0 = (b).getD j 0 then 0 else 1) → List.foldl (fun a b : Int => min a b) (co + c) [List.getD (row : List Int) j 0 + 1, List.getD (row : List Int) (j + 1) 0 + 1] = (edP a b (i + 1) (j + 1) : Int) := fun c h1 h2 hc => by
      show min (min (co + c) (List.getD (row : List Int) j 0 + 1)) (List.getD (row : List Int) (j + 1) 0 + 1) = _
      rw [hco, q1, q2 (by omega)]
      exact (ed_int h1 h2 c hc).symm
    have hres : ∀ c : Int, i < (a).length → j < (b).length → (c = if (a).getD i 0 = (b).getD j 0 then 0 else 1) → ∃ j_1 : Nat, (j : Int) + 1 = (j_1 : Int) ∧ j_1 ≤ (b).length ∧ List.length (row : List Int) = (b).length + 1 ∧ List.getD (row : List Int) (j + 1) 0 = (edP a b i j_1 : Int) ∧ (∀ u, u ≤ j_1 → (List.set (row : List Int) (j + 1) (List.foldl (fun a b : Int => min a b) (co + c) [List.getD (row : List Int) j 0 + 1, List.getD (row : List Int) (j + 1) 0 + 1])).getD u 0 = (edP a b (i + 1) u : Int)) ∧ ∀ u, j_1 < u → u ≤ (b).length → (List.set (row : List Int) (j + 1) (List.foldl (fun a b : Int => min a b) (co + c) [List.getD (row : List Int) j 0 + 1, List.getD (row : List Int) (j + 1) 0 + 1])).getD u 0 = (edP a b i u : Int) := fun c h1 h2 hc => by
      refine ⟨j + 1, by omega, by omega, hrl, q2 (by omega), fun u hu => ?_, fun u h3 h4 => ?_⟩
      · rw [set_at (by omega), hfin c h1 h2 hc]
        split
        · rename_i h; rw [h]
        · exact hr1 u (by omega)
      · rw [set_at (by omega), if_neg (by omega)]
        exact hr2 u (by omega) h4
    have g1 : -9223372036854775808 ≤ List.getD (row : List Int) j 0 + 1 ∧ List.getD (row : List Int) j 0 + 1 ≤ Gv.hi .i64 := ed_room q1 (by omega)
    have g2 : j + 1 ≤ (b).length → -9223372036854775808 ≤ List.getD (row : List Int) (j + 1) 0 + 1 ∧ List.getD (row : List Int) (j + 1) 0 + 1 ≤ Gv.hi .i64 := fun h => ed_room (q2 h) (by omega)
    repeat' (first | with_reducible refine And.intro ?_ ?_ | ((try with_reducible refine gv_more ?_); first | ((with_reducible show K_ _); (try dsimp +instances only); (with_reducible refine hK_ _ ?_); clear hK_ K_) | with_reducible refine st ?_ | ((with_reducible refine sr ?_); intro K_ hK_; conv => whnf) | ((with_reducible refine w_cond ?_); (conv => arg 2; whnf); with_reducible refine st ?_) | refine blockK_y (by rfl) ?_ | ((with_reducible refine sw ?_); conv => whnf)) | ((with_reducible refine gv_more ?_); conv => whnf) | (intro hc; (try dsimp +instances only [Dat, SDat, dflt, Ty.size, keepS, bkUpd, Gv.bk, backS, wayA, maxI, minI, negI] at hc); (try simp only [LS] at hc)))
    all_goals (try ((fail_if_success with_reducible refine nl ?_); (try dsimp only [Dat, SDat, dflt, Ty.size, keepS, bkUpd, Gv.bk, backS, wayA, maxI, minI, negI]); (try simp only [LS]); first | done | exact dsc | ((try simp only [allP, lo, hi, room, true_and, and_true, implies_true]); (repeat' (first | with_reducible refine And.intro ?_ ?_ | ((with_reducible refine preA_t ?_ ?_); rotate_left; exact sameP_t) | intro hv)) <;> (try omega))))
    all_goals (try rw [hj1])
    all_goals (try (with_reducible first | exact g1.1 | exact g1.2 | exact (g2 (by omega)).1 | exact (g2 (by omega)).2))
    all_goals (try (have q2 := q2 (by omega); simp only [Gv.hi]; omega))
    all_goals (try (simp only [Gv.hi]; omega))
    · refine hres 0 hiA (by omega) ?_
      rw [if_pos (UInt8.toNat_inj.1 (by omega))]
    · refine hres 1 hiA (by omega) ?_
      rw [if_neg fun e => hc (by rw [e])]
    · refine ⟨i + 1, by omega, by omega, hrl, fun u hu => ?_⟩
      rw [hr1 u (by omega)]
  · rw [hr _ (Nat.le_refl _), show i = (a).length by omega, edP_all]; skip
theorem ok_measure_Edit : SpecOK SP glob fi_measure_Edit S_measure_Edit := mk_ok (c := c_measure_Edit) (tab_ok _) mix_ok wf_measure_Edit (by decide) (.cons ok_measure_least .nil) (fun x hx => Nat.zero_lt_one) g_measure_Edit
end Go.Gv
