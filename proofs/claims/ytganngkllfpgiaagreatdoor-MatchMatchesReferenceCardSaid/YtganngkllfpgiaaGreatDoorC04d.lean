/- Chapter 4: Jaro. -/
import Derived.Test.YtganngkllfpgiaaGreatDoorC04c
import Derived.Test.YtganngkllfpgiaaGreatDoorP04d
set_option linter.all false
namespace Go.Gv
open Go Go.Proofs Go.Proofs.YtganngkllfpgiaaGreatDoor
set_option maxRecDepth 100000
set_option maxHeartbeats 4000000

theorem lef_len (a : Bs) (M : List (Nat × Nat)) : (lefJ a M).length = M.length := by unfold lefJ; rw [List.length_map]
theorem tk_len (M : List (Nat × Nat)) : (tkJ M).length = M.length := by unfold tkJ; rw [List.length_map]

theorem set_bl {l : List Bool} {j u : Nat} (h : j < l.length) : (l.set j true).getD u false = true ↔ u = j ∨ l.getD u false = true := by
  rw [List.getD_eq_getElem?_getD, List.getElem?_set, List.getD_eq_getElem?_getD]
  by_cases e : j = u
  · subst e; simp [h]
  · rw [if_neg e]
    have : ¬ u = j := fun h => e h.symm
    simp [this]

theorem mul_bnd {x y X Y : Int} (h : 0 ≤ x ∧ x ≤ X) (k : 0 ≤ y ∧ y ≤ Y) : 0 ≤ x * y ∧ x * y ≤ X * Y := by
  refine ⟨Int.mul_nonneg h.1 k.1, ?_⟩
  exact Int.le_trans (Int.mul_le_mul_of_nonneg_right h.2 k.1) (Int.mul_le_mul_of_nonneg_left k.2 (Int.le_trans h.1 h.2))

@[reducible] noncomputable def S_measure_Jaro : Spec := { ins := (.cons (.d .str) (.cons (.d .str) .nil)), pre := (fun x => (fun a b => a.length ≤ 1000000 ∧ b.length ≤ 1000000) x.1 x.2.1), alts := [{ outs := (.cons (.d tRt) .nil), res := (fun x => (fun a b => (jrV a b, ())) x.1 x.2.1) }] }
noncomputable def c_measure_Jaro : Cf := (cf_measure_Jaro (Fl [(fi_measure_share, S_measure_share)]))
theorem g_measure_Jaro : ∀ x, S_measure_Jaro.pre x → shOK S_measure_Jaro.ins x → fnGoal c_measure_Jaro fn_measure_Jaro S_measure_Jaro x := by
  rintro ⟨a, b, ⟨⟩⟩ hpre hok
  try dsimp only [Dat, SDat, dflt, Ty.size, keepS, bkUpd, Gv.bk, backS, wayA, maxI, minI, negI] at hpre
  have hln := shLn_of _ hok; replace hok := Hd.mk hok; try simp only [shLn, datLn, inRng, lo, hi, maxLen, true_and, and_true] at hln
  have hw : (wJ a b : Int) = max (Int.tdiv (max (a.length : Int) (b.length : Int)) 2 - 1) 0 := by
    unfold wJ
    rw [Int.tdiv_eq_ediv_of_nonneg (by omega)]
    omega
  have hq : Int.tdiv (max (a.length : Int) (b.length : Int)) 2 = (max (a.length : Int) (b.length : Int)) / 2 := Int.tdiv_eq_ediv_of_nonneg (by omega)
  first | refine fn_goal (w_head ?_)
  intro K_ hK_; (conv => whnf); (try dsimp +instances only); refine hK_ _ ?_; clear hK_ K_; (conv => (arg 2; whnf))
  repeat' (first | with_reducible refine And.intro ?_ ?_ | ((try with_reducible refine gv_more ?_); first | ((with_reducible show K_ _); (try dsimp +instances only); (with_reducible refine hK_ _ ?_); clear hK_ K_) | with_reducible refine st ?_ | ((with_reducible refine sr ?_); intro K_ hK_; conv => whnf) | ((with_reducible refine w_cond ?_); (conv => arg 2; whnf); with_reducible refine st ?_) | refine blockK_y (by rfl) ?_ | ((with_reducible refine sw ?_); conv => whnf)) | ((with_reducible refine gv_more ?_); conv => whnf) | (intro hc; (try dsimp +instances only [Dat, SDat, dflt, Ty.size, keepS, bkUpd, Gv.bk, backS, wayA, maxI, minI, negI] at hc); (try simp only [LS] at hc)))
  all_goals (try ((fail_if_success with_reducible refine nl ?_); (try dsimp only [Dat, SDat, dflt, Ty.size, keepS, bkUpd, Gv.bk, backS, wayA, maxI, minI, negI]); (try simp only [LS]); first | done | exact dsc | ((try simp only [allP, lo, hi, room, true_and, and_true, implies_true]); (repeat' (first | with_reducible refine And.intro ?_ ?_ | ((with_reducible refine preA_t ?_ ?_); rotate_left; exact sameP_t) | intro hv)) <;> (try omega))))
  all_goals (try (rw [hq]; omega))
  · unfold jrV; rw [if_pos (by omega)]; rfl
  · rename_i h1
    unfold jrV
    rw [if_neg (by omega), if_pos hc]; rfl
  rename_i hsm
  have hla : a.length ≤ 200 := by omega
  have hlb : b.length ≤ 200 := by omega
  refine w_loop [(6, .row .bool), (7, .row tBy), (50, .d tInt)] [] (fun y => ∃ i : Nat, y.1.2.2.1 = (i : Int) ∧ i ≤ a.length ∧ List.length y.1.1 = b.length ∧ (∀ j, (y.1.1 : List Bool).getD j false = true ↔ j ∈ tkJ (marJ a b (wJ a b) i)) ∧ @Eq (List Int) y.1.2.1 (nmJ (lefJ a (marJ a b (wJ a b) i)))) (fun y => a.length - y.1.2.2.1.toNat) ?_
  conv => whnf
  refine And.intro ?_ ?_
  · refine ⟨0, rfl, Nat.zero_le _, ?_, fun j => ?_, rfl⟩
    · show (List.replicate _ _).length = _
      rw [List.length_replicate, Int.toNat_natCast]
    · show (List.replicate _ false).getD j false = true ↔ _
      rw [List.getD_eq_getElem?_getD, List.getElem?_replicate]
      split <;> simp [marJ, tkJ]
  rintro ⟨⟨(ta : List Bool), (le : List Int), _, ⟨⟩⟩, ⟨⟩⟩ ⟨i, rfl, hi, htl, hta, hle⟩
  have htl : List.length ta = b.length := htl
  have hta : ∀ j, ta.getD j false = true ↔ j ∈ tkJ (marJ a b (wJ a b) i) := hta
  have hle : le = nmJ (lefJ a (marJ a b (wJ a b) i)) := hle
  have hml := (mar_inv a b (wJ a b) i).1
  have htk := (mar_inv a b (wJ a b) i).2.2.1
  have hll : le.length = (marJ a b (wJ a b) i).length := by rw [hle, nm_len, lef_len]
  repeat' (first | with_reducible refine And.intro ?_ ?_ | ((try with_reducible refine gv_more ?_); first | ((with_reducible show K_ _); (try dsimp +instances only); (with_reducible refine hK_ _ ?_); clear hK_ K_) | with_reducible refine st ?_ | ((with_reducible refine sr ?_); intro K_ hK_; conv => whnf) | ((with_reducible refine w_cond ?_); (conv => arg 2; whnf); with_reducible refine st ?_) | refine blockK_y (by rfl) ?_ | ((with_reducible refine sw ?_); conv => whnf)) | ((with_reducible refine gv_more ?_); conv => whnf) | (intro hc; (try dsimp +instances only [Dat, SDat, dflt, Ty.size, keepS, bkUpd, Gv.bk, backS, wayA, maxI, minI, negI] at hc); (try simp only [LS] at hc)))
  all_goals (try ((fail_if_success with_reducible refine nl ?_); (try dsimp only [Dat, SDat, dflt, Ty.size, keepS, bkUpd, Gv.bk, backS, wayA, maxI, minI, negI]); (try simp only [LS]); first | done | exact dsc | ((try simp only [allP, lo, hi, room, true_and, and_true, implies_true]); (repeat' (first | with_reducible refine And.intro ?_ ?_ | ((with_reducible refine preA_t ?_ ?_); rotate_left; exact sameP_t) | intro hv)) <;> (try omega))))
  all_goals (try (simp only [Gv.hi]; omega))
  · refine w_loop [(6, .row .bool), (7, .row tBy), (11, .d tInt)] [] (fun y => ∃ j : Nat, y.1.2.2.1 = (j : Int) ∧ y.1.1 = ta ∧ y.1.2.1 = le ∧ (∀ k, k < j → ¬ (elJ a b (wJ a b) i k ∧ k ∉ tkJ (marJ a b (wJ a b) i))) ∧ i ≤ j + wJ a b) (fun y => i + wJ a b + 1 - y.1.2.2.1.toNat) ?_
    conv => whnf
    refine And.intro ?_ ?_
    · refine ⟨i - wJ a b, by show max ((i : Int) - max (Int.tdiv (max (a.length : Int) (b.length : Int)) 2 - 1) 0) 0 = _; rw [← hw]; omega, rfl, rfl, fun k hk he => ?_, by omega⟩
      have := he.1.2.1
      omega
    rintro ⟨⟨(ta' : List Bool), (le' : List Int), _, ⟨⟩⟩, ⟨⟩⟩ ⟨j, rfl, e1, e2, hno, hij⟩
    have e1 : ta' = ta := e1
    have e2 : le' = le := e2
    subst e1; subst e2
    have htl : ta'.length = b.length := by assumption
    have hta : ∀ j, ta'.getD j false = true ↔ j ∈ tkJ (marJ a b (wJ a b) i) := by assumption
    have hle : le' = nmJ (lefJ a (marJ a b (wJ a b) i)) := by assumption
    repeat' (first | with_reducible refine And.intro ?_ ?_ | ((try with_reducible refine gv_more ?_); first | ((with_reducible show K_ _); (try dsimp +instances only); (with_reducible refine hK_ _ ?_); clear hK_ K_) | with_reducible refine st ?_ | ((with_reducible refine sr ?_); intro K_ hK_; conv => whnf) | ((with_reducible refine w_cond ?_); (conv => arg 2; whnf); with_reducible refine st ?_) | refine blockK_y (by rfl) ?_ | ((with_reducible refine sw ?_); conv => whnf)) | ((with_reducible refine gv_more ?_); conv => whnf) | (intro hc; (try dsimp +instances only [Dat, SDat, dflt, Ty.size, keepS, bkUpd, Gv.bk, backS, wayA, maxI, minI, negI] at hc); (try simp only [LS] at hc)))
    all_goals (try ((fail_if_success with_reducible refine nl ?_); (try dsimp only [Dat, SDat, dflt, Ty.size, keepS, bkUpd, Gv.bk, backS, wayA, maxI, minI, negI]); (try simp only [LS]); first | done | exact dsc | ((try simp only [allP, lo, hi, room, true_and, and_true, implies_true]); (repeat' (first | with_reducible refine And.intro ?_ ?_ | ((with_reducible refine preA_t ?_ ?_); rotate_left; exact sameP_t) | intro hv)) <;> (try omega))))
    all_goals (try (simp only [Gv.hi]; omega))
    · rename_i hi1 hjm
      have hjb : j < b.length := by omega
      have hnt : j ∉ tkJ (marJ a b (wJ a b) i) := fun h => by
        have := (hta j).2 h
        rw [hc.1] at this; cases this
      have hel : elJ a b (wJ a b) i j := ⟨hjb, hij, by omega, UInt8.toNat_inj.1 (by have := hc.2; omega)⟩
      have hm := mar_some ⟨hel, hnt⟩ hno
      refine ⟨i + 1, by omega, by omega, htl, fun u => ?_, ?_⟩
      · rw [hm, tk_snoc, List.mem_append, List.mem_singleton, ← hta u, set_bl (by omega)]
        by_cases e : u = j
        · subst e; simp
        · simp [e]
      · rw [hm, lef_snoc, nm_snoc, ← hle]
    · rename_i hi1 hjm
      refine ⟨j + 1, by omega, fun k hk he => ?_, by omega⟩
      rcases Nat.lt_or_ge k j with h | h
      · exact hno k h he
      · have ek : k = j := by omega
        subst ek
        refine hc ⟨?_, by rw [he.1.2.2.2]⟩
        cases ht : ta'.getD k false with
        | false => rfl
        | true => exact (he.2 ((hta k).1 ht)).elim
    · rename_i hi1
      have hnn : ∀ k, ¬ (elJ a b (wJ a b) i k ∧ k ∉ tkJ (marJ a b (wJ a b) i)) := fun k hk => by
        refine hno k ?_ hk
        have h1 := hk.1.1
        have h2 := hk.1.2.2.1
        omega
      have hm := mar_none hnn
      exact ⟨i + 1, by omega, by omega, htl, fun u => by rw [hm]; exact hta u, by rw [hm]; exact hle⟩
  · unfold jrV
    have hia : i = a.length := by omega
    subst hia
    have hm0 : (mJ a b).length = 0 := by unfold mJ; omega
    rw [if_neg (by omega), if_neg (show ¬(a = [] ∧ b = []) by assumption), if_pos hm0]; rfl
  rename_i hab hia
  have hia : i = a.length := by omega
  subst hia
  refine w_loop [(14, .d tInt), (13, .d tInt), (101, .d tInt)] [] (fun y => ∃ j : Nat, y.1.2.2.1 = (j : Int) ∧ j ≤ b.length ∧ y.1.1 = ((unJ (lefJ a (mJ a b)) b (tkJ (mJ a b)) j).1 : Int) ∧ y.1.2.1 = ((unJ (lefJ a (mJ a b)) b (tkJ (mJ a b)) j).2 : Int)) (fun y => b.length - y.1.2.2.1.toNat) ?_
  conv => whnf
  refine And.intro ?_ ?_
  · exact ⟨0, rfl, Nat.zero_le _, rfl, rfl⟩
  rintro ⟨⟨(k : Int), (u : Int), _, ⟨⟩⟩, ⟨⟩⟩ ⟨j, rfl, hj, hk, hu⟩
  have hk : k = ((unJ (lefJ a (mJ a b)) b (tkJ (mJ a b)) j).1 : Int) := hk
  have hu : u = ((unJ (lefJ a (mJ a b)) b (tkJ (mJ a b)) j).2 : Int) := hu
  have hmm : (mJ a b).length = le.length := hll.symm
  have hu1 := un_le (lefJ a (mJ a b)) b (tkJ (mJ a b)) j
  have hu2 := un_max (lefJ a (mJ a b)) b (tkJ (mJ a b)) j
  have hu3 := fun h => un_room (l := lefJ a (mJ a b)) (b := b) (T := tkJ (mJ a b)) (j := j) h
  have hu4 : unJ (lefJ a (mJ a b)) b (tkJ (mJ a b)) (j + 1) = if j ∈ tkJ (mJ a b) then ((unJ (lefJ a (mJ a b)) b (tkJ (mJ a b)) j).1 + 1, (unJ (lefJ a (mJ a b)) b (tkJ (mJ a b)) j).2 + (if (lefJ a (mJ a b)).getD (unJ (lefJ a (mJ a b)) b (tkJ (mJ a b)) j).1 0 = b.getD j 0 then 0 else 1)) else unJ (lefJ a (mJ a b)) b (tkJ (mJ a b)) j := rfl
  rw [tk_len] at hu2 hu3
  have hk0 : k.toNat = (unJ (lefJ a (mJ a b)) b (tkJ (mJ a b)) j).1 := by omega
  have hu0 : 0 ≤ u ∧ u ≤ (le.length : Int) := by omega
  have hm2 : 0 ≤ (le.length : Int) ∧ (le.length : Int) ≤ 200 := by omega
  have ha2 : 0 ≤ (a.length : Int) ∧ (a.length : Int) ≤ 200 := by omega
  have hb2 : 0 ≤ (b.length : Int) ∧ (b.length : Int) ≤ 200 := by omega
  have f1 : 0 ≤ 2 * (le.length : Int) ∧ 2 * (le.length : Int) ≤ 400 := by omega
  have f2 := mul_bnd f1 hm2
  have f3 := mul_bnd f2 hb2
  have f4 := mul_bnd f2 ha2
  have f5 : 0 ≤ 2 * (le.length : Int) - u ∧ 2 * (le.length : Int) - u ≤ 400 := by omega
  have f6 := mul_bnd f5 ha2
  have f7 := mul_bnd f6 hb2
  have f8 : 0 ≤ 6 * (a.length : Int) ∧ 6 * (a.length : Int) ≤ 1200 := by omega
  have f9 := mul_bnd f8 hb2
  have f10 := mul_bnd f9 hm2
  have htam : ta.getD j false = true → j ∈ tkJ (mJ a b) := fun h => (hta j).1 h
  have htan : ta.getD j false = false → j ∉ tkJ (mJ a b) := fun h h2 => by
    have := (hta j).2 h2
    rw [h] at this; cases this
  have hlek : le.getD k.toNat 0 = (((lefJ a (mJ a b)).getD (unJ (lefJ a (mJ a b)) b (tkJ (mJ a b)) j).1 0).toNat : Int) := by rw [hle, hk0]; exact nm_at _ _
  repeat' (first | with_reducible refine And.intro ?_ ?_ | ((try with_reducible refine gv_more ?_); first | ((with_reducible show K_ _); (try dsimp +instances only); (with_reducible refine hK_ _ ?_); clear hK_ K_) | with_reducible refine st ?_ | ((with_reducible refine sr ?_); intro K_ hK_; conv => whnf) | ((with_reducible refine w_cond ?_); (conv => arg 2; whnf); with_reducible refine st ?_) | refine blockK_y (by rfl) ?_ | ((with_reducible refine sw ?_); conv => whnf)) | ((with_reducible refine gv_more ?_); conv => whnf) | (intro hc; (try dsimp +instances only [Dat, SDat, dflt, Ty.size, keepS, bkUpd, Gv.bk, backS, wayA, maxI, minI, negI] at hc); (try simp only [LS] at hc)))
  all_goals (try ((fail_if_success with_reducible refine nl ?_); (try dsimp only [Dat, SDat, dflt, Ty.size, keepS, bkUpd, Gv.bk, backS, wayA, maxI, minI, negI]); (try simp only [LS]); first | done | exact dsc | ((try simp only [allP, lo, hi, room, true_and, and_true, implies_true]); (repeat' (first | with_reducible refine And.intro ?_ ?_ | ((with_reducible refine preA_t ?_ ?_); rotate_left; exact sameP_t) | intro hv)) <;> (try omega))))
  all_goals (try (have hu3 := hu3 (htam (by assumption)); simp only [Gv.hi]; omega))
  all_goals (try (simp only [Gv.hi]; omega))
  all_goals (try (first | (have hr := hu3 (htam hc); first | exact (by omega : k < (le.length : Int)) | (rw [hk0, ← hmm]; exact hr)) | skip))
  · rename_i ht
    refine ⟨j + 1, by omega, by omega, ?_, ?_⟩
    · rw [hu4, if_pos (htam ht), hk]; omega
    · rw [hu4, if_pos (htam ht), hu]
      rw [hlek] at hc
      dsimp only
      rw [if_neg fun e => hc (by rw [e])]; omega
  · rename_i ht
    refine ⟨j + 1, by omega, by omega, ?_, ?_⟩
    · rw [hu4, if_pos (htam ht), hk]; omega
    · rw [hu4, if_pos (htam ht), hu]
      rw [hlek] at hc
      dsimp only
      rw [if_pos (UInt8.toNat_inj.1 (by omega))]; omega
  · refine ⟨j + 1, by omega, by omega, ?_, ?_⟩
    · rw [hu4, if_neg (htan hc)]; exact hk
    · rw [hu4, if_neg (htan hc)]; exact hu
  · have hjb : j = b.length := by omega
    subst hjb
    unfold jrV
    rw [if_neg (by omega), if_neg (show ¬(a = [] ∧ b = []) by assumption), if_neg (by omega)]
    have e2 : u = (uJ a b : Int) := hu
    rw [hmm, e2]
theorem ok_measure_Jaro : SpecOK SP glob fi_measure_Jaro S_measure_Jaro := mk_ok (c := c_measure_Jaro) (tab_ok _) mix_ok wf_measure_Jaro (by decide) (.cons ok_measure_share .nil) (fun x hx => Nat.zero_lt_one) g_measure_Jaro
end Go.Gv
