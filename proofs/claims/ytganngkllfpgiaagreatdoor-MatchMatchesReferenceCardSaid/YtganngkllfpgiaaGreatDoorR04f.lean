/- Chapter 4: the reference: Jaro, near, values; all functions agree. -/
import Derived.Test.YtganngkllfpgiaaGreatDoorR04e
import Derived.Test.YtganngkllfpgiaaGreatDoorR04c
set_option linter.all false
namespace Go.Gv
open Go Go.Proofs Go.Proofs.YtganngkllfpgiaaGreatDoor
set_option maxRecDepth 100000
set_option maxHeartbeats 4000000

theorem jr_frac (m a b u : Int) : 2 * m * m * (a + b) + (2 * m - u) * (a * b) = 2 * m * m * b + 2 * m * m * a + (2 * m - u) * a * b ∧ 6 * m * (a * b) = 6 * a * b * m := by
  refine ⟨?_, ?_⟩
  · rw [Int.mul_add, Int.mul_assoc (2 * m - u) a b]; omega
  · rw [Int.mul_assoc 6 m, Int.mul_comm m, ← Int.mul_assoc 6, ← Int.mul_assoc 6]

@[reducible] noncomputable def S_ref04_Jaro : Spec := { ins := (.cons (.d .str) (.cons (.d .str) .nil)), pre := (fun x => (fun a b => a.length ≤ 1000000 ∧ b.length ≤ 1000000) x.1 x.2.1), alts := [{ outs := (.cons (.d tRt) .nil), res := (fun x => (fun a b => (jrV a b, ())) x.1 x.2.1) }] }
noncomputable def c_ref04_Jaro : Cf := (cf_ref04_Jaro (Fl [(fi_ref04_share, S_ref04_share)]))
theorem g_ref04_Jaro : ∀ x, S_ref04_Jaro.pre x → shOK S_ref04_Jaro.ins x → fnGoal c_ref04_Jaro fn_ref04_Jaro S_ref04_Jaro x := by
  rintro ⟨a, b, ⟨⟩⟩ hpre hok
  try dsimp only [Dat, SDat, dflt, Ty.size, keepS, bkUpd, Gv.bk, backS, wayA, maxI, minI, negI] at hpre
  have hln := shLn_of _ hok; replace hok := Hd.mk hok; try simp only [shLn, datLn, inRng, lo, hi, maxLen, true_and, and_true] at hln
  have hw : (wJ a b : Int) = max (Int.tdiv (max (a.length : Int) (b.length : Int)) 2 - 1) 0 := by
    unfold wJ
    rw [Int.tdiv_eq_ediv_of_nonneg (by omega)]
    omega
  have hq : Int.tdiv (max (a.length : Int) (b.length : Int)) 2 = (max (a.length : Int) (b.length : Int)) / 2 := Int.tdiv_eq_ediv_of_nonneg (by omega)
  have hnn : ((a.length : Int) = 0 ∧ (b.length : Int) = 0) ↔ (a = [] ∧ b = []) := by
    rw [← List.length_eq_zero_iff, ← List.length_eq_zero_iff]; omega
  first | refine fn_goal (w_head ?_)
  intro K_ hK_; (conv => whnf); (try dsimp +instances only); refine hK_ _ ?_; clear hK_ K_; (conv => (arg 2; whnf))
  repeat' (first | with_reducible refine And.intro ?_ ?_ | ((try with_reducible refine gv_more ?_); first | ((with_reducible show K_ _); (try dsimp +instances only); (with_reducible refine hK_ _ ?_); clear hK_ K_) | with_reducible refine st ?_ | ((with_reducible refine sr ?_); intro K_ hK_; conv => whnf) | ((with_reducible refine w_cond ?_); (conv => arg 2; whnf); with_reducible refine st ?_) | refine blockK_y (by rfl) ?_ | ((with_reducible refine sw ?_); conv => whnf)) | ((with_reducible refine gv_more ?_); conv => whnf) | (intro hc; (try dsimp +instances only [Dat, SDat, dflt, Ty.size, keepS, bkUpd, Gv.bk, backS, wayA, maxI, minI, negI] at hc); (try simp only [LS] at hc)))
  all_goals (try ((fail_if_success with_reducible refine nl ?_); (try dsimp only [Dat, SDat, dflt, Ty.size, keepS, bkUpd, Gv.bk, backS, wayA, maxI, minI, negI]); (try simp only [LS]); first | done | exact dsc | ((try simp only [allP, lo, hi, room, true_and, and_true, implies_true]); (repeat' (first | with_reducible refine And.intro ?_ ?_ | ((with_reducible refine preA_t ?_ ?_); rotate_left; exact sameP_t) | intro hv)) <;> (try omega))))
  all_goals (try (rw [hq]; omega))
  · unfold jrV; rw [if_pos (by omega)]; rfl
  · rename_i h1
    unfold jrV
    rw [if_neg (by omega), if_pos (hnn.1 hc)]; rfl
  rename_i hsm
  have hne : ¬ (a = [] ∧ b = []) := fun e => hc (hnn.2 e)
  have hla : a.length ≤ 200 := by omega
  have hlb : b.length ≤ 200 := by omega
  refine w_loop [(6, .row .bool), (7, .row tBy), (8, .d tInt)] [] (fun y => ∃ i : Nat, y.1.2.2.1 = (i : Int) ∧ i ≤ a.length ∧ List.length y.1.1 = b.length ∧ (∀ j, (y.1.1 : List Bool).getD j false = true ↔ j ∈ tkJ (marJ a b (wJ a b) i)) ∧ @Eq (List Int) y.1.2.1 (nmJ (lefJ a (marJ a b (wJ a b) i)))) (fun y => a.length - y.1.2.2.1.toNat) ?_
  conv => whnf
  refine And.intro ?_ ?_
  · refine ⟨0, rfl, Nat.zero_le _, ?_, fun j => ?_, rfl⟩
    · show (List.replicate _ _).length = _
      rw [List.length_replicate, Int.toNat_natCast]
    · show (List.replicate _ false).getD j false = true ↔ _
      rw [List.getD_eq_getElem?_getD, List.getElem?_replicate]
      split <;> simp [marJ, tkJ]
  rintro ⟨⟨(ta : List Bool), (le : List Int), _, ⟨⟩⟩, ⟨⟩⟩ ⟨i, rfl, hi, htl, hta, hle⟩
  have htl : List.length ta = b.length := htl
  have hta : ∀ j, ta.getD j false = true ↔ j ∈ tkJ (marJ a b (wJ a b) i) := hta
  have hle : le = nmJ (lefJ a (marJ a b (wJ a b) i)) := hle
  have hml := (mar_inv a b (wJ a b) i).1
  have htk := (mar_inv a b (wJ a b) i).2.2.1
  have hll : le.length = (marJ a b (wJ a b) i).length := by rw [hle, nm_len, lef_len]
  repeat' (first | with_reducible refine And.intro ?_ ?_ | ((try with_reducible refine gv_more ?_); first | ((with_reducible show K_ _); (try dsimp +instances only); (with_reducible refine hK_ _ ?_); clear hK_ K_) | with_reducible refine st ?_ | ((with_reducible refine sr ?_); intro K_ hK_; conv => whnf) | ((with_reducible refine w_cond ?_); (conv => arg 2; whnf); with_reducible refine st ?_) | refine blockK_y (by rfl) ?_ | ((with_reducible refine sw ?_); conv => whnf)) | ((with_reducible refine gv_more ?_); conv => whnf) | (intro hc; (try dsimp +instances only [Dat, SDat, dflt, Ty.size, keepS, bkUpd, Gv.bk, backS, wayA, maxI, minI, negI] at hc); (try simp only [LS] at hc)))
  all_goals (try ((fail_if_success with_reducible refine nl ?_); (try dsimp only [Dat, SDat, dflt, Ty.size, keepS, bkUpd, Gv.bk, backS, wayA, maxI, minI, negI]); (try simp only [LS]); first | done | exact dsc | ((try simp only [allP, lo, hi, room, true_and, and_true, implies_true]); (repeat' (first | with_reducible refine And.intro ?_ ?_ | ((with_reducible refine preA_t ?_ ?_); rotate_left; exact sameP_t) | intro hv)) <;> (try omega))))
  all_goals (try (simp only [Gv.hi]; omega))
  · refine w_loop [(6, .row .bool), (7, .row tBy), (9, .d tInt)] [] (fun y => ∃ j : Nat, y.1.2.2.1 = (j : Int) ∧ y.1.1 = ta ∧ y.1.2.1 = le ∧ (∀ k, k < j → ¬ (elJ a b (wJ a b) i k ∧ k ∉ tkJ (marJ a b (wJ a b) i))) ∧ i ≤ j + wJ a b) (fun y => i + wJ a b + 1 - y.1.2.2.1.toNat) ?_
    conv => whnf
    refine And.intro ?_ ?_
    · refine ⟨i - wJ a b, by show max 0 ((i : Int) - max (Int.tdiv (max (a.length : Int) (b.length : Int)) 2 - 1) 0) = _; rw [← hw]; omega, rfl, rfl, fun k hk he => ?_, by omega⟩
      have := he.1.2.1
      omega
    rintro ⟨⟨(ta' : List Bool), (le' : List Int), _, ⟨⟩⟩, ⟨⟩⟩ ⟨j, rfl, e1, e2, hno, hij⟩
    have e1 : ta' = ta := e1
    have e2 : le' = le := e2
    subst e1; subst e2
    have htl : ta'.length = b.length := by assumption
    have hta : ∀ j, ta'.getD j false = true ↔ j ∈ tkJ (marJ a b (wJ a b) i) := by assumption
    have hle : le' = nmJ (lefJ a (marJ a b (wJ a b) i)) := by assumption
    repeat' (first | with_reducible refine And.intro ?_ ?_ | ((try with_reducible refine gv_more ?_); first | ((with_reducible show K_ _); (try dsimp +instances only); (with_reducible refine hK_ _ ?_); clear hK_ K_) | with_reducible refine st ?_ | ((with_reducible refine sr ?_); intro K_ hK_; conv => whnf) | ((with_reducible refine w_cond ?_); (conv => arg 2; whnf); with_reducible refine st ?_) | refine blockK_y (by rfl) ?_ | ((with_reducible refine sw ?_); conv => whnf)) | ((with_reducible refine gv_more ?_); conv => whnf) | (intro hc; (try dsimp +instances only [Dat, SDat, dflt, Ty.size, keepS, bkUpd, Gv.bk, backS, wayA, maxI, minI, negI] at hc); (try simp only [LS] at hc)))
    all_goals (try ((fail_if_success with_reducible refine nl ?_); (try dsimp only [Dat, SDat, dflt, Ty.size, keepS, bkUpd, Gv.bk, backS, wayA, maxI, minI, negI]); (try simp only [LS]); first | done | exact dsc | ((try simp only [allP, lo, hi, room, true_and, and_true, implies_true]); (repeat' (first | with_reducible refine And.intro ?_ ?_ | ((with_reducible refine preA_t ?_ ?_); rotate_left; exact sameP_t) | intro hv)) <;> (try omega))))
    all_goals (try (simp only [Gv.hi]; omega))
    · rename_i hi1 hjm
      have hjb : j < b.length := by omega
      have hnt : j ∉ tkJ (marJ a b (wJ a b) i) := fun h => by
        have := (hta j).2 h
        rw [hc.1] at this; cases this
      have hel : elJ a b (wJ a b) i j := ⟨hjb, hij, by omega, UInt8.toNat_inj.1 (by have := hc.2; omega)⟩
      have hm := mar_some ⟨hel, hnt⟩ hno
      refine ⟨i + 1, by omega, by omega, htl, fun u => ?_, ?_⟩
      · rw [hm, tk_snoc, List.mem_append, List.mem_singleton, ← hta u, set_bl (by omega)]
        by_cases e : u = j
        · subst e; simp
        · simp [e]
      · rw [hm, lef_snoc, nm_snoc, ← hle]
    · rename_i hi1 hjm
      refine ⟨j + 1, by omega, fun k hk he => ?_, by omega⟩
      rcases Nat.lt_or_ge k j with h | h
      · exact hno k h he
      · have ek : k = j := by omega
        subst ek
        refine hc ⟨?_, by rw [he.1.2.2.2]⟩
        cases ht : ta'.getD k false with
        | false => rfl
        | true => exact (he.2 ((hta k).1 ht)).elim
    · rename_i hi1
      have hnn : ∀ k, ¬ (elJ a b (wJ a b) i k ∧ k ∉ tkJ (marJ a b (wJ a b) i)) := fun k hk => by
        refine hno k ?_ hk
        have h1 := hk.1.1
        have h2 := hk.1.2.2.1
        omega
      have hm := mar_none hnn
      exact ⟨i + 1, by omega, by omega, htl, fun u => by rw [hm]; exact hta u, by rw [hm]; exact hle⟩
  · unfold jrV
    have hia : i = a.length := by omega
    subst hia
    have hm0 : (mJ a b).length = 0 := by unfold mJ; omega
    rw [if_neg (by omega), if_neg hne, if_pos hm0]; rfl
  rename_i hab hia
  have hia : i = a.length := by omega
  subst hia
  refine w_loop [(11, .d tInt), (12, .d tInt), (13, .d tInt)] [] (fun y => ∃ j : Nat, y.1.2.2.1 = (j : Int) ∧ j ≤ b.length ∧ y.1.2.1 = ((unJ (lefJ a (mJ a b)) b (tkJ (mJ a b)) j).1 : Int) ∧ y.1.1 = ((unJ (lefJ a (mJ a b)) b (tkJ (mJ a b)) j).2 : Int)) (fun y => b.length - y.1.2.2.1.toNat) ?_
  conv => whnf
  refine And.intro ?_ ?_
  · exact ⟨0, rfl, Nat.zero_le _, rfl, rfl⟩
  rintro ⟨⟨(u : Int), (k : Int), _, ⟨⟩⟩, ⟨⟩⟩ ⟨j, rfl, hj, hk, hu⟩
  have hk : k = ((unJ (lefJ a (mJ a b)) b (tkJ (mJ a b)) j).1 : Int) := hk
  have hu : u = ((unJ (lefJ a (mJ a b)) b (tkJ (mJ a b)) j).2 : Int) := hu
  have hmm : (mJ a b).length = le.length := hll.symm
  have hu1 := un_le (lefJ a (mJ a b)) b (tkJ (mJ a b)) j
  have hu2 := un_max (lefJ a (mJ a b)) b (tkJ (mJ a b)) j
  have hu3 := fun h => un_room (l := lefJ a (mJ a b)) (b := b) (T := tkJ (mJ a b)) (j := j) h
  have hu4 : unJ (lefJ a (mJ a b)) b (tkJ (mJ a b)) (j + 1) = if j ∈ tkJ (mJ a b) then ((unJ (lefJ a (mJ a b)) b (tkJ (mJ a b)) j).1 + 1, (unJ (lefJ a (mJ a b)) b (tkJ (mJ a b)) j).2 + (if (lefJ a (mJ a b)).getD (unJ (lefJ a (mJ a b)) b (tkJ (mJ a b)) j).1 0 = b.getD j 0 then 0 else 1)) else unJ (lefJ a (mJ a b)) b (tkJ (mJ a b)) j := rfl
  rw [tk_len] at hu2 hu3
  have hk0 : k.toNat = (unJ (lefJ a (mJ a b)) b (tkJ (mJ a b)) j).1 := by omega
  have hu0 : 0 ≤ u ∧ u ≤ (le.length : Int) := by omega
  have hm2 : 0 ≤ (le.length : Int) ∧ (le.length : Int) ≤ 200 := by omega
  have ha2 : 0 ≤ (a.length : Int) ∧ (a.length : Int) ≤ 200 := by omega
  have hb2 : 0 ≤ (b.length : Int) ∧ (b.length : Int) ≤ 200 := by omega
  have hab2 : 0 ≤ (a.length : Int) + (b.length : Int) ∧ (a.length : Int) + (b.length : Int) ≤ 400 := by omega
  have f0 := mul_bnd ha2 hb2
  have f1 : 0 ≤ 2 * (le.length : Int) ∧ 2 * (le.length : Int) ≤ 400 := by omega
  have f2 := mul_bnd f1 hm2
  have f3 := mul_bnd f2 hab2
  have f5 : 0 ≤ 2 * (le.length : Int) - u ∧ 2 * (le.length : Int) - u ≤ 400 := by omega
  have f6 := mul_bnd f5 f0
  have f8 : 0 ≤ 6 * (le.length : Int) ∧ 6 * (le.length : Int) ≤ 1200 := by omega
  have f9 := mul_bnd f8 f0
  have htam : ta.getD j false = true → j ∈ tkJ (mJ a b) := fun h => (hta j).1 h
  have htan : ta.getD j false = false → j ∉ tkJ (mJ a b) := fun h h2 => by
    have := (hta j).2 h2
    rw [h] at this; cases this
  have hlek : le.getD k.toNat 0 = (((lefJ a (mJ a b)).getD (unJ (lefJ a (mJ a b)) b (tkJ (mJ a b)) j).1 0).toNat : Int) := by rw [hle, hk0]; exact nm_at _ _
  repeat' (first | with_reducible refine And.intro ?_ ?_ | ((try with_reducible refine gv_more ?_); first | ((with_reducible show K_ _); (try dsimp +instances only); (with_reducible refine hK_ _ ?_); clear hK_ K_) | with_reducible refine st ?_ | ((with_reducible refine sr ?_); intro K_ hK_; conv => whnf) | ((with_reducible refine w_cond ?_); (conv => arg 2; whnf); with_reducible refine st ?_) | refine blockK_y (by rfl) ?_ | ((with_reducible refine sw ?_); conv => whnf)) | ((with_reducible refine gv_more ?_); conv => whnf) | (intro hc; (try dsimp +instances only [Dat, SDat, dflt, Ty.size, keepS, bkUpd, Gv.bk, backS, wayA, maxI, minI, negI] at hc); (try simp only [LS] at hc)))
  all_goals (try ((fail_if_success with_reducible refine nl ?_); (try dsimp only [Dat, SDat, dflt, Ty.size, keepS, bkUpd, Gv.bk, backS, wayA, maxI, minI, negI]); (try simp only [LS]); first | done | exact dsc | ((try simp only [allP, lo, hi, room, true_and, and_true, implies_true]); (repeat' (first | with_reducible refine And.intro ?_ ?_ | ((with_reducible refine preA_t ?_ ?_); rotate_left; exact sameP_t) | intro hv)) <;> (try omega))))
  all_goals (try (have hu3 := hu3 (htam (by assumption)); simp only [Gv.hi]; omega))
  all_goals (try (simp only [Gv.hi]; omega))
  all_goals (try (first | (have hr := hu3 (htam hc); first | exact (by omega : k < (le.length : Int)) | (rw [hk0, ← hmm]; exact hr)) | skip))
  · rename_i ht
    refine ⟨j + 1, by omega, by omega, ?_, ?_⟩
    · rw [hu4, if_pos (htam ht), hk]; omega
    · rw [hu4, if_pos (htam ht), hu]
      rw [hlek] at hc
      dsimp only
      rw [if_neg fun e => hc (by rw [e])]; omega
  · rename_i ht
    refine ⟨j + 1, by omega, by omega, ?_, ?_⟩
    · rw [hu4, if_pos (htam ht), hk]; omega
    · rw [hu4, if_pos (htam ht), hu]
      rw [hlek] at hc
      dsimp only
      rw [if_pos (UInt8.toNat_inj.1 (by omega))]; omega
  · refine ⟨j + 1, by omega, by omega, ?_, ?_⟩
    · rw [hu4, if_neg (htan hc)]; exact hk
    · rw [hu4, if_neg (htan hc)]; exact hu
  · have hjb : j = b.length := by omega
    subst hjb
    unfold jrV
    rw [if_neg (by omega), if_neg hne, if_neg (by omega)]
    have e2 : u = (uJ a b : Int) := hu
    have e3 := jr_frac (le.length : Int) (a.length : Int) (b.length : Int) u
    rw [e3.1, e3.2, hmm, e2]
theorem ok_ref04_Jaro : SpecOK SP glob fi_ref04_Jaro S_ref04_Jaro := mk_ok (c := c_ref04_Jaro) (tab_ok _) mix_ok wf_ref04_Jaro (by decide) (.cons ok_ref04_share .nil) (fun x hx => Nat.zero_lt_one) g_ref04_Jaro

theorem ap_w {a b : Int} (h1 : -9223372036854775808 ≤ a) (h2 : a ≤ 9223372036854775807) (h3 : -9223372036854775808 ≤ b) (h4 : b ≤ 9223372036854775807) (h : a ≤ b) : (b % 18446744073709551616 - a % 18446744073709551616) % 18446744073709551616 = b - a := by omega
def apV (a b l : Int) : Int := min (absI (a - b)) l

@[reducible] noncomputable def S_apart0 : Spec := { ins := (.cons (.d tInt) (.cons (.d tInt) (.cons (.d tInt) .nil))), pre := (fun x => (fun a b l => a ≤ b ∧ 0 ≤ l) x.1 x.2.1 x.2.2.1), alts := [{ outs := (.cons (.d tInt) .nil), res := (fun x => (fun a b l => (apV a b l, ())) x.1 x.2.1 x.2.2.1) }] }
noncomputable def c_apart0 : Cf := { cf_ref04_apart (Fl []) with E := { (cf_ref04_apart (Fl [])).E with wraps := [16, 18, 19, 22] } }
theorem g_apart0 : ∀ x, S_apart0.pre x → shOK S_apart0.ins x → fnGoal c_apart0 fn_ref04_apart S_apart0 x := by
  rintro ⟨(a : Int), (b : Int), (l : Int), ⟨⟩⟩ hpre hok
  try dsimp only [Dat, SDat, dflt, Ty.size, keepS, bkUpd, Gv.bk, backS, wayA, maxI, minI, negI] at hpre
  have hln := shLn_of _ hok; replace hok := Hd.mk hok; try simp only [shLn, datLn, inRng, lo, hi, maxLen, true_and, and_true] at hln
  have hb := hln
  have hw := ap_w hb.1.1 hb.1.2 hb.2.1.1 hb.2.1.2 hpre.1
  have hl : l % 18446744073709551616 = l := Int.emod_eq_of_lt hpre.2 (by omega)
  have hv : apV a b l = min (b - a) l := by unfold apV absI; have := hpre.1; omega
  first | refine fn_goal (w_head ?_)
  intro K_ hK_; (conv => whnf); (try dsimp +instances only); refine hK_ _ ?_; clear hK_ K_; (conv => (arg 2; whnf))
  repeat' (first | with_reducible refine And.intro ?_ ?_ | ((try with_reducible refine gv_more ?_); first | ((with_reducible show K_ _); (try dsimp +instances only); (with_reducible refine hK_ _ ?_); clear hK_ K_) | with_reducible refine st ?_ | ((with_reducible refine sr ?_); intro K_ hK_; conv => whnf) | ((with_reducible refine w_cond ?_); (conv => arg 2; whnf); with_reducible refine st ?_) | refine blockK_y (by rfl) ?_ | ((with_reducible refine sw ?_); conv => whnf)) | ((with_reducible refine gv_more ?_); conv => whnf) | (intro hc; (try dsimp +instances only [Dat, SDat, dflt, Ty.size, keepS, bkUpd, Gv.bk, backS, wayA, maxI, minI, negI] at hc); (try simp only [LS] at hc)))
  all_goals (try ((fail_if_success with_reducible refine nl ?_); (try dsimp only [Dat, SDat, dflt, Ty.size, keepS, bkUpd, Gv.bk, backS, wayA, maxI, minI, negI]); (try simp only [LS]); first | done | exact dsc | ((try simp only [allP, lo, hi, room, true_and, and_true, implies_true]); (repeat' (first | with_reducible refine And.intro ?_ ?_ | ((with_reducible refine preA_t ?_ ?_); rotate_left; exact sameP_t) | intro hv)) <;> (try omega))))
theorem ok_apart0 : SpecOK SP glob fi_ref04_apart S_apart0 := mk_ok (c := c_apart0) (tab_ok _) mix_ok wf_ref04_apart (by decide) .nil (fun x hx => Nat.zero_lt_one) g_apart0

@[reducible] noncomputable def S_ref04_apart : Spec := { ins := (.cons (.d tInt) (.cons (.d tInt) (.cons (.d tInt) .nil))), pre := (fun x => (fun a b l => 0 ≤ l) x.1 x.2.1 x.2.2.1), alts := [{ outs := (.cons (.d tInt) .nil), res := (fun x => (fun a b l => (apV a b l, ())) x.1 x.2.1 x.2.2.1) }] }
noncomputable def c_ref04_apart : Cf := { cf_ref04_apart (Fl [(fi_ref04_apart, S_apart0)]) with E := { (cf_ref04_apart (Fl [(fi_ref04_apart, S_apart0)])).E with wraps := [16, 18, 19, 22] } }
theorem g_ref04_apart : ∀ x, S_ref04_apart.pre x → shOK S_ref04_apart.ins x → fnGoal c_ref04_apart fn_ref04_apart S_ref04_apart x := by
  rintro ⟨(a : Int), (b : Int), (l : Int), ⟨⟩⟩ hpre hok
  try dsimp only [Dat, SDat, dflt, Ty.size, keepS, bkUpd, Gv.bk, backS, wayA, maxI, minI, negI] at hpre
  have hln := shLn_of _ hok; replace hok := Hd.mk hok; try simp only [shLn, datLn, inRng, lo, hi, maxLen, true_and, and_true] at hln
  have hb := hln
  have hw := fun h => ap_w hb.1.1 hb.1.2 hb.2.1.1 hb.2.1.2 (a := a) (b := b) h
  have hl : l % 18446744073709551616 = l := Int.emod_eq_of_lt hpre (by omega)
  have hv : a ≤ b → apV a b l = min (b - a) l := fun h => by unfold apV absI; omega
  have hv2 : apV b a l = apV a b l := by unfold apV absI; omega
  first | refine fn_goal (w_head ?_)
  intro K_ hK_; (conv => whnf); (try dsimp +instances only); refine hK_ _ ?_; clear hK_ K_; (conv => (arg 2; whnf))
  repeat' (first | with_reducible refine And.intro ?_ ?_ | ((try with_reducible refine gv_more ?_); first | ((with_reducible show K_ _); (try dsimp +instances only); (with_reducible refine hK_ _ ?_); clear hK_ K_) | with_reducible refine st ?_ | ((with_reducible refine sr ?_); intro K_ hK_; conv => whnf) | ((with_reducible refine w_cond ?_); (conv => arg 2; whnf); with_reducible refine st ?_) | refine blockK_y (by rfl) ?_ | ((with_reducible refine sw ?_); conv => whnf)) | ((with_reducible refine gv_more ?_); conv => whnf) | (intro hc; (try dsimp +instances only [Dat, SDat, dflt, Ty.size, keepS, bkUpd, Gv.bk, backS, wayA, maxI, minI, negI] at hc); (try simp only [LS] at hc)))
  all_goals (try ((fail_if_success with_reducible refine nl ?_); (try dsimp only [Dat, SDat, dflt, Ty.size, keepS, bkUpd, Gv.bk, backS, wayA, maxI, minI, negI]); (try simp only [LS]); first | done | exact dsc | ((try simp only [allP, lo, hi, room, true_and, and_true, implies_true]); (repeat' (first | with_reducible refine And.intro ?_ ?_ | ((with_reducible refine preA_t ?_ ?_); rotate_left; exact sameP_t) | intro hv)) <;> (try omega))))
theorem ok_ref04_apart : SpecOK SP glob fi_ref04_apart S_ref04_apart := mk_ok (c := c_ref04_apart) (tab_ok _) mix_ok wf_ref04_apart (by decide) (.cons ok_apart0 .nil) (fun x hx => Nat.zero_lt_one) g_ref04_apart

@[reducible] noncomputable def S_ref04_Near : Spec := { ins := (.cons (.d tInt) (.cons (.d tInt) (.cons (.d tInt) .nil))), pre := fun _ => True, alts := [{ outs := (.cons (.d tRt) .nil), res := (fun x => (fun a b t => (nrV a b t, ())) x.1 x.2.1 x.2.2.1) }] }
noncomputable def c_ref04_Near : Cf := (cf_ref04_Near (Fl [(fi_ref04_apart, S_ref04_apart), (fi_ref04_share, S_ref04_share)]))
theorem g_ref04_Near : ∀ x, S_ref04_Near.pre x → shOK S_ref04_Near.ins x → fnGoal c_ref04_Near fn_ref04_Near S_ref04_Near x := by
  rintro ⟨(a : Int), (b : Int), (t : Int), ⟨⟩⟩ hpre hok
  clear hpre
  have hln := shLn_of _ hok; replace hok := Hd.mk hok; try simp only [shLn, datLn, inRng, lo, hi, maxLen, true_and, and_true] at hln
  have h1 : (t < 0 ∨ 999999999 < t) → nrV a b t = rt 0 1 := fun h => by unfold nrV; rw [if_pos (by omega)]
  have h2 : ¬ (t < 0 ∨ 999999999 < t) → nrV a b t = shV (t + 1 - apV a b (t + 1)) (t + 1) := fun h => by
    unfold nrV apV
    rw [if_neg (by omega)]
    by_cases k : absI (a - b) ≤ t
    · rw [if_pos k, Int.min_eq_left (by omega)]
    · rw [if_neg k, Int.min_eq_right (by omega), Int.sub_self]
      exact ((sh_is_none (by omega) (by omega) (by omega) (by omega)).2 rfl).symm
  have h3 : ¬ (t < 0 ∨ 999999999 < t) → 0 ≤ apV a b (t + 1) ∧ apV a b (t + 1) ≤ t + 1 := fun h => by unfold apV absI; omega
  first | refine fn_goal (w_head ?_)
  intro K_ hK_; (conv => whnf); (try dsimp +instances only); refine hK_ _ ?_; clear hK_ K_; (conv => (arg 2; whnf))
  repeat' (first | with_reducible refine And.intro ?_ ?_ | ((try with_reducible refine gv_more ?_); first | ((with_reducible show K_ _); (try dsimp +instances only); (with_reducible refine hK_ _ ?_); clear hK_ K_) | with_reducible refine st ?_ | ((with_reducible refine sr ?_); intro K_ hK_; conv => whnf) | ((with_reducible refine w_cond ?_); (conv => arg 2; whnf); with_reducible refine st ?_) | refine blockK_y (by rfl) ?_ | ((with_reducible refine sw ?_); conv => whnf)) | ((with_reducible refine gv_more ?_); conv => whnf) | (intro hc; (try dsimp +instances only [Dat, SDat, dflt, Ty.size, keepS, bkUpd, Gv.bk, backS, wayA, maxI, minI, negI] at hc); (try simp only [LS] at hc)))
  all_goals (try ((fail_if_success with_reducible refine nl ?_); (try dsimp only [Dat, SDat, dflt, Ty.size, keepS, bkUpd, Gv.bk, backS, wayA, maxI, minI, negI]); (try simp only [LS]); first | done | exact dsc | ((try simp only [allP, lo, hi, room, true_and, and_true, implies_true]); (repeat' (first | with_reducible refine And.intro ?_ ?_ | ((with_reducible refine preA_t ?_ ?_); rotate_left; exact sameP_t) | intro hv)) <;> (try omega))))
  · exact (h1 hc).symm
  · exact (h2 hc).symm
theorem ok_ref04_Near : SpecOK SP glob fi_ref04_Near S_ref04_Near := mk_ok (c := c_ref04_Near) (tab_ok _) mix_ok wf_ref04_Near (by decide) (.cons ok_ref04_apart (.cons ok_ref04_share .nil)) (fun x hx => Nat.zero_lt_one) g_ref04_Near

@[reducible] noncomputable def S_ref02_Valid : Spec := { ins := (.cons (.d tVal) .nil), pre := fun _ => True, alts := [{ outs := (.cons (.d .bool) .nil), res := (fun x => (fun v => (boolOf (vlV v), ())) x.1) }] }
noncomputable def c_ref02_Valid : Cf := (cf_ref02_Valid (Fl []))
theorem g_ref02_Valid : ∀ x, S_ref02_Valid.pre x → shOK S_ref02_Valid.ins x → fnGoal c_ref02_Valid fn_ref02_Valid S_ref02_Valid x := by
  rintro ⟨⟨(kd : Int), (n : Int), s, ⟨⟩⟩, ⟨⟩⟩ hpre hok
  clear hpre
  have hln := shLn_of _ hok; replace hok := Hd.mk hok; try simp only [shLn, datLn, inRng, lo, hi, maxLen, true_and, and_true] at hln
  have hv : ∀ (kd n : Int) (s : List UInt8), (vlV (kd, n, s, ()) ↔ ((kd = 0 ∧ n = 0 ∧ s = []) ∨ (kd = 1 ∧ n = 0 ∧ s.length ≤ 200) ∨ (kd = 2 ∧ -1000000000 ≤ n ∧ n ≤ 1000000000 ∧ s = []) ∨ (kd = 3 ∧ 0 ≤ n ∧ n ≤ 73048 ∧ s = []) ∨ (kd = 4 ∧ 0 ≤ n ∧ n ≤ 1 ∧ s = []))) := fun _ _ _ => Iff.rfl
  have hv := hv kd n s
  first | refine fn_goal (w_head ?_)
  intro K_ hK_; (conv => whnf); (try dsimp +instances only); refine hK_ _ ?_; clear hK_ K_; (conv => (arg 2; whnf))
  repeat' (first | with_reducible refine And.intro ?_ ?_ | ((try with_reducible refine gv_more ?_); first | ((with_reducible show K_ _); (try dsimp +instances only); (with_reducible refine hK_ _ ?_); clear hK_ K_) | with_reducible refine st ?_ | ((with_reducible refine sr ?_); intro K_ hK_; conv => whnf) | ((with_reducible refine w_cond ?_); (conv => arg 2; whnf); with_reducible refine st ?_) | refine blockK_y (by rfl) ?_ | ((with_reducible refine sw ?_); conv => whnf)) | ((with_reducible refine gv_more ?_); conv => whnf) | (intro hc; (try dsimp +instances only [Dat, SDat, dflt, Ty.size, keepS, bkUpd, Gv.bk, backS, wayA, maxI, minI, negI] at hc); (try simp only [LS] at hc)))
  all_goals (try ((fail_if_success with_reducible refine nl ?_); (try dsimp only [Dat, SDat, dflt, Ty.size, keepS, bkUpd, Gv.bk, backS, wayA, maxI, minI, negI]); (try simp only [LS]); first | done | exact dsc | ((try simp only [allP, lo, hi, room, true_and, and_true, implies_true]); (repeat' (first | with_reducible refine And.intro ?_ ?_ | ((with_reducible refine preA_t ?_ ?_); rotate_left; exact sameP_t) | intro hv)) <;> (try omega))))
  all_goals (first | (refine bF (fun h => ?_); rw [hv] at h) | (refine bC ?_; rw [hv]))
  all_goals clear hv hln
  all_goals (by_cases hs : s = [])
  all_goals (first
    | (subst hs; simp only [List.length_nil, and_true]; omega)
    | (simp only [hs, and_false, or_false, false_or, false_iff]; omega)
    | (subst hs; simp only [List.length_nil, and_true] at h; omega)
    | (simp only [hs, and_false, or_false, false_or] at h; omega)
    | skip)
theorem ok_ref02_Valid : SpecOK SP glob fi_ref02_Valid S_ref02_Valid := mk_ok (c := c_ref02_Valid) (tab_ok _) mix_ok wf_ref02_Valid (by decide) .nil (fun x hx => Nat.zero_lt_one) g_ref02_Valid

theorem tx_len {s : List UInt8} (h : s.length ≤ 200) : (foldT s).length ≤ 1000000 ∧ (sorS (Ws s)).length ≤ 1000000 := by
  have h1 := fold_len s
  have h2 := sorS_len (Ws s) []
  have h3 := Ws_len s
  exact ⟨by omega, Nat.le_trans h2 (by simp only [List.length_nil]; omega)⟩

theorem bad_iff {m t : Int} {a b : Vl} : ((((m < 1 ∨ 5 < m) ∨ ¬ vlV a) ∨ ¬ vlV b) ∨ m = 5 ∧ (t < 0 ∨ 999999999 < t)) ↔ badT m t a b := by
  unfold badT
  have e1 : (m < 1 ∨ 5 < m) ↔ ¬ (1 ≤ m ∧ m ≤ 5) := by omega
  have e2 : (t < 0 ∨ 999999999 < t) ↔ (t < 0 ∨ 1000000000 ≤ t) := by omega
  rw [e1, e2, or_assoc, or_assoc]

@[reducible] noncomputable def S_ref04_Of : Spec := { ins := (.cons (.d tInt) (.cons (.d tInt) (.cons (.d tVal) (.cons (.d tVal) .nil)))), pre := fun _ => True, alts := [{ outs := (.cons (.d tRt) (.cons (.d tInt) .nil)), res := (fun x => (fun m t a b => (ofV m t a b, ofE m t a b, ())) x.1 x.2.1 x.2.2.1 x.2.2.2.1) }] }
noncomputable def c_ref04_Of : Cf := (cf_ref04_Of (Fl [(fi_ref02_Valid, S_ref02_Valid), (fi_ref04_Near, S_ref04_Near), (fi_ref03_Tokens, S_ref03_Tokens), (fi_ref03_Fold, S_ref03_Fold), (fi_ref04_Jaccard, S_ref04_Jaccard), (fi_ref04_Alike, S_ref04_Alike), (fi_ref04_Jaro, S_ref04_Jaro)]))
theorem g_ref04_Of : ∀ x, S_ref04_Of.pre x → shOK S_ref04_Of.ins x → fnGoal c_ref04_Of fn_ref04_Of S_ref04_Of x := by
  rintro ⟨m, t, a, b, ⟨⟩⟩ hpre hok
  clear hpre
  have hln := shLn_of _ hok; replace hok := Hd.mk hok; try simp only [shLn, datLn, inRng, lo, hi, maxLen, true_and, and_true] at hln
  first | refine fn_goal (w_head ?_)
  intro K_ hK_; (conv => whnf); (try dsimp +instances only); refine hK_ _ ?_; clear hK_ K_; (conv => (arg 2; whnf))
  repeat' (first | with_reducible refine And.intro ?_ ?_ | ((try with_reducible refine gv_more ?_); first | ((with_reducible show K_ _); (try dsimp +instances only); (with_reducible refine hK_ _ ?_); clear hK_ K_) | with_reducible refine st ?_ | ((with_reducible refine sr ?_); intro K_ hK_; conv => whnf) | ((with_reducible refine w_cond ?_); (conv => arg 2; whnf); with_reducible refine st ?_) | refine blockK_y (by rfl) ?_ | ((with_reducible refine sw ?_); conv => whnf)) | ((with_reducible refine gv_more ?_); conv => whnf) | (intro hc; (try dsimp +instances only [Dat, SDat, dflt, Ty.size, keepS, bkUpd, Gv.bk, backS, wayA, maxI, minI, negI] at hc); (try simp only [LS] at hc)))
  all_goals (try ((fail_if_success with_reducible refine nl ?_); (try dsimp only [Dat, SDat, dflt, Ty.size, keepS, bkUpd, Gv.bk, backS, wayA, maxI, minI, negI]); (try simp only [LS]); first | done | exact dsc | ((try simp only [allP, lo, hi, room, true_and, and_true, implies_true]); (repeat' (first | with_reducible refine And.intro ?_ ?_ | ((with_reducible refine preA_t ?_ ?_); rotate_left; exact sameP_t) | intro hv)) <;> (try omega))))
  all_goals (first
    | exact (of_bad (bad_iff.1 hc)).1.symm
    | exact (of_bad (bad_iff.1 hc)).2.symm
    | skip)
  all_goals (have hb : ¬ badT m t a b := fun e => absurd (bad_iff.2 e) (by assumption))
  all_goals (have ha2 := vl_text (v := a) (Classical.byContradiction fun h => hb (.inr (.inl h))))
  all_goals (have hb2 := vl_text (v := b) (Classical.byContradiction fun h => hb (.inr (.inr (.inl h)))))
  all_goals (have la := tx_len ha2)
  all_goals (have lb := tx_len hb2)
  all_goals (first
    | exact la.1
    | exact lb.1
    | exact la.2
    | exact lb.2
    | exact (of_nul hb hc).1.symm
    | exact (of_nul hb hc).2.symm
    | (rw [(of_eq hb (by assumption) (by assumption)).1, if_pos (by assumption)]; rfl)
    | (rw [(of_eq hb (by assumption) (by assumption)).1, if_neg (by assumption)]; rfl)
    | exact (of_eq hb (by assumption) (by assumption)).2.symm
    | exact (of_typ hb (by assumption) (by assumption) (by unfold typT; omega)).1.symm
    | exact (of_typ hb (by assumption) (by assumption) (by unfold typT; omega)).2.symm
    | exact (of_nr hb (by assumption) (by assumption) (by unfold typT; omega)).1.symm
    | exact (of_nr hb (by assumption) (by assumption) (by unfold typT; omega)).2.symm
    | exact (of_tx hb (by assumption) (by assumption) (by assumption) (by unfold typT; omega)).2.symm
    | (rw [(of_tx hb (by assumption) (by assumption) (by assumption) (by unfold typT; omega)).1]; unfold txV; rw [if_neg (by omega), if_pos (by assumption)]; done)
    | (rw [(of_tx hb (by assumption) (by assumption) (by assumption) (by unfold typT; omega)).1]; unfold txV; rw [if_pos (by assumption)]; done)
    | (rw [(of_tx hb (by assumption) (by assumption) (by assumption) (by unfold typT; omega)).1]; unfold txV; rw [if_neg (by omega), if_neg (by omega)]; done)
    | omega
    | skip)
theorem ok_ref04_Of : SpecOK SP glob fi_ref04_Of S_ref04_Of := mk_ok (c := c_ref04_Of) (tab_ok _) mix_ok wf_ref04_Of (by decide) (.cons ok_ref02_Valid (.cons ok_ref04_Near (.cons ok_ref03_Tokens (.cons ok_ref03_Fold (.cons ok_ref04_Jaccard (.cons ok_ref04_Alike (.cons ok_ref04_Jaro .nil))))))) (fun x hx => Nat.zero_lt_one) g_ref04_Of

end Go.Gv
