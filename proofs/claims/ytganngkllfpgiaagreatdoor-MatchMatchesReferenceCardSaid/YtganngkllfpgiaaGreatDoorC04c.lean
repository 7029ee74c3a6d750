/- Chapter 4: similarities of the program. -/
import Derived.Test.YtganngkllfpgiaaGreatDoorC04b
import Derived.Test.YtganngkllfpgiaaGreatDoorP04c
set_option linter.all false
namespace Go.Gv
open Go Go.Proofs Go.Proofs.YtganngkllfpgiaaGreatDoor
set_option maxRecDepth 100000
set_option maxHeartbeats 4000000

def alV (a b : Bs) : Rt := if max a.length b.length = 0 then rt 1 1 else shV ((max a.length b.length : Nat) - (edD a b : Int)) (max a.length b.length : Nat)
def nrV (a b t : Int) : Rt := if t < 0 ∨ 1000000000 ≤ t then rt 0 1 else if absI (a - b) ≤ t then shV (t + 1 - absI (a - b)) (t + 1) else rt 0 1

@[reducible] noncomputable def S_measure_Alike : Spec := { ins := (.cons (.d .str) (.cons (.d .str) .nil)), pre := (fun x => (fun a b => a.length ≤ 1000000 ∧ b.length ≤ 1000000) x.1 x.2.1), alts := [{ outs := (.cons (.d tRt) .nil), res := (fun x => (fun a b => (alV a b, ())) x.1 x.2.1) }] }
noncomputable def c_measure_Alike : Cf := (cf_measure_Alike (Fl [(fi_measure_Edit, S_measure_Edit), (fi_measure_share, S_measure_share)]))
theorem g_measure_Alike : ∀ x, S_measure_Alike.pre x → shOK S_measure_Alike.ins x → fnGoal c_measure_Alike fn_measure_Alike S_measure_Alike x := by
  rintro ⟨a, b, ⟨⟩⟩ hpre hok
  try dsimp only [Dat, SDat, dflt, Ty.size, keepS, bkUpd, Gv.bk, backS, wayA, maxI, minI, negI] at hpre
  have hln := shLn_of _ hok; replace hok := Hd.mk hok; try simp only [shLn, datLn, inRng, lo, hi, maxLen, true_and, and_true] at hln
  have hal : a.length ≤ 1000000 := hpre.1
  have hbl : b.length ≤ 1000000 := hpre.2
  have hu := ed_upper a b
  first | refine fn_goal (w_head ?_)
  intro K_ hK_; (conv => whnf); (try dsimp +instances only); refine hK_ _ ?_; clear hK_ K_; (conv => (arg 2; whnf))
  repeat' (first | with_reducible refine And.intro ?_ ?_ | ((try with_reducible refine gv_more ?_); first | ((with_reducible show K_ _); (try dsimp +instances only); (with_reducible refine hK_ _ ?_); clear hK_ K_) | with_reducible refine st ?_ | ((with_reducible refine sr ?_); intro K_ hK_; conv => whnf) | ((with_reducible refine w_cond ?_); (conv => arg 2; whnf); with_reducible refine st ?_) | refine blockK_y (by rfl) ?_ | ((with_reducible refine sw ?_); conv => whnf)) | ((with_reducible refine gv_more ?_); conv => whnf) | (intro hc; (try dsimp +instances only [Dat, SDat, dflt, Ty.size, keepS, bkUpd, Gv.bk, backS, wayA, maxI, minI, negI] at hc); (try simp only [LS] at hc)))
  all_goals (try ((fail_if_success with_reducible refine nl ?_); (try dsimp only [Dat, SDat, dflt, Ty.size, keepS, bkUpd, Gv.bk, backS, wayA, maxI, minI, negI]); (try simp only [LS]); first | done | exact dsc | ((try simp only [allP, lo, hi, room, true_and, and_true, implies_true]); (repeat' (first | with_reducible refine And.intro ?_ ?_ | ((with_reducible refine preA_t ?_ ?_); rotate_left; exact sameP_t) | intro hv)) <;> (try omega))))
  · unfold alV; rw [if_pos (by omega)]; rfl
  · unfold alV
    rw [if_neg (by omega)]
    have e : (((max a.length b.length : Nat)) : Int) = max (a.length : Int) (b.length : Int) := by omega
    rw [e]
theorem ok_measure_Alike : SpecOK SP glob fi_measure_Alike S_measure_Alike := mk_ok (c := c_measure_Alike) (tab_ok _) mix_ok wf_measure_Alike (by decide) (.cons ok_measure_Edit (.cons ok_measure_share .nil)) (fun x hx => Nat.zero_lt_one) g_measure_Alike

theorem near_w1 {a b : Int} (h1 : -9223372036854775808 ≤ a) (h2 : a ≤ 9223372036854775807) (h3 : -9223372036854775808 ≤ b) (h4 : b ≤ 9223372036854775807) (h : b < a) : (a % 18446744073709551616 - b % 18446744073709551616) % 18446744073709551616 = absI (a - b) := by unfold absI; omega
theorem near_w2 {a b : Int} (h1 : -9223372036854775808 ≤ a) (h2 : a ≤ 9223372036854775807) (h3 : -9223372036854775808 ≤ b) (h4 : b ≤ 9223372036854775807) (h : ¬ b < a) : (b % 18446744073709551616 - a % 18446744073709551616) % 18446744073709551616 = absI (a - b) := by unfold absI; omega
theorem near_w3 {t : Int} (h : ¬ (t < 0 ∨ 1000000000 ≤ t)) : t % 18446744073709551616 = t := by omega

@[reducible] noncomputable def S_measure_Near : Spec := { ins := (.cons (.d tInt) (.cons (.d tInt) (.cons (.d tInt) .nil))), pre := fun _ => True, alts := [{ outs := (.cons (.d tRt) .nil), res := (fun x => (fun a b t => (nrV a b t, ())) x.1 x.2.1 x.2.2.1) }] }
noncomputable def c_measure_Near : Cf := { cf_measure_Near (Fl [(fi_measure_share, S_measure_share)]) with E := { (cf_measure_Near (Fl [(fi_measure_share, S_measure_share)])).E with wraps := [21, 23, 24, 27] } }
theorem g_measure_Near : ∀ x, S_measure_Near.pre x → shOK S_measure_Near.ins x → fnGoal c_measure_Near fn_measure_Near S_measure_Near x := by
  rintro ⟨a, b, t, ⟨⟩⟩ hpre hok
  clear hpre
  have hln := shLn_of _ hok; replace hok := Hd.mk hok; try simp only [shLn, datLn, inRng, lo, hi, maxLen, true_and, and_true] at hln
  have hb := hln
  have hw1 := near_w1 hb.1.1 hb.1.2 hb.2.1.1 hb.2.1.2
  have hw2 := near_w2 hb.1.1 hb.1.2 hb.2.1.1 hb.2.1.2
  have hw3 := near_w3 (t := t)
  first | refine fn_goal (w_head ?_)
  intro K_ hK_; (conv => whnf); (try dsimp +instances only); refine hK_ _ ?_; clear hK_ K_; (conv => (arg 2; whnf))
  repeat' (first | with_reducible refine And.intro ?_ ?_ | ((try with_reducible refine gv_more ?_); first | ((with_reducible show K_ _); (try dsimp +instances only); (with_reducible refine hK_ _ ?_); clear hK_ K_) | with_reducible refine st ?_ | ((with_reducible refine sr ?_); intro K_ hK_; conv => whnf) | ((with_reducible refine w_cond ?_); (conv => arg 2; whnf); with_reducible refine st ?_) | refine blockK_y (by rfl) ?_ | ((with_reducible refine sw ?_); conv => whnf)) | ((with_reducible refine gv_more ?_); conv => whnf) | (intro hc; (try dsimp +instances only [Dat, SDat, dflt, Ty.size, keepS, bkUpd, Gv.bk, backS, wayA, maxI, minI, negI] at hc); (try simp only [LS] at hc)))
  all_goals (try ((fail_if_success with_reducible refine nl ?_); (try dsimp only [Dat, SDat, dflt, Ty.size, keepS, bkUpd, Gv.bk, backS, wayA, maxI, minI, negI]); (try simp only [LS]); first | done | exact dsc | ((try simp only [allP, lo, hi, room, true_and, and_true, implies_true]); (repeat' (first | with_reducible refine And.intro ?_ ?_ | ((with_reducible refine preA_t ?_ ?_); rotate_left; exact sameP_t) | intro hv)) <;> (try omega))))
  · unfold nrV; rw [if_pos hc]; rfl
  · rename_i h1 h2
    rw [hw1 h2, hw3 h1] at hc
    unfold nrV
    rw [if_neg h1, if_pos hc, hw1 h2]
  · rename_i h1 h2
    rw [hw1 h2, hw3 h1] at hc
    unfold nrV
    rw [if_neg h1, if_neg hc]; rfl
  · rename_i h1 h2
    rw [hw2 h2, hw3 h1] at hc
    unfold nrV
    rw [if_neg h1, if_pos hc, hw2 h2]
  · rename_i h1 h2
    rw [hw2 h2, hw3 h1] at hc
    unfold nrV
    rw [if_neg h1, if_neg hc]; rfl
theorem ok_measure_Near : SpecOK SP glob fi_measure_Near S_measure_Near := mk_ok (c := c_measure_Near) (tab_ok _) mix_ok wf_measure_Near (by decide) (.cons ok_measure_share .nil) (fun x hx => Nat.zero_lt_one) g_measure_Near

theorem mem_take_succ {l : List Bs} {k : Nat} {z : Bs} (h : k < l.length) : z ∈ l.take (k + 1) ↔ z ∈ l.take k ∨ z = l.getD k [] := by
  rw [List.take_succ_eq_append_getElem h, List.mem_append, List.mem_singleton, getD_ok _ h]

@[reducible] noncomputable def S_measure_Jaccard : Spec := { ins := (.cons (.d (.sl .str)) (.cons (.d (.sl .str)) .nil)), pre := (fun x => (fun a b => a.length ≤ 1000000 ∧ b.length ≤ 1000000) x.1 x.2.1), alts := [{ outs := (.cons (.d tRt) .nil), res := (fun x => (fun a b => (jcV a b, ())) x.1 x.2.1) }] }
noncomputable def c_measure_Jaccard : Cf := (cf_measure_Jaccard (Fl [(fi_measure_share, S_measure_share)]))
theorem g_measure_Jaccard : ∀ x, S_measure_Jaccard.pre x → shOK S_measure_Jaccard.ins x → fnGoal c_measure_Jaccard fn_measure_Jaccard S_measure_Jaccard x := by
  rintro ⟨a, b, ⟨⟩⟩ hpre hok
  try dsimp only [Dat, SDat, dflt, Ty.size, keepS, bkUpd, Gv.bk, backS, wayA, maxI, minI, negI] at hpre
  have hln := shLn_of _ hok; replace hok := Hd.mk hok; try simp only [shLn, datLn, inRng, lo, hi, maxLen, true_and, and_true] at hln
  have hal : a.length ≤ 1000000 := hpre.1
  have hbl : b.length ≤ 1000000 := hpre.2
  first | refine fn_goal (w_head ?_)
  intro K_ hK_; (conv => whnf); (try dsimp +instances only); refine hK_ _ ?_; clear hK_ K_; (conv => (arg 2; whnf))
  repeat' (first | with_reducible refine And.intro ?_ ?_ | ((try with_reducible refine gv_more ?_); first | ((with_reducible show K_ _); (try dsimp +instances only); (with_reducible refine hK_ _ ?_); clear hK_ K_) | with_reducible refine st ?_ | ((with_reducible refine sr ?_); intro K_ hK_; conv => whnf) | ((with_reducible refine w_cond ?_); (conv => arg 2; whnf); with_reducible refine st ?_) | refine blockK_y (by rfl) ?_ | ((with_reducible refine sw ?_); conv => whnf)) | ((with_reducible refine gv_more ?_); conv => whnf) | (intro hc; (try dsimp +instances only [Dat, SDat, dflt, Ty.size, keepS, bkUpd, Gv.bk, backS, wayA, maxI, minI, negI] at hc); (try simp only [LS] at hc)))
  all_goals (try ((fail_if_success with_reducible refine nl ?_); (try dsimp only [Dat, SDat, dflt, Ty.size, keepS, bkUpd, Gv.bk, backS, wayA, maxI, minI, negI]); (try simp only [LS]); first | done | exact dsc | ((try simp only [allP, lo, hi, room, true_and, and_true, implies_true]); (repeat' (first | with_reducible refine And.intro ?_ ?_ | ((with_reducible refine preA_t ?_ ?_); rotate_left; exact sameP_t) | intro hv)) <;> (try omega))))
  refine w_loop [(5, .map .str .bool), (16, .d tInt)] [] (fun y => ∃ k : Nat, y.1.2.1 = (k : Int) ∧ k ≤ a.length ∧ List.length y.1.1 ≤ k ∧ (keyS y.1.1).Nodup ∧ (∀ z, z ∈ keyS y.1.1 ↔ z ∈ a.take k) ∧ ∀ z, gtS y.1.1 z = true ↔ z ∈ a.take k) (fun y => a.length - y.1.2.1.toNat) ?_
  conv => whnf
  refine And.intro ?_ ?_
  · exact ⟨0, rfl, Nat.zero_le _, Nat.le_refl _, List.nodup_nil, by simp [keyS], by simp [gtS, mget]⟩
  rintro ⟨⟨(m : MB), _, ⟨⟩⟩, ⟨⟩⟩ ⟨k, rfl, hk, hml, hn, hks, hg⟩
  have hml : List.length m ≤ k := hml
  have hn : (keyS m).Nodup := hn
  have hks : ∀ z, z ∈ keyS m ↔ z ∈ a.take k := hks
  have hg : ∀ z, gtS m z = true ↔ z ∈ a.take k := hg
  repeat' (first | with_reducible refine And.intro ?_ ?_ | ((try with_reducible refine gv_more ?_); first | ((with_reducible show K_ _); (try dsimp +instances only); (with_reducible refine hK_ _ ?_); clear hK_ K_) | with_reducible refine st ?_ | ((with_reducible refine sr ?_); intro K_ hK_; conv => whnf) | ((with_reducible refine w_cond ?_); (conv => arg 2; whnf); with_reducible refine st ?_) | refine blockK_y (by rfl) ?_ | ((with_reducible refine sw ?_); conv => whnf)) | ((with_reducible refine gv_more ?_); conv => whnf) | (intro hc; (try dsimp +instances only [Dat, SDat, dflt, Ty.size, keepS, bkUpd, Gv.bk, backS, wayA, maxI, minI, negI] at hc); (try simp only [LS] at hc)))
  all_goals (try ((fail_if_success with_reducible refine nl ?_); (try dsimp only [Dat, SDat, dflt, Ty.size, keepS, bkUpd, Gv.bk, backS, wayA, maxI, minI, negI]); (try simp only [LS]); first | done | exact dsc | ((try simp only [allP, lo, hi, room, true_and, and_true, implies_true]); (repeat' (first | with_reducible refine And.intro ?_ ?_ | ((with_reducible refine preA_t ?_ ?_); rotate_left; exact sameP_t) | intro hv)) <;> (try omega))))
  · refine ⟨k + 1, by omega, by omega, ?_, (mput_key m _).2 hn, fun z => ?_, fun z => ?_⟩
    · have := mput_lenW m (List.getD a k [])
      omega
    · rw [(mput_key m _).1, hks, mem_take_succ (by omega)]
      exact Or.comm
    · rw [gt_mput, hg, mem_take_succ (by omega)]
      exact Or.comm
  · simp only [maxLen]; omega
  have hka : k = a.length := by omega
  subst hka
  rw [List.take_length] at hks hg
  have hcm : List.length m = cardS (a ++ b.take 0) := by
    rw [List.take_zero, List.append_nil, ← card_nodup hn hks]
    simp [keyS]
  refine w_loop [(5, .map .str .bool), (10, .map .str .bool), (8, .d tInt), (9, .d tInt), (28, .d tInt)] [] (fun y => ∃ (k : Nat), y.1.2.2.2.2.1 = (k : Int) ∧ k ≤ b.length ∧ y.1.2.2.1 = (cardS (a ++ b.take k) : Int) ∧ y.1.2.2.2.1 = (bothS a (b.take k) : Int) ∧ (keyS y.1.1).Nodup ∧ (∀ z, gtS y.1.1 z = true ↔ z ∈ a ∧ z ∉ b.take k) ∧ ∀ z, gtS y.1.2.1 z = true ↔ z ∈ b.take k) (fun y => b.length - y.1.2.2.2.2.1.toNat) ?_
  conv => whnf
  refine And.intro ?_ ?_
  · refine ⟨0, rfl, Nat.zero_le _, ?_, rfl, hn, fun z => ?_, fun z => ?_⟩
    · show (List.length m : Int) = _
      rw [hcm]
    · show gtS m z = true ↔ _
      rw [hg]; simp
    · simp [gtS, mget]
  clear hn hks hg hml hcm hc hk
  rintro ⟨⟨(le : MB), (se : MB), (al : Int), (bo : Int), _, ⟨⟩⟩, ⟨⟩⟩ ⟨k, rfl, hk, hal2, hbo, hn, hle, hse⟩
  have hal2 : al = (cardS (a ++ b.take k) : Int) := hal2
  have hbo : bo = (bothS a (b.take k) : Int) := hbo
  have hn : (keyS le).Nodup := hn
  have hle : ∀ z, gtS le z = true ↔ z ∈ a ∧ z ∉ b.take k := hle
  have hse : ∀ z, gtS se z = true ↔ z ∈ b.take k := hse
  have hst := fun (h : k < b.length) => both_step (a := a) h
  have c1 := card_le (a ++ b.take k)
  have c2 := cnt_le (fun z => decide (z ∈ a)) (b.take k)
  rw [List.length_append, List.length_take] at c1
  rw [List.length_take] at c2
  have c3 : bothS a (b.take k) ≤ 1000000 := by unfold bothS; omega
  have hnx : k < b.length → ∀ z, z ∈ b.take (k + 1) ↔ z ∈ b.take k ∨ z = b.getD k [] := fun h z => mem_take_succ h
  have gf : ∀ (m : MB) (z : Bs), gtS m z = false → ¬ gtS m z = true := fun m z h => by rw [h]; simp
  repeat' (first | with_reducible refine And.intro ?_ ?_ | ((try with_reducible refine gv_more ?_); first | ((with_reducible show K_ _); (try dsimp +instances only); (with_reducible refine hK_ _ ?_); clear hK_ K_) | with_reducible refine st ?_ | ((with_reducible refine sr ?_); intro K_ hK_; conv => whnf) | ((with_reducible refine w_cond ?_); (conv => arg 2; whnf); with_reducible refine st ?_) | refine blockK_y (by rfl) ?_ | ((with_reducible refine sw ?_); conv => whnf)) | ((with_reducible refine gv_more ?_); conv => whnf) | (intro hc; (try dsimp +instances only [Dat, SDat, dflt, Ty.size, keepS, bkUpd, Gv.bk, backS, wayA, maxI, minI, negI] at hc); (try simp only [LS] at hc)))
  all_goals (try ((fail_if_success with_reducible refine nl ?_); (try dsimp only [Dat, SDat, dflt, Ty.size, keepS, bkUpd, Gv.bk, backS, wayA, maxI, minI, negI]); (try simp only [LS]); first | done | exact dsc | ((try simp only [allP, lo, hi, room, true_and, and_true, implies_true]); (repeat' (first | with_reducible refine And.intro ?_ ?_ | ((with_reducible refine preA_t ?_ ?_); rotate_left; exact sameP_t) | intro hv)) <;> (try omega))))
  · rename_i h1
    have hk2 : k < b.length := by omega
    have hin := (hse _).1 hc
    obtain ⟨s1, s2⟩ := hst hk2
    rw [if_pos hin] at s1
    rw [if_pos (.inl hin)] at s2
    have hsame : ∀ z, z ∈ b.take (k + 1) ↔ z ∈ b.take k := fun z => by
      rw [hnx hk2]
      exact ⟨fun h => h.elim id fun e => e ▸ hin, .inl⟩
    exact ⟨k + 1, by omega, by omega, by rw [s2]; exact hal2, by rw [s1]; exact hbo, hn, fun z => by rw [hsame]; exact hle z, fun z => by rw [hsame]; exact hse z⟩
  · rename_i h1 h2
    have hk2 : k < b.length := by omega
    have hno : b.getD k [] ∉ b.take k := fun h => gf _ _ h2 ((hse _).2 h)
    have hya := ((hle _).1 hc).1
    obtain ⟨s1, s2⟩ := hst hk2
    rw [if_neg hno, if_pos hya] at s1
    rw [if_pos (.inr hya)] at s2
    refine ⟨k + 1, by omega, by omega, by rw [s2]; exact hal2, by rw [s1, hbo]; omega, (mdel_keys le _ hn).1, fun z => ?_, fun z => ?_⟩
    · rw [gt_mdel le _ z hn, hle, hnx hk2]
      constructor
      · rintro ⟨e, e1, e2⟩; exact ⟨e1, fun h => h.elim e2 e⟩
      · rintro ⟨e1, e2⟩; exact ⟨fun h => e2 (.inr h), e1, fun h => e2 (.inl h)⟩
    · rw [gt_mput, hse, hnx hk2]; exact Or.comm
  · rename_i h1 h2
    have hk2 : k < b.length := by omega
    have hno : b.getD k [] ∉ b.take k := fun h => gf _ _ h2 ((hse _).2 h)
    have hya : b.getD k [] ∉ a := fun h => gf _ _ hc ((hle _).2 ⟨h, hno⟩)
    obtain ⟨s1, s2⟩ := hst hk2
    rw [if_neg hno, if_neg hya] at s1
    rw [if_neg (fun h => h.elim hno hya)] at s2
    refine ⟨k + 1, by omega, by omega, by rw [s2, hal2]; omega, by rw [s1]; exact hbo, hn, fun z => ?_, fun z => ?_⟩
    · rw [hle, hnx hk2]
      constructor
      · rintro ⟨e1, e2⟩; exact ⟨e1, fun h => h.elim e2 fun e => hya (e ▸ e1)⟩
      · rintro ⟨e1, e2⟩; exact ⟨e1, fun h => e2 (.inl h)⟩
    · rw [gt_mput, hse, hnx hk2]; exact Or.comm
  all_goals
    have hkb : k = b.length := by omega
    subst hkb
    rw [List.take_length] at hal2 hbo
    unfold jcV
  · rw [if_pos (by omega)]; rfl
  · rw [if_neg (by omega), hal2, hbo]
theorem ok_measure_Jaccard : SpecOK SP glob fi_measure_Jaccard S_measure_Jaccard := mk_ok (c := c_measure_Jaccard) (tab_ok _) mix_ok wf_measure_Jaccard (by decide) (.cons ok_measure_share .nil) (fun x hx => Nat.zero_lt_one) g_measure_Jaccard
end Go.Gv
