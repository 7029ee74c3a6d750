/- Chapter 4: ratios: the program. -/
import Derived.Test.YtganngkllfpgiaaGreatDoorP04b
import Derived.Test.YtganngkllfpgiaaGreatDoorB0
set_option linter.all false
namespace Go.Gv
open Go Go.Proofs Go.Proofs.YtganngkllfpgiaaGreatDoor
set_option maxRecDepth 100000
set_option maxHeartbeats 4000000

theorem abs_cases (n : Int) : (0 ≤ n ∧ absI n = n) ∨ (n < 0 ∧ absI n = -n) := by unfold absI; omega
def gcdL (l : List Int) : Int := l.foldl gcdI 0
theorem gcdI_mod {g x : Int} (h0 : 0 ≤ g) (h1 : 0 < x) : gcdI x (Int.tmod g x) = gcdI g x := by
  unfold gcdI
  obtain ⟨G, rfl⟩ : ∃ N : Nat, g = N := ⟨g.toNat, by omega⟩
  obtain ⟨X, rfl⟩ : ∃ N : Nat, x = N := ⟨x.toNat, by omega⟩
  rw [Int.tmod_eq_emod_of_nonneg (by omega), ← Int.natCast_emod]
  simp only [Int.natAbs_natCast]
  rw [Nat.gcd_comm X (G % X), ← Nat.gcd_rec, Nat.gcd_comm]
theorem gcdI_zeror {g : Int} (h : 0 ≤ g) : gcdI g 0 = g := by unfold gcdI; simp; omega
theorem gcdI_nonneg (a b : Int) : 0 ≤ gcdI a b := by unfold gcdI; omega
theorem gcdL_two {a b : Int} (ha : 0 ≤ a) : gcdL [a, b] = gcdI a b := by
  show gcdI (gcdI 0 a) b = _
  have : gcdI 0 a = a := by unfold gcdI; simp; omega
  rw [this]

@[reducible] noncomputable def S_ratio_magnitude_int : Spec := { ins := (.cons (.d tInt) .nil), pre := fun _ => True, alts := [{ outs := (.cons (.d tU64) .nil), res := (fun x => (fun n => (absI n, ())) x.1) }] }
noncomputable def c_ratio_magnitude_int : Cf := { cf_ratio_magnitude_int (Fl []) with E := { (cf_ratio_magnitude_int (Fl [])).E with wraps := [6, 7, 9] } }
theorem g_ratio_magnitude_int : ∀ x, S_ratio_magnitude_int.pre x → shOK S_ratio_magnitude_int.ins x → fnGoal c_ratio_magnitude_int fn_ratio_magnitude_int S_ratio_magnitude_int x := by
  rintro ⟨n, ⟨⟩⟩ hpre hok
  clear hpre
  have hln := shLn_of _ hok; replace hok := Hd.mk hok; try simp only [shLn, datLn, inRng, lo, hi, maxLen, true_and, and_true] at hln
  have hb : -9223372036854775808 ≤ n ∧ n ≤ 9223372036854775807 := hln
  have hab := abs_cases n
  first | refine fn_goal (w_head ?_)
  intro K_ hK_; (conv => whnf); (try dsimp +instances only); refine hK_ _ ?_; clear hK_ K_; (conv => (arg 2; whnf))
  repeat' (first | with_reducible refine And.intro ?_ ?_ | ((try with_reducible refine gv_more ?_); first | ((with_reducible show K_ _); (try dsimp +instances only); (with_reducible refine hK_ _ ?_); clear hK_ K_) | with_reducible refine st ?_ | ((with_reducible refine sr ?_); intro K_ hK_; conv => whnf) | ((with_reducible refine w_cond ?_); (conv => arg 2; whnf); with_reducible refine st ?_) | refine blockK_y (by rfl) ?_ | ((with_reducible refine sw ?_); conv => whnf)) | ((with_reducible refine gv_more ?_); conv => whnf) | (intro hc; (try dsimp +instances only [Dat, SDat, dflt, Ty.size, keepS, bkUpd, Gv.bk, backS, wayA, maxI, minI, negI] at hc); (try simp only [LS] at hc)))
  all_goals (try ((fail_if_success with_reducible refine nl ?_); (try dsimp only [Dat, SDat, dflt, Ty.size, keepS, bkUpd, Gv.bk, backS, wayA, maxI, minI, negI]); (try simp only [LS]); first | done | exact dsc | ((try simp only [allP, lo, hi, room, true_and, and_true, implies_true]); (repeat' (first | with_reducible refine And.intro ?_ ?_ | ((with_reducible refine preA_t ?_ ?_); rotate_left; exact sameP_t) | intro hv)) <;> (try omega))))
theorem ok_ratio_magnitude_int : SpecOK SP glob fi_ratio_magnitude_int S_ratio_magnitude_int := mk_ok (c := c_ratio_magnitude_int) (tab_ok _) mix_ok wf_ratio_magnitude_int (by decide) .nil (fun x hx => Nat.zero_lt_one) g_ratio_magnitude_int

theorem tmod_in {g x : Int} (h0 : 0 ≤ g) (h1 : 0 ≤ x) (h : ¬ x = 0) : 0 ≤ Int.tmod g x ∧ Int.tmod g x < x := by
  rw [Int.tmod_eq_emod_of_nonneg h0]
  exact ⟨Int.emod_nonneg _ h, Int.emod_lt_of_pos _ (by omega)⟩
theorem gcdL_step {l : List Int} {k : Nat} (h : k < l.length) : gcdL (l.take (k + 1)) = gcdI (gcdL (l.take k)) (l.getD k 0) := by
  unfold gcdL
  rw [List.take_succ_eq_append_getElem h, List.foldl_append, getD_ok _ h]; rfl
theorem gcdL_nonneg : ∀ (l : List Int) (k : Nat), 0 ≤ gcdL (l.take k)
  | l, k => by
    unfold gcdL
    have h : ∀ (m : List Int) (g : Int), 0 ≤ g → 0 ≤ m.foldl gcdI g := fun m => by
      induction m with
      | nil => exact fun _ h => h
      | cons x m ih => exact fun g _ => ih _ (gcdI_nonneg _ _)
    exact h _ _ (Int.le_refl _)
theorem gcdI_le {a b c : Int} (ha : 0 ≤ a) (hb : 0 ≤ b) (h1 : a ≤ c) (h2 : b ≤ c) : gcdI a b ≤ c := by
  by_cases h : a = 0
  · subst h
    have : gcdI 0 b = b := by unfold gcdI; simp; omega
    rw [this]; exact h2
  · have := Nat.gcd_le_left b.natAbs (show 0 < a.natAbs by omega)
    unfold gcdI; omega

structure okL (l : List Int) : Prop where
  out : ∀ x ∈ l, 0 ≤ x ∧ x ≤ 18446744073709551615
theorem okL_two {a b : Int} (h1 : 0 ≤ a) (h2 : a ≤ 18446744073709551615) (h3 : 0 ≤ b) (h4 : b ≤ 18446744073709551615) : okL [a, b] := ⟨fun x hx => by
  simp at hx
  rcases hx with rfl | rfl
  · exact ⟨h1, h2⟩
  · exact ⟨h3, h4⟩⟩

@[reducible] noncomputable def S_ratio_common : Spec := { ins := (.cons (.d (.sl tU64)) .nil), pre := (fun x => (fun l => l.length ≤ 1000000 ∧ okL l) x.1), alts := [{ outs := (.cons (.d tU64) .nil), res := (fun x => (fun l => (gcdL l, ())) x.1) }] }
noncomputable def c_ratio_common : Cf := (cf_ratio_common (Fl []))
theorem g_ratio_common : ∀ x, S_ratio_common.pre x → shOK S_ratio_common.ins x → fnGoal c_ratio_common fn_ratio_common S_ratio_common x := by
  rintro ⟨l, ⟨⟩⟩ hpre hok
  try dsimp only [Dat, SDat, dflt, Ty.size, keepS, bkUpd, Gv.bk, backS, wayA, maxI, minI, negI] at hpre
  have hln := shLn_of _ hok; replace hok := Hd.mk hok; try simp only [shLn, datLn, inRng, lo, hi, maxLen, true_and, and_true] at hln
  have hl := hpre.1
  have hb := hpre.2.out
  first | refine fn_goal (w_head ?_)
  intro K_ hK_; (conv => whnf); (try dsimp +instances only); refine hK_ _ ?_; clear hK_ K_; (conv => (arg 2; whnf))
  repeat' (first | with_reducible refine And.intro ?_ ?_ | ((try with_reducible refine gv_more ?_); first | ((with_reducible show K_ _); (try dsimp +instances only); (with_reducible refine hK_ _ ?_); clear hK_ K_) | with_reducible refine st ?_ | ((with_reducible refine sr ?_); intro K_ hK_; conv => whnf) | ((with_reducible refine w_cond ?_); (conv => arg 2; whnf); with_reducible refine st ?_) | refine blockK_y (by rfl) ?_ | ((with_reducible refine sw ?_); conv => whnf)) | ((with_reducible refine gv_more ?_); conv => whnf) | (intro hc; (try dsimp +instances only [Dat, SDat, dflt, Ty.size, keepS, bkUpd, Gv.bk, backS, wayA, maxI, minI, negI] at hc); (try simp only [LS] at hc)))
  all_goals (try ((fail_if_success with_reducible refine nl ?_); (try dsimp only [Dat, SDat, dflt, Ty.size, keepS, bkUpd, Gv.bk, backS, wayA, maxI, minI, negI]); (try simp only [LS]); first | done | exact dsc | ((try simp only [allP, lo, hi, room, true_and, and_true, implies_true]); (repeat' (first | with_reducible refine And.intro ?_ ?_ | ((with_reducible refine preA_t ?_ ?_); rotate_left; exact sameP_t) | intro hv)) <;> (try omega))))
  refine w_loop [(3, .d tU64), (8, .d tInt)] [] (fun y => ∃ k : Nat, y.1.2.1 = (k : Int) ∧ k ≤ l.length ∧ y.1.1 = gcdL (l.take k) ∧ y.1.1 ≤ 18446744073709551615) (fun y => l.length - y.1.2.1.toNat) ?_
  conv => whnf
  refine And.intro ?_ ?_
  · exact ⟨0, rfl, Nat.zero_le _, rfl, by show (0 : Int) ≤ _; omega⟩
  rintro ⟨⟨g, _, ⟨⟩⟩, ⟨⟩⟩ ⟨k, rfl, hk, hg, hgm⟩
  dsimp only at hg hgm
  have hg0 : 0 ≤ g := by rw [hg]; exact gcdL_nonneg l k
  have hbk : k < l.length → 0 ≤ l.getD k 0 ∧ l.getD k 0 ≤ 18446744073709551615 := fun h => hb _ (getD_mem h)
  repeat' (first | with_reducible refine And.intro ?_ ?_ | ((try with_reducible refine gv_more ?_); first | ((with_reducible show K_ _); (try dsimp +instances only); (with_reducible refine hK_ _ ?_); clear hK_ K_) | with_reducible refine st ?_ | ((with_reducible refine sr ?_); intro K_ hK_; conv => whnf) | ((with_reducible refine w_cond ?_); (conv => arg 2; whnf); with_reducible refine st ?_) | refine blockK_y (by rfl) ?_ | ((with_reducible refine sw ?_); conv => whnf)) | ((with_reducible refine gv_more ?_); conv => whnf) | (intro hc; (try dsimp +instances only [Dat, SDat, dflt, Ty.size, keepS, bkUpd, Gv.bk, backS, wayA, maxI, minI, negI] at hc); (try simp only [LS] at hc)))
  all_goals (try ((fail_if_success with_reducible refine nl ?_); (try dsimp only [Dat, SDat, dflt, Ty.size, keepS, bkUpd, Gv.bk, backS, wayA, maxI, minI, negI]); (try simp only [LS]); first | done | exact dsc | ((try simp only [allP, lo, hi, room, true_and, and_true, implies_true]); (repeat' (first | with_reducible refine And.intro ?_ ?_ | ((with_reducible refine preA_t ?_ ?_); rotate_left; exact sameP_t) | intro hv)) <;> (try omega))))
  refine w_loop [(3, .d tU64), (5, .d tU64)] [] (fun y => 0 ≤ y.1.1 ∧ y.1.1 ≤ 18446744073709551615 ∧ 0 ≤ y.1.2.1 ∧ y.1.2.1 ≤ 18446744073709551615 ∧ gcdI y.1.1 y.1.2.1 = gcdI g (l.getD k 0)) (fun y => y.1.2.1.toNat) ?_
  conv => whnf
  refine And.intro ?_ ?_
  · have := hbk (by omega)
    exact ⟨hg0, hgm, this.1, this.2, rfl⟩
  rintro ⟨⟨(g' : Int), (x : Int), ⟨⟩⟩, ⟨⟩⟩ ⟨h0, h0m, h1, h1m, hgx⟩
  dsimp only at h0 h0m h1 h1m hgx
  have htm := fun h => tmod_in h0 h1 h
  have hgd := fun (h : 0 < x) => gcdI_mod h0 h
  repeat' (first | with_reducible refine And.intro ?_ ?_ | ((try with_reducible refine gv_more ?_); first | ((with_reducible show K_ _); (try dsimp +instances only); (with_reducible refine hK_ _ ?_); clear hK_ K_) | with_reducible refine st ?_ | ((with_reducible refine sr ?_); intro K_ hK_; conv => whnf) | ((with_reducible refine w_cond ?_); (conv => arg 2; whnf); with_reducible refine st ?_) | refine blockK_y (by rfl) ?_ | ((with_reducible refine sw ?_); conv => whnf)) | ((with_reducible refine gv_more ?_); conv => whnf) | (intro hc; (try dsimp +instances only [Dat, SDat, dflt, Ty.size, keepS, bkUpd, Gv.bk, backS, wayA, maxI, minI, negI] at hc); (try simp only [LS] at hc)))
  all_goals (try ((fail_if_success with_reducible refine nl ?_); (try dsimp only [Dat, SDat, dflt, Ty.size, keepS, bkUpd, Gv.bk, backS, wayA, maxI, minI, negI]); (try simp only [LS]); first | done | exact dsc | ((try simp only [allP, lo, hi, room, true_and, and_true, implies_true]); (repeat' (first | with_reducible refine And.intro ?_ ?_ | ((with_reducible refine preA_t ?_ ?_); rotate_left; exact sameP_t) | intro hv)) <;> (try omega))))
  all_goals (first
    | (rw [hgd (by omega)]; exact hgx)
    | exact Int.le_trans (Int.le_of_lt (htm hc).2) h1m
    | exact (htm hc).1
    | (have := htm hc; omega)
    | skip)
  · refine ⟨k + 1, by omega, by omega, ?_, ?_⟩
    · rw [gcdL_step (by omega), ← hg, ← hgx, hc, gcdI_zeror h0]
    · exact h0m
  · rw [hg, List.take_of_length_le (by omega)]
theorem ok_ratio_common : SpecOK SP glob fi_ratio_common S_ratio_common := mk_ok (c := c_ratio_common) (tab_ok _) mix_ok wf_ratio_common (by decide) .nil (fun x hx => Nat.zero_lt_one) g_ratio_common

@[reducible] def tRt : Ty := .st (.cs tInt (.cs tInt .nl))

/-- Magnitudes in lowest terms, with a sign. -/
noncomputable def redV (s : Bool) (n d : Int) : Rt := if bigR n d then rt 0 0 else if s = true then rt (-(n / gcdI n d)) (d / gcdI n d) else rt (n / gcdI n d) (d / gcdI n d)
noncomputable def redE (n d : Int) : Int := if bigR n d then 2 else 0

@[reducible] noncomputable def S_ratio_reduced : Spec := { ins := (.cons (.d .bool) (.cons (.d tU64) (.cons (.d tU64) .nil))), pre := (fun x => (fun s n d => 0 ≤ n ∧ n ≤ 9223372036854775808 ∧ 0 < d ∧ d ≤ 9223372036854775808) x.1 x.2.1 x.2.2.1), alts := [{ outs := (.cons (.d tRt) (.cons (.d tInt) .nil)), res := (fun x => (fun s n d => (redV s n d, redE n d, ())) x.1 x.2.1 x.2.2.1) }] }
noncomputable def c_ratio_reduced : Cf := { cf_ratio_reduced (Fl [(fi_ratio_common, S_ratio_common)]) with spl := [19] }
theorem g_ratio_reduced : ∀ x, S_ratio_reduced.pre x → shOK S_ratio_reduced.ins x → fnGoal c_ratio_reduced fn_ratio_reduced S_ratio_reduced x := by
  rintro ⟨s, n, d, ⟨⟩⟩ hpre hok
  try dsimp only [Dat, SDat, dflt, Ty.size, keepS, bkUpd, Gv.bk, backS, wayA, maxI, minI, negI] at hpre
  have hln := shLn_of _ hok; replace hok := Hd.mk hok; try simp only [shLn, datLn, inRng, lo, hi, maxLen, true_and, and_true] at hln
  have hn0 := hpre.1
  have hn1 := hpre.2.1
  have hd0 := hpre.2.2.1
  have hd1 := hpre.2.2.2
  have hg : gcdL [n, d] = gcdI n d := gcdL_two hn0
  have hgp : 0 < gcdI n d := gcdI_pos (by omega)
  have hN : Int.tdiv n (gcdL [n, d]) = n / gcdI n d := by rw [hg]; exact Int.tdiv_eq_ediv_of_nonneg hn0
  have hD : Int.tdiv d (gcdL [n, d]) = d / gcdI n d := by rw [hg]; exact Int.tdiv_eq_ediv_of_nonneg (by omega)
  have hNp : 0 ≤ Int.tdiv n (gcdL [n, d]) ∧ Int.tdiv n (gcdL [n, d]) ≤ n := by rw [hN]; exact ⟨Int.ediv_nonneg hn0 (by omega), div_le_self' hn0 hgp⟩
  have hDp : 0 ≤ Int.tdiv d (gcdL [n, d]) ∧ Int.tdiv d (gcdL [n, d]) ≤ d := by rw [hD]; exact ⟨Int.ediv_nonneg (by omega) (by omega), div_le_self' (by omega) hgp⟩
  have hB : bigR n d ↔ (1000000000 < Int.tdiv n (gcdL [n, d]) ∨ 1000000000 < Int.tdiv d (gcdL [n, d])) := by unfold bigR; rw [hN, hD, absI_of hn0, absI_of (by omega : (0 : Int) ≤ d)]
  have hge : gcdL [n, d] ≠ 0 := by rw [hg]; omega
  have hgl : gcdL [n, d] ≤ 9223372036854775808 := by rw [hg]; exact gcdI_le hn0 (by omega) hn1 hd1
  first | refine fn_goal (w_head ?_)
  intro K_ hK_; (conv => whnf); (try dsimp +instances only); refine hK_ _ ?_; clear hK_ K_; (conv => (arg 2; whnf))
  repeat' (first | with_reducible refine And.intro ?_ ?_ | ((try with_reducible refine gv_more ?_); first | ((with_reducible show K_ _); (try dsimp +instances only); (with_reducible refine hK_ _ ?_); clear hK_ K_) | with_reducible refine st ?_ | ((with_reducible refine sr ?_); intro K_ hK_; conv => whnf) | ((with_reducible refine w_cond ?_); (conv => arg 2; whnf); with_reducible refine st ?_) | refine blockK_y (by rfl) ?_ | ((with_reducible refine sw ?_); conv => whnf)) | ((with_reducible refine gv_more ?_); conv => whnf) | (intro hc; (try dsimp +instances only [Dat, SDat, dflt, Ty.size, keepS, bkUpd, Gv.bk, backS, wayA, maxI, minI, negI] at hc); (try simp only [LS] at hc)))
  all_goals (try ((fail_if_success with_reducible refine nl ?_); (try dsimp only [Dat, SDat, dflt, Ty.size, keepS, bkUpd, Gv.bk, backS, wayA, maxI, minI, negI]); (try simp only [LS]); first | done | exact dsc | ((try simp only [allP, lo, hi, room, true_and, and_true, implies_true]); (repeat' (first | with_reducible refine And.intro ?_ ?_ | ((with_reducible refine preA_t ?_ ?_); rotate_left; exact sameP_t) | intro hv)) <;> (try omega))))
  all_goals (first
    | omega
    | (unfold redV; rw [if_pos (hB.2 hc)]; rfl)
    | (unfold redE; rw [if_pos (hB.2 hc)]; done)
    | (rename_i h; unfold redV; rw [if_neg (fun e => h (hB.1 e)), if_pos hc, ← hN, ← hD]; rfl)
    | (rename_i h; unfold redV; rw [if_neg (fun e => h (hB.1 e)), if_neg (by rw [hc]; simp), ← hN, ← hD]; rfl)
    | (rename_i h; unfold redE; rw [if_neg (fun e => h (hB.1 e))]; done)
    | exact okL_two hn0 (by omega) (by omega) (by omega)
    | skip)
theorem ok_ratio_reduced : SpecOK SP glob fi_ratio_reduced S_ratio_reduced := mk_ok (c := c_ratio_reduced) (tab_ok _) mix_ok wf_ratio_reduced (by decide) (.cons ok_ratio_common .nil) (fun x hx => Nat.zero_lt_one) g_ratio_reduced

theorem mk_red {n d : Int} (h : ¬ d = 0) : redV (boolOf (¬ (n < 0 ↔ d < 0))) (absI n) (absI d) = mkV n d ∧ redE (absI n) (absI d) = mkE n d := by
  have hb : bigR (absI n) (absI d) ↔ bigR n d := by unfold bigR gcdI absI; simp
  have hg : gcdI (absI n) (absI d) = gcdI n d := by unfold gcdI absI; simp
  unfold redV redE mkV mkE
  rw [if_neg h, hg]
  by_cases hB : bigR n d
  · rw [if_pos (hb.2 hB), if_pos (hb.2 hB), if_pos hB]; simp
  · rw [if_neg fun e => hB (hb.1 e), if_neg fun e => hB (hb.1 e), if_neg hB]
    by_cases hs : n < 0 ↔ d < 0
    · simp [hs]
    · simp [hs]
theorem abs_bound {n : Int} (h0 : -9223372036854775808 ≤ n) (h1 : n ≤ 9223372036854775807) : 0 ≤ absI n ∧ absI n ≤ 9223372036854775808 := by unfold absI; omega

@[reducible] noncomputable def S_ratio_Make : Spec := { ins := (.cons (.d tInt) (.cons (.d tInt) .nil)), pre := fun _ => True, alts := [{ outs := (.cons (.d tRt) (.cons (.d tInt) .nil)), res := (fun x => (fun n d => (mkV n d, mkE n d, ())) x.1 x.2.1) }] }
noncomputable def c_ratio_Make : Cf := (cf_ratio_Make (Fl [(fi_ratio_magnitude_int, S_ratio_magnitude_int), (fi_ratio_reduced, S_ratio_reduced)]))
theorem g_ratio_Make : ∀ x, S_ratio_Make.pre x → shOK S_ratio_Make.ins x → fnGoal c_ratio_Make fn_ratio_Make S_ratio_Make x := by
  rintro ⟨n, d, ⟨⟩⟩ hpre hok
  clear hpre
  have hln := shLn_of _ hok; replace hok := Hd.mk hok; try simp only [shLn, datLn, inRng, lo, hi, maxLen, true_and, and_true] at hln
  have hb := hln
  have hbn := abs_bound hb.1.1 hb.1.2
  have hbd := abs_bound hb.2.1 hb.2.2
  have hz : d = 0 → mkE n d = 1 ∧ mkV n d = rt 0 0 := fun h => by
    have h : @Eq Int d 0 := h
    have he : mkE n d = 1 := by unfold mkE; rw [if_pos h]
    refine ⟨he, ?_⟩
    unfold mkV; rw [if_neg (show ¬ mkE n d = 0 by omega)]
  have hr := fun (h : ¬ d = 0) => mk_red (n := n) h
  have hap : ¬ d = 0 → 0 < absI d := fun h => by
    have h' : ¬ @Eq Int d 0 := h
    unfold absI; omega
  first | refine fn_goal (w_head ?_)
  intro K_ hK_; (conv => whnf); (try dsimp +instances only); refine hK_ _ ?_; clear hK_ K_; (conv => (arg 2; whnf))
  repeat' (first | with_reducible refine And.intro ?_ ?_ | ((try with_reducible refine gv_more ?_); first | ((with_reducible show K_ _); (try dsimp +instances only); (with_reducible refine hK_ _ ?_); clear hK_ K_) | with_reducible refine st ?_ | ((with_reducible refine sr ?_); intro K_ hK_; conv => whnf) | ((with_reducible refine w_cond ?_); (conv => arg 2; whnf); with_reducible refine st ?_) | refine blockK_y (by rfl) ?_ | ((with_reducible refine sw ?_); conv => whnf)) | ((with_reducible refine gv_more ?_); conv => whnf) | (intro hc; (try dsimp +instances only [Dat, SDat, dflt, Ty.size, keepS, bkUpd, Gv.bk, backS, wayA, maxI, minI, negI] at hc); (try simp only [LS] at hc)))
  all_goals (try ((fail_if_success with_reducible refine nl ?_); (try dsimp only [Dat, SDat, dflt, Ty.size, keepS, bkUpd, Gv.bk, backS, wayA, maxI, minI, negI]); (try simp only [LS]); first | done | exact dsc | ((try simp only [allP, lo, hi, room, true_and, and_true, implies_true]); (repeat' (first | with_reducible refine And.intro ?_ ?_ | ((with_reducible refine preA_t ?_ ?_); rotate_left; exact sameP_t) | intro hv)) <;> (try omega))))
  all_goals (first
    | exact (hz hc).1.symm
    | exact (hz hc).2.symm
    | exact hap hc
    | exact (hr hc).1
    | exact (hr hc).2)
theorem ok_ratio_Make : SpecOK SP glob fi_ratio_Make S_ratio_Make := mk_ok (c := c_ratio_Make) (tab_ok _) mix_ok wf_ratio_Make (by decide) (.cons ok_ratio_magnitude_int (.cons ok_ratio_reduced .nil)) (fun x hx => Nat.zero_lt_one) g_ratio_Make

@[reducible] noncomputable def S_measure_share : Spec := { ins := (.cons (.d tInt) (.cons (.d tInt) .nil)), pre := fun _ => True, alts := [{ outs := (.cons (.d tRt) .nil), res := (fun x => (fun n d => (shV n d, ())) x.1 x.2.1) }] }
noncomputable def c_measure_share : Cf := (cf_measure_share (Fl [(fi_ratio_Make, S_ratio_Make)]))
theorem g_measure_share : ∀ x, S_measure_share.pre x → shOK S_measure_share.ins x → fnGoal c_measure_share fn_measure_share S_measure_share x := by
  rintro ⟨n, d, ⟨⟩⟩ hpre hok
  clear hpre
  have hln := shLn_of _ hok; replace hok := Hd.mk hok; try simp only [shLn, datLn, inRng, lo, hi, maxLen, true_and, and_true] at hln
  first | refine fn_goal (w_head ?_)
  intro K_ hK_; (conv => whnf); (try dsimp +instances only); refine hK_ _ ?_; clear hK_ K_; (conv => (arg 2; whnf))
  repeat' (first | with_reducible refine And.intro ?_ ?_ | ((try with_reducible refine gv_more ?_); first | ((with_reducible show K_ _); (try dsimp +instances only); (with_reducible refine hK_ _ ?_); clear hK_ K_) | with_reducible refine st ?_ | ((with_reducible refine sr ?_); intro K_ hK_; conv => whnf) | ((with_reducible refine w_cond ?_); (conv => arg 2; whnf); with_reducible refine st ?_) | refine blockK_y (by rfl) ?_ | ((with_reducible refine sw ?_); conv => whnf)) | ((with_reducible refine gv_more ?_); conv => whnf) | (intro hc; (try dsimp +instances only [Dat, SDat, dflt, Ty.size, keepS, bkUpd, Gv.bk, backS, wayA, maxI, minI, negI] at hc); (try simp only [LS] at hc)))
  all_goals (try ((fail_if_success with_reducible refine nl ?_); (try dsimp only [Dat, SDat, dflt, Ty.size, keepS, bkUpd, Gv.bk, backS, wayA, maxI, minI, negI]); (try simp only [LS]); first | done | exact dsc | ((try simp only [allP, lo, hi, room, true_and, and_true, implies_true]); (repeat' (first | with_reducible refine And.intro ?_ ?_ | ((with_reducible refine preA_t ?_ ?_); rotate_left; exact sameP_t) | intro hv)) <;> (try omega))))
  · unfold shV; rw [if_pos hc]
  · unfold shV; rw [if_neg hc]; rfl
theorem ok_measure_share : SpecOK SP glob fi_measure_share S_measure_share := mk_ok (c := c_measure_share) (tab_ok _) mix_ok wf_measure_share (by decide) (.cons ok_ratio_Make .nil) (fun x hx => Nat.zero_lt_one) g_measure_share

@[reducible] noncomputable def S_measure_least : Spec := { ins := (.cons (.d tInt) (.cons (.d (.sl tInt)) .nil)), pre := (fun x => (fun n l => l.length ≤ 1000000) x.1 x.2.1), alts := [{ outs := (.cons (.d tInt) .nil), res := (fun x => (fun n l => (l.foldl (fun a b : Int => min a b) n, ())) x.1 x.2.1) }] }
noncomputable def c_measure_least : Cf := (cf_measure_least (Fl []))
theorem g_measure_least : ∀ x, S_measure_least.pre x → shOK S_measure_least.ins x → fnGoal c_measure_least fn_measure_least S_measure_least x := by
  rintro ⟨n, l, ⟨⟩⟩ hpre hok
  try dsimp only [Dat, SDat, dflt, Ty.size, keepS, bkUpd, Gv.bk, backS, wayA, maxI, minI, negI] at hpre
  have hln := shLn_of _ hok; replace hok := Hd.mk hok; try simp only [shLn, datLn, inRng, lo, hi, maxLen, true_and, and_true] at hln
  have hl : l.length ≤ 1000000 := hpre
  first | refine fn_goal (w_head ?_)
  intro K_ hK_; (conv => whnf); (try dsimp +instances only); refine hK_ _ ?_; clear hK_ K_; (conv => (arg 2; whnf))
  repeat' (first | with_reducible refine And.intro ?_ ?_ | ((try with_reducible refine gv_more ?_); first | ((with_reducible show K_ _); (try dsimp +instances only); (with_reducible refine hK_ _ ?_); clear hK_ K_) | with_reducible refine st ?_ | ((with_reducible refine sr ?_); intro K_ hK_; conv => whnf) | ((with_reducible refine w_cond ?_); (conv => arg 2; whnf); with_reducible refine st ?_) | refine blockK_y (by rfl) ?_ | ((with_reducible refine sw ?_); conv => whnf)) | ((with_reducible refine gv_more ?_); conv => whnf) | (intro hc; (try dsimp +instances only [Dat, SDat, dflt, Ty.size, keepS, bkUpd, Gv.bk, backS, wayA, maxI, minI, negI] at hc); (try simp only [LS] at hc)))
  all_goals (try ((fail_if_success with_reducible refine nl ?_); (try dsimp only [Dat, SDat, dflt, Ty.size, keepS, bkUpd, Gv.bk, backS, wayA, maxI, minI, negI]); (try simp only [LS]); first | done | exact dsc | ((try simp only [allP, lo, hi, room, true_and, and_true, implies_true]); (repeat' (first | with_reducible refine And.intro ?_ ?_ | ((with_reducible refine preA_t ?_ ?_); rotate_left; exact sameP_t) | intro hv)) <;> (try omega))))
  refine w_loop [(0, .d tInt), (9, .d tInt)] [] (fun y => ∃ k : Nat, y.1.2.1 = (k : Int) ∧ k ≤ l.length ∧ y.1.1 = (l.take k).foldl (fun a b : Int => min a b) n) (fun y => l.length - y.1.2.1.toNat) ?_
  conv => whnf
  refine And.intro ?_ ?_
  · exact ⟨0, rfl, Nat.zero_le _, rfl⟩
  rintro ⟨⟨(m : Int), _, ⟨⟩⟩, ⟨⟩⟩ ⟨k, rfl, hk, hm⟩
  dsimp only at hm
  repeat' (first | with_reducible refine And.intro ?_ ?_ | ((try with_reducible refine gv_more ?_); first | ((with_reducible show K_ _); (try dsimp +instances only); (with_reducible refine hK_ _ ?_); clear hK_ K_) | with_reducible refine st ?_ | ((with_reducible refine sr ?_); intro K_ hK_; conv => whnf) | ((with_reducible refine w_cond ?_); (conv => arg 2; whnf); with_reducible refine st ?_) | refine blockK_y (by rfl) ?_ | ((with_reducible refine sw ?_); conv => whnf)) | ((with_reducible refine gv_more ?_); conv => whnf) | (intro hc; (try dsimp +instances only [Dat, SDat, dflt, Ty.size, keepS, bkUpd, Gv.bk, backS, wayA, maxI, minI, negI] at hc); (try simp only [LS] at hc)))
  all_goals (try ((fail_if_success with_reducible refine nl ?_); (try dsimp only [Dat, SDat, dflt, Ty.size, keepS, bkUpd, Gv.bk, backS, wayA, maxI, minI, negI]); (try simp only [LS]); first | done | exact dsc | ((try simp only [allP, lo, hi, room, true_and, and_true, implies_true]); (repeat' (first | with_reducible refine And.intro ?_ ?_ | ((with_reducible refine preA_t ?_ ?_); rotate_left; exact sameP_t) | intro hv)) <;> (try omega))))
  · refine ⟨k + 1, by omega, by omega, ?_⟩
    have hk2 : k < l.length := by omega
    rw [List.take_succ_eq_append_getElem hk2, List.foldl_append, ← hm, getD_ok _ hk2]; rfl
  · rw [hm, List.take_of_length_le (by omega)]
theorem ok_measure_least : SpecOK SP glob fi_measure_least S_measure_least := mk_ok (c := c_measure_least) (tab_ok _) mix_ok wf_measure_least (by decide) .nil (fun x hx => Nat.zero_lt_one) g_measure_least
end Go.Gv
