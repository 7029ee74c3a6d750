/- ReapRoots: its function answers true. -/
import Derived.Test.YtnnifeeieoghfaaDoorL18k
set_option linter.all false
namespace Go.Gv
open Go Go.Proofs Go.Proofs.YtnnifeeieoghfaaDoor

theorem reach_of {gs : List Gate} {R R' : List Int} (h : ∀ r ∈ R', Reach gs R r.toNat) {k : Nat} (hk : Reach gs R' k) : Reach gs R k := by
  induction hk with
  | root hr => exact h _ hr
  | kid _ hk hj ih => exact .kid ih hk hj
theorem keptL_congr {gs : List Gate} {R R' : List Int} (h : ∀ k, Reach gs R k ↔ Reach gs R' k) : keptL gs R = keptL gs R' := by
  unfold keptL
  refine List.map_congr_left fun k _ => ?_
  have : Reach gs R k = Reach gs R' k := propext (h k)
  rw [this]
theorem keepG_congr {gs : List Gate} {R R' : List Int} (h : ∀ k, Reach gs R k ↔ Reach gs R' k) : keepG gs R = keepG gs R' := by
  unfold keepG
  rw [keptL_congr h]
theorem countP_mono {α : Type} {p q : α → Bool} : ∀ {l : List α}, (∀ x ∈ l, p x = true → q x = true) → l.countP p ≤ l.countP q
  | [], _ => Nat.le_refl _
  | a :: l, h => by
    have ih := countP_mono (l := l) (fun x hx => h x (List.mem_cons_of_mem _ hx))
    simp only [List.countP_cons]
    by_cases hp : p a = true
    · rw [if_pos hp, if_pos (h a List.mem_cons_self hp)]; omega
    · rw [if_neg hp]; split <;> omega
theorem keepG_mono {gs : List Gate} {R R' : List Int} (h : ∀ k, Reach gs R k → Reach gs R' k) : (keepG gs R).length ≤ (keepG gs R').length := by
  have h1 := keepG_len gs R
  have h2 := keepG_len gs R'
  have h3 : cntK gs R ≤ cntK gs R' := by
    unfold cntK keptL
    rw [List.countP_map, List.countP_map]
    have := countP_mono (p := id ∘ fun k => boolOf (Reach gs R k)) (q := id ∘ fun k => boolOf (Reach gs R' k)) (l := List.range gs.length) (fun x _ hx => boolOf_true.2 (h x (boolOf_true.1 hx)))
    omega
  omega

theorem tmod_rng {a n : Int} (ha : 0 ≤ a) (hn : 0 < n) : 0 ≤ Int.tmod a n ∧ Int.tmod a n < n := ⟨Int.tmod_nonneg _ ha, Int.tmod_lt_of_pos _ hn⟩
theorem drop_pred {l : List Int} {k : Nat} (h : 0 < k ∧ k ≤ l.length) : l.drop (k - 1) = l.getD (k - 1) 0 :: l.drop k := by
  rw [getD_ok 0 (by omega)]
  have := List.drop_eq_getElem_cons (l := l) (i := k - 1) (by omega)
  rw [this]
  congr 2
  omega
theorem keep_add {gs : List Gate} {R : List Int} (hR : RightP gs R) {x : Int} (h : 0 ≤ x ∧ x < gs.length) : RightP gs (R ++ [x]) ∧ (keepG gs R).length ≤ (keepG gs (R ++ [x])).length :=
  ⟨hR.add h, keepG_mono fun _ hk => hk.mono (fun _ h => List.mem_append_left _ h)⟩
theorem keep_same {gs : List Gate} {R R' : List Int} (hR : RightP gs R) (h : ∀ x, x ∈ R' ↔ x ∈ R) : RightP gs R' ∧ keepG gs R = keepG gs R' :=
  ⟨⟨fun r hr => hR.1 r ((h r).1 hr), hR.2⟩, keepG_congr fun _ => ⟨fun hk => hk.mono (fun x hx => (h x).2 hx), fun hk => hk.mono (fun x hx => (h x).1 hx)⟩⟩
theorem keep_kid {gs : List Gate} {R R' : List Int} (hR : RightP gs R) (h : ∀ x, x ∈ R' ↔ x ∈ R) {r : Int} (hr : r ∈ R) {n : Nat} (hn : n < (List.getD gs r.toNat ((0, 0, [], ()) : Gate)).2.2.1.length) : RightP gs (R' ++ [(List.getD gs r.toNat ((0, 0, [], ()) : Gate)).2.2.1.getD n 0]) ∧ keepG gs R = keepG gs (R' ++ [(List.getD gs r.toNat ((0, 0, [], ()) : Gate)).2.2.1.getD n 0]) := by
  have h0 := hR.1 r hr
  have hm := getD_mem (d := 0) hn
  have hlt := kid_lt hR.2 (show r.toNat < gs.length by omega) hm
  have hk : Reach gs R ((List.getD gs r.toNat ((0, 0, [], ()) : Gate)).2.2.1.getD n 0).toNat := .kid (.root hr) (by omega) hm
  refine ⟨(keep_same hR h).1.add ⟨hlt.1, by omega⟩, keepG_congr fun k => ⟨fun hk => hk.mono (fun x hx => List.mem_append_left _ ((h x).2 hx)), fun hk' => reach_of (fun x hx => ?_) hk'⟩⟩
  rcases List.mem_append.1 hx with hx | hx
  · exact .root ((h x).1 hx)
  · simp only [List.mem_singleton] at hx
    rw [hx]; exact hk

@[reducible] noncomputable def S_law18_ReapRoots : Spec := { ins := (.cons (.d tCirc) (.cons (.d (.sl tInt)) (.cons (.d tBy) (.cons (.d tBy) .nil)))), pre := fun _ => True, alts := [{ outs := (.cons (.d .bool) .nil), res := (fun x => (fun c roots which more => (true, ())) x.1 x.2.1 x.2.2.1 x.2.2.2.1) }] }
set_option maxRecDepth 100000 in
set_option maxHeartbeats 4000000 in
theorem g_law18_ReapRoots : ∀ x, S_law18_ReapRoots.pre x → shOK S_law18_ReapRoots.ins x → fnGoal (cf_law18_ReapRoots (Fl [(fi_law18_head, S_law18_head), (fi_law18_few, S_law18_few), (fi_reap_Keep, S_keep_two), (fi_ref16_Same, S_ref16_Same)])) fn_law18_ReapRoots S_law18_ReapRoots x := by
  rintro ⟨⟨gs, ⟨⟩⟩, roots, which, more, ⟨⟩⟩ hpre hok
  clear hpre
  have hln := shLn_of _ hok; replace hok := Hd.mk hok; try simp only [shLn, datLn, inRng, lo, hi, maxLen, true_and, and_true] at hln
  conv => whnf
  repeat' (first | (with_reducible refine And.intro ?_ ?_) | ((with_reducible refine gv_more ?_); conv => whnf) | (intro hc; (try dsimp only [Dat, SDat, dflt, Ty.size, keepS, bkUpd, Gv.bk, backS, wayA, maxI, minI, negI] at hc); (try simp only [Int.toNat_natCast, Int.toNat_zero, Int.toNat_one, Classical.not_not, boolOf_true, decide_eq_true_eq, decide_eq_false_iff_not, ne_eq, true_implies, not_true_eq_false, not_false_eq_true, Bool.not_eq_true, Prod.mk.injEq, and_true, true_and, forall_const, preA_f, selB_0, selB_1, boolOf_eq_false, rep1, rep2, rep3, List.length_set, List.length_append, List.length_map, List.length_cons, List.length_nil, List.length_replicate, Nat.zero_add, Nat.add_zero] at hc)))
  all_goals (try ((fail_if_success refine Exists.intro ([] : List (Nat × Sh)) ?_); (fail_if_success refine Exists.intro (0 : Nat) (Exists.intro (_ : Alt _) ?_)); (try dsimp only [Dat, SDat, dflt, Ty.size, keepS, bkUpd, Gv.bk, backS, wayA, maxI, minI, negI]); (try simp only [Int.toNat_natCast, Int.toNat_zero, Int.toNat_one, Classical.not_not, boolOf_true, decide_eq_true_eq, decide_eq_false_iff_not, ne_eq, true_implies, not_true_eq_false, not_false_eq_true, Bool.not_eq_true, Prod.mk.injEq, and_true, true_and, forall_const, preA_f, selB_0, selB_1, boolOf_eq_false, rep1, rep2, rep3, List.length_set, List.length_append, List.length_map, List.length_cons, List.length_nil, List.length_replicate, Nat.zero_add, Nat.add_zero]); first | done | exact trivial | rfl | omega | exact boolOf_eq _ | (simp only [allP, lo, hi, room, true_and, and_true, implies_true]; done) | ((try simp only [allP, lo, hi, room, true_and, and_true, implies_true]); (repeat' (first | (with_reducible refine And.intro ?_ ?_) | ((with_reducible refine preA_t ?_ ?_); rotate_left; (focus (repeat (first | exact trivial | ((conv => whnf); refine And.intro (by rfl) ?_))))) | intro hv)) <;> (try omega))))
  all_goals (try (exfalso; simp at hc; done))
  all_goals (try ((fail_if_success refine Exists.intro ([] : List (Nat × Sh)) ?_); (fail_if_success refine Exists.intro (0 : Nat) (Exists.intro (_ : Alt _) ?_)); rename ¬ (_ ∨ _) => hq; have hF : FewP gs roots 0 := Classical.byContradiction (fun h => hq (.inl h)); first | exact Nat.le_trans (hF.1.2 _ (by assumption)) (by decide) | (have := hF.2.1; omega)))
  rename ¬ (_ ∨ _) => hq
  have hF : FewP gs roots 0 := Classical.byContradiction (fun h => hq (.inl h))
  have hl0 : ¬ (List.length roots : Int) = 0 := fun h => hq (.inr h)
  rename RightP gs roots => hR
  have hrl := hF.2.1
  have hV := hR.2
  have hgl := hV.1
  have hS : ∀ g ∈ gs, g.2.2.1.length ≤ 1000000 := fun g hg => Nat.le_trans (hF.1.2 g hg) (by decide)
  have hr0 := fun k h => hR.1 _ (getD_mem (l := roots) (d := 0) (k := k) h)
  clear hc
  refine ⟨[(13, .spare tInt), (14, .d tInt)], [], fun y => ∃ k : Nat, y.1.2.1 = (k : Int) - 1 ∧ k ≤ roots.length ∧ y.1.1.length = roots.length - k ∧ (∀ x ∈ y.1.1, x ∈ roots) ∧ ∀ x ∈ roots.drop k, x ∈ y.1.1, fun y => (y.1.2.1 + 1).toNat, ?_⟩
  conv => whnf
  refine And.intro ?_ ?_
  · exact ⟨roots.length, rfl, Nat.le_refl _, by simp, by simp, by simp⟩
  rintro ⟨⟨turned, _, ⟨⟩⟩, ⟨⟩⟩ ⟨k, rfl, hk, htl, ht1, ht2⟩
  dsimp only at htl ht1 ht2
  have e1 : ((k : Int) - 1).toNat = k - 1 := by omega
  have hq := tmod_rng (a := which) (n := (roots.length : Int)) (by omega) (by omega)
  have hr1 := hr0 (Int.tmod which (roots.length : Int)).toNat (by omega)
  have hrm := getD_mem (l := roots) (d := 0) (k := (Int.tmod which (roots.length : Int)).toNat) (by omega)
  have hq1 := tmod_rng (a := more) (n := (gs.length : Int)) (by omega) (by omega)
  obtain ⟨r, hrd⟩ : ∃ r, r = roots.getD (Int.tmod which (roots.length : Int)).toNat 0 := ⟨_, rfl⟩
  rw [← hrd] at hr1 hrm
  have hkids : (List.getD gs r.toNat ((0, 0, [], ()) : Gate)).2.2.1.length ≤ 1000000 := hS _ (getD_mem (by omega))
  have hq2 : 0 < ((List.getD gs r.toNat ((0, 0, [], ()) : Gate)).2.2.1.length : Int) → _ := fun h => tmod_rng (a := more) (n := ((List.getD gs r.toNat ((0, 0, [], ()) : Gate)).2.2.1.length : Int)) (by omega) h
  have hadd := fun x h => keep_add hR (x := x) h
  by_cases hk0 : k = 0
  · subst hk0
    have hsame : ∀ x, x ∈ turned ↔ x ∈ roots := fun x => ⟨ht1 x, fun h => ht2 x (by simpa using h)⟩
    have htu := keep_same hR hsame
    have hkid := fun (n : Nat) h => keep_kid hR hsame hrm (n := n) h
    repeat' (first | (with_reducible refine And.intro ?_ ?_) | ((with_reducible refine gv_more ?_); conv => whnf) | (intro hc; (try dsimp only [Dat, SDat, dflt, Ty.size, keepS, bkUpd, Gv.bk, backS, wayA, maxI, minI, negI] at hc); (try simp only [Int.toNat_natCast, Int.toNat_zero, Int.toNat_one, Classical.not_not, boolOf_true, decide_eq_true_eq, decide_eq_false_iff_not, ne_eq, true_implies, not_true_eq_false, not_false_eq_true, Bool.not_eq_true, Prod.mk.injEq, and_true, true_and, forall_const, preA_f, selB_0, selB_1, boolOf_eq_false, rep1, rep2, rep3, List.length_set, List.length_append, List.length_map, List.length_cons, List.length_nil, List.length_replicate, Nat.zero_add, Nat.add_zero] at hc)))
    all_goals (try ((fail_if_success refine Exists.intro ([] : List (Nat × Sh)) ?_); (fail_if_success refine Exists.intro (0 : Nat) (Exists.intro (_ : Alt _) ?_)); (try dsimp only [Dat, SDat, dflt, Ty.size, keepS, bkUpd, Gv.bk, backS, wayA, maxI, minI, negI]); (try simp only [Int.toNat_natCast, Int.toNat_zero, Int.toNat_one, Classical.not_not, boolOf_true, decide_eq_true_eq, decide_eq_false_iff_not, ne_eq, true_implies, not_true_eq_false, not_false_eq_true, Bool.not_eq_true, Prod.mk.injEq, and_true, true_and, forall_const, preA_f, selB_0, selB_1, boolOf_eq_false, rep1, rep2, rep3, List.length_set, List.length_append, List.length_map, List.length_cons, List.length_nil, List.length_replicate, Nat.zero_add, Nat.add_zero]); first | done | exact trivial | rfl | omega | exact boolOf_eq _ | (simp only [allP, lo, hi, room, true_and, and_true, implies_true]; done) | ((try simp only [allP, lo, hi, room, true_and, and_true, implies_true]); (repeat' (first | (with_reducible refine And.intro ?_ ?_) | ((with_reducible refine preA_t ?_ ?_); rotate_left; (focus (repeat (first | exact trivial | ((conv => whnf); refine And.intro (by rfl) ?_))))) | intro hv)) <;> (try omega))))
    all_goals (try ((fail_if_success refine Exists.intro ([] : List (Nat × Sh)) ?_); (fail_if_success refine Exists.intro (0 : Nat) (Exists.intro (_ : Alt _) ?_)); simp only [← hrd] at *))
    all_goals (try ((fail_if_success refine Exists.intro ([] : List (Nat × Sh)) ?_); (fail_if_success refine Exists.intro (0 : Nat) (Exists.intro (_ : Alt _) ?_)); first | exact hS _ (by assumption) | omega | (have := hq2 (by omega); omega)))
    all_goals (try (exfalso; simp at hc; done))
    all_goals (try (exfalso; first | (rename ¬ RightP gs (_ ++ roots ++ _) => hn; exact hn (hadd _ hq1).1) | (rename ¬ RightP gs (turned ++ _) => hn; exact hn (hkid _ (by have := hq2 (by omega); omega)).1) | (rename ¬ RightP gs turned => hn; exact hn htu.1)))
    all_goals (first | exact htu.2 | exact (hkid _ (by have := hq2 (by omega); omega)).2 | exact (hadd _ hq1).2 | (simp only [List.replicate_zero, List.nil_append]; have := (hadd _ hq1).2; omega))
  · repeat' (first | (with_reducible refine And.intro ?_ ?_) | ((with_reducible refine gv_more ?_); conv => whnf) | (intro hc; (try dsimp only [Dat, SDat, dflt, Ty.size, keepS, bkUpd, Gv.bk, backS, wayA, maxI, minI, negI] at hc); (try simp only [Int.toNat_natCast, Int.toNat_zero, Int.toNat_one, Classical.not_not, boolOf_true, decide_eq_true_eq, decide_eq_false_iff_not, ne_eq, true_implies, not_true_eq_false, not_false_eq_true, Bool.not_eq_true, Prod.mk.injEq, and_true, true_and, forall_const, preA_f, selB_0, selB_1, boolOf_eq_false, rep1, rep2, rep3, List.length_set, List.length_append, List.length_map, List.length_cons, List.length_nil, List.length_replicate, Nat.zero_add, Nat.add_zero] at hc)))
    all_goals (try ((fail_if_success refine Exists.intro ([] : List (Nat × Sh)) ?_); (fail_if_success refine Exists.intro (0 : Nat) (Exists.intro (_ : Alt _) ?_)); (try dsimp only [Dat, SDat, dflt, Ty.size, keepS, bkUpd, Gv.bk, backS, wayA, maxI, minI, negI]); (try simp only [Int.toNat_natCast, Int.toNat_zero, Int.toNat_one, Classical.not_not, boolOf_true, decide_eq_true_eq, decide_eq_false_iff_not, ne_eq, true_implies, not_true_eq_false, not_false_eq_true, Bool.not_eq_true, Prod.mk.injEq, and_true, true_and, forall_const, preA_f, selB_0, selB_1, boolOf_eq_false, rep1, rep2, rep3, List.length_set, List.length_append, List.length_map, List.length_cons, List.length_nil, List.length_replicate, Nat.zero_add, Nat.add_zero]); first | done | exact trivial | rfl | omega | exact boolOf_eq _ | (simp only [allP, lo, hi, room, true_and, and_true, implies_true]; done) | ((try simp only [allP, lo, hi, room, true_and, and_true, implies_true]); (repeat' (first | (with_reducible refine And.intro ?_ ?_) | ((with_reducible refine preA_t ?_ ?_); rotate_left; (focus (repeat (first | exact trivial | ((conv => whnf); refine And.intro (by rfl) ?_))))) | intro hv)) <;> (try omega))))
    all_goals (try (exfalso; omega))
    · refine ⟨k - 1, by omega, by omega, by omega, fun x hx => ?_, fun x hx => ?_⟩
      · rcases List.mem_append.1 hx with hx | hx
        · exact ht1 x hx
        · simp only [List.mem_singleton] at hx
          rw [hx, e1]
          exact getD_mem (by omega)
      · rw [drop_pred (by omega)] at hx
        rcases List.mem_cons.1 hx with hx | hx
        · rw [hx, e1]; exact List.mem_append_right _ (by simp)
        · exact List.mem_append_left _ (ht2 x hx)
set_option maxRecDepth 100000 in
theorem ok_law18_ReapRoots : SpecOK SP glob fi_law18_ReapRoots S_law18_ReapRoots := mk_ok (c := (cf_law18_ReapRoots (Fl [(fi_law18_head, S_law18_head), (fi_law18_few, S_law18_few), (fi_reap_Keep, S_keep_two), (fi_ref16_Same, S_ref16_Same)]))) (tab_ok _) mix_ok wf_law18_ReapRoots (by decide) (.cons ok_law18_head (.cons ok_law18_few (.cons ok_keep_two (.cons ok_ref16_Same .nil)))) (fun x hx => Nat.zero_lt_one) g_law18_ReapRoots
end Go.Gv
