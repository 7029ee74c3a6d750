/- ReapMatchesReference: its function answers true. -/
import Derived.Test.YtnnifeeieoghfaaDoorL18
set_option linter.all false
namespace Go.Gv
open Go Go.Proofs Go.Proofs.YtnnifeeieoghfaaDoor

@[reducible] noncomputable def S_law18_ReapMatchesReference : Spec := { ins := (.cons (.d tCirc) (.cons (.d (.sl tInt)) (.cons (.d (.sl tOp)) .nil))), pre := fun _ => True, alts := [{ outs := (.cons (.d .bool) .nil), res := (fun x => (fun c roots l => (true, ())) x.1 x.2.1 x.2.2.1) }] }
set_option maxRecDepth 100000 in
set_option maxHeartbeats 4000000 in
theorem g_law18_ReapMatchesReference : ∀ x, S_law18_ReapMatchesReference.pre x → shOK S_law18_ReapMatchesReference.ins x → fnGoal { cf_law18_ReapMatchesReference (Fl [(fi_law18_head, S_law18_head), (fi_law18_few, S_law18_few), (fi_reap_Keep, S_reap_Keep), (fi_ref18_Keep, S_ref18_Keep), (fi_reap_Start, S_reap_Start), (fi_ref18_Start, S_ref18_Start), (fi_ref16_Same, S_ref16_Same), (fi_ref06_Ints, S_ref06_Ints), (fi_reap_Sweep_Add, S_reap_Sweep_Add), (fi_reap_Sweep_Add, S_reap_Add_nil), (fi_ref18_Sweep_Add, S_ref18_Sweep_Add), (fi_ref18_Sweep_Add, S_ref18_Add_nil), (fi_reap_Sweep_Step, S_reap_Sweep_Step), (fi_reap_Sweep_Step, S_reap_Step_nil), (fi_ref18_Sweep_Step, S_ref18_Sweep_Step), (fi_ref18_Sweep_Step, S_ref18_Step_nil), (fi_reap_Sweep_Result, S_reap_Sweep_Result), (fi_reap_Sweep_Result, S_reap_Result_nil), (fi_ref18_Sweep_Result, S_ref18_Sweep_Result), (fi_ref18_Sweep_Result, S_ref18_Result_nil)]) with spl := [96, 120] } fn_law18_ReapMatchesReference S_law18_ReapMatchesReference x := by
  rintro ⟨⟨gs, ⟨⟩⟩, roots, l, ⟨⟩⟩ hpre hok
  clear hpre
  have hln := shLn_of _ hok; replace hok := Hd.mk hok; try simp only [shLn, datLn, inRng, lo, hi, maxLen, true_and, and_true] at hln
  conv => whnf
  repeat' (first | (with_reducible refine And.intro ?_ ?_) | ((with_reducible refine gv_more ?_); conv => whnf) | (intro hc; (try dsimp only [Dat, SDat, dflt, Ty.size, keepS, bkUpd, Gv.bk, backS, wayA, maxI, minI, negI] at hc); (try simp only [Int.toNat_natCast, Int.toNat_zero, Int.toNat_one, Classical.not_not, boolOf_true, decide_eq_true_eq, decide_eq_false_iff_not, ne_eq, true_implies, not_true_eq_false, not_false_eq_true, Bool.not_eq_true, Prod.mk.injEq, and_true, true_and, forall_const, preA_f, selB_0, selB_1, boolOf_eq_false, rep1, rep2, rep3, List.length_set, List.length_append, List.length_map, List.length_cons, List.length_nil, List.length_replicate, Nat.zero_add, Nat.add_zero] at hc)))
  all_goals (try ((fail_if_success refine Exists.intro ([] : List (Nat × Sh)) ?_); (fail_if_success refine Exists.intro (0 : Nat) (Exists.intro (_ : Alt _) ?_)); (try dsimp only [Dat, SDat, dflt, Ty.size, keepS, bkUpd, Gv.bk, backS, wayA, maxI, minI, negI]); (try simp only [Int.toNat_natCast, Int.toNat_zero, Int.toNat_one, Classical.not_not, boolOf_true, decide_eq_true_eq, decide_eq_false_iff_not, ne_eq, true_implies, not_true_eq_false, not_false_eq_true, Bool.not_eq_true, Prod.mk.injEq, and_true, true_and, forall_const, preA_f, selB_0, selB_1, boolOf_eq_false, rep1, rep2, rep3, List.length_set, List.length_append, List.length_map, List.length_cons, List.length_nil, List.length_replicate, Nat.zero_add, Nat.add_zero]); first | done | exact trivial | rfl | omega | exact boolOf_eq _ | (simp only [allP, lo, hi, room, true_and, and_true, implies_true]; done) | ((try simp only [allP, lo, hi, room, true_and, and_true, implies_true]); (repeat' (first | (with_reducible refine And.intro ?_ ?_) | ((with_reducible refine preA_t ?_ ?_); rotate_left; (focus (repeat (first | exact trivial | ((conv => whnf); refine And.intro (by rfl) ?_))))) | intro hv)) <;> (try omega))))
  all_goals (try (exfalso; contradiction))
  all_goals (try ((fail_if_success refine Exists.intro ([] : List (Nat × Sh)) ?_); (fail_if_success refine Exists.intro (0 : Nat) (Exists.intro (_ : Alt _) ?_)); rename FewP gs roots _ => hF; first | exact Nat.le_trans (hF.1.2 _ (by assumption)) (by decide) | (have := hF.2.1; omega)))
  all_goals (try (exfalso; simp at hc; done))
  all_goals (rename FewP gs roots _ => hF; have hll := hF.2.2; have hrl := hF.2.1)
  · refine ⟨[(18, .d tInt)], [], fun y => ∃ k : Nat, y.1.1 = (k : Int) ∧ k ≤ l.length, fun y => l.length - y.1.1.toNat, ?_⟩
    conv => whnf
    refine And.intro ?_ ?_
    · exact ⟨0, rfl, Nat.zero_le _⟩
    rintro ⟨⟨_, ⟨⟩⟩, ⟨⟩⟩ ⟨k, rfl, hk⟩
    repeat' (first | (with_reducible refine And.intro ?_ ?_) | ((with_reducible refine gv_more ?_); conv => whnf) | (intro hc; (try dsimp only [Dat, SDat, dflt, Ty.size, keepS, bkUpd, Gv.bk, backS, wayA, maxI, minI, negI] at hc); (try simp only [Int.toNat_natCast, Int.toNat_zero, Int.toNat_one, Classical.not_not, boolOf_true, decide_eq_true_eq, decide_eq_false_iff_not, ne_eq, true_implies, not_true_eq_false, not_false_eq_true, Bool.not_eq_true, Prod.mk.injEq, and_true, true_and, forall_const, preA_f, selB_0, selB_1, boolOf_eq_false, rep1, rep2, rep3, List.length_set, List.length_append, List.length_map, List.length_cons, List.length_nil, List.length_replicate, Nat.zero_add, Nat.add_zero] at hc)))
    all_goals (try ((fail_if_success refine Exists.intro ([] : List (Nat × Sh)) ?_); (fail_if_success refine Exists.intro (0 : Nat) (Exists.intro (_ : Alt _) ?_)); (try dsimp only [Dat, SDat, dflt, Ty.size, keepS, bkUpd, Gv.bk, backS, wayA, maxI, minI, negI]); (try simp only [Int.toNat_natCast, Int.toNat_zero, Int.toNat_one, Classical.not_not, boolOf_true, decide_eq_true_eq, decide_eq_false_iff_not, ne_eq, true_implies, not_true_eq_false, not_false_eq_true, Bool.not_eq_true, Prod.mk.injEq, and_true, true_and, forall_const, preA_f, selB_0, selB_1, boolOf_eq_false, rep1, rep2, rep3, List.length_set, List.length_append, List.length_map, List.length_cons, List.length_nil, List.length_replicate, Nat.zero_add, Nat.add_zero]); first | done | exact trivial | rfl | omega | exact boolOf_eq _ | (simp only [allP, lo, hi, room, true_and, and_true, implies_true]; done) | ((try simp only [allP, lo, hi, room, true_and, and_true, implies_true]); (repeat' (first | (with_reducible refine And.intro ?_ ?_) | ((with_reducible refine preA_t ?_ ?_); rotate_left; (focus (repeat (first | exact trivial | ((conv => whnf); refine And.intro (by rfl) ?_))))) | intro hv)) <;> (try omega))))
    all_goals (try (exfalso; contradiction))
    all_goals (try (exfalso; simp at hc; done))
    all_goals (try exact ⟨k + 1, by omega, by omega⟩)
  · rename RightP gs roots => hR0
    refine ⟨[(18, .d tInt)], [(2, (.cons (.d (.sl tGate)) (.cons (.spare tInt) (.cons (.map tInt .bool) (.cons (.spare tInt) .nil))))), (6, (.cons (.d (.sl tGate)) (.cons (.spare tInt) (.cons (.d tInt) .nil))))], fun y => ∃ (k : Nat) (R pr : List Int) (m : List (Int × Bool)) (w : List Int), y.1.1 = (k : Int) ∧ k ≤ l.length ∧ (gs, R, m, w, ()) = y.2.1 ∧ (gs, R, (pr.length : Int), ()) = y.2.2.1 ∧ R.length ≤ 60 + k ∧ RightP gs R ∧ Inv gs R pr (m, w), fun y => l.length - y.1.1.toNat, ?_⟩
    conv => whnf
    refine And.intro ?_ ?_
    · exact ⟨0, roots, [], _, _, rfl, Nat.zero_le _, rfl, rfl, by omega, hR0, Inv.start hR0⟩
    rintro ⟨⟨_, ⟨⟩⟩, ⟨gs1, R1, m1, w1, ⟨⟩⟩, ⟨gs2, R2, M2, ⟨⟩⟩, ⟨⟩⟩ ⟨k, R, pr, m, w, rfl, hk, h1, h2, hRl, hR, hI⟩
    dsimp only at h1 h2
    simp only [Prod.mk.injEq, and_true] at h1 h2
    obtain ⟨rfl, rfl, rfl, rfl⟩ := h1
    obtain ⟨rfl, rfl, rfl⟩ := h2
    have hM := hI.mwok
    have hMl : w.length ≤ gs.length := hM.len
    have hV := hR.2
    have hle := hI.le
    have hck := cntK_le gs R
    have hgl := hV.1
    have hS : ∀ g ∈ gs, g.2.2.1.length ≤ 1000000 := fun g hg => Nat.le_trans (hF.1.2 g hg) (by decide)
    rcases Bool.eq_false_or_eq_true (l.getD k (false, 0, ())).1 with hb | hb
    · by_cases hin : 0 ≤ (l.getD k (false, 0, ())).2.1 ∧ (l.getD k (false, 0, ())).2.1 < (gs.length : Int)
      · have hI2 := hI.add hin
        have hR2 := hR.add hin
        have hM2 := hI2.mwok
        have hres := Inv.res (m := (pushF (m, w) (l.getD k (false, 0, ())).2.1).1) (w := (pushF (m, w) (l.getD k (false, 0, ())).2.1).2) hI2 hR2
        have hle2 := hI2.le
        repeat' (first | (with_reducible refine And.intro ?_ ?_) | ((with_reducible refine gv_more ?_); conv => whnf) | (intro hc; (try dsimp only [Dat, SDat, dflt, Ty.size, keepS, bkUpd, Gv.bk, backS, wayA, maxI, minI, negI] at hc); (try simp only [Int.toNat_natCast, Int.toNat_zero, Int.toNat_one, Classical.not_not, boolOf_true, decide_eq_true_eq, decide_eq_false_iff_not, ne_eq, true_implies, not_true_eq_false, not_false_eq_true, Bool.not_eq_true, Prod.mk.injEq, and_true, true_and, forall_const, preA_f, selB_0, selB_1, boolOf_eq_false, rep1, rep2, rep3, List.length_set, List.length_append, List.length_map, List.length_cons, List.length_nil, List.length_replicate, Nat.zero_add, Nat.add_zero] at hc)))
        all_goals (try ((fail_if_success refine Exists.intro ([] : List (Nat × Sh)) ?_); (fail_if_success refine Exists.intro (0 : Nat) (Exists.intro (_ : Alt _) ?_)); (try dsimp only [Dat, SDat, dflt, Ty.size, keepS, bkUpd, Gv.bk, backS, wayA, maxI, minI, negI]); (try simp only [Int.toNat_natCast, Int.toNat_zero, Int.toNat_one, Classical.not_not, boolOf_true, decide_eq_true_eq, decide_eq_false_iff_not, ne_eq, true_implies, not_true_eq_false, not_false_eq_true, Bool.not_eq_true, Prod.mk.injEq, and_true, true_and, forall_const, preA_f, selB_0, selB_1, boolOf_eq_false, rep1, rep2, rep3, List.length_set, List.length_append, List.length_map, List.length_cons, List.length_nil, List.length_replicate, Nat.zero_add, Nat.add_zero]); first | done | exact trivial | rfl | omega | exact boolOf_eq _ | (simp only [allP, lo, hi, room, true_and, and_true, implies_true]; done) | ((try simp only [allP, lo, hi, room, true_and, and_true, implies_true]); (repeat' (first | (with_reducible refine And.intro ?_ ?_) | ((with_reducible refine preA_t ?_ ?_); rotate_left; (focus (repeat (first | exact trivial | ((conv => whnf); refine And.intro (by rfl) ?_))))) | intro hv)) <;> (try omega))))
        all_goals (try (exfalso; simp only [hb, Bool.false_eq_true, Bool.true_eq_false] at *; done))
        all_goals (try ((fail_if_success refine Exists.intro ([] : List (Nat × Sh)) ?_); (fail_if_success refine Exists.intro (0 : Nat) (Exists.intro (_ : Alt _) ?_)); simp only [if_pos hin, hb] at *))
        all_goals (try ((fail_if_success refine Exists.intro ([] : List (Nat × Sh)) ?_); (fail_if_success refine Exists.intro (0 : Nat) (Exists.intro (_ : Alt _) ?_)); first | exact hS _ (by assumption) | exact (hR2.1 _ (by assumption)).1 | exact (hR2.1 _ (by assumption)).2 | exact hR2 | exact hV | exact hM2 | exact hM | (simp only [List.length_append, List.length_cons, List.length_nil]; omega) | omega | (rename False ∨ False => h0; simp at h0)))
        · by_cases hw : (pushF (m, w) (l.getD k (false, 0, ())).2.1).2 = []
          · have h1 := hres.1.1 hw
            obtain ⟨e1, e2⟩ := hres.2 hw
            simp only [hw, h1, e1, e2, if_true, if_false, not_true_eq_false, or_self] at hc
          · have h1 := Classical.not_not.1 (fun h => hw (hres.1.2 h))
            simp only [hw, h1, if_true, if_false, not_true_eq_false, or_self] at hc
        · exact ⟨k + 1, _, pr, _, _, by omega, by omega, ⟨rfl, rfl, rfl⟩, ⟨rfl, rfl⟩, by (simp only [List.length_append, List.length_cons, List.length_nil]; omega), hR2, hI2⟩
      · have hres := hI.res hR
        repeat' (first | (with_reducible refine And.intro ?_ ?_) | ((with_reducible refine gv_more ?_); conv => whnf) | (intro hc; (try dsimp only [Dat, SDat, dflt, Ty.size, keepS, bkUpd, Gv.bk, backS, wayA, maxI, minI, negI] at hc); (try simp only [Int.toNat_natCast, Int.toNat_zero, Int.toNat_one, Classical.not_not, boolOf_true, decide_eq_true_eq, decide_eq_false_iff_not, ne_eq, true_implies, not_true_eq_false, not_false_eq_true, Bool.not_eq_true, Prod.mk.injEq, and_true, true_and, forall_const, preA_f, selB_0, selB_1, boolOf_eq_false, rep1, rep2, rep3, List.length_set, List.length_append, List.length_map, List.length_cons, List.length_nil, List.length_replicate, Nat.zero_add, Nat.add_zero] at hc)))
        all_goals (try ((fail_if_success refine Exists.intro ([] : List (Nat × Sh)) ?_); (fail_if_success refine Exists.intro (0 : Nat) (Exists.intro (_ : Alt _) ?_)); (try dsimp only [Dat, SDat, dflt, Ty.size, keepS, bkUpd, Gv.bk, backS, wayA, maxI, minI, negI]); (try simp only [Int.toNat_natCast, Int.toNat_zero, Int.toNat_one, Classical.not_not, boolOf_true, decide_eq_true_eq, decide_eq_false_iff_not, ne_eq, true_implies, not_true_eq_false, not_false_eq_true, Bool.not_eq_true, Prod.mk.injEq, and_true, true_and, forall_const, preA_f, selB_0, selB_1, boolOf_eq_false, rep1, rep2, rep3, List.length_set, List.length_append, List.length_map, List.length_cons, List.length_nil, List.length_replicate, Nat.zero_add, Nat.add_zero]); first | done | exact trivial | rfl | omega | exact boolOf_eq _ | (simp only [allP, lo, hi, room, true_and, and_true, implies_true]; done) | ((try simp only [allP, lo, hi, room, true_and, and_true, implies_true]); (repeat' (first | (with_reducible refine And.intro ?_ ?_) | ((with_reducible refine preA_t ?_ ?_); rotate_left; (focus (repeat (first | exact trivial | ((conv => whnf); refine And.intro (by rfl) ?_))))) | intro hv)) <;> (try omega))))
        all_goals (try (exfalso; simp only [hb, Bool.false_eq_true, Bool.true_eq_false] at *; done))
        all_goals (try ((fail_if_success refine Exists.intro ([] : List (Nat × Sh)) ?_); (fail_if_success refine Exists.intro (0 : Nat) (Exists.intro (_ : Alt _) ?_)); simp only [if_neg hin, hb] at *))
        all_goals (try ((fail_if_success refine Exists.intro ([] : List (Nat × Sh)) ?_); (fail_if_success refine Exists.intro (0 : Nat) (Exists.intro (_ : Alt _) ?_)); first | exact hS _ (by assumption) | exact (hR.1 _ (by assumption)).1 | exact (hR.1 _ (by assumption)).2 | exact hR | exact hV | exact hM | exact hM | (simp only [List.length_append, List.length_cons, List.length_nil]; omega) | omega | (rename False ∨ False => h0; simp at h0)))
        · by_cases hw : w = []
          · have h1 := hres.1.1 hw
            obtain ⟨e1, e2⟩ := hres.2 hw
            simp only [hw, h1, e1, e2, if_true, if_false, not_true_eq_false, or_self] at hc
          · have h1 := Classical.not_not.1 (fun h => hw (hres.1.2 h))
            simp only [hw, h1, if_true, if_false, not_true_eq_false, or_self] at hc
        · exact ⟨k + 1, _, pr, _, _, by omega, by omega, ⟨rfl, rfl, rfl⟩, ⟨rfl, rfl⟩, by omega, hR, hI⟩
    · obtain ⟨pr', hI2, hl2⟩ := hI.steps hR (l.getD k (false, 0, ())).2.1
      have hM2 := hI2.mwok
      have hres := hI2.res hR
      repeat' (first | (with_reducible refine And.intro ?_ ?_) | ((with_reducible refine gv_more ?_); conv => whnf) | (intro hc; (try dsimp only [Dat, SDat, dflt, Ty.size, keepS, bkUpd, Gv.bk, backS, wayA, maxI, minI, negI] at hc); (try simp only [Int.toNat_natCast, Int.toNat_zero, Int.toNat_one, Classical.not_not, boolOf_true, decide_eq_true_eq, decide_eq_false_iff_not, ne_eq, true_implies, not_true_eq_false, not_false_eq_true, Bool.not_eq_true, Prod.mk.injEq, and_true, true_and, forall_const, preA_f, selB_0, selB_1, boolOf_eq_false, rep1, rep2, rep3, List.length_set, List.length_append, List.length_map, List.length_cons, List.length_nil, List.length_replicate, Nat.zero_add, Nat.add_zero] at hc)))
      all_goals (try ((fail_if_success refine Exists.intro ([] : List (Nat × Sh)) ?_); (fail_if_success refine Exists.intro (0 : Nat) (Exists.intro (_ : Alt _) ?_)); (try dsimp only [Dat, SDat, dflt, Ty.size, keepS, bkUpd, Gv.bk, backS, wayA, maxI, minI, negI]); (try simp only [Int.toNat_natCast, Int.toNat_zero, Int.toNat_one, Classical.not_not, boolOf_true, decide_eq_true_eq, decide_eq_false_iff_not, ne_eq, true_implies, not_true_eq_false, not_false_eq_true, Bool.not_eq_true, Prod.mk.injEq, and_true, true_and, forall_const, preA_f, selB_0, selB_1, boolOf_eq_false, rep1, rep2, rep3, List.length_set, List.length_append, List.length_map, List.length_cons, List.length_nil, List.length_replicate, Nat.zero_add, Nat.add_zero]); first | done | exact trivial | rfl | omega | exact boolOf_eq _ | (simp only [allP, lo, hi, room, true_and, and_true, implies_true]; done) | ((try simp only [allP, lo, hi, room, true_and, and_true, implies_true]); (repeat' (first | (with_reducible refine And.intro ?_ ?_) | ((with_reducible refine preA_t ?_ ?_); rotate_left; (focus (repeat (first | exact trivial | ((conv => whnf); refine And.intro (by rfl) ?_))))) | intro hv)) <;> (try omega))))
      all_goals (try (exfalso; contradiction))
      all_goals (try (exfalso; simp only [hb, Bool.false_eq_true, Bool.true_eq_false] at *; done))
      all_goals (try ((fail_if_success refine Exists.intro ([] : List (Nat × Sh)) ?_); (fail_if_success refine Exists.intro (0 : Nat) (Exists.intro (_ : Alt _) ?_)); first | exact hS _ (by assumption) | exact (hR.1 _ (by assumption)).1 | exact (hR.1 _ (by assumption)).2 | exact hR | exact hV | exact hM2 | exact hM | (simp only [List.length_append, List.length_cons, List.length_nil]; omega) | omega | (rename False ∨ False => h0; simp at h0)))
      · exfalso
        refine hc ?_
        rw [← hl2]
        exact hI2.done hR
      · by_cases hw : (stepF gs (l.getD k (false, 0, ())).2.1.toNat (m, w)).2 = []
        · have h1 := hres.1.1 hw
          obtain ⟨e1, e2⟩ := hres.2 hw
          rw [hl2] at h1
          simp only [hw, h1, e1, e2, if_true, if_false, not_true_eq_false, or_self] at hc
        · have h1 := Classical.not_not.1 (fun h => hw (hres.1.2 h))
          rw [hl2] at h1
          simp only [hw, h1, if_true, if_false, not_true_eq_false, or_self] at hc
      · exact ⟨k + 1, _, pr', _, _, by omega, by omega, ⟨rfl, rfl, rfl⟩, ⟨rfl, hl2⟩, by omega, hR, hI2⟩
set_option maxRecDepth 100000 in
theorem ok_law18_ReapMatchesReference : SpecOK SP glob fi_law18_ReapMatchesReference S_law18_ReapMatchesReference := mk_ok (c := { cf_law18_ReapMatchesReference (Fl [(fi_law18_head, S_law18_head), (fi_law18_few, S_law18_few), (fi_reap_Keep, S_reap_Keep), (fi_ref18_Keep, S_ref18_Keep), (fi_reap_Start, S_reap_Start), (fi_ref18_Start, S_ref18_Start), (fi_ref16_Same, S_ref16_Same), (fi_ref06_Ints, S_ref06_Ints), (fi_reap_Sweep_Add, S_reap_Sweep_Add), (fi_reap_Sweep_Add, S_reap_Add_nil), (fi_ref18_Sweep_Add, S_ref18_Sweep_Add), (fi_ref18_Sweep_Add, S_ref18_Add_nil), (fi_reap_Sweep_Step, S_reap_Sweep_Step), (fi_reap_Sweep_Step, S_reap_Step_nil), (fi_ref18_Sweep_Step, S_ref18_Sweep_Step), (fi_ref18_Sweep_Step, S_ref18_Step_nil), (fi_reap_Sweep_Result, S_reap_Sweep_Result), (fi_reap_Sweep_Result, S_reap_Result_nil), (fi_ref18_Sweep_Result, S_ref18_Sweep_Result), (fi_ref18_Sweep_Result, S_ref18_Result_nil)]) with spl := [96, 120] }) (tab_ok _) mix_ok wf_law18_ReapMatchesReference (by decide) (.cons ok_law18_head (.cons ok_law18_few (.cons ok_reap_Keep (.cons ok_ref18_Keep (.cons ok_reap_Start (.cons ok_ref18_Start (.cons ok_ref16_Same (.cons ok_ref06_Ints (.cons ok_reap_Sweep_Add (.cons ok_reap_Add_nil (.cons ok_ref18_Sweep_Add (.cons ok_ref18_Add_nil (.cons ok_reap_Sweep_Step (.cons ok_reap_Step_nil (.cons ok_ref18_Sweep_Step (.cons ok_ref18_Step_nil (.cons ok_reap_Sweep_Result (.cons ok_reap_Result_nil (.cons ok_ref18_Sweep_Result (.cons ok_ref18_Result_nil .nil)))))))))))))))))))) (fun x hx => Nat.zero_lt_one) g_law18_ReapMatchesReference
end Go.Gv
