/- The statements of chapter 18. -/
import Derived.Test.YtnnifeeieoghfaaDoorC18c
set_option linter.all false
namespace Go.Gv
open Go Go.Proofs Go.Proofs.YtnnifeeieoghfaaDoor

def gsS : List Gate := [(2, 0, [], ()), (2, 1, [], ()), (3, 0, [0, 1], ()), (4, 0, [0, 2], ()), (2, 2, [], ())]

@[reducible] noncomputable def S_law18_sample : Spec := { ins := .nil, pre := fun _ => True, alts := [{ outs := (.cons (.d tCirc) .nil), res := (fun _ => ((gsS, ()), ())) }] }
noncomputable def c_law18_sample : Cf := (cf_law18_sample (Fl []))
set_option maxRecDepth 100000 in
set_option maxHeartbeats 4000000 in
theorem g_law18_sample : ∀ x, S_law18_sample.pre x → shOK S_law18_sample.ins x → fnGoal c_law18_sample fn_law18_sample S_law18_sample x := by
  rintro ⟨⟩ hpre hok
  clear hpre
  have hln := shLn_of _ hok; replace hok := Hd.mk hok; try simp only [shLn, datLn, inRng, lo, hi, maxLen, true_and, and_true] at hln
  first | refine fn_goal (w_head ?_) | refine w_fn (w_head ?_)
  intro K_ hK_; (conv => whnf); (try dsimp +instances only); refine hK_ _ ?_; clear hK_ K_; (conv => (arg 2; whnf))
  repeat' (first | (with_reducible refine And.intro ?_ ?_) | (first | ((with_reducible show K_ _); (try dsimp +instances only); (with_reducible refine hK_ _ ?_); clear hK_ K_) | (with_reducible refine w_seq ?_) | (with_reducible refine thenK_n ?_) | (with_reducible refine w_block ?_) | (with_reducible refine blockK_n ?_) | ((with_reducible refine w_region ?_); intro K_ hK_; (conv => whnf)) | ((with_reducible refine w_cond ?_); (conv => (arg 2; whnf)); (first | (with_reducible refine condK_p ?_ ?_) | (with_reducible refine condK_t ?_) | (with_reducible refine condK_f ?_) | (with_reducible refine condK_b ?_ ?_))) | (with_reducible refine w_skip ?_) | (with_reducible refine w_exit ?_) | (with_reducible refine w_ret ?_) | (with_reducible refine thenK_r ?_) | (with_reducible refine thenK_e ?_) | (with_reducible refine blockK_r ?_) | (with_reducible refine blockK_x ?_) | (with_reducible refine blockK_y (by rfl) ?_) | ((with_reducible refine loopK_at ?_); (conv => whnf)) | (with_reducible refine loopK_r ?_) | (with_reducible refine loopK_e ?_) | ((with_reducible refine retK_r ?_); (conv => whnf)) | ((with_reducible refine retK_n ?_); (conv => whnf)) | ((with_reducible refine w_head ?_); intro K_ hK_; (conv => whnf)) | (with_reducible refine w_label ?_)) | ((with_reducible refine gv_more ?_); (first | (first | ((with_reducible show K_ _); (try dsimp +instances only); (with_reducible refine hK_ _ ?_); clear hK_ K_) | (with_reducible refine w_seq ?_) | (with_reducible refine thenK_n ?_) | (with_reducible refine w_block ?_) | (with_reducible refine blockK_n ?_) | ((with_reducible refine w_region ?_); intro K_ hK_; (conv => whnf)) | ((with_reducible refine w_cond ?_); (conv => (arg 2; whnf)); (first | (with_reducible refine condK_p ?_ ?_) | (with_reducible refine condK_t ?_) | (with_reducible refine condK_f ?_) | (with_reducible refine condK_b ?_ ?_))) | (with_reducible refine w_skip ?_) | (with_reducible refine w_exit ?_) | (with_reducible refine w_ret ?_) | (with_reducible refine thenK_r ?_) | (with_reducible refine thenK_e ?_) | (with_reducible refine blockK_r ?_) | (with_reducible refine blockK_x ?_) | (with_reducible refine blockK_y (by rfl) ?_) | ((with_reducible refine loopK_at ?_); (conv => whnf)) | (with_reducible refine loopK_r ?_) | (with_reducible refine loopK_e ?_) | ((with_reducible refine retK_r ?_); (conv => whnf)) | ((with_reducible refine retK_n ?_); (conv => whnf)) | ((with_reducible refine w_head ?_); intro K_ hK_; (conv => whnf)) | (with_reducible refine w_label ?_)) | (conv => whnf))) | (intro hc; (try dsimp +instances only [Dat, SDat, dflt, Ty.size, keepS, bkUpd, Gv.bk, backS, wayA, maxI, minI, negI] at hc); (try simp only [Int.toNat_natCast, Int.toNat_zero, Int.toNat_one, Classical.not_not, boolOf_true, decide_eq_true_eq, decide_eq_false_iff_not, ne_eq, true_implies, not_true_eq_false, not_false_eq_true, Bool.not_eq_true, Prod.mk.injEq, and_true, true_and, forall_const, preA_f, selB_0, selB_1, boolOf_eq_false, rep1, rep2, rep3, List.length_set, List.length_append, List.length_map, List.length_cons, List.length_nil, List.length_replicate, Nat.zero_add, Nat.add_zero] at hc)))
  all_goals (try ((fail_if_success (with_reducible refine w_at ?_)); (fail_if_success refine Exists.intro (0 : Nat) (Exists.intro (_ : Alt _) ?_)); (try dsimp only [Dat, SDat, dflt, Ty.size, keepS, bkUpd, Gv.bk, backS, wayA, maxI, minI, negI]); (try simp only [Int.toNat_natCast, Int.toNat_zero, Int.toNat_one, Classical.not_not, boolOf_true, decide_eq_true_eq, decide_eq_false_iff_not, ne_eq, true_implies, not_true_eq_false, not_false_eq_true, Bool.not_eq_true, Prod.mk.injEq, and_true, true_and, forall_const, preA_f, selB_0, selB_1, boolOf_eq_false, rep1, rep2, rep3, List.length_set, List.length_append, List.length_map, List.length_cons, List.length_nil, List.length_replicate, Nat.zero_add, Nat.add_zero]); first | done | exact trivial | rfl | omega | exact boolOf_eq _ | (simp only [allP, lo, hi, room, true_and, and_true, implies_true]; done) | ((try simp only [allP, lo, hi, room, true_and, and_true, implies_true]); (repeat' (first | (with_reducible refine And.intro ?_ ?_) | ((with_reducible refine preA_t ?_ ?_); rotate_left; (focus (repeat (first | exact trivial | ((conv => whnf); refine And.intro (by rfl) ?_))))) | intro hv)) <;> (try omega))))
set_option maxRecDepth 100000 in
theorem ok_law18_sample : SpecOK SP glob fi_law18_sample S_law18_sample := mk_ok (c := c_law18_sample) (tab_ok _) mix_ok wf_law18_sample (by decide) .nil (fun x hx => Nat.zero_lt_one) g_law18_sample

@[reducible] def tOp : Ty := .st (.cs .bool (.cs (.int .i64) .nl))
def FewP (gs : List Gate) (roots : List Int) (n : Nat) : Prop := (gs.length ≤ 60 ∧ ∀ g ∈ gs, g.2.2.1.length ≤ 20) ∧ roots.length ≤ 60 ∧ n ≤ 40
@[reducible] noncomputable def S_law18_few : Spec := { ins := (.cons (.d tCirc) (.cons (.d (.sl tInt)) (.cons (.d (.sl tOp)) .nil))), pre := fun _ => True, alts := [{ outs := (.cons (.d .bool) .nil), res := (fun x => (fun c roots l => (boolOf (FewP c.1 roots l.length), ())) x.1 x.2.1 x.2.2.1) }] }
noncomputable def c_law18_few : Cf := (cf_law18_few (Fl [(fi_ref16_Few, S_ref16_Few)]))
set_option maxRecDepth 100000 in
set_option maxHeartbeats 4000000 in
theorem g_law18_few : ∀ x, S_law18_few.pre x → shOK S_law18_few.ins x → fnGoal c_law18_few fn_law18_few S_law18_few x := by
  rintro ⟨⟨gs, ⟨⟩⟩, roots, l, ⟨⟩⟩ hpre hok
  clear hpre
  have hln := shLn_of _ hok; replace hok := Hd.mk hok; try simp only [shLn, datLn, inRng, lo, hi, maxLen, true_and, and_true] at hln
  first | refine fn_goal (w_head ?_) | refine w_fn (w_head ?_)
  intro K_ hK_; (conv => whnf); (try dsimp +instances only); refine hK_ _ ?_; clear hK_ K_; (conv => (arg 2; whnf))
  repeat' (first | (with_reducible refine And.intro ?_ ?_) | (first | ((with_reducible show K_ _); (try dsimp +instances only); (with_reducible refine hK_ _ ?_); clear hK_ K_) | (with_reducible refine w_seq ?_) | (with_reducible refine thenK_n ?_) | (with_reducible refine w_block ?_) | (with_reducible refine blockK_n ?_) | ((with_reducible refine w_region ?_); intro K_ hK_; (conv => whnf)) | ((with_reducible refine w_cond ?_); (conv => (arg 2; whnf)); (first | (with_reducible refine condK_p ?_ ?_) | (with_reducible refine condK_t ?_) | (with_reducible refine condK_f ?_) | (with_reducible refine condK_b ?_ ?_))) | (with_reducible refine w_skip ?_) | (with_reducible refine w_exit ?_) | (with_reducible refine w_ret ?_) | (with_reducible refine thenK_r ?_) | (with_reducible refine thenK_e ?_) | (with_reducible refine blockK_r ?_) | (with_reducible refine blockK_x ?_) | (with_reducible refine blockK_y (by rfl) ?_) | ((with_reducible refine loopK_at ?_); (conv => whnf)) | (with_reducible refine loopK_r ?_) | (with_reducible refine loopK_e ?_) | ((with_reducible refine retK_r ?_); (conv => whnf)) | ((with_reducible refine retK_n ?_); (conv => whnf)) | ((with_reducible refine w_head ?_); intro K_ hK_; (conv => whnf)) | (with_reducible refine w_label ?_)) | ((with_reducible refine gv_more ?_); (first | (first | ((with_reducible show K_ _); (try dsimp +instances only); (with_reducible refine hK_ _ ?_); clear hK_ K_) | (with_reducible refine w_seq ?_) | (with_reducible refine thenK_n ?_) | (with_reducible refine w_block ?_) | (with_reducible refine blockK_n ?_) | ((with_reducible refine w_region ?_); intro K_ hK_; (conv => whnf)) | ((with_reducible refine w_cond ?_); (conv => (arg 2; whnf)); (first | (with_reducible refine condK_p ?_ ?_) | (with_reducible refine condK_t ?_) | (with_reducible refine condK_f ?_) | (with_reducible refine condK_b ?_ ?_))) | (with_reducible refine w_skip ?_) | (with_reducible refine w_exit ?_) | (with_reducible refine w_ret ?_) | (with_reducible refine thenK_r ?_) | (with_reducible refine thenK_e ?_) | (with_reducible refine blockK_r ?_) | (with_reducible refine blockK_x ?_) | (with_reducible refine blockK_y (by rfl) ?_) | ((with_reducible refine loopK_at ?_); (conv => whnf)) | (with_reducible refine loopK_r ?_) | (with_reducible refine loopK_e ?_) | ((with_reducible refine retK_r ?_); (conv => whnf)) | ((with_reducible refine retK_n ?_); (conv => whnf)) | ((with_reducible refine w_head ?_); intro K_ hK_; (conv => whnf)) | (with_reducible refine w_label ?_)) | (conv => whnf))) | (intro hc; (try dsimp +instances only [Dat, SDat, dflt, Ty.size, keepS, bkUpd, Gv.bk, backS, wayA, maxI, minI, negI] at hc); (try simp only [Int.toNat_natCast, Int.toNat_zero, Int.toNat_one, Classical.not_not, boolOf_true, decide_eq_true_eq, decide_eq_false_iff_not, ne_eq, true_implies, not_true_eq_false, not_false_eq_true, Bool.not_eq_true, Prod.mk.injEq, and_true, true_and, forall_const, preA_f, selB_0, selB_1, boolOf_eq_false, rep1, rep2, rep3, List.length_set, List.length_append, List.length_map, List.length_cons, List.length_nil, List.length_replicate, Nat.zero_add, Nat.add_zero] at hc)))
  all_goals (try ((fail_if_success (with_reducible refine w_at ?_)); (fail_if_success refine Exists.intro (0 : Nat) (Exists.intro (_ : Alt _) ?_)); (try dsimp only [Dat, SDat, dflt, Ty.size, keepS, bkUpd, Gv.bk, backS, wayA, maxI, minI, negI]); (try simp only [Int.toNat_natCast, Int.toNat_zero, Int.toNat_one, Classical.not_not, boolOf_true, decide_eq_true_eq, decide_eq_false_iff_not, ne_eq, true_implies, not_true_eq_false, not_false_eq_true, Bool.not_eq_true, Prod.mk.injEq, and_true, true_and, forall_const, preA_f, selB_0, selB_1, boolOf_eq_false, rep1, rep2, rep3, List.length_set, List.length_append, List.length_map, List.length_cons, List.length_nil, List.length_replicate, Nat.zero_add, Nat.add_zero]); first | done | exact trivial | rfl | omega | exact boolOf_eq _ | (simp only [allP, lo, hi, room, true_and, and_true, implies_true]; done) | ((try simp only [allP, lo, hi, room, true_and, and_true, implies_true]); (repeat' (first | (with_reducible refine And.intro ?_ ?_) | ((with_reducible refine preA_t ?_ ?_); rotate_left; (focus (repeat (first | exact trivial | ((conv => whnf); refine And.intro (by rfl) ?_))))) | intro hv)) <;> (try omega))))
  refine bC ⟨fun ⟨⟨⟨h1, h2⟩, h3⟩, h4⟩ => ⟨⟨by omega, h2⟩, by omega, by omega⟩, fun ⟨⟨h1, h2⟩, h3, h4⟩ => ⟨⟨⟨by omega, h2⟩, by omega⟩, by omega⟩⟩
set_option maxRecDepth 100000 in
theorem ok_law18_few : SpecOK SP glob fi_law18_few S_law18_few := mk_ok (c := c_law18_few) (tab_ok _) mix_ok wf_law18_few (by decide) (.cons ok_ref16_Few .nil) (fun x hx => Nat.zero_lt_one) g_law18_few

theorem validS : ValidC gsS := by
  refine ⟨by decide, fun m hm => ?_⟩
  have hm : m = 0 ∨ m = 1 ∨ m = 2 ∨ m = 3 ∨ m = 4 := by
    have : gsS.length = 5 := rfl
    omega
  rcases hm with rfl | rfl | rfl | rfl | rfl <;>
    (refine ⟨⟨?_, ?_⟩, ?_, ?_, ?_⟩
     · unfold kidsIn; decide
     · unfold inner; decide
     · unfold inner; decide
     · unfold KidOK kindAt; decide
     · decide)
theorem smallS : ∀ g ∈ gsS, g.2.2.1.length ≤ 1000000 := by decide
theorem rightS {roots : List Int} (h : ∀ r ∈ roots, 0 ≤ r ∧ r < (gsS.length : Int)) : RightP gsS roots := ⟨h, validS⟩
noncomputable def keepC (gs : List Gate) (roots : List Int) : List Gate × List Int := (pickG gs (ksM gs (stepF gs gs.length (pushL ([], []) roots)).1) (fM (ksM gs (stepF gs gs.length (pushL ([], []) roots)).1)) gs.length, roots.map (fM (ksM gs (stepF gs gs.length (pushL ([], []) roots)).1)))
theorem keepC_eq {gs : List Gate} {roots : List Int} (h : RightP gs roots) : keepG gs roots = (keepC gs roots).1 ∧ keepL gs roots = (keepC gs roots).2 := by
  unfold keepC
  rw [(run_all h).2, (keep_eq h).1, (keep_eq h).2]
  exact ⟨rfl, rfl⟩
def mS : List (Int × Bool) := [(3, true), (0, true), (2, true), (1, true)]
theorem sS0 : pushL ([], []) [3] = ([(3, true)], [3]) := rfl
theorem sS3 : stepF gsS 3 ([(3, true)], [3]) = (mS, [1]) := rfl
theorem sS4 : stepF gsS 1 (mS, [1]) = (mS, []) := rfl
theorem sS5 : pushF (mS, []) 4 = (mS ++ [(4, true)], [4]) := rfl
theorem sS6 : stepF gsS 0 (mS ++ [(4, true)], [4]) = (mS ++ [(4, true)], [4]) := rfl
theorem sS7 : stepF gsS 1 (mS ++ [(4, true)], [4]) = (mS ++ [(4, true)], []) := rfl
theorem lenS : gsS.length = 5 := rfl
theorem c45 : ((0 : Int) ≤ 4 ∧ (4 : Int) < ((5 : Nat) : Int)) = True := by simp
theorem i3 : Int.toNat 3 = 3 := rfl
theorem i4 : Int.toNat 4 = 4 := rfl
theorem mw3 : MWok gsS ([(3, true)], [3]) := (Inv.start (rightS (roots := [3]) (by decide))).mwok
theorem mwS (w : List Int) (m : List (Int × Bool)) (h : w.Nodup ∧ (∀ i ∈ w, 0 ≤ i ∧ i < (gsS.length : Int)) ∧ ∀ i ∈ w, @mget (Dat tInt) (Dat .bool) (instDecidableEqDat tInt) m i = some true) : MWok gsS (m, w) := ⟨h.1, h.2.1, h.2.2⟩

@[reducible] noncomputable def S_law18_head : Spec := { ins := .nil, pre := fun _ => True, alts := [{ outs := (.cons (.d .bool) .nil), res := (fun _ => (true, ())) }] }
noncomputable def c_law18_head : Cf := (cf_law18_head (Fl [(fi_law18_sample, S_law18_sample), (fi_reap_Keep, S_reap_Keep), (fi_reap_Start, S_reap_Start), (fi_reap_Sweep_Result, S_reap_Sweep_Result), (fi_reap_Sweep_Step, S_reap_Sweep_Step), (fi_reap_Sweep_Add, S_reap_Sweep_Add), (fi_ref16_Same, S_ref16_Same), (fi_ref06_Ints, S_ref06_Ints)]))
set_option maxRecDepth 100000 in
set_option maxHeartbeats 4000000 in
theorem g_law18_head : ∀ x, S_law18_head.pre x → shOK S_law18_head.ins x → fnGoal c_law18_head fn_law18_head S_law18_head x := by
  rintro ⟨⟩ hpre hok
  clear hpre
  have hln := shLn_of _ hok; replace hok := Hd.mk hok; try simp only [shLn, datLn, inRng, lo, hi, maxLen, true_and, and_true] at hln
  have r2 : RightP gsS [2] := rightS (by decide)
  have r40 : RightP gsS [4, 0] := rightS (by decide)
  have r3 : RightP gsS [3] := rightS (by decide)
  have r5 : ¬ RightP gsS [5] := fun h => by have := h.1 5 (by simp); rw [lenS] at this; omega
  have b2 := boolOf_true.2 r2
  have b40 := boolOf_true.2 r40
  have b5 := boolOf_false.2 r5
  have e2 := keepC_eq r2
  have e40 := keepC_eq r40
  first | refine fn_goal (w_head ?_) | refine w_fn (w_head ?_)
  intro K_ hK_; (conv => whnf); (try dsimp +instances only); refine hK_ _ ?_; clear hK_ K_; (conv => (arg 2; whnf))
  repeat' (first | (with_reducible refine And.intro ?_ ?_) | (first | ((with_reducible show K_ _); (try dsimp +instances only); (with_reducible refine hK_ _ ?_); clear hK_ K_) | (with_reducible refine w_seq ?_) | (with_reducible refine thenK_n ?_) | (with_reducible refine w_block ?_) | (with_reducible refine blockK_n ?_) | ((with_reducible refine w_region ?_); intro K_ hK_; (conv => whnf)) | ((with_reducible refine w_cond ?_); (conv => (arg 2; whnf)); (first | (with_reducible refine condK_p ?_ ?_) | (with_reducible refine condK_t ?_) | (with_reducible refine condK_f ?_) | (with_reducible refine condK_b ?_ ?_))) | (with_reducible refine w_skip ?_) | (with_reducible refine w_exit ?_) | (with_reducible refine w_ret ?_) | (with_reducible refine thenK_r ?_) | (with_reducible refine thenK_e ?_) | (with_reducible refine blockK_r ?_) | (with_reducible refine blockK_x ?_) | (with_reducible refine blockK_y (by rfl) ?_) | ((with_reducible refine loopK_at ?_); (conv => whnf)) | (with_reducible refine loopK_r ?_) | (with_reducible refine loopK_e ?_) | ((with_reducible refine retK_r ?_); (conv => whnf)) | ((with_reducible refine retK_n ?_); (conv => whnf)) | ((with_reducible refine w_head ?_); intro K_ hK_; (conv => whnf)) | (with_reducible refine w_label ?_)) | ((with_reducible refine gv_more ?_); (first | (first | ((with_reducible show K_ _); (try dsimp +instances only); (with_reducible refine hK_ _ ?_); clear hK_ K_) | (with_reducible refine w_seq ?_) | (with_reducible refine thenK_n ?_) | (with_reducible refine w_block ?_) | (with_reducible refine blockK_n ?_) | ((with_reducible refine w_region ?_); intro K_ hK_; (conv => whnf)) | ((with_reducible refine w_cond ?_); (conv => (arg 2; whnf)); (first | (with_reducible refine condK_p ?_ ?_) | (with_reducible refine condK_t ?_) | (with_reducible refine condK_f ?_) | (with_reducible refine condK_b ?_ ?_))) | (with_reducible refine w_skip ?_) | (with_reducible refine w_exit ?_) | (with_reducible refine w_ret ?_) | (with_reducible refine thenK_r ?_) | (with_reducible refine thenK_e ?_) | (with_reducible refine blockK_r ?_) | (with_reducible refine blockK_x ?_) | (with_reducible refine blockK_y (by rfl) ?_) | ((with_reducible refine loopK_at ?_); (conv => whnf)) | (with_reducible refine loopK_r ?_) | (with_reducible refine loopK_e ?_) | ((with_reducible refine retK_r ?_); (conv => whnf)) | ((with_reducible refine retK_n ?_); (conv => whnf)) | ((with_reducible refine w_head ?_); intro K_ hK_; (conv => whnf)) | (with_reducible refine w_label ?_)) | (conv => whnf))) | (intro hc; (try dsimp +instances only [Dat, SDat, dflt, Ty.size, keepS, bkUpd, Gv.bk, backS, wayA, maxI, minI, negI] at hc); (try simp only [Int.toNat_natCast, Int.toNat_zero, Int.toNat_one, Classical.not_not, boolOf_true, decide_eq_true_eq, decide_eq_false_iff_not, ne_eq, true_implies, not_true_eq_false, not_false_eq_true, Bool.not_eq_true, Prod.mk.injEq, and_true, true_and, forall_const, preA_f, selB_0, selB_1, boolOf_eq_false, rep1, rep2, rep3, List.length_set, List.length_append, List.length_map, List.length_cons, List.length_nil, List.length_replicate, Nat.zero_add, Nat.add_zero] at hc)))
  all_goals (try ((fail_if_success (with_reducible refine w_at ?_)); (fail_if_success refine Exists.intro (0 : Nat) (Exists.intro (_ : Alt _) ?_)); (try dsimp only [Dat, SDat, dflt, Ty.size, keepS, bkUpd, Gv.bk, backS, wayA, maxI, minI, negI]); (try simp only [Int.toNat_natCast, Int.toNat_zero, Int.toNat_one, Classical.not_not, boolOf_true, decide_eq_true_eq, decide_eq_false_iff_not, ne_eq, true_implies, not_true_eq_false, not_false_eq_true, Bool.not_eq_true, Prod.mk.injEq, and_true, true_and, forall_const, preA_f, selB_0, selB_1, boolOf_eq_false, rep1, rep2, rep3, List.length_set, List.length_append, List.length_map, List.length_cons, List.length_nil, List.length_replicate, Nat.zero_add, Nat.add_zero]); first | done | exact trivial | rfl | omega | exact boolOf_eq _ | (simp only [allP, lo, hi, room, true_and, and_true, implies_true]; done) | ((try simp only [allP, lo, hi, room, true_and, and_true, implies_true]); (repeat' (first | (with_reducible refine And.intro ?_ ?_) | ((with_reducible refine preA_t ?_ ?_); rotate_left; (focus (repeat (first | exact trivial | ((conv => whnf); refine And.intro (by rfl) ?_))))) | intro hv)) <;> (try omega))))
  all_goals (try simp only [sS0, sS3, sS4, sS5, sS6, sS7, lenS, i3, i4, b2, b40, b5, c45, if_true, ite_true] at *)
  all_goals (try simp only [sS6, sS7, if_true, ite_true] at *)
  all_goals (first | exact smallS _ (by assumption) | exact validS | (rename ¬RightP gsS [3] => hn; exact (hn r3).elim) | exact mw3 | (exact mwS _ _ (by decide)) | omega | rfl | skip)
  all_goals (try (rename_i hm; revert hm; simp; done))
  all_goals (try (simp; done))
  all_goals (try (simp_all; done))
  · rw [e2.1]; rfl
  · rw [e2.2]; rfl
  · rw [e40.1]; rfl
  · rw [e40.2]; rfl
set_option maxRecDepth 100000 in
theorem ok_law18_head : SpecOK SP glob fi_law18_head S_law18_head := mk_ok (c := c_law18_head) (tab_ok _) mix_ok wf_law18_head (by decide) (.cons ok_law18_sample (.cons ok_reap_Keep (.cons ok_reap_Start (.cons ok_reap_Sweep_Result (.cons ok_reap_Sweep_Step (.cons ok_reap_Sweep_Add (.cons ok_ref16_Same (.cons ok_ref06_Ints .nil)))))))) (fun x hx => Nat.zero_lt_one) g_law18_head


theorem Inv.steps {gs : List Gate} {R pr : List Int} {s : MW} (hI : Inv gs R pr s) (hR : RightP gs R) (n : Int) : ∃ pr', Inv gs R pr' (stepF gs n.toNat s) ∧ (pr'.length : Int) = pr.length + max 0 (min n (cntK gs R - pr.length)) := by
  obtain ⟨pr', g1, g2, g3, g4⟩ := hI.step hR.2 n.toNat
  refine ⟨pr', g1, ?_⟩
  have h1 := hI.le
  have h2 := g1.le
  rcases g4 with h | h
  · omega
  · have := (g1.done hR).1 h
    omega
theorem Inv.res {gs : List Gate} {R pr : List Int} {m : List (Int × Bool)} {w : List Int} (hI : Inv gs R pr (m, w)) (hR : RightP gs R) : (w = [] ↔ ¬ ((pr.length : Int) < cntK gs R)) ∧ (w = [] → pickG gs (ksM gs m) (fM (ksM gs m)) gs.length = keepG gs R ∧ R.map (fM (ksM gs m)) = keepL gs R) := by
  have h1 := hI.le
  have h2 := hI.done hR
  refine ⟨⟨fun h => by have := h2.1 h; omega, fun h => h2.2 (by omega)⟩, fun h => ?_⟩
  rw [hI.ks h hR]
  exact keep_eq hR
theorem Reach.mono {gs : List Gate} {R R' : List Int} (h : ∀ r ∈ R, r ∈ R') {k : Nat} (hk : Reach gs R k) : Reach gs R' k := by
  induction hk with
  | root hr => exact .root (h _ hr)
  | kid _ hk hj ih => exact .kid ih hk hj
theorem Inv.add {gs : List Gate} {R pr : List Int} {s : MW} (hI : Inv gs R pr s) {r : Int} (hr : 0 ≤ r ∧ r < gs.length) : Inv gs (R ++ [r]) pr (pushF s r) := by
  have h0 : Inv0 gs (R ++ [r]) pr s := ⟨hI.nd, hI.mg, fun i hi => ⟨(hI.rng i hi).1, (hI.rng i hi).2.mono (fun x hx => List.mem_append_left _ hx)⟩⟩
  obtain ⟨h1, h2, h3⟩ := h0.push ⟨hr, .root (by simp)⟩
  refine ⟨h1.nd, h1.mg, h1.rng, fun x hx => ?_, fun i hi k hk => h3 k (hI.kid i hi k hk)⟩
  rcases List.mem_append.1 hx with hx | hx
  · exact h3 x (hI.rts x hx)
  · simp at hx; subst hx; exact h2
theorem keepG_len (gs : List Gate) (Q : List Int) : (((keepG gs Q).length : Nat) : Int) = cntK gs Q := by
  unfold keepG cntK
  rw [pickG_len _ _ _ _ (by rw [keptL_len]; exact Nat.le_refl _)]; unfold rank
  rw [List.take_of_length_le (by rw [keptL_len]; exact Nat.le_refl _)]
theorem RightP.add {gs : List Gate} {R : List Int} (hR : RightP gs R) {r : Int} (hr : 0 ≤ r ∧ r < gs.length) : RightP gs (R ++ [r]) := ⟨fun x hx => by
  rcases List.mem_append.1 hx with hx | hx
  · exact hR.1 x hx
  · simp at hx; rw [hx]; exact hr, hR.2⟩
end Go.Gv
