/- Chapter 15: the program's texts. -/
import Derived.Test.YtbidlahhpmdenaaDoorC15e
import Derived.Test.YtbidlahhpmdenaaDoorJ15
set_option linter.all false
namespace Go.Gv
open Go Go.Proofs Go.Proofs.YtbidlahhpmdenaaDoor
def okY (x : Pw) : Prop := 0 ≤ x.1 ∧ x.1 < 4000 ∧ 1 ≤ x.2.1 ∧ x.2.1 ≤ 200
def wkP (l : List Pw) : Prop := l.length ≤ 100000 ∧ ∀ x ∈ l, okY x
theorem wkP_of {l : List Pw} (h : okP l) : wkP l := ⟨by have := okP_len h; omega, fun x hx => by have := okP_mem h hx; exact ⟨this.1, this.2.1, this.2.2.1, by omega⟩⟩
theorem okY_len {x : Pw} (h : okY x) : (Lib.itoa x.1).length ≤ 21 ∧ (Lib.itoa x.2.1).length ≤ 21 ∧ (itemX x).length ≤ 50 := by
  unfold okY at h
  have h1 := Lib.itoa_length_le x.1 (by omega) (by omega)
  have h2 := Lib.itoa_length_le x.2.1 (by omega) (by omega)
  refine ⟨h1, h2, ?_⟩
  unfold itemX
  split <;> simp only [List.length_append, List.length_cons, List.length_nil] <;> omega
theorem facT_len {l : List Pw} (h : wkP l) : (facT l).length ≤ 10000000 := by
  have := join_len [42] 50 (l.map itemX) (by
    intro x hx
    obtain ⟨y, hy, rfl⟩ := List.mem_map.1 hx
    exact (okY_len (h.2 y hy)).2.2)
  have h3 : (l.map itemX).length ≤ 100000 := by rw [List.length_map]; exact h.1
  have h4 : (l.map itemX).length * (50 + [(42 : UInt8)].length) ≤ 100000 * 51 := Nat.mul_le_mul h3 (by simp)
  unfold facT
  omega

theorem map_step {α β : Type} {f : α → β} {l : List α} {k : Nat} {d : α} (h : k < l.length) : (l.take (k + 1)).map f = (l.take k).map f ++ [f (l.getD k d)] := by
  rw [List.take_succ_eq_append_getElem h, List.map_append, getD_ok d h]; rfl
theorem itemX_one {x : Pw} (h : x.2.1 = 1) : itemX x = [120] ++ Lib.itoa x.1 := by unfold itemX; rw [if_pos h, List.append_nil]
theorem itemX_more {x : Pw} (h : ¬ x.2.1 = 1) : itemX x = [120] ++ Lib.itoa x.1 ++ ([94] ++ Lib.itoa x.2.1) := by unfold itemX; rw [if_neg h]

@[reducible] noncomputable def S_poly_factors : Spec := { ins := (.cons (.d (.sl tPw)) .nil), pre := (fun x => (fun l => wkP l) x.1), alts := [{ outs := (.cons (.d .str) .nil), res := (fun x => (fun l => (facT l, ())) x.1) }], noisy := true }
noncomputable def c_poly_factors : Cf := { cf_poly_factors (Fl [(fi_strconv_Itoa, S_strconv_Itoa), (fi_strings_Join, S_strings_Join)]) with nz := true }
set_option maxRecDepth 100000 in
set_option maxHeartbeats 4000000 in
theorem g_poly_factors : ∀ x, S_poly_factors.pre x → shOK S_poly_factors.ins x → fnGoal c_poly_factors fn_poly_factors S_poly_factors x := by
  rintro ⟨l, ⟨⟩⟩ hpre hok
  try dsimp only [Dat, SDat, dflt, Ty.size, keepS, bkUpd, Gv.bk, backS, wayA, maxI, minI, negI] at hpre
  have hln := shLn_of _ hok; replace hok := Hd.mk hok; try simp only [shLn, datLn, inRng, lo, hi, maxLen, true_and, and_true] at hln
  have hw : wkP l := hpre
  have hl1 := hw.1
  have hfl := facT_len hw
  first | refine fn_goal (w_head ?_) | refine w_fn (w_head ?_)
  intro K_ hK_; (conv => whnf); (try dsimp +instances only); refine hK_ _ ?_; clear hK_ K_; (conv => (arg 2; whnf))
  repeat' (first | (with_reducible refine And.intro ?_ ?_) | ((try (with_reducible refine gv_more ?_)); first | ((with_reducible show K_ _); (try dsimp +instances only); (with_reducible refine hK_ _ ?_); clear hK_ K_) | (with_reducible (first | refine w_seq ?_ | refine thenK_n ?_ | refine w_block ?_ | refine blockK_n ?_)) | ((with_reducible refine w_region ?_); intro K_ hK_; (conv => whnf)) | ((with_reducible refine w_cond ?_); (conv => (arg 2; whnf)); (with_reducible (first | refine condK_p ?_ ?_ | refine condK_t ?_ | refine condK_f ?_ | refine condK_b ?_ ?_))) | (with_reducible (first | refine w_skip ?_ | refine w_exit ?_ | refine w_ret ?_ | refine thenK_r ?_ | refine thenK_e ?_ | refine blockK_r ?_ | refine blockK_x ?_ | refine blockK_y (by rfl) ?_ | refine loopK_r ?_ | refine loopK_e ?_ | refine w_label ?_)) | ((with_reducible (first | refine loopK_at ?_ | refine retK_r ?_ | refine retK_n ?_)); (conv => whnf)) | ((with_reducible refine w_head ?_); intro K_ hK_; (conv => whnf))) | ((with_reducible refine gv_more ?_); (conv => whnf)) | (intro hc; (try dsimp +instances only [Dat, SDat, dflt, Ty.size, keepS, bkUpd, Gv.bk, backS, wayA, maxI, minI, negI] at hc); (try simp only [Int.toNat_natCast, Int.toNat_zero, Int.toNat_one, Classical.not_not, boolOf_true, decide_eq_true_eq, decide_eq_false_iff_not, ne_eq, true_implies, not_true_eq_false, not_false_eq_true, Bool.not_eq_true, Prod.mk.injEq, and_true, true_and, forall_const, preA_f, selB_0, selB_1, boolOf_eq_false, rep1, rep2, rep3, List.length_set, List.length_append, List.length_map, List.length_cons, List.length_nil, List.length_replicate, Nat.zero_add, Nat.add_zero] at hc)))
  all_goals (try ((fail_if_success (with_reducible refine w_at ?_)); (fail_if_success refine Exists.intro (0 : Nat) (Exists.intro (_ : Alt _) ?_)); (try dsimp only [Dat, SDat, dflt, Ty.size, keepS, bkUpd, Gv.bk, backS, wayA, maxI, minI, negI]); (try simp only [Int.toNat_natCast, Int.toNat_zero, Int.toNat_one, Classical.not_not, boolOf_true, decide_eq_true_eq, decide_eq_false_iff_not, ne_eq, true_implies, not_true_eq_false, not_false_eq_true, Bool.not_eq_true, Prod.mk.injEq, and_true, true_and, forall_const, preA_f, selB_0, selB_1, boolOf_eq_false, rep1, rep2, rep3, List.length_set, List.length_append, List.length_map, List.length_cons, List.length_nil, List.length_replicate, Nat.zero_add, Nat.add_zero]); first | done | exact trivial | rfl | omega | exact boolOf_eq _ | (simp only [allP, lo, hi, room, true_and, and_true, implies_true]; done) | ((try simp only [allP, lo, hi, room, true_and, and_true, implies_true]); (repeat' (first | (with_reducible refine And.intro ?_ ?_) | ((with_reducible refine preA_t ?_ ?_); rotate_left; (focus (repeat (first | exact trivial | ((conv => whnf); refine And.intro (by rfl) ?_))))) | intro hv)) <;> (try omega))))
  refine w_loop [(9, .d tInt), (3, .spare .str)] [] (fun y => ∃ k : Nat, y.1.1 = (k : Int) ∧ k ≤ l.length ∧ y.1.2.1 = (l.take k).map itemX) (fun y => l.length - y.1.1.toNat) ?_
  conv => whnf
  refine And.intro ?_ ?_
  · exact ⟨0, rfl, by omega, rfl⟩
  rintro ⟨⟨_, ou, ⟨⟩⟩, ⟨⟩⟩ ⟨k, rfl, hk, hou⟩
  have hou : @Eq (List (List UInt8)) ou ((l.take k).map itemX) := hou
  subst hou
  have hX : k < l.length → okY (List.getD l k ((0, 0, ()) : Pw)) := fun h => hw.2 _ (getD_mem h)
  have htl : (l.take k).length ≤ 100000 := by rw [List.length_take]; omega
  repeat' (first | (with_reducible refine And.intro ?_ ?_) | ((try (with_reducible refine gv_more ?_)); first | ((with_reducible show K_ _); (try dsimp +instances only); (with_reducible refine hK_ _ ?_); clear hK_ K_) | (with_reducible (first | refine w_seq ?_ | refine thenK_n ?_ | refine w_block ?_ | refine blockK_n ?_)) | ((with_reducible refine w_region ?_); intro K_ hK_; (conv => whnf)) | ((with_reducible refine w_cond ?_); (conv => (arg 2; whnf)); (with_reducible (first | refine condK_p ?_ ?_ | refine condK_t ?_ | refine condK_f ?_ | refine condK_b ?_ ?_))) | (with_reducible (first | refine w_skip ?_ | refine w_exit ?_ | refine w_ret ?_ | refine thenK_r ?_ | refine thenK_e ?_ | refine blockK_r ?_ | refine blockK_x ?_ | refine blockK_y (by rfl) ?_ | refine loopK_r ?_ | refine loopK_e ?_ | refine w_label ?_)) | ((with_reducible (first | refine loopK_at ?_ | refine retK_r ?_ | refine retK_n ?_)); (conv => whnf)) | ((with_reducible refine w_head ?_); intro K_ hK_; (conv => whnf))) | ((with_reducible refine gv_more ?_); (conv => whnf)) | (intro hc; (try dsimp +instances only [Dat, SDat, dflt, Ty.size, keepS, bkUpd, Gv.bk, backS, wayA, maxI, minI, negI] at hc); (try simp only [Int.toNat_natCast, Int.toNat_zero, Int.toNat_one, Classical.not_not, boolOf_true, decide_eq_true_eq, decide_eq_false_iff_not, ne_eq, true_implies, not_true_eq_false, not_false_eq_true, Bool.not_eq_true, Prod.mk.injEq, and_true, true_and, forall_const, preA_f, selB_0, selB_1, boolOf_eq_false, rep1, rep2, rep3, List.length_set, List.length_append, List.length_map, List.length_cons, List.length_nil, List.length_replicate, Nat.zero_add, Nat.add_zero] at hc)))
  all_goals (try ((fail_if_success (with_reducible refine w_at ?_)); (fail_if_success refine Exists.intro (0 : Nat) (Exists.intro (_ : Alt _) ?_)); (try dsimp only [Dat, SDat, dflt, Ty.size, keepS, bkUpd, Gv.bk, backS, wayA, maxI, minI, negI]); (try simp only [Int.toNat_natCast, Int.toNat_zero, Int.toNat_one, Classical.not_not, boolOf_true, decide_eq_true_eq, decide_eq_false_iff_not, ne_eq, true_implies, not_true_eq_false, not_false_eq_true, Bool.not_eq_true, Prod.mk.injEq, and_true, true_and, forall_const, preA_f, selB_0, selB_1, boolOf_eq_false, rep1, rep2, rep3, List.length_set, List.length_append, List.length_map, List.length_cons, List.length_nil, List.length_replicate, Nat.zero_add, Nat.add_zero]); first | done | exact trivial | rfl | omega | exact boolOf_eq _ | (simp only [allP, lo, hi, room, true_and, and_true, implies_true]; done) | ((try simp only [allP, lo, hi, room, true_and, and_true, implies_true]); (repeat' (first | (with_reducible refine And.intro ?_ ?_) | ((with_reducible refine preA_t ?_ ?_); rotate_left; (focus (repeat (first | exact trivial | ((conv => whnf); refine And.intro (by rfl) ?_))))) | intro hv)) <;> (try omega))))
  all_goals (first
    | (have h := okY_len (hX (by omega)); simp only [maxLen]; omega)
    | omega
    | (refine ⟨k + 1, by omega, by omega, ?_⟩
       rw [map_step (d := ((0, 0, ()) : Pw)) (by omega)]
       first | rw [itemX_one hc] | rw [itemX_more hc])
    | (have hT : l.take k = l := List.take_of_length_le (by omega)
       rw [hT]
       first | exact Nat.le_trans hfl (by decide) | omega | rfl))
set_option maxRecDepth 100000 in
theorem ok_poly_factors : SpecOK SP glob fi_poly_factors S_poly_factors := mk_ok (c := c_poly_factors) (tab_ok _) mix_ok wf_poly_factors (by decide) (.cons ok_strconv_Itoa (.cons ok_strings_Join .nil)) (fun x hx => Nat.zero_lt_one) g_poly_factors

theorem facT_nil {l : List Pw} : facT l = [] ↔ l = [] := by
  constructor
  · intro h
    cases l with
    | nil => rfl
    | cons x r =>
      unfold facT at h
      rw [List.map_cons, Lib.join_cons] at h
      simp [itemX] at h
  · rintro rfl; rfl
theorem mon_a {m : Mo} (h : facT m.2.1 = []) : Lib.itoa m.1 = monT m := by
  unfold monT headM
  rw [h, if_neg (fun a => a.2 (facT_nil.1 h)), if_pos (facT_nil.1 h), List.append_nil, List.append_nil]
theorem mon_b {m : Mo} (h : ¬ facT m.2.1 = []) (h1 : ¬ m.1 = 1) : Lib.itoa m.1 ++ [42] ++ facT m.2.1 = monT m := by
  unfold monT headM
  rw [if_neg (fun a => h1 a.1), if_neg (fun a => h (facT_nil.2 a))]
theorem mon_c {m : Mo} (h : ¬ facT m.2.1 = []) (h1 : m.1 = 1) : facT m.2.1 = monT m := by
  unfold monT headM
  rw [if_pos ⟨h1, fun a => h (facT_nil.2 a)⟩, List.nil_append]

@[reducible] noncomputable def S_poly_Text : Spec := { ins := (.cons (.d tPoly) .nil), pre := fun _ => True, alts := [{ outs := (.cons (.d .str) .nil), res := (fun x => (fun p => (textP p, ())) x.1) }], noisy := true }
noncomputable def c_poly_Text : Cf := { cf_poly_Text (Fl [(fi_poly_Valid, S_poly_Valid), (fi_poly_factors, S_poly_factors), (fi_strconv_Itoa, S_strconv_Itoa), (fi_strings_Join, S_strings_Join)]) with nz := true }
set_option maxRecDepth 100000 in
set_option maxHeartbeats 4000000 in
theorem g_poly_Text : ∀ x, S_poly_Text.pre x → shOK S_poly_Text.ins x → fnGoal c_poly_Text fn_poly_Text S_poly_Text x := by
  rintro ⟨p, ⟨⟩⟩ hpre hok
  clear hpre
  have hln := shLn_of _ hok; replace hok := Hd.mk hok; try simp only [shLn, datLn, inRng, lo, hi, maxLen, true_and, and_true] at hln
  first | refine fn_goal (w_head ?_) | refine w_fn (w_head ?_)
  intro K_ hK_; (conv => whnf); (try dsimp +instances only); refine hK_ _ ?_; clear hK_ K_; (conv => (arg 2; whnf))
  repeat' (first | (with_reducible refine And.intro ?_ ?_) | ((try (with_reducible refine gv_more ?_)); first | ((with_reducible show K_ _); (try dsimp +instances only); (with_reducible refine hK_ _ ?_); clear hK_ K_) | (with_reducible (first | refine w_seq ?_ | refine thenK_n ?_ | refine w_block ?_ | refine blockK_n ?_)) | ((with_reducible refine w_region ?_); intro K_ hK_; (conv => whnf)) | ((with_reducible refine w_cond ?_); (conv => (arg 2; whnf)); (with_reducible (first | refine condK_p ?_ ?_ | refine condK_t ?_ | refine condK_f ?_ | refine condK_b ?_ ?_))) | (with_reducible (first | refine w_skip ?_ | refine w_exit ?_ | refine w_ret ?_ | refine thenK_r ?_ | refine thenK_e ?_ | refine blockK_r ?_ | refine blockK_x ?_ | refine blockK_y (by rfl) ?_ | refine loopK_r ?_ | refine loopK_e ?_ | refine w_label ?_)) | ((with_reducible (first | refine loopK_at ?_ | refine retK_r ?_ | refine retK_n ?_)); (conv => whnf)) | ((with_reducible refine w_head ?_); intro K_ hK_; (conv => whnf))) | ((with_reducible refine gv_more ?_); (conv => whnf)) | (intro hc; (try dsimp +instances only [Dat, SDat, dflt, Ty.size, keepS, bkUpd, Gv.bk, backS, wayA, maxI, minI, negI] at hc); (try simp only [Int.toNat_natCast, Int.toNat_zero, Int.toNat_one, Classical.not_not, boolOf_true, decide_eq_true_eq, decide_eq_false_iff_not, ne_eq, true_implies, not_true_eq_false, not_false_eq_true, Bool.not_eq_true, Prod.mk.injEq, and_true, true_and, forall_const, preA_f, selB_0, selB_1, boolOf_eq_false, rep1, rep2, rep3, List.length_set, List.length_append, List.length_map, List.length_cons, List.length_nil, List.length_replicate, Nat.zero_add, Nat.add_zero] at hc)))
  all_goals (try ((fail_if_success (with_reducible refine w_at ?_)); (fail_if_success refine Exists.intro (0 : Nat) (Exists.intro (_ : Alt _) ?_)); (try dsimp only [Dat, SDat, dflt, Ty.size, keepS, bkUpd, Gv.bk, backS, wayA, maxI, minI, negI]); (try simp only [Int.toNat_natCast, Int.toNat_zero, Int.toNat_one, Classical.not_not, boolOf_true, decide_eq_true_eq, decide_eq_false_iff_not, ne_eq, true_implies, not_true_eq_false, not_false_eq_true, Bool.not_eq_true, Prod.mk.injEq, and_true, true_and, forall_const, preA_f, selB_0, selB_1, boolOf_eq_false, rep1, rep2, rep3, List.length_set, List.length_append, List.length_map, List.length_cons, List.length_nil, List.length_replicate, Nat.zero_add, Nat.add_zero]); first | done | exact trivial | rfl | omega | exact boolOf_eq _ | (simp only [allP, lo, hi, room, true_and, and_true, implies_true]; done) | ((try simp only [allP, lo, hi, room, true_and, and_true, implies_true]); (repeat' (first | (with_reducible refine And.intro ?_ ?_) | ((with_reducible refine preA_t ?_ ?_); rotate_left; (focus (repeat (first | exact trivial | ((conv => whnf); refine And.intro (by rfl) ?_))))) | intro hv)) <;> (try omega))))
  · exact text_no hc
  · exact text_zero (by assumption) (List.eq_nil_of_length_eq_zero (by omega))
  rename_i hval
  have hne : p ≠ [] := fun e => hc (by rw [e]; rfl)
  have hpl := pre_len hval p.length
  rw [List.take_length] at hpl
  have hp4 := hval.1
  refine w_loop [(17, .d tInt), (3, .spare .str)] [] (fun y => ∃ k : Nat, y.1.1 = (k : Int) ∧ k ≤ p.length ∧ y.1.2.1 = (p.take k).map monT) (fun y => p.length - y.1.1.toNat) ?_
  conv => whnf
  refine And.intro ?_ ?_
  · exact ⟨0, rfl, by omega, rfl⟩
  rintro ⟨⟨_, ou, ⟨⟩⟩, ⟨⟩⟩ ⟨k, rfl, hk, hou⟩
  have hou : @Eq (List (List UInt8)) ou ((p.take k).map monT) := hou
  subst hou
  have htl : (p.take k).length ≤ 400 := by rw [List.length_take]; omega
  have hM : k < p.length → okC (List.getD p k ((0, [], ()) : Mo)) := fun h => valid_mem hval (getD_mem h)
  have hI : k < p.length → (Lib.itoa (List.getD p k ((0, [], ()) : Mo)).1).length ≤ 21 ∧ (facT (List.getD p k ((0, [], ()) : Mo)).2.1).length ≤ 10000000 := fun h => ⟨Lib.itoa_length_le _ (by have := hM h; unfold okC at this; omega) (by have := hM h; unfold okC at this; omega), facT_len (wkP_of (hM h).2.2)⟩
  repeat' (first | (with_reducible refine And.intro ?_ ?_) | ((try (with_reducible refine gv_more ?_)); first | ((with_reducible show K_ _); (try dsimp +instances only); (with_reducible refine hK_ _ ?_); clear hK_ K_) | (with_reducible (first | refine w_seq ?_ | refine thenK_n ?_ | refine w_block ?_ | refine blockK_n ?_)) | ((with_reducible refine w_region ?_); intro K_ hK_; (conv => whnf)) | ((with_reducible refine w_cond ?_); (conv => (arg 2; whnf)); (with_reducible (first | refine condK_p ?_ ?_ | refine condK_t ?_ | refine condK_f ?_ | refine condK_b ?_ ?_))) | (with_reducible (first | refine w_skip ?_ | refine w_exit ?_ | refine w_ret ?_ | refine thenK_r ?_ | refine thenK_e ?_ | refine blockK_r ?_ | refine blockK_x ?_ | refine blockK_y (by rfl) ?_ | refine loopK_r ?_ | refine loopK_e ?_ | refine w_label ?_)) | ((with_reducible (first | refine loopK_at ?_ | refine retK_r ?_ | refine retK_n ?_)); (conv => whnf)) | ((with_reducible refine w_head ?_); intro K_ hK_; (conv => whnf))) | ((with_reducible refine gv_more ?_); (conv => whnf)) | (intro hc; (try dsimp +instances only [Dat, SDat, dflt, Ty.size, keepS, bkUpd, Gv.bk, backS, wayA, maxI, minI, negI] at hc); (try simp only [Int.toNat_natCast, Int.toNat_zero, Int.toNat_one, Classical.not_not, boolOf_true, decide_eq_true_eq, decide_eq_false_iff_not, ne_eq, true_implies, not_true_eq_false, not_false_eq_true, Bool.not_eq_true, Prod.mk.injEq, and_true, true_and, forall_const, preA_f, selB_0, selB_1, boolOf_eq_false, rep1, rep2, rep3, List.length_set, List.length_append, List.length_map, List.length_cons, List.length_nil, List.length_replicate, Nat.zero_add, Nat.add_zero] at hc)))
  all_goals (try ((fail_if_success (with_reducible refine w_at ?_)); (fail_if_success refine Exists.intro (0 : Nat) (Exists.intro (_ : Alt _) ?_)); (try dsimp only [Dat, SDat, dflt, Ty.size, keepS, bkUpd, Gv.bk, backS, wayA, maxI, minI, negI]); (try simp only [Int.toNat_natCast, Int.toNat_zero, Int.toNat_one, Classical.not_not, boolOf_true, decide_eq_true_eq, decide_eq_false_iff_not, ne_eq, true_implies, not_true_eq_false, not_false_eq_true, Bool.not_eq_true, Prod.mk.injEq, and_true, true_and, forall_const, preA_f, selB_0, selB_1, boolOf_eq_false, rep1, rep2, rep3, List.length_set, List.length_append, List.length_map, List.length_cons, List.length_nil, List.length_replicate, Nat.zero_add, Nat.add_zero]); first | done | exact trivial | rfl | omega | exact boolOf_eq _ | (simp only [allP, lo, hi, room, true_and, and_true, implies_true]; done) | ((try simp only [allP, lo, hi, room, true_and, and_true, implies_true]); (repeat' (first | (with_reducible refine And.intro ?_ ?_) | ((with_reducible refine preA_t ?_ ?_); rotate_left; (focus (repeat (first | exact trivial | ((conv => whnf); refine And.intro (by rfl) ?_))))) | intro hv)) <;> (try omega))))
  all_goals (first
    | exact wkP_of (hM (by omega)).2.2
    | (have h := hI (by omega); simp only [maxLen, List.length_append, List.length_cons, List.length_nil]; omega)
    | omega
    | (refine ⟨k + 1, by omega, by omega, ?_⟩
       rw [map_step (d := ((0, [], ()) : Mo)) (by omega)]
       first | rw [mon_a hc] | rw [mon_b (by assumption) hc] | rw [mon_c (by assumption) hc])
    | (have hT : p.take k = p := List.take_of_length_le (by omega)
       rw [hT]
       first | exact Nat.le_trans hpl (by decide) | omega | exact text_yes hval hne)
    | skip)
set_option maxRecDepth 100000 in
theorem ok_poly_Text : SpecOK SP glob fi_poly_Text S_poly_Text := mk_ok (c := c_poly_Text) (tab_ok _) mix_ok wf_poly_Text (by decide) (.cons ok_poly_Valid (.cons ok_poly_factors (.cons ok_strconv_Itoa (.cons ok_strings_Join .nil)))) (fun x hx => Nat.zero_lt_one) g_poly_Text
end Go.Gv
