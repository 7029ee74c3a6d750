/- Chapter 16: gates and circuits: the reference's functions and the program's. -/
import Derived.Test.YtnnifeeieoghfaaDoorB0
set_option linter.all false
namespace Go.Gv
open Go Go.Proofs Go.Proofs.YtnnifeeieoghfaaDoor
@[reducible] def gateF : Ty := .cs (.int .i64) (.cs (.int .i64) (.cs (.sl (.int .i64)) .nl))
@[reducible] def tGate : Ty := .st gateF
abbrev Gate : Type := Int × Int × List Int × Unit
@[reducible] def tCirc : Ty := .st (.cs (.sl tGate) .nl)

@[reducible] noncomputable def S_ref16_Equal : Spec := { ins := (.cons (.d tGate) (.cons (.d tGate) .nil)), pre := fun _ => True, alts := [{ outs := (.cons (.d .bool) .nil), res := (fun x => (fun a b => (decide (a = b), ())) x.1 x.2.1) }] }
set_option maxRecDepth 100000 in
set_option maxHeartbeats 4000000 in
theorem g_ref16_Equal : ∀ x, S_ref16_Equal.pre x → shOK S_ref16_Equal.ins x → fnGoal (cf_ref16_Equal (Fl [])) fn_ref16_Equal S_ref16_Equal x := by
  rintro ⟨⟨ak, av, akids, ⟨⟩⟩, ⟨bk, bv, bkids, ⟨⟩⟩, ⟨⟩⟩ hpre hok
  clear hpre
  have hln := shLn_of _ hok; replace hok := Hd.mk hok; try simp only [shLn, datLn, inRng, lo, hi, maxLen, true_and, and_true] at hln
  conv => whnf
  repeat' (first | (with_reducible refine And.intro ?_ ?_) | ((with_reducible refine gv_more ?_); conv => whnf) | (intro hc; (try dsimp only [Dat, SDat, dflt, Ty.size, keepS, bkUpd, Gv.bk, backS, wayA, maxI, minI, negI] at hc); (try simp only [Int.toNat_natCast, Int.toNat_zero, Int.toNat_one, Classical.not_not, boolOf_true, decide_eq_true_eq, decide_eq_false_iff_not, ne_eq, true_implies, not_true_eq_false, not_false_eq_true, Bool.not_eq_true, Prod.mk.injEq, and_true, true_and, forall_const, preA_f, selB_0, selB_1, boolOf_eq_false, rep1, rep2, rep3, List.length_set, List.length_append, List.length_map, List.length_cons, List.length_nil, List.length_replicate, Nat.zero_add, Nat.add_zero] at hc)))
  all_goals (try ((fail_if_success refine Exists.intro ([] : List (Nat × Sh)) ?_); (fail_if_success refine Exists.intro (0 : Nat) (Exists.intro (_ : Alt _) ?_)); (try dsimp only [Dat, SDat, dflt, Ty.size, keepS, bkUpd, Gv.bk, backS, wayA, maxI, minI, negI]); (try simp only [Int.toNat_natCast, Int.toNat_zero, Int.toNat_one, Classical.not_not, boolOf_true, decide_eq_true_eq, decide_eq_false_iff_not, ne_eq, true_implies, not_true_eq_false, not_false_eq_true, Bool.not_eq_true, Prod.mk.injEq, and_true, true_and, forall_const, preA_f, selB_0, selB_1, boolOf_eq_false, rep1, rep2, rep3, List.length_set, List.length_append, List.length_map, List.length_cons, List.length_nil, List.length_replicate, Nat.zero_add, Nat.add_zero]); first | done | exact trivial | rfl | omega | exact boolOf_eq _ | (simp only [allP, lo, hi, room, true_and, and_true, implies_true]; done) | ((try simp only [allP, lo, hi, room, true_and, and_true, implies_true]); (repeat' (first | (with_reducible refine And.intro ?_ ?_) | ((with_reducible refine preA_t ?_ ?_); rotate_left; (focus (repeat (first | exact trivial | ((conv => whnf); refine And.intro (by rfl) ?_))))) | intro hv)) <;> (try omega))))
  rotate_left
  refine ⟨[(5, .d tInt)], [], fun y => ∃ k : Nat, y.1.1 = (k : Int) ∧ k ≤ akids.length ∧ akids.take k = bkids.take k, fun y => akids.length - y.1.1.toNat, ?_⟩
  conv => whnf
  refine And.intro ?_ ?_
  · exact ⟨0, by simp⟩
  rintro ⟨⟨_, ⟨⟩⟩, ⟨⟩⟩ ⟨k, rfl, hk, hj⟩
  repeat' (first | (with_reducible refine And.intro ?_ ?_) | ((with_reducible refine gv_more ?_); conv => whnf) | (intro hc; (try dsimp only [Dat, SDat, dflt, Ty.size, keepS, bkUpd, Gv.bk, backS, wayA, maxI, minI, negI] at hc); (try simp only [Int.toNat_natCast, Int.toNat_zero, Int.toNat_one, Classical.not_not, boolOf_true, decide_eq_true_eq, decide_eq_false_iff_not, ne_eq, true_implies, not_true_eq_false, not_false_eq_true, Bool.not_eq_true, Prod.mk.injEq, and_true, true_and, forall_const, preA_f, selB_0, selB_1, boolOf_eq_false, rep1, rep2, rep3, List.length_set, List.length_append, List.length_map, List.length_cons, List.length_nil, List.length_replicate, Nat.zero_add, Nat.add_zero] at hc)))
  all_goals (try ((fail_if_success refine Exists.intro ([] : List (Nat × Sh)) ?_); (fail_if_success refine Exists.intro (0 : Nat) (Exists.intro (_ : Alt _) ?_)); (try dsimp only [Dat, SDat, dflt, Ty.size, keepS, bkUpd, Gv.bk, backS, wayA, maxI, minI, negI]); (try simp only [Int.toNat_natCast, Int.toNat_zero, Int.toNat_one, Classical.not_not, boolOf_true, decide_eq_true_eq, decide_eq_false_iff_not, ne_eq, true_implies, not_true_eq_false, not_false_eq_true, Bool.not_eq_true, Prod.mk.injEq, and_true, true_and, forall_const, preA_f, selB_0, selB_1, boolOf_eq_false, rep1, rep2, rep3, List.length_set, List.length_append, List.length_map, List.length_cons, List.length_nil, List.length_replicate, Nat.zero_add, Nat.add_zero]); first | done | exact trivial | rfl | omega | exact boolOf_eq _ | (simp only [allP, lo, hi, room, true_and, and_true, implies_true]; done) | ((try simp only [allP, lo, hi, room, true_and, and_true, implies_true]); (repeat' (first | (with_reducible refine And.intro ?_ ?_) | ((with_reducible refine preA_t ?_ ?_); rotate_left; (focus (repeat (first | exact trivial | ((conv => whnf); refine And.intro (by rfl) ?_))))) | intro hv)) <;> (try omega))))
  · have : akids ≠ bkids := fun e => by subst e; exact hc rfl
    simp [this]
  · exact ⟨k + 1, by omega, by omega, take_eq_step hj (by omega) (by omega) hc⟩
  · have : akids = bkids := take_eq_end hj (by omega) (by omega)
    simp [this]; omega
  · have : ¬ (ak = bk ∧ av = bv ∧ akids = bkids) := fun ⟨e1, e2, e3⟩ => by subst e1 e2 e3; simp at hc
    simp [this]
set_option maxRecDepth 100000 in
theorem ok_ref16_Equal : SpecOK SP glob fi_ref16_Equal S_ref16_Equal := mk_ok (c := (cf_ref16_Equal (Fl []))) (tab_ok _) mix_ok wf_ref16_Equal (by decide) .nil (fun x hx => Nat.zero_lt_one) g_ref16_Equal

@[reducible] noncomputable def S_ref06_Ints : Spec := { ins := (.cons (.d (.sl tInt)) (.cons (.d (.sl tInt)) .nil)), pre := fun _ => True, alts := [{ outs := (.cons (.d .bool) .nil), res := (fun x => (fun a b => (decide (a = b), ())) x.1 x.2.1) }] }
set_option maxRecDepth 100000 in
set_option maxHeartbeats 4000000 in
theorem g_ref06_Ints : ∀ x, S_ref06_Ints.pre x → shOK S_ref06_Ints.ins x → fnGoal (cf_ref06_Ints (Fl [])) fn_ref06_Ints S_ref06_Ints x := by
  rintro ⟨a, b, ⟨⟩⟩ hpre hok
  clear hpre
  have hln := shLn_of _ hok; replace hok := Hd.mk hok; try simp only [shLn, datLn, inRng, lo, hi, maxLen, true_and, and_true] at hln
  conv => whnf
  repeat' (first | (with_reducible refine And.intro ?_ ?_) | ((with_reducible refine gv_more ?_); conv => whnf) | (intro hc; (try dsimp only [Dat, SDat, dflt, Ty.size, keepS, bkUpd, Gv.bk, backS, wayA, maxI, minI, negI] at hc); (try simp only [Int.toNat_natCast, Int.toNat_zero, Int.toNat_one, Classical.not_not, boolOf_true, decide_eq_true_eq, decide_eq_false_iff_not, ne_eq, true_implies, not_true_eq_false, not_false_eq_true, Bool.not_eq_true, Prod.mk.injEq, and_true, true_and, forall_const, preA_f, selB_0, selB_1, boolOf_eq_false, rep1, rep2, rep3, List.length_set, List.length_append, List.length_map, List.length_cons, List.length_nil, List.length_replicate, Nat.zero_add, Nat.add_zero] at hc)))
  all_goals (try ((fail_if_success refine Exists.intro ([] : List (Nat × Sh)) ?_); (fail_if_success refine Exists.intro (0 : Nat) (Exists.intro (_ : Alt _) ?_)); (try dsimp only [Dat, SDat, dflt, Ty.size, keepS, bkUpd, Gv.bk, backS, wayA, maxI, minI, negI]); (try simp only [Int.toNat_natCast, Int.toNat_zero, Int.toNat_one, Classical.not_not, boolOf_true, decide_eq_true_eq, decide_eq_false_iff_not, ne_eq, true_implies, not_true_eq_false, not_false_eq_true, Bool.not_eq_true, Prod.mk.injEq, and_true, true_and, forall_const, preA_f, selB_0, selB_1, boolOf_eq_false, rep1, rep2, rep3, List.length_set, List.length_append, List.length_map, List.length_cons, List.length_nil, List.length_replicate, Nat.zero_add, Nat.add_zero]); first | done | exact trivial | rfl | omega | exact boolOf_eq _ | (simp only [allP, lo, hi, room, true_and, and_true, implies_true]; done) | ((try simp only [allP, lo, hi, room, true_and, and_true, implies_true]); (repeat' (first | (with_reducible refine And.intro ?_ ?_) | ((with_reducible refine preA_t ?_ ?_); rotate_left; (focus (repeat (first | exact trivial | ((conv => whnf); refine And.intro (by rfl) ?_))))) | intro hv)) <;> (try omega))))
  rotate_left
  refine ⟨[(5, .d tInt)], [], fun y => ∃ k : Nat, y.1.1 = (k : Int) ∧ k ≤ a.length ∧ a.take k = b.take k, fun y => a.length - y.1.1.toNat, ?_⟩
  conv => whnf
  refine And.intro ?_ ?_
  · exact ⟨0, by simp⟩
  rintro ⟨⟨_, ⟨⟩⟩, ⟨⟩⟩ ⟨k, rfl, hk, hj⟩
  repeat' (first | (with_reducible refine And.intro ?_ ?_) | ((with_reducible refine gv_more ?_); conv => whnf) | (intro hc; (try dsimp only [Dat, SDat, dflt, Ty.size, keepS, bkUpd, Gv.bk, backS, wayA, maxI, minI, negI] at hc); (try simp only [Int.toNat_natCast, Int.toNat_zero, Int.toNat_one, Classical.not_not, boolOf_true, decide_eq_true_eq, decide_eq_false_iff_not, ne_eq, true_implies, not_true_eq_false, not_false_eq_true, Bool.not_eq_true, Prod.mk.injEq, and_true, true_and, forall_const, preA_f, selB_0, selB_1, boolOf_eq_false, rep1, rep2, rep3, List.length_set, List.length_append, List.length_map, List.length_cons, List.length_nil, List.length_replicate, Nat.zero_add, Nat.add_zero] at hc)))
  all_goals (try ((fail_if_success refine Exists.intro ([] : List (Nat × Sh)) ?_); (fail_if_success refine Exists.intro (0 : Nat) (Exists.intro (_ : Alt _) ?_)); (try dsimp only [Dat, SDat, dflt, Ty.size, keepS, bkUpd, Gv.bk, backS, wayA, maxI, minI, negI]); (try simp only [Int.toNat_natCast, Int.toNat_zero, Int.toNat_one, Classical.not_not, boolOf_true, decide_eq_true_eq, decide_eq_false_iff_not, ne_eq, true_implies, not_true_eq_false, not_false_eq_true, Bool.not_eq_true, Prod.mk.injEq, and_true, true_and, forall_const, preA_f, selB_0, selB_1, boolOf_eq_false, rep1, rep2, rep3, List.length_set, List.length_append, List.length_map, List.length_cons, List.length_nil, List.length_replicate, Nat.zero_add, Nat.add_zero]); first | done | exact trivial | rfl | omega | exact boolOf_eq _ | (simp only [allP, lo, hi, room, true_and, and_true, implies_true]; done) | ((try simp only [allP, lo, hi, room, true_and, and_true, implies_true]); (repeat' (first | (with_reducible refine And.intro ?_ ?_) | ((with_reducible refine preA_t ?_ ?_); rotate_left; (focus (repeat (first | exact trivial | ((conv => whnf); refine And.intro (by rfl) ?_))))) | intro hv)) <;> (try omega))))
  · have : a ≠ b := by rintro rfl; simp_all
    simp [this]
  · exact ⟨k + 1, by omega, by omega, take_eq_step hj (by omega) (by omega) (by assumption)⟩
  · have : a = b := take_eq_end hj (by omega) (by omega)
    simp [this]
  · have : a ≠ b := by rintro rfl; simp_all
    simp [this]
set_option maxRecDepth 100000 in
theorem ok_ref06_Ints : SpecOK SP glob fi_ref06_Ints S_ref06_Ints := mk_ok (c := (cf_ref06_Ints (Fl []))) (tab_ok _) mix_ok wf_ref06_Ints (by decide) .nil (fun x hx => Nat.zero_lt_one) g_ref06_Ints

@[reducible] noncomputable def S_ref16_Same : Spec := { ins := (.cons (.d tCirc) (.cons (.d tCirc) .nil)), pre := fun _ => True, alts := [{ outs := (.cons (.d .bool) .nil), res := (fun x => (fun a b => (decide (a = b), ())) x.1 x.2.1) }] }
set_option maxRecDepth 100000 in
set_option maxHeartbeats 4000000 in
theorem g_ref16_Same : ∀ x, S_ref16_Same.pre x → shOK S_ref16_Same.ins x → fnGoal (cf_ref16_Same (Fl [(fi_ref16_Equal, S_ref16_Equal)])) fn_ref16_Same S_ref16_Same x := by
  rintro ⟨⟨a, ⟨⟩⟩, ⟨b, ⟨⟩⟩, ⟨⟩⟩ hpre hok
  clear hpre
  have hln := shLn_of _ hok; replace hok := Hd.mk hok; try simp only [shLn, datLn, inRng, lo, hi, maxLen, true_and, and_true] at hln
  conv => whnf
  repeat' (first | (with_reducible refine And.intro ?_ ?_) | ((with_reducible refine gv_more ?_); conv => whnf) | (intro hc; (try dsimp only [Dat, SDat, dflt, Ty.size, keepS, bkUpd, Gv.bk, backS, wayA, maxI, minI, negI] at hc); (try simp only [Int.toNat_natCast, Int.toNat_zero, Int.toNat_one, Classical.not_not, boolOf_true, decide_eq_true_eq, decide_eq_false_iff_not, ne_eq, true_implies, not_true_eq_false, not_false_eq_true, Bool.not_eq_true, Prod.mk.injEq, and_true, true_and, forall_const, preA_f, selB_0, selB_1, boolOf_eq_false, rep1, rep2, rep3, List.length_set, List.length_append, List.length_map, List.length_cons, List.length_nil, List.length_replicate, Nat.zero_add, Nat.add_zero] at hc)))
  all_goals (try ((fail_if_success refine Exists.intro ([] : List (Nat × Sh)) ?_); (fail_if_success refine Exists.intro (0 : Nat) (Exists.intro (_ : Alt _) ?_)); (try dsimp only [Dat, SDat, dflt, Ty.size, keepS, bkUpd, Gv.bk, backS, wayA, maxI, minI, negI]); (try simp only [Int.toNat_natCast, Int.toNat_zero, Int.toNat_one, Classical.not_not, boolOf_true, decide_eq_true_eq, decide_eq_false_iff_not, ne_eq, true_implies, not_true_eq_false, not_false_eq_true, Bool.not_eq_true, Prod.mk.injEq, and_true, true_and, forall_const, preA_f, selB_0, selB_1, boolOf_eq_false, rep1, rep2, rep3, List.length_set, List.length_append, List.length_map, List.length_cons, List.length_nil, List.length_replicate, Nat.zero_add, Nat.add_zero]); first | done | exact trivial | rfl | omega | exact boolOf_eq _ | (simp only [allP, lo, hi, room, true_and, and_true, implies_true]; done) | ((try simp only [allP, lo, hi, room, true_and, and_true, implies_true]); (repeat' (first | (with_reducible refine And.intro ?_ ?_) | ((with_reducible refine preA_t ?_ ?_); rotate_left; (focus (repeat (first | exact trivial | ((conv => whnf); refine And.intro (by rfl) ?_))))) | intro hv)) <;> (try omega))))
  rotate_left
  refine ⟨[(5, .d tInt)], [], fun y => ∃ k : Nat, y.1.1 = (k : Int) ∧ k ≤ a.length ∧ a.take k = b.take k, fun y => a.length - y.1.1.toNat, ?_⟩
  conv => whnf
  refine And.intro ?_ ?_
  · exact ⟨0, by simp⟩
  rintro ⟨⟨_, ⟨⟩⟩, ⟨⟩⟩ ⟨k, rfl, hk, hj⟩
  repeat' (first | (with_reducible refine And.intro ?_ ?_) | ((with_reducible refine gv_more ?_); conv => whnf) | (intro hc; (try dsimp only [Dat, SDat, dflt, Ty.size, keepS, bkUpd, Gv.bk, backS, wayA, maxI, minI, negI] at hc); (try simp only [Int.toNat_natCast, Int.toNat_zero, Int.toNat_one, Classical.not_not, boolOf_true, decide_eq_true_eq, decide_eq_false_iff_not, ne_eq, true_implies, not_true_eq_false, not_false_eq_true, Bool.not_eq_true, Prod.mk.injEq, and_true, true_and, forall_const, preA_f, selB_0, selB_1, boolOf_eq_false, rep1, rep2, rep3, List.length_set, List.length_append, List.length_map, List.length_cons, List.length_nil, List.length_replicate, Nat.zero_add, Nat.add_zero] at hc)))
  all_goals (try ((fail_if_success refine Exists.intro ([] : List (Nat × Sh)) ?_); (fail_if_success refine Exists.intro (0 : Nat) (Exists.intro (_ : Alt _) ?_)); (try dsimp only [Dat, SDat, dflt, Ty.size, keepS, bkUpd, Gv.bk, backS, wayA, maxI, minI, negI]); (try simp only [Int.toNat_natCast, Int.toNat_zero, Int.toNat_one, Classical.not_not, boolOf_true, decide_eq_true_eq, decide_eq_false_iff_not, ne_eq, true_implies, not_true_eq_false, not_false_eq_true, Bool.not_eq_true, Prod.mk.injEq, and_true, true_and, forall_const, preA_f, selB_0, selB_1, boolOf_eq_false, rep1, rep2, rep3, List.length_set, List.length_append, List.length_map, List.length_cons, List.length_nil, List.length_replicate, Nat.zero_add, Nat.add_zero]); first | done | exact trivial | rfl | omega | exact boolOf_eq _ | (simp only [allP, lo, hi, room, true_and, and_true, implies_true]; done) | ((try simp only [allP, lo, hi, room, true_and, and_true, implies_true]); (repeat' (first | (with_reducible refine And.intro ?_ ?_) | ((with_reducible refine preA_t ?_ ?_); rotate_left; (focus (repeat (first | exact trivial | ((conv => whnf); refine And.intro (by rfl) ?_))))) | intro hv)) <;> (try omega))))
  · have : a ≠ b := by rintro rfl; simp_all
    simp [this]
  · exact ⟨k + 1, by omega, by omega, take_eq_step hj (by omega) (by omega) (by assumption)⟩
  · have : a = b := take_eq_end hj (by omega) (by omega)
    simp [this]
  · have : a ≠ b := by rintro rfl; simp_all
    simp [this]
set_option maxRecDepth 100000 in
theorem ok_ref16_Same : SpecOK SP glob fi_ref16_Same S_ref16_Same := mk_ok (c := (cf_ref16_Same (Fl [(fi_ref16_Equal, S_ref16_Equal)]))) (tab_ok _) mix_ok wf_ref16_Same (by decide) (.cons ok_ref16_Equal .nil) (fun x hx => Nat.zero_lt_one) g_ref16_Same

def inner (k : Int) : Prop := k = 3 ∨ k = 4
instance (k : Int) : Decidable (inner k) := inferInstanceAs (Decidable (k = 3 ∨ k = 4))
def kidsIn (l : List Int) (n : Int) : Prop := ∀ k ∈ l, 0 ≤ k ∧ k < n
def formed (g : Gate) (n : Int) : Prop := kidsIn g.2.2.1 n ∧ ((g.1 = 2 ∧ g.2.2.1 = [] ∧ 0 ≤ g.2.1 ∧ g.2.1 < 4000) ∨ ((g.1 = 0 ∨ g.1 = 1) ∧ g.2.2.1 = [] ∧ g.2.1 = 0) ∨ (inner g.1 ∧ g.2.1 = 0))
def kindAt (gs : List Gate) (k : Int) : Int := (gs.getD k.toNat ((0, 0, [], ()) : Gate)).1
def KidOK (gs : List Gate) (g : Gate) (j : Nat) : Prop := (0 < j → g.2.2.1.getD (j - 1) 0 ≤ g.2.2.1.getD j 0) ∧ kindAt gs (g.2.2.1.getD j 0) ≠ 0 ∧ ¬ (g.1 = 4 ∧ kindAt gs (g.2.2.1.getD j 0) = 1)
def GoodAt (gs : List Gate) (m : Nat) (g : Gate) : Prop := formed g m ∧ (inner g.1 → 2 ≤ g.2.2.1.length) ∧ (∀ j, j < g.2.2.1.length → KidOK gs g j) ∧ ∀ k, k < m → gs.getD k ((0, 0, [], ()) : Gate) ≠ g
def SmallG (gs : List Gate) : Prop := ∀ g ∈ gs, g.2.2.1.length ≤ 1000000
def ValidC (gs : List Gate) : Prop := gs.length ≤ 100000 ∧ ∀ m, m < gs.length → GoodAt gs m (gs.getD m ((0, 0, [], ()) : Gate))

@[reducible] noncomputable def S_ref16_inner : Spec := { ins := (.cons (.d tInt) .nil), pre := fun _ => True, alts := [{ outs := (.cons (.d .bool) .nil), res := (fun x => (fun k => (decide (inner k), ())) x.1) }] }
set_option maxRecDepth 100000 in
set_option maxHeartbeats 4000000 in
theorem g_ref16_inner : ∀ x, S_ref16_inner.pre x → shOK S_ref16_inner.ins x → fnGoal (cf_ref16_inner (Fl [])) fn_ref16_inner S_ref16_inner x := by
  rintro ⟨k, ⟨⟩⟩ hpre hok
  clear hpre
  have hln := shLn_of _ hok; replace hok := Hd.mk hok; try simp only [shLn, datLn, inRng, lo, hi, maxLen, true_and, and_true] at hln
  conv => whnf
  repeat' (first | (with_reducible refine And.intro ?_ ?_) | ((with_reducible refine gv_more ?_); conv => whnf) | (intro hc; (try dsimp only [Dat, SDat, dflt, Ty.size, keepS, bkUpd, Gv.bk, backS, wayA, maxI, minI, negI] at hc); (try simp only [Int.toNat_natCast, Int.toNat_zero, Int.toNat_one, Classical.not_not, boolOf_true, decide_eq_true_eq, decide_eq_false_iff_not, ne_eq, true_implies, not_true_eq_false, not_false_eq_true, Bool.not_eq_true, Prod.mk.injEq, and_true, true_and, forall_const, preA_f, selB_0, selB_1, boolOf_eq_false, rep1, rep2, rep3, List.length_set, List.length_append, List.length_map, List.length_cons, List.length_nil, List.length_replicate, Nat.zero_add, Nat.add_zero] at hc)))
  all_goals (try ((fail_if_success refine Exists.intro ([] : List (Nat × Sh)) ?_); (fail_if_success refine Exists.intro (0 : Nat) (Exists.intro (_ : Alt _) ?_)); (try dsimp only [Dat, SDat, dflt, Ty.size, keepS, bkUpd, Gv.bk, backS, wayA, maxI, minI, negI]); (try simp only [Int.toNat_natCast, Int.toNat_zero, Int.toNat_one, Classical.not_not, boolOf_true, decide_eq_true_eq, decide_eq_false_iff_not, ne_eq, true_implies, not_true_eq_false, not_false_eq_true, Bool.not_eq_true, Prod.mk.injEq, and_true, true_and, forall_const, preA_f, selB_0, selB_1, boolOf_eq_false, rep1, rep2, rep3, List.length_set, List.length_append, List.length_map, List.length_cons, List.length_nil, List.length_replicate, Nat.zero_add, Nat.add_zero]); first | done | exact trivial | rfl | omega | exact boolOf_eq _ | (simp only [allP, lo, hi, room, true_and, and_true, implies_true]; done) | ((try simp only [allP, lo, hi, room, true_and, and_true, implies_true]); (repeat' (first | (with_reducible refine And.intro ?_ ?_) | ((with_reducible refine preA_t ?_ ?_); rotate_left; (focus (repeat (first | exact trivial | ((conv => whnf); refine And.intro (by rfl) ?_))))) | intro hv)) <;> (try omega))))
set_option maxRecDepth 100000 in
theorem ok_ref16_inner : SpecOK SP glob fi_ref16_inner S_ref16_inner := mk_ok (c := (cf_ref16_inner (Fl []))) (tab_ok _) mix_ok wf_ref16_inner (by decide) .nil (fun x hx => Nat.zero_lt_one) g_ref16_inner

@[reducible] noncomputable def S_ref16_formed : Spec := { ins := (.cons (.d tGate) (.cons (.d tInt) .nil)), pre := fun _ => True, alts := [{ outs := (.cons (.d .bool) .nil), res := (fun x => (fun g n => (boolOf (formed g n), ())) x.1 x.2.1) }] }
set_option maxRecDepth 100000 in
set_option maxHeartbeats 4000000 in
theorem g_ref16_formed : ∀ x, S_ref16_formed.pre x → shOK S_ref16_formed.ins x → fnGoal (cf_ref16_formed (Fl [(fi_ref16_inner, S_ref16_inner)])) fn_ref16_formed S_ref16_formed x := by
  rintro ⟨⟨gk, gv, kids, ⟨⟩⟩, n, ⟨⟩⟩ hpre hok
  clear hpre
  have hln := shLn_of _ hok; replace hok := Hd.mk hok; try simp only [shLn, datLn, inRng, lo, hi, maxLen, true_and, and_true] at hln
  conv => whnf
  repeat' (first | (with_reducible refine And.intro ?_ ?_) | ((with_reducible refine gv_more ?_); conv => whnf) | (intro hc; (try dsimp only [Dat, SDat, dflt, Ty.size, keepS, bkUpd, Gv.bk, backS, wayA, maxI, minI, negI] at hc); (try simp only [Int.toNat_natCast, Int.toNat_zero, Int.toNat_one, Classical.not_not, boolOf_true, decide_eq_true_eq, decide_eq_false_iff_not, ne_eq, true_implies, not_true_eq_false, not_false_eq_true, Bool.not_eq_true, Prod.mk.injEq, and_true, true_and, forall_const, preA_f, selB_0, selB_1, boolOf_eq_false, rep1, rep2, rep3, List.length_set, List.length_append, List.length_map, List.length_cons, List.length_nil, List.length_replicate, Nat.zero_add, Nat.add_zero] at hc)))
  all_goals (try ((fail_if_success refine Exists.intro ([] : List (Nat × Sh)) ?_); (fail_if_success refine Exists.intro (0 : Nat) (Exists.intro (_ : Alt _) ?_)); (try dsimp only [Dat, SDat, dflt, Ty.size, keepS, bkUpd, Gv.bk, backS, wayA, maxI, minI, negI]); (try simp only [Int.toNat_natCast, Int.toNat_zero, Int.toNat_one, Classical.not_not, boolOf_true, decide_eq_true_eq, decide_eq_false_iff_not, ne_eq, true_implies, not_true_eq_false, not_false_eq_true, Bool.not_eq_true, Prod.mk.injEq, and_true, true_and, forall_const, preA_f, selB_0, selB_1, boolOf_eq_false, rep1, rep2, rep3, List.length_set, List.length_append, List.length_map, List.length_cons, List.length_nil, List.length_replicate, Nat.zero_add, Nat.add_zero]); first | done | exact trivial | rfl | omega | exact boolOf_eq _ | (simp only [allP, lo, hi, room, true_and, and_true, implies_true]; done) | ((try simp only [allP, lo, hi, room, true_and, and_true, implies_true]); (repeat' (first | (with_reducible refine And.intro ?_ ?_) | ((with_reducible refine preA_t ?_ ?_); rotate_left; (focus (repeat (first | exact trivial | ((conv => whnf); refine And.intro (by rfl) ?_))))) | intro hv)) <;> (try omega))))
  refine ⟨[(5, .d tInt)], [], fun y => ∃ k : Nat, y.1.1 = (k : Int) ∧ k ≤ kids.length ∧ ∀ x ∈ kids.take k, 0 ≤ x ∧ x < n, fun y => kids.length - y.1.1.toNat, ?_⟩
  conv => whnf
  refine And.intro ?_ ?_
  · exact ⟨0, by simp⟩
  rintro ⟨⟨_, ⟨⟩⟩, ⟨⟩⟩ ⟨k, rfl, hk, hj⟩
  repeat' (first | (with_reducible refine And.intro ?_ ?_) | ((with_reducible refine gv_more ?_); conv => whnf) | (intro hc; (try dsimp only [Dat, SDat, dflt, Ty.size, keepS, bkUpd, Gv.bk, backS, wayA, maxI, minI, negI] at hc); (try simp only [Int.toNat_natCast, Int.toNat_zero, Int.toNat_one, Classical.not_not, boolOf_true, decide_eq_true_eq, decide_eq_false_iff_not, ne_eq, true_implies, not_true_eq_false, not_false_eq_true, Bool.not_eq_true, Prod.mk.injEq, and_true, true_and, forall_const, preA_f, selB_0, selB_1, boolOf_eq_false, rep1, rep2, rep3, List.length_set, List.length_append, List.length_map, List.length_cons, List.length_nil, List.length_replicate, Nat.zero_add, Nat.add_zero] at hc)))
  all_goals (try ((fail_if_success refine Exists.intro ([] : List (Nat × Sh)) ?_); (fail_if_success refine Exists.intro (0 : Nat) (Exists.intro (_ : Alt _) ?_)); (try dsimp only [Dat, SDat, dflt, Ty.size, keepS, bkUpd, Gv.bk, backS, wayA, maxI, minI, negI]); (try simp only [Int.toNat_natCast, Int.toNat_zero, Int.toNat_one, Classical.not_not, boolOf_true, decide_eq_true_eq, decide_eq_false_iff_not, ne_eq, true_implies, not_true_eq_false, not_false_eq_true, Bool.not_eq_true, Prod.mk.injEq, and_true, true_and, forall_const, preA_f, selB_0, selB_1, boolOf_eq_false, rep1, rep2, rep3, List.length_set, List.length_append, List.length_map, List.length_cons, List.length_nil, List.length_replicate, Nat.zero_add, Nat.add_zero]); first | done | exact trivial | rfl | omega | exact boolOf_eq _ | (simp only [allP, lo, hi, room, true_and, and_true, implies_true]; done) | ((try simp only [allP, lo, hi, room, true_and, and_true, implies_true]); (repeat' (first | (with_reducible refine And.intro ?_ ?_) | ((with_reducible refine preA_t ?_ ?_); rotate_left; (focus (repeat (first | exact trivial | ((conv => whnf); refine And.intro (by rfl) ?_))))) | intro hv)) <;> (try omega))))
  · refine bF fun h => ?_
    have := h.1 _ (getD_mem (l := kids) (d := 0) (k := k) (by omega))
    omega
  · exact ⟨k + 1, by omega, by omega, all_step (d := 0) hj (by omega) (by omega)⟩
  · have h1 : kidsIn kids n := all_end hj (by omega)
    refine bC ?_
    subst hc
    simp only [formed, h1, inner, List.length_eq_zero_iff, Int.natCast_eq_zero]
    grind
  · have h1 : kidsIn kids n := all_end hj (by omega)
    refine bC ?_
    simp only [formed, h1, hc, inner, List.length_eq_zero_iff, Int.natCast_eq_zero]
    grind
set_option maxRecDepth 100000 in
theorem ok_ref16_formed : SpecOK SP glob fi_ref16_formed S_ref16_formed := mk_ok (c := (cf_ref16_formed (Fl [(fi_ref16_inner, S_ref16_inner)]))) (tab_ok _) mix_ok wf_ref16_formed (by decide) (.cons ok_ref16_inner .nil) (fun x hx => Nat.zero_lt_one) g_ref16_formed

@[reducible] noncomputable def S_ref16_Few : Spec := { ins := (.cons (.d tCirc) (.cons (.d tInt) .nil)), pre := fun _ => True, alts := [{ outs := (.cons (.d .bool) .nil), res := (fun x => (fun c n => (boolOf (c.1.length ≤ n ∧ ∀ g ∈ c.1, g.2.2.1.length ≤ 20), ())) x.1 x.2.1) }] }
set_option maxRecDepth 100000 in
set_option maxHeartbeats 4000000 in
theorem g_ref16_Few : ∀ x, S_ref16_Few.pre x → shOK S_ref16_Few.ins x → fnGoal (cf_ref16_Few (Fl [])) fn_ref16_Few S_ref16_Few x := by
  rintro ⟨⟨gs, ⟨⟩⟩, n, ⟨⟩⟩ hpre hok
  clear hpre
  have hln := shLn_of _ hok; replace hok := Hd.mk hok; try simp only [shLn, datLn, inRng, lo, hi, maxLen, true_and, and_true] at hln
  conv => whnf
  repeat' (first | (with_reducible refine And.intro ?_ ?_) | ((with_reducible refine gv_more ?_); conv => whnf) | (intro hc; (try dsimp only [Dat, SDat, dflt, Ty.size, keepS, bkUpd, Gv.bk, backS, wayA, maxI, minI, negI] at hc); (try simp only [Int.toNat_natCast, Int.toNat_zero, Int.toNat_one, Classical.not_not, boolOf_true, decide_eq_true_eq, decide_eq_false_iff_not, ne_eq, true_implies, not_true_eq_false, not_false_eq_true, Bool.not_eq_true, Prod.mk.injEq, and_true, true_and, forall_const, preA_f, selB_0, selB_1, boolOf_eq_false, rep1, rep2, rep3, List.length_set, List.length_append, List.length_map, List.length_cons, List.length_nil, List.length_replicate, Nat.zero_add, Nat.add_zero] at hc)))
  all_goals (try ((fail_if_success refine Exists.intro ([] : List (Nat × Sh)) ?_); (fail_if_success refine Exists.intro (0 : Nat) (Exists.intro (_ : Alt _) ?_)); (try dsimp only [Dat, SDat, dflt, Ty.size, keepS, bkUpd, Gv.bk, backS, wayA, maxI, minI, negI]); (try simp only [Int.toNat_natCast, Int.toNat_zero, Int.toNat_one, Classical.not_not, boolOf_true, decide_eq_true_eq, decide_eq_false_iff_not, ne_eq, true_implies, not_true_eq_false, not_false_eq_true, Bool.not_eq_true, Prod.mk.injEq, and_true, true_and, forall_const, preA_f, selB_0, selB_1, boolOf_eq_false, rep1, rep2, rep3, List.length_set, List.length_append, List.length_map, List.length_cons, List.length_nil, List.length_replicate, Nat.zero_add, Nat.add_zero]); first | done | exact trivial | rfl | omega | exact boolOf_eq _ | (simp only [allP, lo, hi, room, true_and, and_true, implies_true]; done) | ((try simp only [allP, lo, hi, room, true_and, and_true, implies_true]); (repeat' (first | (with_reducible refine And.intro ?_ ?_) | ((with_reducible refine preA_t ?_ ?_); rotate_left; (focus (repeat (first | exact trivial | ((conv => whnf); refine And.intro (by rfl) ?_))))) | intro hv)) <;> (try omega))))
  rotate_left
  refine ⟨[(5, .d tInt)], [], fun y => ∃ k : Nat, y.1.1 = (k : Int) ∧ k ≤ gs.length ∧ ∀ g ∈ gs.take k, g.2.2.1.length ≤ 20, fun y => gs.length - y.1.1.toNat, ?_⟩
  conv => whnf
  refine And.intro ?_ ?_
  · exact ⟨0, by simp⟩
  rintro ⟨⟨_, ⟨⟩⟩, ⟨⟩⟩ ⟨k, rfl, hk, hj⟩
  repeat' (first | (with_reducible refine And.intro ?_ ?_) | ((with_reducible refine gv_more ?_); conv => whnf) | (intro hc; (try dsimp only [Dat, SDat, dflt, Ty.size, keepS, bkUpd, Gv.bk, backS, wayA, maxI, minI, negI] at hc); (try simp only [Int.toNat_natCast, Int.toNat_zero, Int.toNat_one, Classical.not_not, boolOf_true, decide_eq_true_eq, decide_eq_false_iff_not, ne_eq, true_implies, not_true_eq_false, not_false_eq_true, Bool.not_eq_true, Prod.mk.injEq, and_true, true_and, forall_const, preA_f, selB_0, selB_1, boolOf_eq_false, rep1, rep2, rep3, List.length_set, List.length_append, List.length_map, List.length_cons, List.length_nil, List.length_replicate, Nat.zero_add, Nat.add_zero] at hc)))
  all_goals (try ((fail_if_success refine Exists.intro ([] : List (Nat × Sh)) ?_); (fail_if_success refine Exists.intro (0 : Nat) (Exists.intro (_ : Alt _) ?_)); (try dsimp only [Dat, SDat, dflt, Ty.size, keepS, bkUpd, Gv.bk, backS, wayA, maxI, minI, negI]); (try simp only [Int.toNat_natCast, Int.toNat_zero, Int.toNat_one, Classical.not_not, boolOf_true, decide_eq_true_eq, decide_eq_false_iff_not, ne_eq, true_implies, not_true_eq_false, not_false_eq_true, Bool.not_eq_true, Prod.mk.injEq, and_true, true_and, forall_const, preA_f, selB_0, selB_1, boolOf_eq_false, rep1, rep2, rep3, List.length_set, List.length_append, List.length_map, List.length_cons, List.length_nil, List.length_replicate, Nat.zero_add, Nat.add_zero]); first | done | exact trivial | rfl | omega | exact boolOf_eq _ | (simp only [allP, lo, hi, room, true_and, and_true, implies_true]; done) | ((try simp only [allP, lo, hi, room, true_and, and_true, implies_true]); (repeat' (first | (with_reducible refine And.intro ?_ ?_) | ((with_reducible refine preA_t ?_ ?_); rotate_left; (focus (repeat (first | exact trivial | ((conv => whnf); refine And.intro (by rfl) ?_))))) | intro hv)) <;> (try omega))))
  · refine bF fun h => ?_
    have := h.2 _ (getD_mem (d := ((0, 0, [], ()) : Gate)) (k := k) (by omega))
    omega
  · exact ⟨k + 1, by omega, by omega, all_step (d := ((0, 0, [], ()) : Gate)) hj (by omega) (by omega)⟩
  · exact bT ⟨by omega, all_end hj (by omega)⟩
  · exact bF fun h => by omega
set_option maxRecDepth 100000 in
theorem ok_ref16_Few : SpecOK SP glob fi_ref16_Few S_ref16_Few := mk_ok (c := (cf_ref16_Few (Fl []))) (tab_ok _) mix_ok wf_ref16_Few (by decide) .nil (fun x hx => Nat.zero_lt_one) g_ref16_Few

@[reducible] noncomputable def S_ref16_Valid : Spec := { ins := (.cons (.d tCirc) .nil), pre := fun _ => True, alts := [{ outs := (.cons (.d .bool) .nil), res := (fun x => (fun c => (boolOf (ValidC c.1), ())) x.1) }] }
set_option maxRecDepth 100000 in
set_option maxHeartbeats 4000000 in
theorem g_ref16_Valid : ∀ x, S_ref16_Valid.pre x → shOK S_ref16_Valid.ins x → fnGoal (cf_ref16_Valid (Fl [(fi_ref16_formed, S_ref16_formed), (fi_ref16_inner, S_ref16_inner), (fi_ref16_Equal, S_ref16_Equal)])) fn_ref16_Valid S_ref16_Valid x := by
  rintro ⟨⟨gs, ⟨⟩⟩, ⟨⟩⟩ hpre hok
  clear hpre
  have hln := shLn_of _ hok; replace hok := Hd.mk hok; try simp only [shLn, datLn, inRng, lo, hi, maxLen, true_and, and_true] at hln
  conv => whnf
  repeat' (first | (with_reducible refine And.intro ?_ ?_) | ((with_reducible refine gv_more ?_); conv => whnf) | (intro hc; (try dsimp only [Dat, SDat, dflt, Ty.size, keepS, bkUpd, Gv.bk, backS, wayA, maxI, minI, negI] at hc); (try simp only [Int.toNat_natCast, Int.toNat_zero, Int.toNat_one, Classical.not_not, boolOf_true, decide_eq_true_eq, decide_eq_false_iff_not, ne_eq, true_implies, not_true_eq_false, not_false_eq_true, Bool.not_eq_true, Prod.mk.injEq, and_true, true_and, forall_const, preA_f, selB_0, selB_1, boolOf_eq_false, rep1, rep2, rep3, List.length_set, List.length_append, List.length_map, List.length_cons, List.length_nil, List.length_replicate, Nat.zero_add, Nat.add_zero] at hc)))
  all_goals (try ((fail_if_success refine Exists.intro ([] : List (Nat × Sh)) ?_); (fail_if_success refine Exists.intro (0 : Nat) (Exists.intro (_ : Alt _) ?_)); (try dsimp only [Dat, SDat, dflt, Ty.size, keepS, bkUpd, Gv.bk, backS, wayA, maxI, minI, negI]); (try simp only [Int.toNat_natCast, Int.toNat_zero, Int.toNat_one, Classical.not_not, boolOf_true, decide_eq_true_eq, decide_eq_false_iff_not, ne_eq, true_implies, not_true_eq_false, not_false_eq_true, Bool.not_eq_true, Prod.mk.injEq, and_true, true_and, forall_const, preA_f, selB_0, selB_1, boolOf_eq_false, rep1, rep2, rep3, List.length_set, List.length_append, List.length_map, List.length_cons, List.length_nil, List.length_replicate, Nat.zero_add, Nat.add_zero]); first | done | exact trivial | rfl | omega | exact boolOf_eq _ | (simp only [allP, lo, hi, room, true_and, and_true, implies_true]; done) | ((try simp only [allP, lo, hi, room, true_and, and_true, implies_true]); (repeat' (first | (with_reducible refine And.intro ?_ ?_) | ((with_reducible refine preA_t ?_ ?_); rotate_left; (focus (repeat (first | exact trivial | ((conv => whnf); refine And.intro (by rfl) ?_))))) | intro hv)) <;> (try omega))))
  rotate_left
  refine ⟨[(3, .d tInt)], [], fun y => ∃ n : Nat, y.1.1 = (n : Int) ∧ n ≤ gs.length ∧ ∀ m, m < n → GoodAt gs m (gs.getD m ((0, 0, [], ()) : Gate)), fun y => gs.length - y.1.1.toNat, ?_⟩
  conv => whnf
  refine And.intro ?_ ?_
  · exact ⟨0, by simp⟩
  rintro ⟨⟨_, ⟨⟩⟩, ⟨⟩⟩ ⟨n, rfl, hn, hG⟩
  repeat' (first | (with_reducible refine And.intro ?_ ?_) | ((with_reducible refine gv_more ?_); conv => whnf) | (intro hc; (try dsimp only [Dat, SDat, dflt, Ty.size, keepS, bkUpd, Gv.bk, backS, wayA, maxI, minI, negI] at hc); (try simp only [Int.toNat_natCast, Int.toNat_zero, Int.toNat_one, Classical.not_not, boolOf_true, decide_eq_true_eq, decide_eq_false_iff_not, ne_eq, true_implies, not_true_eq_false, not_false_eq_true, Bool.not_eq_true, Prod.mk.injEq, and_true, true_and, forall_const, preA_f, selB_0, selB_1, boolOf_eq_false, rep1, rep2, rep3, List.length_set, List.length_append, List.length_map, List.length_cons, List.length_nil, List.length_replicate, Nat.zero_add, Nat.add_zero] at hc)))
  all_goals (try ((fail_if_success refine Exists.intro ([] : List (Nat × Sh)) ?_); (fail_if_success refine Exists.intro (0 : Nat) (Exists.intro (_ : Alt _) ?_)); (try dsimp only [Dat, SDat, dflt, Ty.size, keepS, bkUpd, Gv.bk, backS, wayA, maxI, minI, negI]); (try simp only [Int.toNat_natCast, Int.toNat_zero, Int.toNat_one, Classical.not_not, boolOf_true, decide_eq_true_eq, decide_eq_false_iff_not, ne_eq, true_implies, not_true_eq_false, not_false_eq_true, Bool.not_eq_true, Prod.mk.injEq, and_true, true_and, forall_const, preA_f, selB_0, selB_1, boolOf_eq_false, rep1, rep2, rep3, List.length_set, List.length_append, List.length_map, List.length_cons, List.length_nil, List.length_replicate, Nat.zero_add, Nat.add_zero]); first | done | exact trivial | rfl | omega | exact boolOf_eq _ | (simp only [allP, lo, hi, room, true_and, and_true, implies_true]; done) | ((try simp only [allP, lo, hi, room, true_and, and_true, implies_true]); (repeat' (first | (with_reducible refine And.intro ?_ ?_) | ((with_reducible refine preA_t ?_ ?_); rotate_left; (focus (repeat (first | exact trivial | ((conv => whnf); refine And.intro (by rfl) ?_))))) | intro hv)) <;> (try omega))))
  · refine bF fun h => ?_
    have := h.2 n (by omega)
    unfold GoodAt at this
    grind
  · have hgl : (List.getD gs n ((0, 0, [], ()) : Gate)).2.2.1.length ≤ 2 ^ 63 - 1 := (hok.out.1.1.2 (List.getD gs n ((0, 0, [], ()) : Gate)) (getD_mem (l := gs) (by omega))).2.2.1.1
    have hf : formed (List.getD gs n ((0, 0, [], ()) : Gate)) n ∧ ¬ (inner (List.getD gs n ((0, 0, [], ()) : Gate)).1 ∧ (List.getD gs n ((0, 0, [], ()) : Gate)).2.2.1.length < 2) := by grind
    refine ⟨[(5, .d tInt)], [], fun y => ∃ j : Nat, y.1.1 = (j : Int) ∧ j ≤ (List.getD gs n ((0, 0, [], ()) : Gate)).2.2.1.length ∧ ∀ i, i < j → KidOK gs (List.getD gs n ((0, 0, [], ()) : Gate)) i, fun y => (List.getD gs n ((0, 0, [], ()) : Gate)).2.2.1.length - y.1.1.toNat, ?_⟩
    conv => whnf
    refine And.intro ?_ ?_
    · exact ⟨0, by simp⟩
    rintro ⟨⟨_, ⟨⟩⟩, ⟨⟩⟩ ⟨j, rfl, hj, hK⟩
    repeat' (first | (with_reducible refine And.intro ?_ ?_) | ((with_reducible refine gv_more ?_); conv => whnf) | (intro hc; (try dsimp only [Dat, SDat, dflt, Ty.size, keepS, bkUpd, Gv.bk, backS, wayA, maxI, minI, negI] at hc); (try simp only [Int.toNat_natCast, Int.toNat_zero, Int.toNat_one, Classical.not_not, boolOf_true, decide_eq_true_eq, decide_eq_false_iff_not, ne_eq, true_implies, not_true_eq_false, not_false_eq_true, Bool.not_eq_true, Prod.mk.injEq, and_true, true_and, forall_const, preA_f, selB_0, selB_1, boolOf_eq_false, rep1, rep2, rep3, List.length_set, List.length_append, List.length_map, List.length_cons, List.length_nil, List.length_replicate, Nat.zero_add, Nat.add_zero] at hc)))
    all_goals (try ((fail_if_success refine Exists.intro ([] : List (Nat × Sh)) ?_); (fail_if_success refine Exists.intro (0 : Nat) (Exists.intro (_ : Alt _) ?_)); (try dsimp only [Dat, SDat, dflt, Ty.size, keepS, bkUpd, Gv.bk, backS, wayA, maxI, minI, negI]); (try simp only [Int.toNat_natCast, Int.toNat_zero, Int.toNat_one, Classical.not_not, boolOf_true, decide_eq_true_eq, decide_eq_false_iff_not, ne_eq, true_implies, not_true_eq_false, not_false_eq_true, Bool.not_eq_true, Prod.mk.injEq, and_true, true_and, forall_const, preA_f, selB_0, selB_1, boolOf_eq_false, rep1, rep2, rep3, List.length_set, List.length_append, List.length_map, List.length_cons, List.length_nil, List.length_replicate, Nat.zero_add, Nat.add_zero]); first | done | exact trivial | rfl | omega | exact boolOf_eq _ | (simp only [allP, lo, hi, room, true_and, and_true, implies_true]; done) | ((try simp only [allP, lo, hi, room, true_and, and_true, implies_true]); (repeat' (first | (with_reducible refine And.intro ?_ ?_) | ((with_reducible refine preA_t ?_ ?_); rotate_left; (focus (repeat (first | exact trivial | ((conv => whnf); refine And.intro (by rfl) ?_))))) | intro hv)) <;> (try omega))))
    · have := hf.1.1 _ (getD_mem (l := (List.getD gs n ((0, 0, [], ()) : Gate)).2.2.1) (d := 0) (k := j) (by omega))
      omega
    · have := hf.1.1 _ (getD_mem (l := (List.getD gs n ((0, 0, [], ()) : Gate)).2.2.1) (d := 0) (k := j) (by omega))
      omega
    · refine bF fun h => ?_
      have := (h.2 n (by omega)).2.2.1 j (by omega)
      have h1 := this.1; have h2 := this.2.1; have h3 := this.2.2
      have e : ((j : Int) - 1).toNat = j - 1 := by omega
      rw [e] at hc
      unfold kindAt at h2 h3
      omega
    · refine ⟨j + 1, by omega, by omega, lt_step hK ?_⟩
      have e : ((j : Int) - 1).toNat = j - 1 := by omega
      rw [e] at hc
      exact ⟨by omega, by unfold kindAt; omega, by unfold kindAt; omega⟩
    · have hA := hK; clear hK
      refine ⟨[(7, .d tInt)], [], fun y => ∃ j : Nat, y.1.1 = (j : Int) ∧ j ≤ n ∧ ∀ i, i < j → gs.getD i ((0, 0, [], ()) : Gate) ≠ (List.getD gs n ((0, 0, [], ()) : Gate)), fun y => n - y.1.1.toNat, ?_⟩
      conv => whnf
      refine And.intro ?_ ?_
      · exact ⟨0, by simp⟩
      rintro ⟨⟨_, ⟨⟩⟩, ⟨⟩⟩ ⟨k, rfl, hk, hD⟩
      repeat' (first | (with_reducible refine And.intro ?_ ?_) | ((with_reducible refine gv_more ?_); conv => whnf) | (intro hc; (try dsimp only [Dat, SDat, dflt, Ty.size, keepS, bkUpd, Gv.bk, backS, wayA, maxI, minI, negI] at hc); (try simp only [Int.toNat_natCast, Int.toNat_zero, Int.toNat_one, Classical.not_not, boolOf_true, decide_eq_true_eq, decide_eq_false_iff_not, ne_eq, true_implies, not_true_eq_false, not_false_eq_true, Bool.not_eq_true, Prod.mk.injEq, and_true, true_and, forall_const, preA_f, selB_0, selB_1, boolOf_eq_false, rep1, rep2, rep3, List.length_set, List.length_append, List.length_map, List.length_cons, List.length_nil, List.length_replicate, Nat.zero_add, Nat.add_zero] at hc)))
      all_goals (try ((fail_if_success refine Exists.intro ([] : List (Nat × Sh)) ?_); (fail_if_success refine Exists.intro (0 : Nat) (Exists.intro (_ : Alt _) ?_)); (try dsimp only [Dat, SDat, dflt, Ty.size, keepS, bkUpd, Gv.bk, backS, wayA, maxI, minI, negI]); (try simp only [Int.toNat_natCast, Int.toNat_zero, Int.toNat_one, Classical.not_not, boolOf_true, decide_eq_true_eq, decide_eq_false_iff_not, ne_eq, true_implies, not_true_eq_false, not_false_eq_true, Bool.not_eq_true, Prod.mk.injEq, and_true, true_and, forall_const, preA_f, selB_0, selB_1, boolOf_eq_false, rep1, rep2, rep3, List.length_set, List.length_append, List.length_map, List.length_cons, List.length_nil, List.length_replicate, Nat.zero_add, Nat.add_zero]); first | done | exact trivial | rfl | omega | exact boolOf_eq _ | (simp only [allP, lo, hi, room, true_and, and_true, implies_true]; done) | ((try simp only [allP, lo, hi, room, true_and, and_true, implies_true]); (repeat' (first | (with_reducible refine And.intro ?_ ?_) | ((with_reducible refine preA_t ?_ ?_); rotate_left; (focus (repeat (first | exact trivial | ((conv => whnf); refine And.intro (by rfl) ?_))))) | intro hv)) <;> (try omega))))
      · refine bF fun h => ?_
        exact (h.2 n (by omega)).2.2.2 k (by omega) hc
      · exact ⟨k + 1, by omega, by omega, lt_step hD hc⟩
      · refine ⟨n + 1, by omega, by omega, lt_step hG ⟨hf.1, fun h => ?_, fun i hi => hA i (by omega), fun i hi => hD i (by omega)⟩⟩
        have := hf.2; grind
  · exact bT ⟨by omega, fun m hm => hG m (by omega)⟩
  · exact bF fun h => by have := h.1; omega
set_option maxRecDepth 100000 in
theorem ok_ref16_Valid : SpecOK SP glob fi_ref16_Valid S_ref16_Valid := mk_ok (c := (cf_ref16_Valid (Fl [(fi_ref16_formed, S_ref16_formed), (fi_ref16_inner, S_ref16_inner), (fi_ref16_Equal, S_ref16_Equal)]))) (tab_ok _) mix_ok wf_ref16_Valid (by decide) (.cons ok_ref16_formed (.cons ok_ref16_inner (.cons ok_ref16_Equal .nil))) (fun x hx => Nat.zero_lt_one) g_ref16_Valid
end Go.Gv
