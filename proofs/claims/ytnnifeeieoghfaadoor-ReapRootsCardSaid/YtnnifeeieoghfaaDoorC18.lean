/- Chapter 18: what is kept of a circuit: the reference's functions. -/
import Derived.Test.YtnnifeeieoghfaaDoorC16
set_option linter.all false
namespace Go.Gv
open Go Go.Proofs Go.Proofs.YtnnifeeieoghfaaDoor

/-- What the roots reach. -/
inductive Reach (gs : List Gate) (roots : List Int) : Nat → Prop
  | root {r : Int} (h : r ∈ roots) : Reach gs roots r.toNat
  | kid {k : Nat} {j : Int} (h : Reach gs roots k) (hk : k < gs.length) (hj : j ∈ ((List.getD gs k ((0, 0, [], ()) : Gate))).2.2.1) : Reach gs roots j.toNat
def RightP (gs : List Gate) (roots : List Int) : Prop := (∀ r ∈ roots, 0 ≤ r ∧ r < gs.length) ∧ ValidC gs
noncomputable def keptL (gs : List Gate) (roots : List Int) : List Bool := (List.range gs.length).map fun k => boolOf (Reach gs roots k)
/-- How many of the gates before k are kept. -/
noncomputable def rank (ks : List Bool) (k : Nat) : Nat := (ks.take k).countP id
noncomputable def mapG (f : Int → Int) (g : Gate) : Gate := (g.1, g.2.1, g.2.2.1.map f, ())
noncomputable def pickG (gs : List Gate) (ks : List Bool) (f : Int → Int) : Nat → List Gate
  | 0 => []
  | n + 1 => if ks.getD n false = true then pickG gs ks f n ++ [mapG f (gs.getD n ((0, 0, [], ()) : Gate))] else pickG gs ks f n
noncomputable def keepG (gs : List Gate) (roots : List Int) : List Gate := pickG gs (keptL gs roots) (fun j => rank (keptL gs roots) j.toNat) gs.length
noncomputable def keepL (gs : List Gate) (roots : List Int) : List Int := roots.map fun j => rank (keptL gs roots) j.toNat

@[reducible] noncomputable def S_ref18_Right : Spec := { ins := (.cons (.d tCirc) (.cons (.d (.sl tInt)) .nil)), pre := fun _ => True, alts := [{ outs := (.cons (.d .bool) .nil), res := (fun x => (fun c roots => (boolOf (RightP c.1 roots), ())) x.1 x.2.1) }] }
set_option maxRecDepth 100000 in
set_option maxHeartbeats 4000000 in
theorem g_ref18_Right : ∀ x, S_ref18_Right.pre x → shOK S_ref18_Right.ins x → fnGoal (cf_ref18_Right (Fl [(fi_ref16_Valid, S_ref16_Valid)])) fn_ref18_Right S_ref18_Right x := by
  rintro ⟨⟨gs, ⟨⟩⟩, roots, ⟨⟩⟩ hpre hok
  clear hpre
  have hln := shLn_of _ hok; replace hok := Hd.mk hok; try simp only [shLn, datLn, inRng, lo, hi, maxLen, true_and, and_true] at hln
  conv => whnf
  repeat' (first | (with_reducible refine And.intro ?_ ?_) | ((with_reducible refine gv_more ?_); conv => whnf) | (intro hc; (try dsimp only [Dat, SDat, dflt, Ty.size, keepS, bkUpd, Gv.bk, backS, wayA, maxI, minI, negI] at hc); (try simp only [Int.toNat_natCast, Int.toNat_zero, Int.toNat_one, Classical.not_not, boolOf_true, decide_eq_true_eq, decide_eq_false_iff_not, ne_eq, true_implies, not_true_eq_false, not_false_eq_true, Bool.not_eq_true, Prod.mk.injEq, and_true, true_and, forall_const, preA_f, selB_0, selB_1, boolOf_eq_false, rep1, rep2, rep3, List.length_set, List.length_append, List.length_map, List.length_cons, List.length_nil, List.length_replicate, Nat.zero_add, Nat.add_zero] at hc)))
  all_goals (try ((fail_if_success refine Exists.intro ([] : List (Nat × Sh)) ?_); (fail_if_success refine Exists.intro (0 : Nat) (Exists.intro (_ : Alt _) ?_)); (try dsimp only [Dat, SDat, dflt, Ty.size, keepS, bkUpd, Gv.bk, backS, wayA, maxI, minI, negI]); (try simp only [Int.toNat_natCast, Int.toNat_zero, Int.toNat_one, Classical.not_not, boolOf_true, decide_eq_true_eq, decide_eq_false_iff_not, ne_eq, true_implies, not_true_eq_false, not_false_eq_true, Bool.not_eq_true, Prod.mk.injEq, and_true, true_and, forall_const, preA_f, selB_0, selB_1, boolOf_eq_false, rep1, rep2, rep3, List.length_set, List.length_append, List.length_map, List.length_cons, List.length_nil, List.length_replicate, Nat.zero_add, Nat.add_zero]); first | done | exact trivial | rfl | omega | exact boolOf_eq _ | (simp only [allP, lo, hi, room, true_and, and_true, implies_true]; done) | ((try simp only [allP, lo, hi, room, true_and, and_true, implies_true]); (repeat' (first | (with_reducible refine And.intro ?_ ?_) | ((with_reducible refine preA_t ?_ ?_); rotate_left; (focus (repeat (first | exact trivial | ((conv => whnf); refine And.intro (by rfl) ?_))))) | intro hv)) <;> (try omega))))
  refine ⟨[(5, .d tInt)], [], fun y => ∃ k : Nat, y.1.1 = (k : Int) ∧ k ≤ roots.length ∧ ∀ x ∈ roots.take k, 0 ≤ x ∧ x < gs.length, fun y => roots.length - y.1.1.toNat, ?_⟩
  conv => whnf
  refine And.intro ?_ ?_
  · exact ⟨0, by simp⟩
  rintro ⟨⟨_, ⟨⟩⟩, ⟨⟩⟩ ⟨k, rfl, hk, hj⟩
  repeat' (first | (with_reducible refine And.intro ?_ ?_) | ((with_reducible refine gv_more ?_); conv => whnf) | (intro hc; (try dsimp only [Dat, SDat, dflt, Ty.size, keepS, bkUpd, Gv.bk, backS, wayA, maxI, minI, negI] at hc); (try simp only [Int.toNat_natCast, Int.toNat_zero, Int.toNat_one, Classical.not_not, boolOf_true, decide_eq_true_eq, decide_eq_false_iff_not, ne_eq, true_implies, not_true_eq_false, not_false_eq_true, Bool.not_eq_true, Prod.mk.injEq, and_true, true_and, forall_const, preA_f, selB_0, selB_1, boolOf_eq_false, rep1, rep2, rep3, List.length_set, List.length_append, List.length_map, List.length_cons, List.length_nil, List.length_replicate, Nat.zero_add, Nat.add_zero] at hc)))
  all_goals (try ((fail_if_success refine Exists.intro ([] : List (Nat × Sh)) ?_); (fail_if_success refine Exists.intro (0 : Nat) (Exists.intro (_ : Alt _) ?_)); (try dsimp only [Dat, SDat, dflt, Ty.size, keepS, bkUpd, Gv.bk, backS, wayA, maxI, minI, negI]); (try simp only [Int.toNat_natCast, Int.toNat_zero, Int.toNat_one, Classical.not_not, boolOf_true, decide_eq_true_eq, decide_eq_false_iff_not, ne_eq, true_implies, not_true_eq_false, not_false_eq_true, Bool.not_eq_true, Prod.mk.injEq, and_true, true_and, forall_const, preA_f, selB_0, selB_1, boolOf_eq_false, rep1, rep2, rep3, List.length_set, List.length_append, List.length_map, List.length_cons, List.length_nil, List.length_replicate, Nat.zero_add, Nat.add_zero]); first | done | exact trivial | rfl | omega | exact boolOf_eq _ | (simp only [allP, lo, hi, room, true_and, and_true, implies_true]; done) | ((try simp only [allP, lo, hi, room, true_and, and_true, implies_true]); (repeat' (first | (with_reducible refine And.intro ?_ ?_) | ((with_reducible refine preA_t ?_ ?_); rotate_left; (focus (repeat (first | exact trivial | ((conv => whnf); refine And.intro (by rfl) ?_))))) | intro hv)) <;> (try omega))))
  · refine bF fun h => ?_
    have := h.1 _ (getD_mem (l := roots) (d := 0) (k := k) (by omega))
    omega
  · exact ⟨k + 1, by omega, by omega, all_step (d := 0) hj (by omega) (by omega)⟩
  · exact bC ⟨fun h => ⟨all_end hj (by omega), h⟩, fun h => h.2⟩
set_option maxRecDepth 100000 in
theorem ok_ref18_Right : SpecOK SP glob fi_ref18_Right S_ref18_Right := mk_ok (c := (cf_ref18_Right (Fl [(fi_ref16_Valid, S_ref16_Valid)]))) (tab_ok _) mix_ok wf_ref18_Right (by decide) (.cons ok_ref16_Valid .nil) (fun x hx => Nat.zero_lt_one) g_ref18_Right

theorem kid_lt {gs : List Gate} (h : ValidC gs) {k : Nat} (hk : k < gs.length) {j : Int} (hj : j ∈ ((List.getD gs k ((0, 0, [], ()) : Gate))).2.2.1) : 0 ≤ j ∧ j < k := (h.2 k hk).1.1 j hj
theorem set_true {xs : List Bool} {a i : Nat} (ha : a < xs.length) : (xs.set a true).getD i false = true ↔ i = a ∨ xs.getD i false = true := by
  simp only [List.getD_eq_getElem?_getD, List.getElem?_set]
  by_cases h : a = i
  · subst h; simp [ha]
  · have : ¬ i = a := fun e => h e.symm
    simp [h, this]
def MarkP (gs : List Gate) (roots : List Int) (xs : List Bool) : Prop := xs.length = gs.length ∧ (∀ i, xs.getD i false = true → Reach gs roots i)
def ClosedFrom (gs : List Gate) (xs : List Bool) (n : Nat) : Prop := ∀ k, n ≤ k → k < gs.length → xs.getD k false = true → ∀ j ∈ ((List.getD gs k ((0, 0, [], ()) : Gate))).2.2.1, xs.getD j.toNat false = true
theorem MarkP.set {gs : List Gate} {roots : List Int} {xs : List Bool} (h : MarkP gs roots xs) {a : Nat} (ha : a < gs.length) (hr : Reach gs roots a) : MarkP gs roots (xs.set a true) := by
  refine ⟨by simp [h.1], fun i hi => ?_⟩
  rcases (set_true (by rw [h.1]; exact ha)).1 hi with rfl | hi
  · exact hr
  · exact h.2 i hi
theorem ClosedFrom.set {gs : List Gate} {xs : List Bool} {n : Nat} (h : ClosedFrom gs xs n) {a : Nat} (ha : a < xs.length) (hn : a < n) : ClosedFrom gs (xs.set a true) n := fun k h1 h2 h3 j hj => by
  refine (set_true ha).2 (.inr ?_)
  rcases (set_true ha).1 h3 with rfl | h3
  · omega
  · exact h k h1 h2 h3 j hj
theorem kept_end {gs : List Gate} {roots : List Int} {xs : List Bool} (h : MarkP gs roots xs) (hr : ∀ r ∈ roots, xs.getD r.toNat false = true) (hc : ClosedFrom gs xs 0) : xs = keptL gs roots := by
  have key : ∀ k, Reach gs roots k → xs.getD k false = true := fun k hk => by
    induction hk with
    | root h => exact hr _ h
    | kid _ hk hj ih => exact hc _ (Nat.zero_le _) hk ih _ hj
  refine List.ext_getElem (by simp [keptL, h.1]) fun i h1 h2 => ?_
  have e : xs.getD i false = xs[i] := getD_ok false h1
  simp only [keptL, List.getElem_map, List.getElem_range]
  by_cases hi : Reach gs roots i
  · rw [boolOf_true.2 hi, ← e, key i hi]
  · rw [boolOf_false.2 hi, ← e, Bool.eq_false_iff]
    exact fun e => hi (h.2 i e)

@[reducible] noncomputable def S_ref18_Kept : Spec := { ins := (.cons (.d tCirc) (.cons (.d (.sl tInt)) .nil)), pre := (fun x => (fun c roots => RightP c.1 roots) x.1 x.2.1), alts := [{ outs := (.cons (.d (.sl .bool)) .nil), res := (fun x => (fun c roots => (keptL c.1 roots, ())) x.1 x.2.1) }] }
set_option maxRecDepth 100000 in
set_option maxHeartbeats 4000000 in
theorem g_ref18_Kept : ∀ x, S_ref18_Kept.pre x → shOK S_ref18_Kept.ins x → fnGoal (cf_ref18_Kept (Fl [])) fn_ref18_Kept S_ref18_Kept x := by
  rintro ⟨⟨gs, ⟨⟩⟩, roots, ⟨⟩⟩ hpre hok
  try dsimp only [Dat, SDat, dflt, Ty.size, keepS, bkUpd, Gv.bk, backS, wayA, maxI, minI, negI] at hpre
  have hln := shLn_of _ hok; replace hok := Hd.mk hok; try simp only [shLn, datLn, inRng, lo, hi, maxLen, true_and, and_true] at hln
  have hV := hpre.2
  have hR := hpre.1
  have hl := hV.1
  conv => whnf
  repeat' (first | (with_reducible refine And.intro ?_ ?_) | ((with_reducible refine gv_more ?_); conv => whnf) | (intro hc; (try dsimp only [Dat, SDat, dflt, Ty.size, keepS, bkUpd, Gv.bk, backS, wayA, maxI, minI, negI] at hc); (try simp only [Int.toNat_natCast, Int.toNat_zero, Int.toNat_one, Classical.not_not, boolOf_true, decide_eq_true_eq, decide_eq_false_iff_not, ne_eq, true_implies, not_true_eq_false, not_false_eq_true, Bool.not_eq_true, Prod.mk.injEq, and_true, true_and, forall_const, preA_f, selB_0, selB_1, boolOf_eq_false, rep1, rep2, rep3, List.length_set, List.length_append, List.length_map, List.length_cons, List.length_nil, List.length_replicate, Nat.zero_add, Nat.add_zero] at hc)))
  all_goals (try ((fail_if_success refine Exists.intro ([] : List (Nat × Sh)) ?_); (fail_if_success refine Exists.intro (0 : Nat) (Exists.intro (_ : Alt _) ?_)); (try dsimp only [Dat, SDat, dflt, Ty.size, keepS, bkUpd, Gv.bk, backS, wayA, maxI, minI, negI]); (try simp only [Int.toNat_natCast, Int.toNat_zero, Int.toNat_one, Classical.not_not, boolOf_true, decide_eq_true_eq, decide_eq_false_iff_not, ne_eq, true_implies, not_true_eq_false, not_false_eq_true, Bool.not_eq_true, Prod.mk.injEq, and_true, true_and, forall_const, preA_f, selB_0, selB_1, boolOf_eq_false, rep1, rep2, rep3, List.length_set, List.length_append, List.length_map, List.length_cons, List.length_nil, List.length_replicate, Nat.zero_add, Nat.add_zero]); first | done | exact trivial | rfl | omega | exact boolOf_eq _ | (simp only [allP, lo, hi, room, true_and, and_true, implies_true]; done) | ((try simp only [allP, lo, hi, room, true_and, and_true, implies_true]); (repeat' (first | (with_reducible refine And.intro ?_ ?_) | ((with_reducible refine preA_t ?_ ?_); rotate_left; (focus (repeat (first | exact trivial | ((conv => whnf); refine And.intro (by rfl) ?_))))) | intro hv)) <;> (try omega))))
  refine ⟨[(6, .d tInt), (5, .row .bool)], [], fun y => ∃ k : Nat, y.1.1 = (k : Int) ∧ k ≤ roots.length ∧ MarkP gs roots y.1.2.1 ∧ ∀ r ∈ roots.take k, y.1.2.1.getD r.toNat false = true, fun y => roots.length - y.1.1.toNat, ?_⟩
  conv => whnf
  refine And.intro ?_ ?_
  · refine ⟨0, rfl, Nat.zero_le _, ⟨by simp, fun i hi => ?_⟩, by simp⟩
    simp [List.getD_eq_getElem?_getD, List.getElem?_replicate] at hi
    split at hi <;> cases hi
  rintro ⟨⟨_, xs, ⟨⟩⟩, ⟨⟩⟩ ⟨k, rfl, hk, hM, hj⟩
  dsimp only at hM hj
  have hxl : xs.length ≤ 100000 := by rw [hM.1]; exact hl
  have hxe : xs.length = gs.length := hM.1
  have hr := fun h => hR _ (getD_mem (l := roots) (d := 0) (k := k) h)
  repeat' (first | (with_reducible refine And.intro ?_ ?_) | ((with_reducible refine gv_more ?_); conv => whnf) | (intro hc; (try dsimp only [Dat, SDat, dflt, Ty.size, keepS, bkUpd, Gv.bk, backS, wayA, maxI, minI, negI] at hc); (try simp only [Int.toNat_natCast, Int.toNat_zero, Int.toNat_one, Classical.not_not, boolOf_true, decide_eq_true_eq, decide_eq_false_iff_not, ne_eq, true_implies, not_true_eq_false, not_false_eq_true, Bool.not_eq_true, Prod.mk.injEq, and_true, true_and, forall_const, preA_f, selB_0, selB_1, boolOf_eq_false, rep1, rep2, rep3, List.length_set, List.length_append, List.length_map, List.length_cons, List.length_nil, List.length_replicate, Nat.zero_add, Nat.add_zero] at hc)))
  all_goals (try ((fail_if_success refine Exists.intro ([] : List (Nat × Sh)) ?_); (fail_if_success refine Exists.intro (0 : Nat) (Exists.intro (_ : Alt _) ?_)); (try dsimp only [Dat, SDat, dflt, Ty.size, keepS, bkUpd, Gv.bk, backS, wayA, maxI, minI, negI]); (try simp only [Int.toNat_natCast, Int.toNat_zero, Int.toNat_one, Classical.not_not, boolOf_true, decide_eq_true_eq, decide_eq_false_iff_not, ne_eq, true_implies, not_true_eq_false, not_false_eq_true, Bool.not_eq_true, Prod.mk.injEq, and_true, true_and, forall_const, preA_f, selB_0, selB_1, boolOf_eq_false, rep1, rep2, rep3, List.length_set, List.length_append, List.length_map, List.length_cons, List.length_nil, List.length_replicate, Nat.zero_add, Nat.add_zero]); first | done | exact trivial | rfl | omega | exact boolOf_eq _ | (simp only [allP, lo, hi, room, true_and, and_true, implies_true]; done) | ((try simp only [allP, lo, hi, room, true_and, and_true, implies_true]); (repeat' (first | (with_reducible refine And.intro ?_ ?_) | ((with_reducible refine preA_t ?_ ?_); rotate_left; (focus (repeat (first | exact trivial | ((conv => whnf); refine And.intro (by rfl) ?_))))) | intro hv)) <;> (try omega))))
  all_goals (try ((fail_if_success refine Exists.intro ([] : List (Nat × Sh)) ?_); (fail_if_success refine Exists.intro (0 : Nat) (Exists.intro (_ : Alt _) ?_)); have h1 := hr (by omega); try omega))
  · have h1 := hr (by omega)
    refine ⟨k + 1, by omega, by omega, hM.set (by omega) (.root (getD_mem (by omega))), all_step (d := 0) (fun r h => (set_true (by omega)).2 (.inr (hj r h))) (by omega) ((set_true (by omega)).2 (.inl rfl))⟩
  · have hm : ∀ r ∈ roots, xs.getD r.toNat false = true := all_end hj (by omega)
    clear hj hr hc
    refine ⟨[(7, .d tInt), (5, .row .bool)], [], fun y => ∃ k : Nat, y.1.1 = (k : Int) - 1 ∧ k ≤ gs.length ∧ MarkP gs roots y.1.2.1 ∧ (∀ r ∈ roots, y.1.2.1.getD r.toNat false = true) ∧ ClosedFrom gs y.1.2.1 k, fun y => (y.1.1 + 1).toNat, ?_⟩
    conv => whnf
    refine And.intro ?_ ?_
    · exact ⟨gs.length, by simp only [hxe], Nat.le_refl _, hM, hm, fun i h1 h2 => by omega⟩
    clear hM hm hxe hxl hk
    rintro ⟨⟨_, xs, ⟨⟩⟩, ⟨⟩⟩ ⟨k1, rfl, hk, hM, hm, hcl⟩
    dsimp only at hM hm hcl
    have hxl : xs.length ≤ 100000 := by rw [hM.1]; exact hl
    have hxe : xs.length = gs.length := hM.1
    repeat' (first | (with_reducible refine And.intro ?_ ?_) | ((with_reducible refine gv_more ?_); conv => whnf) | (intro hc; (try dsimp only [Dat, SDat, dflt, Ty.size, keepS, bkUpd, Gv.bk, backS, wayA, maxI, minI, negI] at hc); (try simp only [Int.toNat_natCast, Int.toNat_zero, Int.toNat_one, Classical.not_not, boolOf_true, decide_eq_true_eq, decide_eq_false_iff_not, ne_eq, true_implies, not_true_eq_false, not_false_eq_true, Bool.not_eq_true, Prod.mk.injEq, and_true, true_and, forall_const, preA_f, selB_0, selB_1, boolOf_eq_false, rep1, rep2, rep3, List.length_set, List.length_append, List.length_map, List.length_cons, List.length_nil, List.length_replicate, Nat.zero_add, Nat.add_zero] at hc)))
    all_goals (try ((fail_if_success refine Exists.intro ([] : List (Nat × Sh)) ?_); (fail_if_success refine Exists.intro (0 : Nat) (Exists.intro (_ : Alt _) ?_)); (try dsimp only [Dat, SDat, dflt, Ty.size, keepS, bkUpd, Gv.bk, backS, wayA, maxI, minI, negI]); (try simp only [Int.toNat_natCast, Int.toNat_zero, Int.toNat_one, Classical.not_not, boolOf_true, decide_eq_true_eq, decide_eq_false_iff_not, ne_eq, true_implies, not_true_eq_false, not_false_eq_true, Bool.not_eq_true, Prod.mk.injEq, and_true, true_and, forall_const, preA_f, selB_0, selB_1, boolOf_eq_false, rep1, rep2, rep3, List.length_set, List.length_append, List.length_map, List.length_cons, List.length_nil, List.length_replicate, Nat.zero_add, Nat.add_zero]); first | done | exact trivial | rfl | omega | exact boolOf_eq _ | (simp only [allP, lo, hi, room, true_and, and_true, implies_true]; done) | ((try simp only [allP, lo, hi, room, true_and, and_true, implies_true]); (repeat' (first | (with_reducible refine And.intro ?_ ?_) | ((with_reducible refine preA_t ?_ ?_); rotate_left; (focus (repeat (first | exact trivial | ((conv => whnf); refine And.intro (by rfl) ?_))))) | intro hv)) <;> (try omega))))
    · obtain ⟨k, rfl⟩ : ∃ k, k1 = k + 1 := ⟨k1 - 1, by omega⟩
      refine ⟨[(8, .d tInt), (5, .row .bool)], [], fun y => ∃ m : Nat, y.1.1 = (m : Int) ∧ m ≤ ((List.getD gs k ((0, 0, [], ()) : Gate))).2.2.1.length ∧ MarkP gs roots y.1.2.1 ∧ (∀ r ∈ roots, y.1.2.1.getD r.toNat false = true) ∧ ClosedFrom gs y.1.2.1 (k + 1) ∧ (0 < m → y.1.2.1.getD k false = true) ∧ ∀ j ∈ ((List.getD gs k ((0, 0, [], ()) : Gate))).2.2.1.take m, y.1.2.1.getD j.toNat false = true, fun y => ((List.getD gs k ((0, 0, [], ()) : Gate))).2.2.1.length - y.1.1.toNat, ?_⟩
      conv => whnf
      refine And.intro ?_ ?_
      · exact ⟨0, rfl, by simp, hM, hm, hcl, by simp, by simp⟩
      clear hM hm hxe hxl hcl
      rintro ⟨⟨_, xs, ⟨⟩⟩, ⟨⟩⟩ ⟨m, rfl, hmk, hM, hm, hcl, hk1, hk2⟩
      dsimp only at hM hm hcl hk1 hk2
      have hxl : xs.length ≤ 100000 := by rw [hM.1]; exact hl
      have hxe : xs.length = gs.length := hM.1
      have e : (((k + 1 : Nat) : Int) - 1).toNat = k := by omega
      have hkl : ((List.getD gs k ((0, 0, [], ()) : Gate))).2.2.1.length ≤ 2 ^ 63 - 1 := (hok.out.1.1.2 (List.getD gs k ((0, 0, [], ()) : Gate)) (getD_mem (l := gs) (by omega))).2.2.1.1
      repeat' (first | (with_reducible refine And.intro ?_ ?_) | ((with_reducible refine gv_more ?_); conv => whnf) | (intro hc; (try dsimp only [Dat, SDat, dflt, Ty.size, keepS, bkUpd, Gv.bk, backS, wayA, maxI, minI, negI] at hc); (try simp only [Int.toNat_natCast, Int.toNat_zero, Int.toNat_one, Classical.not_not, boolOf_true, decide_eq_true_eq, decide_eq_false_iff_not, ne_eq, true_implies, not_true_eq_false, not_false_eq_true, Bool.not_eq_true, Prod.mk.injEq, and_true, true_and, forall_const, preA_f, selB_0, selB_1, boolOf_eq_false, rep1, rep2, rep3, List.length_set, List.length_append, List.length_map, List.length_cons, List.length_nil, List.length_replicate, Nat.zero_add, Nat.add_zero] at hc)))
      all_goals (try ((fail_if_success refine Exists.intro ([] : List (Nat × Sh)) ?_); (fail_if_success refine Exists.intro (0 : Nat) (Exists.intro (_ : Alt _) ?_)); simp only [e] at *))
      all_goals (try ((fail_if_success refine Exists.intro ([] : List (Nat × Sh)) ?_); (fail_if_success refine Exists.intro (0 : Nat) (Exists.intro (_ : Alt _) ?_)); (try dsimp only [Dat, SDat, dflt, Ty.size, keepS, bkUpd, Gv.bk, backS, wayA, maxI, minI, negI]); (try simp only [Int.toNat_natCast, Int.toNat_zero, Int.toNat_one, Classical.not_not, boolOf_true, decide_eq_true_eq, decide_eq_false_iff_not, ne_eq, true_implies, not_true_eq_false, not_false_eq_true, Bool.not_eq_true, Prod.mk.injEq, and_true, true_and, forall_const, preA_f, selB_0, selB_1, boolOf_eq_false, rep1, rep2, rep3, List.length_set, List.length_append, List.length_map, List.length_cons, List.length_nil, List.length_replicate, Nat.zero_add, Nat.add_zero]); first | done | exact trivial | rfl | omega | exact boolOf_eq _ | (simp only [allP, lo, hi, room, true_and, and_true, implies_true]; done) | ((try simp only [allP, lo, hi, room, true_and, and_true, implies_true]); (repeat' (first | (with_reducible refine And.intro ?_ ?_) | ((with_reducible refine preA_t ?_ ?_); rotate_left; (focus (repeat (first | exact trivial | ((conv => whnf); refine And.intro (by rfl) ?_))))) | intro hv)) <;> (try omega))))
      all_goals (try ((fail_if_success refine Exists.intro ([] : List (Nat × Sh)) ?_); (fail_if_success refine Exists.intro (0 : Nat) (Exists.intro (_ : Alt _) ?_)); have h1 := getD_mem (l := ((List.getD gs k ((0, 0, [], ()) : Gate))).2.2.1) (d := 0) (k := m) (by omega); have h2 := kid_lt hV (by omega) h1; try omega))
      · have h1 := getD_mem (l := ((List.getD gs k ((0, 0, [], ()) : Gate))).2.2.1) (d := 0) (k := m) (by omega)
        have h2 := kid_lt hV (by omega) h1
        have hkt := hc.2
        refine ⟨m + 1, by omega, by omega, hM.set (by omega) (.kid (hM.2 k hkt) (by omega) h1), fun r hr => (set_true (by omega)).2 (.inr (hm r hr)), hcl.set (by omega) (by omega), fun _ => (set_true (by omega)).2 (.inr hkt), all_step (d := 0) (fun r h => (set_true (by omega)).2 (.inr (hk2 r h))) (by omega) ((set_true (by omega)).2 (.inl rfl))⟩
      · refine ⟨k, by omega, by omega, hM, hm, fun i h1 h2 h3 => ?_⟩
        by_cases hik : k + 1 ≤ i
        · exact hcl i hik h2 h3
        · have : i = k := by omega
          subst this
          have hml : ¬ m < (List.getD gs i ((0, 0, [], ()) : Gate)).2.2.1.length := fun h => hc ⟨by omega, h3⟩
          exact all_end hk2 (by omega)
    · have := kept_end hM hm (by have : k1 = 0 := by omega
                                 rwa [this] at hcl)
      exact this
set_option maxRecDepth 100000 in
theorem ok_ref18_Kept : SpecOK SP glob fi_ref18_Kept S_ref18_Kept := mk_ok (c := (cf_ref18_Kept (Fl []))) (tab_ok _) mix_ok wf_ref18_Kept (by decide) .nil (fun x hx => Nat.zero_lt_one) g_ref18_Kept

theorem keptL_len (gs : List Gate) (roots : List Int) : (keptL gs roots).length = gs.length := by simp [keptL]
theorem keptL_get {gs : List Gate} {roots : List Int} {k : Nat} (hk : k < gs.length) : (keptL gs roots).getD k false = true ↔ Reach gs roots k := by
  have h1 : k < (keptL gs roots).length := by rw [keptL_len]; exact hk
  rw [getD_ok false h1]
  simp only [keptL, List.getElem_map, List.getElem_range]
  exact boolOf_true
theorem rank_succ {ks : List Bool} {k : Nat} (hk : k < ks.length) : rank ks (k + 1) = rank ks k + if ks.getD k false = true then 1 else 0 := by
  unfold rank
  rw [List.take_succ_eq_append_getElem hk, List.countP_append, getD_ok false hk]
  simp [List.countP_cons]
theorem pickG_len (gs : List Gate) (ks : List Bool) (f : Int → Int) : ∀ n, n ≤ ks.length → (pickG gs ks f n).length = rank ks n
  | 0, _ => by simp [pickG, rank]
  | n + 1, h => by
    rw [rank_succ (by omega)]
    unfold pickG
    split
    · simp [pickG_len gs ks f n (by omega)]
    · simp [pickG_len gs ks f n (by omega)]
theorem rank_le (ks : List Bool) (k : Nat) : rank ks k ≤ k := Nat.le_trans List.countP_le_length (by simp; omega)
theorem map_take_step {α β : Type} {l : List α} {k : Nat} {d : α} {f : α → β} {e : β} (hk : k < l.length) (he : e = f (List.getD l k d)) : (l.take k).map f ++ [e] = (l.take (k + 1)).map f := by
  rw [List.take_succ_eq_append_getElem hk, List.map_append, he, getD_ok d hk]; rfl

@[reducible] noncomputable def S_ref18_Keep : Spec := { ins := (.cons (.d tCirc) (.cons (.d (.sl tInt)) .nil)), pre := (fun x => (fun c roots => SmallG c.1 ∧ roots.length ≤ 1000000) x.1 x.2.1), alts := [{ outs := (.cons (.d tCirc) (.cons (.d (.sl tInt)) (.cons (.d tInt) .nil))), res := (fun x => (fun c roots => (if boolOf (RightP c.1 roots) = true then (keepG c.1 roots, ()) else ([], ()), if boolOf (RightP c.1 roots) = true then keepL c.1 roots else [], if boolOf (RightP c.1 roots) = true then 0 else 1, ())) x.1 x.2.1) }] }
set_option maxRecDepth 100000 in
set_option maxHeartbeats 4000000 in
theorem g_ref18_Keep : ∀ x, S_ref18_Keep.pre x → shOK S_ref18_Keep.ins x → fnGoal (cf_ref18_Keep (Fl [(fi_ref18_Right, S_ref18_Right), (fi_ref18_Kept, S_ref18_Kept)])) fn_ref18_Keep S_ref18_Keep x := by
  rintro ⟨⟨gs, ⟨⟩⟩, roots, ⟨⟩⟩ hpre hok
  try dsimp only [Dat, SDat, dflt, Ty.size, keepS, bkUpd, Gv.bk, backS, wayA, maxI, minI, negI] at hpre
  have hln := shLn_of _ hok; replace hok := Hd.mk hok; try simp only [shLn, datLn, inRng, lo, hi, maxLen, true_and, and_true] at hln
  have hsm := hpre.1
  have hsr := hpre.2
  conv => whnf
  repeat' (first | (with_reducible refine And.intro ?_ ?_) | ((with_reducible refine gv_more ?_); conv => whnf) | (intro hc; (try dsimp only [Dat, SDat, dflt, Ty.size, keepS, bkUpd, Gv.bk, backS, wayA, maxI, minI, negI] at hc); (try simp only [Int.toNat_natCast, Int.toNat_zero, Int.toNat_one, Classical.not_not, boolOf_true, decide_eq_true_eq, decide_eq_false_iff_not, ne_eq, true_implies, not_true_eq_false, not_false_eq_true, Bool.not_eq_true, Prod.mk.injEq, and_true, true_and, forall_const, preA_f, selB_0, selB_1, boolOf_eq_false, rep1, rep2, rep3, List.length_set, List.length_append, List.length_map, List.length_cons, List.length_nil, List.length_replicate, Nat.zero_add, Nat.add_zero] at hc)))
  all_goals (try ((fail_if_success refine Exists.intro ([] : List (Nat × Sh)) ?_); (fail_if_success refine Exists.intro (0 : Nat) (Exists.intro (_ : Alt _) ?_)); (try dsimp only [Dat, SDat, dflt, Ty.size, keepS, bkUpd, Gv.bk, backS, wayA, maxI, minI, negI]); (try simp only [Int.toNat_natCast, Int.toNat_zero, Int.toNat_one, Classical.not_not, boolOf_true, decide_eq_true_eq, decide_eq_false_iff_not, ne_eq, true_implies, not_true_eq_false, not_false_eq_true, Bool.not_eq_true, Prod.mk.injEq, and_true, true_and, forall_const, preA_f, selB_0, selB_1, boolOf_eq_false, rep1, rep2, rep3, List.length_set, List.length_append, List.length_map, List.length_cons, List.length_nil, List.length_replicate, Nat.zero_add, Nat.add_zero]); first | done | exact trivial | rfl | omega | exact boolOf_eq _ | (simp only [allP, lo, hi, room, true_and, and_true, implies_true]; done) | ((try simp only [allP, lo, hi, room, true_and, and_true, implies_true]); (repeat' (first | (with_reducible refine And.intro ?_ ?_) | ((with_reducible refine preA_t ?_ ?_); rotate_left; (focus (repeat (first | exact trivial | ((conv => whnf); refine And.intro (by rfl) ?_))))) | intro hv)) <;> (try omega))))
  · rw [if_neg (by rw [boolOf_true]; exact hc)]
  · rw [if_neg (by rw [boolOf_true]; exact hc)]
  · rw [if_neg (by rw [boolOf_true]; exact hc)]
  · have := hc.2.1; rw [keptL_len]; omega
  have hV := hc.2
  have hl := hV.1
  have hR := hc.1
  have hif : boolOf (RightP gs roots) = true := boolOf_true.2 hc
  have hkl := keptL_len gs roots
  refine ⟨[(10, .d tInt), (8, .row tInt)], [(2, .cons (.spare tGate) .nil)], fun y => ∃ n : Nat, y.1.1 = (n : Int) ∧ n ≤ gs.length ∧ y.1.2.1.length = gs.length ∧ y.2.1.1 = pickG gs (keptL gs roots) (fun j : Int => (rank (keptL gs roots) j.toNat : Int)) n ∧ ∀ k, k < n → Reach gs roots k → y.1.2.1.getD k 0 = (rank (keptL gs roots) k : Int), fun y => gs.length - y.1.1.toNat, ?_⟩
  conv => whnf
  refine And.intro ?_ ?_
  · refine ⟨0, rfl, Nat.zero_le _, ?_, rfl, fun k h => by omega⟩
    simp [hkl]
  rintro ⟨⟨_, xs, ⟨⟩⟩, ⟨_, ⟨⟩⟩, ⟨⟩⟩ ⟨n, rfl, hn, hxl, rfl, hp⟩
  dsimp only at hxl hp
  have hpl := pickG_len gs (keptL gs roots) (fun j : Int => (rank (keptL gs roots) j.toNat : Int)) n (by omega)
  have hrl := rank_le (keptL gs roots) n
  repeat' (first | (with_reducible refine And.intro ?_ ?_) | ((with_reducible refine gv_more ?_); conv => whnf) | (intro hc; (try dsimp only [Dat, SDat, dflt, Ty.size, keepS, bkUpd, Gv.bk, backS, wayA, maxI, minI, negI] at hc); (try simp only [Int.toNat_natCast, Int.toNat_zero, Int.toNat_one, Classical.not_not, boolOf_true, decide_eq_true_eq, decide_eq_false_iff_not, ne_eq, true_implies, not_true_eq_false, not_false_eq_true, Bool.not_eq_true, Prod.mk.injEq, and_true, true_and, forall_const, preA_f, selB_0, selB_1, boolOf_eq_false, rep1, rep2, rep3, List.length_set, List.length_append, List.length_map, List.length_cons, List.length_nil, List.length_replicate, Nat.zero_add, Nat.add_zero] at hc)))
  all_goals (try ((fail_if_success refine Exists.intro ([] : List (Nat × Sh)) ?_); (fail_if_success refine Exists.intro (0 : Nat) (Exists.intro (_ : Alt _) ?_)); (try dsimp only [Dat, SDat, dflt, Ty.size, keepS, bkUpd, Gv.bk, backS, wayA, maxI, minI, negI]); (try simp only [Int.toNat_natCast, Int.toNat_zero, Int.toNat_one, Classical.not_not, boolOf_true, decide_eq_true_eq, decide_eq_false_iff_not, ne_eq, true_implies, not_true_eq_false, not_false_eq_true, Bool.not_eq_true, Prod.mk.injEq, and_true, true_and, forall_const, preA_f, selB_0, selB_1, boolOf_eq_false, rep1, rep2, rep3, List.length_set, List.length_append, List.length_map, List.length_cons, List.length_nil, List.length_replicate, Nat.zero_add, Nat.add_zero]); first | done | exact trivial | rfl | omega | exact boolOf_eq _ | (simp only [allP, lo, hi, room, true_and, and_true, implies_true]; done) | ((try simp only [allP, lo, hi, room, true_and, and_true, implies_true]); (repeat' (first | (with_reducible refine And.intro ?_ ?_) | ((with_reducible refine preA_t ?_ ?_); rotate_left; (focus (repeat (first | exact trivial | ((conv => whnf); refine And.intro (by rfl) ?_))))) | intro hv)) <;> (try omega))))
  · refine ⟨n + 1, by omega, by omega, hxl, ?_, fun k hk hr => ?_⟩
    · rw [pickG, if_neg (by rw [hc]; exact Bool.false_ne_true)]
    · by_cases e : k < n
      · exact hp k e hr
      · have : k = n := by omega
        subst this
        rw [(keptL_get (by omega)).2 hr] at hc; cases hc
  · have hkn : (keptL gs roots).getD n false = true := by simpa using hc
    have hrn : Reach gs roots n := (keptL_get (by omega)).1 hkn
    have hgl := hsm _ (getD_mem (l := gs) (d := ((0, 0, [], ()) : Gate)) (k := n) (by omega))
    refine ⟨[(12, .d tInt)], [(6, .cons (.d tInt) (.cons (.d tInt) (.cons (.spare tInt) .nil)))], fun y => ∃ m : Nat, y.1.1 = (m : Int) ∧ m ≤ (List.getD gs n ((0, 0, [], ()) : Gate)).2.2.1.length ∧ y.2.1 = ((List.getD gs n ((0, 0, [], ()) : Gate)).1, (List.getD gs n ((0, 0, [], ()) : Gate)).2.1, ((List.getD gs n ((0, 0, [], ()) : Gate)).2.2.1.take m).map (fun j : Int => (rank (keptL gs roots) j.toNat : Int)), ()), fun y => (List.getD gs n ((0, 0, [], ()) : Gate)).2.2.1.length - y.1.1.toNat, ?_⟩
    conv => whnf
    refine And.intro ?_ ?_
    · exact ⟨0, rfl, Nat.zero_le _, rfl⟩
    rintro ⟨⟨_, ⟨⟩⟩, ⟨_, _, _, ⟨⟩⟩, ⟨⟩⟩ ⟨m, rfl, hm, ⟨⟩⟩
    have hlt : ((List.getD gs n ((0, 0, [], ()) : Gate)).2.2.1.take m).length ≤ m := List.length_take_le _ _
    repeat' (first | (with_reducible refine And.intro ?_ ?_) | ((with_reducible refine gv_more ?_); conv => whnf) | (intro hc; (try dsimp only [Dat, SDat, dflt, Ty.size, keepS, bkUpd, Gv.bk, backS, wayA, maxI, minI, negI] at hc); (try simp only [Int.toNat_natCast, Int.toNat_zero, Int.toNat_one, Classical.not_not, boolOf_true, decide_eq_true_eq, decide_eq_false_iff_not, ne_eq, true_implies, not_true_eq_false, not_false_eq_true, Bool.not_eq_true, Prod.mk.injEq, and_true, true_and, forall_const, preA_f, selB_0, selB_1, boolOf_eq_false, rep1, rep2, rep3, List.length_set, List.length_append, List.length_map, List.length_cons, List.length_nil, List.length_replicate, Nat.zero_add, Nat.add_zero] at hc)))
    all_goals (try ((fail_if_success refine Exists.intro ([] : List (Nat × Sh)) ?_); (fail_if_success refine Exists.intro (0 : Nat) (Exists.intro (_ : Alt _) ?_)); (try dsimp only [Dat, SDat, dflt, Ty.size, keepS, bkUpd, Gv.bk, backS, wayA, maxI, minI, negI]); (try simp only [Int.toNat_natCast, Int.toNat_zero, Int.toNat_one, Classical.not_not, boolOf_true, decide_eq_true_eq, decide_eq_false_iff_not, ne_eq, true_implies, not_true_eq_false, not_false_eq_true, Bool.not_eq_true, Prod.mk.injEq, and_true, true_and, forall_const, preA_f, selB_0, selB_1, boolOf_eq_false, rep1, rep2, rep3, List.length_set, List.length_append, List.length_map, List.length_cons, List.length_nil, List.length_replicate, Nat.zero_add, Nat.add_zero]); first | done | exact trivial | rfl | omega | exact boolOf_eq _ | (simp only [allP, lo, hi, room, true_and, and_true, implies_true]; done) | ((try simp only [allP, lo, hi, room, true_and, and_true, implies_true]); (repeat' (first | (with_reducible refine And.intro ?_ ?_) | ((with_reducible refine preA_t ?_ ?_); rotate_left; (focus (repeat (first | exact trivial | ((conv => whnf); refine And.intro (by rfl) ?_))))) | intro hv)) <;> (try omega))))
    all_goals (try ((fail_if_success refine Exists.intro ([] : List (Nat × Sh)) ?_); (fail_if_success refine Exists.intro (0 : Nat) (Exists.intro (_ : Alt _) ?_)); have h1 := getD_mem (l := (List.getD gs n ((0, 0, [], ()) : Gate)).2.2.1) (d := 0) (k := m) (by omega); have h2 := kid_lt hV (by omega) h1; try omega))
    · have h1 := getD_mem (l := (List.getD gs n ((0, 0, [], ()) : Gate)).2.2.1) (d := 0) (k := m) (by omega)
      have h2 := kid_lt hV (by omega) h1
      refine ⟨m + 1, by omega, by omega, map_take_step (d := 0) (by omega) ?_⟩
      rw [List.getD_eq_getElem?_getD, List.getElem?_set_ne (by omega), ← List.getD_eq_getElem?_getD]
      exact hp _ (by omega) (.kid hrn (by omega) h1)
    · refine ⟨n + 1, by omega, by omega, hxl, ?_, fun k hk hr => ?_⟩
      · rw [pickG, if_pos hkn, mapG, List.take_of_length_le (by omega)]
      · by_cases e : k < n
        · rw [List.getD_eq_getElem?_getD, List.getElem?_set_ne (by omega), ← List.getD_eq_getElem?_getD]
          exact hp k e hr
        · have : k = n := by omega
          subst this
          rw [List.getD_eq_getElem?_getD, List.getElem?_set_self (by omega), hpl]
          rfl
  · refine ⟨[(14, .d tInt), (13, .spare tInt)], [], fun y => ∃ m : Nat, y.1.1 = (m : Int) ∧ m ≤ roots.length ∧ y.1.2.1 = (roots.take m).map (fun j : Int => (rank (keptL gs roots) j.toNat : Int)), fun y => roots.length - y.1.1.toNat, ?_⟩
    conv => whnf
    refine And.intro ?_ ?_
    · exact ⟨0, rfl, Nat.zero_le _, rfl⟩
    rintro ⟨⟨_, _, ⟨⟩⟩, ⟨⟩⟩ ⟨m, rfl, hm, rfl⟩
    have hlt : (roots.take m).length ≤ m := List.length_take_le _ _
    have hr := fun h => hR _ (getD_mem (l := roots) (d := 0) (k := m) h)
    repeat' (first | (with_reducible refine And.intro ?_ ?_) | ((with_reducible refine gv_more ?_); conv => whnf) | (intro hc; (try dsimp only [Dat, SDat, dflt, Ty.size, keepS, bkUpd, Gv.bk, backS, wayA, maxI, minI, negI] at hc); (try simp only [Int.toNat_natCast, Int.toNat_zero, Int.toNat_one, Classical.not_not, boolOf_true, decide_eq_true_eq, decide_eq_false_iff_not, ne_eq, true_implies, not_true_eq_false, not_false_eq_true, Bool.not_eq_true, Prod.mk.injEq, and_true, true_and, forall_const, preA_f, selB_0, selB_1, boolOf_eq_false, rep1, rep2, rep3, List.length_set, List.length_append, List.length_map, List.length_cons, List.length_nil, List.length_replicate, Nat.zero_add, Nat.add_zero] at hc)))
    all_goals (try ((fail_if_success refine Exists.intro ([] : List (Nat × Sh)) ?_); (fail_if_success refine Exists.intro (0 : Nat) (Exists.intro (_ : Alt _) ?_)); (try dsimp only [Dat, SDat, dflt, Ty.size, keepS, bkUpd, Gv.bk, backS, wayA, maxI, minI, negI]); (try simp only [Int.toNat_natCast, Int.toNat_zero, Int.toNat_one, Classical.not_not, boolOf_true, decide_eq_true_eq, decide_eq_false_iff_not, ne_eq, true_implies, not_true_eq_false, not_false_eq_true, Bool.not_eq_true, Prod.mk.injEq, and_true, true_and, forall_const, preA_f, selB_0, selB_1, boolOf_eq_false, rep1, rep2, rep3, List.length_set, List.length_append, List.length_map, List.length_cons, List.length_nil, List.length_replicate, Nat.zero_add, Nat.add_zero]); first | done | exact trivial | rfl | omega | exact boolOf_eq _ | (simp only [allP, lo, hi, room, true_and, and_true, implies_true]; done) | ((try simp only [allP, lo, hi, room, true_and, and_true, implies_true]); (repeat' (first | (with_reducible refine And.intro ?_ ?_) | ((with_reducible refine preA_t ?_ ?_); rotate_left; (focus (repeat (first | exact trivial | ((conv => whnf); refine And.intro (by rfl) ?_))))) | intro hv)) <;> (try omega))))
    all_goals (try ((fail_if_success refine Exists.intro ([] : List (Nat × Sh)) ?_); (fail_if_success refine Exists.intro (0 : Nat) (Exists.intro (_ : Alt _) ?_)); have h1 := hr (by omega); try omega))
    · have h1 := hr (by omega)
      refine ⟨m + 1, by omega, by omega, map_take_step (d := 0) (by omega) ?_⟩
      exact hp _ (by omega) (.root (getD_mem (by omega)))
    · rw [if_pos hif, keepG]
      have : n = gs.length := by omega
      rw [this]
    · rw [if_pos hif, keepL, List.take_of_length_le (by omega)]
    · rw [if_pos hif]
set_option maxRecDepth 100000 in
theorem ok_ref18_Keep : SpecOK SP glob fi_ref18_Keep S_ref18_Keep := mk_ok (c := (cf_ref18_Keep (Fl [(fi_ref18_Right, S_ref18_Right), (fi_ref18_Kept, S_ref18_Kept)]))) (tab_ok _) mix_ok wf_ref18_Keep (by decide) (.cons ok_ref18_Right (.cons ok_ref18_Kept .nil)) (fun x hx => Nat.zero_lt_one) g_ref18_Keep

@[reducible] noncomputable def S_ref18_Start : Spec := { ins := (.cons (.d tCirc) (.cons (.d (.sl tInt)) .nil)), pre := (fun x => (fun c roots => roots.length ≤ 1000000) x.1 x.2.1), sel := (fun x => (fun c roots => selB (boolOf (RightP c.1 roots))) x.1 x.2.1), alts := [{ outs := (.cons (.nilp) (.cons (.d tInt) .nil)), res := (fun x => (fun c roots => ((), 1, ())) x.1 x.2.1) }, { outs := (.cons (.box (.cons (.d (.sl tGate)) (.cons (.spare tInt) (.cons (.d tInt) .nil)))) (.cons (.d tInt) .nil)), res := (fun x => (fun c roots => ((c.1, roots, 0, ()), 0, ())) x.1 x.2.1) }] }
set_option maxRecDepth 100000 in
set_option maxHeartbeats 4000000 in
theorem g_ref18_Start : ∀ x, S_ref18_Start.pre x → shOK S_ref18_Start.ins x → fnGoal (cf_ref18_Start (Fl [(fi_ref18_Right, S_ref18_Right)])) fn_ref18_Start S_ref18_Start x := by
  rintro ⟨⟨gs, ⟨⟩⟩, roots, ⟨⟩⟩ hpre hok
  try dsimp only [Dat, SDat, dflt, Ty.size, keepS, bkUpd, Gv.bk, backS, wayA, maxI, minI, negI] at hpre
  have hln := shLn_of _ hok; replace hok := Hd.mk hok; try simp only [shLn, datLn, inRng, lo, hi, maxLen, true_and, and_true] at hln
  conv => whnf
  repeat' (first | (with_reducible refine And.intro ?_ ?_) | ((with_reducible refine gv_more ?_); conv => whnf) | (intro hc; (try dsimp only [Dat, SDat, dflt, Ty.size, keepS, bkUpd, Gv.bk, backS, wayA, maxI, minI, negI] at hc); (try simp only [Int.toNat_natCast, Int.toNat_zero, Int.toNat_one, Classical.not_not, boolOf_true, decide_eq_true_eq, decide_eq_false_iff_not, ne_eq, true_implies, not_true_eq_false, not_false_eq_true, Bool.not_eq_true, Prod.mk.injEq, and_true, true_and, forall_const, preA_f, selB_0, selB_1, boolOf_eq_false, rep1, rep2, rep3, List.length_set, List.length_append, List.length_map, List.length_cons, List.length_nil, List.length_replicate, Nat.zero_add, Nat.add_zero] at hc)))
  all_goals (try ((fail_if_success refine Exists.intro ([] : List (Nat × Sh)) ?_); (fail_if_success refine Exists.intro (0 : Nat) (Exists.intro (_ : Alt _) ?_)); (try dsimp only [Dat, SDat, dflt, Ty.size, keepS, bkUpd, Gv.bk, backS, wayA, maxI, minI, negI]); (try simp only [Int.toNat_natCast, Int.toNat_zero, Int.toNat_one, Classical.not_not, boolOf_true, decide_eq_true_eq, decide_eq_false_iff_not, ne_eq, true_implies, not_true_eq_false, not_false_eq_true, Bool.not_eq_true, Prod.mk.injEq, and_true, true_and, forall_const, preA_f, selB_0, selB_1, boolOf_eq_false, rep1, rep2, rep3, List.length_set, List.length_append, List.length_map, List.length_cons, List.length_nil, List.length_replicate, Nat.zero_add, Nat.add_zero]); first | done | exact trivial | rfl | omega | exact boolOf_eq _ | (simp only [allP, lo, hi, room, true_and, and_true, implies_true]; done) | ((try simp only [allP, lo, hi, room, true_and, and_true, implies_true]); (repeat' (first | (with_reducible refine And.intro ?_ ?_) | ((with_reducible refine preA_t ?_ ?_); rotate_left; (focus (repeat (first | exact trivial | ((conv => whnf); refine And.intro (by rfl) ?_))))) | intro hv)) <;> (try omega))))
  · refine ⟨0, _, rfl, ?_⟩
    conv => whnf
    repeat' (first | (with_reducible refine And.intro ?_ ?_) | ((with_reducible refine gv_more ?_); conv => whnf) | (intro hc; (try dsimp only [Dat, SDat, dflt, Ty.size, keepS, bkUpd, Gv.bk, backS, wayA, maxI, minI, negI] at hc); (try simp only [Int.toNat_natCast, Int.toNat_zero, Int.toNat_one, Classical.not_not, boolOf_true, decide_eq_true_eq, decide_eq_false_iff_not, ne_eq, true_implies, not_true_eq_false, not_false_eq_true, Bool.not_eq_true, Prod.mk.injEq, and_true, true_and, forall_const, preA_f, selB_0, selB_1, boolOf_eq_false, rep1, rep2, rep3, List.length_set, List.length_append, List.length_map, List.length_cons, List.length_nil, List.length_replicate, Nat.zero_add, Nat.add_zero] at hc)))
    all_goals (try ((fail_if_success refine Exists.intro ([] : List (Nat × Sh)) ?_); (fail_if_success refine Exists.intro (0 : Nat) (Exists.intro (_ : Alt _) ?_)); (try dsimp only [Dat, SDat, dflt, Ty.size, keepS, bkUpd, Gv.bk, backS, wayA, maxI, minI, negI]); (try simp only [Int.toNat_natCast, Int.toNat_zero, Int.toNat_one, Classical.not_not, boolOf_true, decide_eq_true_eq, decide_eq_false_iff_not, ne_eq, true_implies, not_true_eq_false, not_false_eq_true, Bool.not_eq_true, Prod.mk.injEq, and_true, true_and, forall_const, preA_f, selB_0, selB_1, boolOf_eq_false, rep1, rep2, rep3, List.length_set, List.length_append, List.length_map, List.length_cons, List.length_nil, List.length_replicate, Nat.zero_add, Nat.add_zero]); first | done | exact trivial | rfl | omega | exact boolOf_eq _ | (simp only [allP, lo, hi, room, true_and, and_true, implies_true]; done) | ((try simp only [allP, lo, hi, room, true_and, and_true, implies_true]); (repeat' (first | (with_reducible refine And.intro ?_ ?_) | ((with_reducible refine preA_t ?_ ?_); rotate_left; (focus (repeat (first | exact trivial | ((conv => whnf); refine And.intro (by rfl) ?_))))) | intro hv)) <;> (try omega))))
  · refine ⟨1, _, rfl, ?_⟩
    conv => whnf
    repeat' (first | (with_reducible refine And.intro ?_ ?_) | ((with_reducible refine gv_more ?_); conv => whnf) | (intro hc; (try dsimp only [Dat, SDat, dflt, Ty.size, keepS, bkUpd, Gv.bk, backS, wayA, maxI, minI, negI] at hc); (try simp only [Int.toNat_natCast, Int.toNat_zero, Int.toNat_one, Classical.not_not, boolOf_true, decide_eq_true_eq, decide_eq_false_iff_not, ne_eq, true_implies, not_true_eq_false, not_false_eq_true, Bool.not_eq_true, Prod.mk.injEq, and_true, true_and, forall_const, preA_f, selB_0, selB_1, boolOf_eq_false, rep1, rep2, rep3, List.length_set, List.length_append, List.length_map, List.length_cons, List.length_nil, List.length_replicate, Nat.zero_add, Nat.add_zero] at hc)))
    all_goals (try ((fail_if_success refine Exists.intro ([] : List (Nat × Sh)) ?_); (fail_if_success refine Exists.intro (0 : Nat) (Exists.intro (_ : Alt _) ?_)); (try dsimp only [Dat, SDat, dflt, Ty.size, keepS, bkUpd, Gv.bk, backS, wayA, maxI, minI, negI]); (try simp only [Int.toNat_natCast, Int.toNat_zero, Int.toNat_one, Classical.not_not, boolOf_true, decide_eq_true_eq, decide_eq_false_iff_not, ne_eq, true_implies, not_true_eq_false, not_false_eq_true, Bool.not_eq_true, Prod.mk.injEq, and_true, true_and, forall_const, preA_f, selB_0, selB_1, boolOf_eq_false, rep1, rep2, rep3, List.length_set, List.length_append, List.length_map, List.length_cons, List.length_nil, List.length_replicate, Nat.zero_add, Nat.add_zero]); first | done | exact trivial | rfl | omega | exact boolOf_eq _ | (simp only [allP, lo, hi, room, true_and, and_true, implies_true]; done) | ((try simp only [allP, lo, hi, room, true_and, and_true, implies_true]); (repeat' (first | (with_reducible refine And.intro ?_ ?_) | ((with_reducible refine preA_t ?_ ?_); rotate_left; (focus (repeat (first | exact trivial | ((conv => whnf); refine And.intro (by rfl) ?_))))) | intro hv)) <;> (try omega))))
set_option maxRecDepth 100000 in
theorem ok_ref18_Start : SpecOK SP glob fi_ref18_Start S_ref18_Start := mk_ok (c := (cf_ref18_Start (Fl [(fi_ref18_Right, S_ref18_Right)]))) (tab_ok _) mix_ok wf_ref18_Start (by decide) (.cons ok_ref18_Right .nil) (by intro x hx; first | exact selB_lt _ | (dsimp only; (first | omega | (split <;> simp) | (split <;> (try split) <;> simp)))) g_ref18_Start

noncomputable def cntK (gs : List Gate) (roots : List Int) : Int := ((keptL gs roots)).countP id
theorem cntK_le (gs : List Gate) (roots : List Int) : 0 ≤ cntK gs roots ∧ cntK gs roots ≤ gs.length := by
  have h1 : ((keptL gs roots)).countP id ≤ ((keptL gs roots)).length := List.countP_le_length
  rw [keptL_len] at h1
  unfold cntK; omega
@[reducible] noncomputable def S_ref18_Sweep_count : Spec := { ins := (.cons (.box (.cons (.d (.sl tGate)) (.cons (.spare tInt) (.cons (.d tInt) .nil)))) .nil), pre := (fun x => (fun s => RightP s.1 s.2.1) x.1), alts := [{ outs := (.cons (.d tInt) .nil), res := (fun x => (fun s => (cntK s.1 s.2.1, ())) x.1) }], ro := true }
set_option maxRecDepth 100000 in
set_option maxHeartbeats 4000000 in
theorem g_ref18_Sweep_count : ∀ x, S_ref18_Sweep_count.pre x → shOK S_ref18_Sweep_count.ins x → fnGoal (cf_ref18_Sweep_count (Fl [(fi_ref18_Kept, S_ref18_Kept)])) fn_ref18_Sweep_count S_ref18_Sweep_count x := by
  rintro ⟨⟨gs, roots, mk, ⟨⟩⟩, ⟨⟩⟩ hpre hok
  try dsimp only [Dat, SDat, dflt, Ty.size, keepS, bkUpd, Gv.bk, backS, wayA, maxI, minI, negI] at hpre
  have hln := shLn_of _ hok; replace hok := Hd.mk hok; try simp only [shLn, datLn, inRng, lo, hi, maxLen, true_and, and_true] at hln
  have hl := hpre.2.1
  have hkl := keptL_len gs roots
  have hrk : ∀ n, rank (keptL gs roots) n ≤ n := fun n => rank_le _ n
  conv => whnf
  repeat' (first | (with_reducible refine And.intro ?_ ?_) | ((with_reducible refine gv_more ?_); conv => whnf) | (intro hc; (try dsimp only [Dat, SDat, dflt, Ty.size, keepS, bkUpd, Gv.bk, backS, wayA, maxI, minI, negI] at hc); (try simp only [Int.toNat_natCast, Int.toNat_zero, Int.toNat_one, Classical.not_not, boolOf_true, decide_eq_true_eq, decide_eq_false_iff_not, ne_eq, true_implies, not_true_eq_false, not_false_eq_true, Bool.not_eq_true, Prod.mk.injEq, and_true, true_and, forall_const, preA_f, selB_0, selB_1, boolOf_eq_false, rep1, rep2, rep3, List.length_set, List.length_append, List.length_map, List.length_cons, List.length_nil, List.length_replicate, Nat.zero_add, Nat.add_zero] at hc)))
  all_goals (try ((fail_if_success refine Exists.intro ([] : List (Nat × Sh)) ?_); (fail_if_success refine Exists.intro (0 : Nat) (Exists.intro (_ : Alt _) ?_)); (try dsimp only [Dat, SDat, dflt, Ty.size, keepS, bkUpd, Gv.bk, backS, wayA, maxI, minI, negI]); (try simp only [Int.toNat_natCast, Int.toNat_zero, Int.toNat_one, Classical.not_not, boolOf_true, decide_eq_true_eq, decide_eq_false_iff_not, ne_eq, true_implies, not_true_eq_false, not_false_eq_true, Bool.not_eq_true, Prod.mk.injEq, and_true, true_and, forall_const, preA_f, selB_0, selB_1, boolOf_eq_false, rep1, rep2, rep3, List.length_set, List.length_append, List.length_map, List.length_cons, List.length_nil, List.length_replicate, Nat.zero_add, Nat.add_zero]); first | done | exact trivial | rfl | omega | exact boolOf_eq _ | (simp only [allP, lo, hi, room, true_and, and_true, implies_true]; done) | ((try simp only [allP, lo, hi, room, true_and, and_true, implies_true]); (repeat' (first | (with_reducible refine And.intro ?_ ?_) | ((with_reducible refine preA_t ?_ ?_); rotate_left; (focus (repeat (first | exact trivial | ((conv => whnf); refine And.intro (by rfl) ?_))))) | intro hv)) <;> (try omega))))
  refine ⟨[(5, .d tInt), (3, .d tInt)], [], fun y => ∃ n : Nat, y.1.1 = (n : Int) ∧ n ≤ gs.length ∧ y.1.2.1 = (rank (keptL gs roots) n : Int), fun y => gs.length - y.1.1.toNat, ?_⟩
  conv => whnf
  refine And.intro ?_ ?_
  · exact ⟨0, rfl, Nat.zero_le _, by simp [rank]⟩
  rintro ⟨⟨_, _, ⟨⟩⟩, ⟨⟩⟩ ⟨n, rfl, hn, rfl⟩
  have hrn := hrk n
  have hrs : n < gs.length → _ := fun h => rank_succ (ks := (keptL gs roots)) (k := n) (by omega)
  repeat' (first | (with_reducible refine And.intro ?_ ?_) | ((with_reducible refine gv_more ?_); conv => whnf) | (intro hc; (try dsimp only [Dat, SDat, dflt, Ty.size, keepS, bkUpd, Gv.bk, backS, wayA, maxI, minI, negI] at hc); (try simp only [Int.toNat_natCast, Int.toNat_zero, Int.toNat_one, Classical.not_not, boolOf_true, decide_eq_true_eq, decide_eq_false_iff_not, ne_eq, true_implies, not_true_eq_false, not_false_eq_true, Bool.not_eq_true, Prod.mk.injEq, and_true, true_and, forall_const, preA_f, selB_0, selB_1, boolOf_eq_false, rep1, rep2, rep3, List.length_set, List.length_append, List.length_map, List.length_cons, List.length_nil, List.length_replicate, Nat.zero_add, Nat.add_zero] at hc)))
  all_goals (try ((fail_if_success refine Exists.intro ([] : List (Nat × Sh)) ?_); (fail_if_success refine Exists.intro (0 : Nat) (Exists.intro (_ : Alt _) ?_)); (try dsimp only [Dat, SDat, dflt, Ty.size, keepS, bkUpd, Gv.bk, backS, wayA, maxI, minI, negI]); (try simp only [Int.toNat_natCast, Int.toNat_zero, Int.toNat_one, Classical.not_not, boolOf_true, decide_eq_true_eq, decide_eq_false_iff_not, ne_eq, true_implies, not_true_eq_false, not_false_eq_true, Bool.not_eq_true, Prod.mk.injEq, and_true, true_and, forall_const, preA_f, selB_0, selB_1, boolOf_eq_false, rep1, rep2, rep3, List.length_set, List.length_append, List.length_map, List.length_cons, List.length_nil, List.length_replicate, Nat.zero_add, Nat.add_zero]); first | done | exact trivial | rfl | omega | exact boolOf_eq _ | (simp only [allP, lo, hi, room, true_and, and_true, implies_true]; done) | ((try simp only [allP, lo, hi, room, true_and, and_true, implies_true]); (repeat' (first | (with_reducible refine And.intro ?_ ?_) | ((with_reducible refine preA_t ?_ ?_); rotate_left; (focus (repeat (first | exact trivial | ((conv => whnf); refine And.intro (by rfl) ?_))))) | intro hv)) <;> (try omega))))
  · refine ⟨n + 1, by omega, by omega, ?_⟩
    rw [hrs (by omega), if_pos hc]; rfl
  · refine ⟨n + 1, by omega, by omega, ?_⟩
    rw [hrs (by omega), if_neg (by rw [hc]; exact Bool.false_ne_true)]; rfl
  · rw [rank, cntK, List.take_of_length_le (by omega)]
set_option maxRecDepth 100000 in
theorem ok_ref18_Sweep_count : SpecOK SP glob fi_ref18_Sweep_count S_ref18_Sweep_count := mk_ok (c := (cf_ref18_Sweep_count (Fl [(fi_ref18_Kept, S_ref18_Kept)]))) (tab_ok _) mix_ok wf_ref18_Sweep_count (by decide) (.cons ok_ref18_Kept .nil) (fun x hx => Nat.zero_lt_one) g_ref18_Sweep_count

@[reducible] noncomputable def S_ref18_Step_nil : Spec := { ins := (.cons (.nilp) (.cons (.d tInt) .nil)), pre := fun _ => True, alts := [{ outs := (.cons (.d .bool) .nil), res := (fun x => (fun s n => (false, ())) x.1 x.2.1) }] }
set_option maxRecDepth 100000 in
set_option maxHeartbeats 4000000 in
theorem g_ref18_Step_nil : ∀ x, S_ref18_Step_nil.pre x → shOK S_ref18_Step_nil.ins x → fnGoal (cf_ref18_Sweep_Step (Fl [])) fn_ref18_Sweep_Step S_ref18_Step_nil x := by
  rintro ⟨s, n, ⟨⟩⟩ hpre hok
  clear hpre
  have hln := shLn_of _ hok; replace hok := Hd.mk hok; try simp only [shLn, datLn, inRng, lo, hi, maxLen, true_and, and_true] at hln
  conv => whnf
  repeat' (first | (with_reducible refine And.intro ?_ ?_) | ((with_reducible refine gv_more ?_); conv => whnf) | (intro hc; (try dsimp only [Dat, SDat, dflt, Ty.size, keepS, bkUpd, Gv.bk, backS, wayA, maxI, minI, negI] at hc); (try simp only [Int.toNat_natCast, Int.toNat_zero, Int.toNat_one, Classical.not_not, boolOf_true, decide_eq_true_eq, decide_eq_false_iff_not, ne_eq, true_implies, not_true_eq_false, not_false_eq_true, Bool.not_eq_true, Prod.mk.injEq, and_true, true_and, forall_const, preA_f, selB_0, selB_1, boolOf_eq_false, rep1, rep2, rep3, List.length_set, List.length_append, List.length_map, List.length_cons, List.length_nil, List.length_replicate, Nat.zero_add, Nat.add_zero] at hc)))
  all_goals (try ((fail_if_success refine Exists.intro ([] : List (Nat × Sh)) ?_); (fail_if_success refine Exists.intro (0 : Nat) (Exists.intro (_ : Alt _) ?_)); (try dsimp only [Dat, SDat, dflt, Ty.size, keepS, bkUpd, Gv.bk, backS, wayA, maxI, minI, negI]); (try simp only [Int.toNat_natCast, Int.toNat_zero, Int.toNat_one, Classical.not_not, boolOf_true, decide_eq_true_eq, decide_eq_false_iff_not, ne_eq, true_implies, not_true_eq_false, not_false_eq_true, Bool.not_eq_true, Prod.mk.injEq, and_true, true_and, forall_const, preA_f, selB_0, selB_1, boolOf_eq_false, rep1, rep2, rep3, List.length_set, List.length_append, List.length_map, List.length_cons, List.length_nil, List.length_replicate, Nat.zero_add, Nat.add_zero]); first | done | exact trivial | rfl | omega | exact boolOf_eq _ | (simp only [allP, lo, hi, room, true_and, and_true, implies_true]; done) | ((try simp only [allP, lo, hi, room, true_and, and_true, implies_true]); (repeat' (first | (with_reducible refine And.intro ?_ ?_) | ((with_reducible refine preA_t ?_ ?_); rotate_left; (focus (repeat (first | exact trivial | ((conv => whnf); refine And.intro (by rfl) ?_))))) | intro hv)) <;> (try omega))))
set_option maxRecDepth 100000 in
theorem ok_ref18_Step_nil : SpecOK SP glob fi_ref18_Sweep_Step S_ref18_Step_nil := mk_ok (c := (cf_ref18_Sweep_Step (Fl []))) (tab_ok _) mix_ok wf_ref18_Sweep_Step (by decide) .nil (fun x hx => Nat.zero_lt_one) g_ref18_Step_nil

@[reducible] noncomputable def S_ref18_Add_nil : Spec := { ins := (.cons (.nilp) (.cons (.d tInt) .nil)), pre := fun _ => True, alts := [{ outs := (.cons (.d tInt) .nil), res := (fun x => (fun s n => (1, ())) x.1 x.2.1) }] }
set_option maxRecDepth 100000 in
set_option maxHeartbeats 4000000 in
theorem g_ref18_Add_nil : ∀ x, S_ref18_Add_nil.pre x → shOK S_ref18_Add_nil.ins x → fnGoal (cf_ref18_Sweep_Add (Fl [])) fn_ref18_Sweep_Add S_ref18_Add_nil x := by
  rintro ⟨s, n, ⟨⟩⟩ hpre hok
  clear hpre
  have hln := shLn_of _ hok; replace hok := Hd.mk hok; try simp only [shLn, datLn, inRng, lo, hi, maxLen, true_and, and_true] at hln
  conv => whnf
  repeat' (first | (with_reducible refine And.intro ?_ ?_) | ((with_reducible refine gv_more ?_); conv => whnf) | (intro hc; (try dsimp only [Dat, SDat, dflt, Ty.size, keepS, bkUpd, Gv.bk, backS, wayA, maxI, minI, negI] at hc); (try simp only [Int.toNat_natCast, Int.toNat_zero, Int.toNat_one, Classical.not_not, boolOf_true, decide_eq_true_eq, decide_eq_false_iff_not, ne_eq, true_implies, not_true_eq_false, not_false_eq_true, Bool.not_eq_true, Prod.mk.injEq, and_true, true_and, forall_const, preA_f, selB_0, selB_1, boolOf_eq_false, rep1, rep2, rep3, List.length_set, List.length_append, List.length_map, List.length_cons, List.length_nil, List.length_replicate, Nat.zero_add, Nat.add_zero] at hc)))
  all_goals (try ((fail_if_success refine Exists.intro ([] : List (Nat × Sh)) ?_); (fail_if_success refine Exists.intro (0 : Nat) (Exists.intro (_ : Alt _) ?_)); (try dsimp only [Dat, SDat, dflt, Ty.size, keepS, bkUpd, Gv.bk, backS, wayA, maxI, minI, negI]); (try simp only [Int.toNat_natCast, Int.toNat_zero, Int.toNat_one, Classical.not_not, boolOf_true, decide_eq_true_eq, decide_eq_false_iff_not, ne_eq, true_implies, not_true_eq_false, not_false_eq_true, Bool.not_eq_true, Prod.mk.injEq, and_true, true_and, forall_const, preA_f, selB_0, selB_1, boolOf_eq_false, rep1, rep2, rep3, List.length_set, List.length_append, List.length_map, List.length_cons, List.length_nil, List.length_replicate, Nat.zero_add, Nat.add_zero]); first | done | exact trivial | rfl | omega | exact boolOf_eq _ | (simp only [allP, lo, hi, room, true_and, and_true, implies_true]; done) | ((try simp only [allP, lo, hi, room, true_and, and_true, implies_true]); (repeat' (first | (with_reducible refine And.intro ?_ ?_) | ((with_reducible refine preA_t ?_ ?_); rotate_left; (focus (repeat (first | exact trivial | ((conv => whnf); refine And.intro (by rfl) ?_))))) | intro hv)) <;> (try omega))))
set_option maxRecDepth 100000 in
theorem ok_ref18_Add_nil : SpecOK SP glob fi_ref18_Sweep_Add S_ref18_Add_nil := mk_ok (c := (cf_ref18_Sweep_Add (Fl []))) (tab_ok _) mix_ok wf_ref18_Sweep_Add (by decide) .nil (fun x hx => Nat.zero_lt_one) g_ref18_Add_nil

@[reducible] noncomputable def S_ref18_Result_nil : Spec := { ins := (.cons (.nilp) .nil), pre := fun _ => True, alts := [{ outs := (.cons (.d tCirc) (.cons (.d (.sl tInt)) (.cons (.d tInt) .nil))), res := (fun x => (fun s => (([], ()), [], 1, ())) x.1) }] }
set_option maxRecDepth 100000 in
set_option maxHeartbeats 4000000 in
theorem g_ref18_Result_nil : ∀ x, S_ref18_Result_nil.pre x → shOK S_ref18_Result_nil.ins x → fnGoal (cf_ref18_Sweep_Result (Fl [])) fn_ref18_Sweep_Result S_ref18_Result_nil x := by
  rintro ⟨s, ⟨⟩⟩ hpre hok
  clear hpre
  have hln := shLn_of _ hok; replace hok := Hd.mk hok; try simp only [shLn, datLn, inRng, lo, hi, maxLen, true_and, and_true] at hln
  conv => whnf
  repeat' (first | (with_reducible refine And.intro ?_ ?_) | ((with_reducible refine gv_more ?_); conv => whnf) | (intro hc; (try dsimp only [Dat, SDat, dflt, Ty.size, keepS, bkUpd, Gv.bk, backS, wayA, maxI, minI, negI] at hc); (try simp only [Int.toNat_natCast, Int.toNat_zero, Int.toNat_one, Classical.not_not, boolOf_true, decide_eq_true_eq, decide_eq_false_iff_not, ne_eq, true_implies, not_true_eq_false, not_false_eq_true, Bool.not_eq_true, Prod.mk.injEq, and_true, true_and, forall_const, preA_f, selB_0, selB_1, boolOf_eq_false, rep1, rep2, rep3, List.length_set, List.length_append, List.length_map, List.length_cons, List.length_nil, List.length_replicate, Nat.zero_add, Nat.add_zero] at hc)))
  all_goals (try ((fail_if_success refine Exists.intro ([] : List (Nat × Sh)) ?_); (fail_if_success refine Exists.intro (0 : Nat) (Exists.intro (_ : Alt _) ?_)); (try dsimp only [Dat, SDat, dflt, Ty.size, keepS, bkUpd, Gv.bk, backS, wayA, maxI, minI, negI]); (try simp only [Int.toNat_natCast, Int.toNat_zero, Int.toNat_one, Classical.not_not, boolOf_true, decide_eq_true_eq, decide_eq_false_iff_not, ne_eq, true_implies, not_true_eq_false, not_false_eq_true, Bool.not_eq_true, Prod.mk.injEq, and_true, true_and, forall_const, preA_f, selB_0, selB_1, boolOf_eq_false, rep1, rep2, rep3, List.length_set, List.length_append, List.length_map, List.length_cons, List.length_nil, List.length_replicate, Nat.zero_add, Nat.add_zero]); first | done | exact trivial | rfl | omega | exact boolOf_eq _ | (simp only [allP, lo, hi, room, true_and, and_true, implies_true]; done) | ((try simp only [allP, lo, hi, room, true_and, and_true, implies_true]); (repeat' (first | (with_reducible refine And.intro ?_ ?_) | ((with_reducible refine preA_t ?_ ?_); rotate_left; (focus (repeat (first | exact trivial | ((conv => whnf); refine And.intro (by rfl) ?_))))) | intro hv)) <;> (try omega))))
set_option maxRecDepth 100000 in
theorem ok_ref18_Result_nil : SpecOK SP glob fi_ref18_Sweep_Result S_ref18_Result_nil := mk_ok (c := (cf_ref18_Sweep_Result (Fl []))) (tab_ok _) mix_ok wf_ref18_Sweep_Result (by decide) .nil (fun x hx => Nat.zero_lt_one) g_ref18_Result_nil

@[reducible] noncomputable def S_ref18_Sweep_Step : Spec := { ins := (.cons (.box (.cons (.d (.sl tGate)) (.cons (.spare tInt) (.cons (.d tInt) .nil)))) (.cons (.d tInt) .nil)), pre := (fun x => (fun s n => RightP s.1 s.2.1 ∧ 0 ≤ s.2.2.1 ∧ s.2.2.1 ≤ 100000) x.1 x.2.1), alts := [{ outs := (.cons (.d .bool) .nil), res := (fun x => (fun s n => (decide (s.2.2.1 + max 0 (min n (cntK s.1 s.2.1 - s.2.2.1)) = cntK s.1 s.2.1), ())) x.1 x.2.1), upd := (fun x => (fun s n => ((s.1, s.2.1, s.2.2.1 + max 0 (min n (cntK s.1 s.2.1 - s.2.2.1)), ()), n, ())) x.1 x.2.1) }] }
set_option maxRecDepth 100000 in
set_option maxHeartbeats 4000000 in
theorem g_ref18_Sweep_Step : ∀ x, S_ref18_Sweep_Step.pre x → shOK S_ref18_Sweep_Step.ins x → fnGoal (cf_ref18_Sweep_Step (Fl [(fi_ref18_Sweep_count, S_ref18_Sweep_count)])) fn_ref18_Sweep_Step S_ref18_Sweep_Step x := by
  rintro ⟨⟨gs, roots, mk, ⟨⟩⟩, n, ⟨⟩⟩ hpre hok
  try dsimp only [Dat, SDat, dflt, Ty.size, keepS, bkUpd, Gv.bk, backS, wayA, maxI, minI, negI] at hpre
  have hln := shLn_of _ hok; replace hok := Hd.mk hok; try simp only [shLn, datLn, inRng, lo, hi, maxLen, true_and, and_true] at hln
  have hc0 := cntK_le gs roots
  have hl := hpre.1.2.1
  have hm1 := hpre.2.1
  have hm2 := hpre.2.2
  conv => whnf
  repeat' (first | (with_reducible refine And.intro ?_ ?_) | ((with_reducible refine gv_more ?_); conv => whnf) | (intro hc; (try dsimp only [Dat, SDat, dflt, Ty.size, keepS, bkUpd, Gv.bk, backS, wayA, maxI, minI, negI] at hc); (try simp only [Int.toNat_natCast, Int.toNat_zero, Int.toNat_one, Classical.not_not, boolOf_true, decide_eq_true_eq, decide_eq_false_iff_not, ne_eq, true_implies, not_true_eq_false, not_false_eq_true, Bool.not_eq_true, Prod.mk.injEq, and_true, true_and, forall_const, preA_f, selB_0, selB_1, boolOf_eq_false, rep1, rep2, rep3, List.length_set, List.length_append, List.length_map, List.length_cons, List.length_nil, List.length_replicate, Nat.zero_add, Nat.add_zero] at hc)))
  all_goals (try ((fail_if_success refine Exists.intro ([] : List (Nat × Sh)) ?_); (fail_if_success refine Exists.intro (0 : Nat) (Exists.intro (_ : Alt _) ?_)); (try dsimp only [Dat, SDat, dflt, Ty.size, keepS, bkUpd, Gv.bk, backS, wayA, maxI, minI, negI]); (try simp only [Int.toNat_natCast, Int.toNat_zero, Int.toNat_one, Classical.not_not, boolOf_true, decide_eq_true_eq, decide_eq_false_iff_not, ne_eq, true_implies, not_true_eq_false, not_false_eq_true, Bool.not_eq_true, Prod.mk.injEq, and_true, true_and, forall_const, preA_f, selB_0, selB_1, boolOf_eq_false, rep1, rep2, rep3, List.length_set, List.length_append, List.length_map, List.length_cons, List.length_nil, List.length_replicate, Nat.zero_add, Nat.add_zero]); first | done | exact trivial | rfl | omega | exact boolOf_eq _ | (simp only [allP, lo, hi, room, true_and, and_true, implies_true]; done) | ((try simp only [allP, lo, hi, room, true_and, and_true, implies_true]); (repeat' (first | (with_reducible refine And.intro ?_ ?_) | ((with_reducible refine preA_t ?_ ?_); rotate_left; (focus (repeat (first | exact trivial | ((conv => whnf); refine And.intro (by rfl) ?_))))) | intro hv)) <;> (try omega))))
  · exact hpre.1
set_option maxRecDepth 100000 in
theorem ok_ref18_Sweep_Step : SpecOK SP glob fi_ref18_Sweep_Step S_ref18_Sweep_Step := mk_ok (c := (cf_ref18_Sweep_Step (Fl [(fi_ref18_Sweep_count, S_ref18_Sweep_count)]))) (tab_ok _) mix_ok wf_ref18_Sweep_Step (by decide) (.cons ok_ref18_Sweep_count .nil) (fun x hx => Nat.zero_lt_one) g_ref18_Sweep_Step

@[reducible] noncomputable def S_ref18_Sweep_Add : Spec := { ins := (.cons (.box (.cons (.d (.sl tGate)) (.cons (.spare tInt) (.cons (.d tInt) .nil)))) (.cons (.d tInt) .nil)), pre := (fun x => (fun s r => s.2.1.length < 1000000) x.1 x.2.1), alts := [{ outs := (.cons (.d tInt) .nil), res := (fun x => (fun s r => (if 0 ≤ r ∧ r < s.1.length then 0 else 1, ())) x.1 x.2.1), upd := (fun x => (fun s r => ((s.1, if 0 ≤ r ∧ r < s.1.length then s.2.1 ++ [r] else s.2.1, s.2.2.1, ()), r, ())) x.1 x.2.1) }] }
set_option maxRecDepth 100000 in
set_option maxHeartbeats 4000000 in
theorem g_ref18_Sweep_Add : ∀ x, S_ref18_Sweep_Add.pre x → shOK S_ref18_Sweep_Add.ins x → fnGoal (cf_ref18_Sweep_Add (Fl [])) fn_ref18_Sweep_Add S_ref18_Sweep_Add x := by
  rintro ⟨⟨gs, roots, mk, ⟨⟩⟩, r, ⟨⟩⟩ hpre hok
  try dsimp only [Dat, SDat, dflt, Ty.size, keepS, bkUpd, Gv.bk, backS, wayA, maxI, minI, negI] at hpre
  have hln := shLn_of _ hok; replace hok := Hd.mk hok; try simp only [shLn, datLn, inRng, lo, hi, maxLen, true_and, and_true] at hln
  conv => whnf
  repeat' (first | (with_reducible refine And.intro ?_ ?_) | ((with_reducible refine gv_more ?_); conv => whnf) | (intro hc; (try dsimp only [Dat, SDat, dflt, Ty.size, keepS, bkUpd, Gv.bk, backS, wayA, maxI, minI, negI] at hc); (try simp only [Int.toNat_natCast, Int.toNat_zero, Int.toNat_one, Classical.not_not, boolOf_true, decide_eq_true_eq, decide_eq_false_iff_not, ne_eq, true_implies, not_true_eq_false, not_false_eq_true, Bool.not_eq_true, Prod.mk.injEq, and_true, true_and, forall_const, preA_f, selB_0, selB_1, boolOf_eq_false, rep1, rep2, rep3, List.length_set, List.length_append, List.length_map, List.length_cons, List.length_nil, List.length_replicate, Nat.zero_add, Nat.add_zero] at hc)))
  all_goals (try ((fail_if_success refine Exists.intro ([] : List (Nat × Sh)) ?_); (fail_if_success refine Exists.intro (0 : Nat) (Exists.intro (_ : Alt _) ?_)); (try dsimp only [Dat, SDat, dflt, Ty.size, keepS, bkUpd, Gv.bk, backS, wayA, maxI, minI, negI]); (try simp only [Int.toNat_natCast, Int.toNat_zero, Int.toNat_one, Classical.not_not, boolOf_true, decide_eq_true_eq, decide_eq_false_iff_not, ne_eq, true_implies, not_true_eq_false, not_false_eq_true, Bool.not_eq_true, Prod.mk.injEq, and_true, true_and, forall_const, preA_f, selB_0, selB_1, boolOf_eq_false, rep1, rep2, rep3, List.length_set, List.length_append, List.length_map, List.length_cons, List.length_nil, List.length_replicate, Nat.zero_add, Nat.add_zero]); first | done | exact trivial | rfl | omega | exact boolOf_eq _ | (simp only [allP, lo, hi, room, true_and, and_true, implies_true]; done) | ((try simp only [allP, lo, hi, room, true_and, and_true, implies_true]); (repeat' (first | (with_reducible refine And.intro ?_ ?_) | ((with_reducible refine preA_t ?_ ?_); rotate_left; (focus (repeat (first | exact trivial | ((conv => whnf); refine And.intro (by rfl) ?_))))) | intro hv)) <;> (try omega))))
  · rw [if_neg (by omega)]
  · rw [if_pos (by omega)]
set_option maxRecDepth 100000 in
theorem ok_ref18_Sweep_Add : SpecOK SP glob fi_ref18_Sweep_Add S_ref18_Sweep_Add := mk_ok (c := (cf_ref18_Sweep_Add (Fl []))) (tab_ok _) mix_ok wf_ref18_Sweep_Add (by decide) .nil (fun x hx => Nat.zero_lt_one) g_ref18_Sweep_Add

@[reducible] noncomputable def S_ref18_Sweep_Result : Spec := { ins := (.cons (.box (.cons (.d (.sl tGate)) (.cons (.spare tInt) (.cons (.d tInt) .nil)))) .nil), pre := (fun x => (fun s => RightP s.1 s.2.1 ∧ SmallG s.1 ∧ s.2.1.length ≤ 1000000) x.1), alts := [{ outs := (.cons (.d tCirc) (.cons (.d (.sl tInt)) (.cons (.d tInt) .nil))), res := (fun x => (fun s => (if s.2.2.1 < cntK s.1 s.2.1 then ([], ()) else (keepG s.1 s.2.1, ()), if s.2.2.1 < cntK s.1 s.2.1 then [] else keepL s.1 s.2.1, if s.2.2.1 < cntK s.1 s.2.1 then 12 else 0, ())) x.1) }], ro := true }
set_option maxRecDepth 100000 in
set_option maxHeartbeats 4000000 in
theorem g_ref18_Sweep_Result : ∀ x, S_ref18_Sweep_Result.pre x → shOK S_ref18_Sweep_Result.ins x → fnGoal (cf_ref18_Sweep_Result (Fl [(fi_ref18_Sweep_count, S_ref18_Sweep_count), (fi_ref18_Keep, S_ref18_Keep)])) fn_ref18_Sweep_Result S_ref18_Sweep_Result x := by
  rintro ⟨⟨gs, roots, mk, ⟨⟩⟩, ⟨⟩⟩ hpre hok
  try dsimp only [Dat, SDat, dflt, Ty.size, keepS, bkUpd, Gv.bk, backS, wayA, maxI, minI, negI] at hpre
  have hln := shLn_of _ hok; replace hok := Hd.mk hok; try simp only [shLn, datLn, inRng, lo, hi, maxLen, true_and, and_true] at hln
  have hif : boolOf (RightP gs roots) = true := boolOf_true.2 hpre.1
  conv => whnf
  repeat' (first | (with_reducible refine And.intro ?_ ?_) | ((with_reducible refine gv_more ?_); conv => whnf) | (intro hc; (try dsimp only [Dat, SDat, dflt, Ty.size, keepS, bkUpd, Gv.bk, backS, wayA, maxI, minI, negI] at hc); (try simp only [Int.toNat_natCast, Int.toNat_zero, Int.toNat_one, Classical.not_not, boolOf_true, decide_eq_true_eq, decide_eq_false_iff_not, ne_eq, true_implies, not_true_eq_false, not_false_eq_true, Bool.not_eq_true, Prod.mk.injEq, and_true, true_and, forall_const, preA_f, selB_0, selB_1, boolOf_eq_false, rep1, rep2, rep3, List.length_set, List.length_append, List.length_map, List.length_cons, List.length_nil, List.length_replicate, Nat.zero_add, Nat.add_zero] at hc)))
  all_goals (try ((fail_if_success refine Exists.intro ([] : List (Nat × Sh)) ?_); (fail_if_success refine Exists.intro (0 : Nat) (Exists.intro (_ : Alt _) ?_)); (try dsimp only [Dat, SDat, dflt, Ty.size, keepS, bkUpd, Gv.bk, backS, wayA, maxI, minI, negI]); (try simp only [Int.toNat_natCast, Int.toNat_zero, Int.toNat_one, Classical.not_not, boolOf_true, decide_eq_true_eq, decide_eq_false_iff_not, ne_eq, true_implies, not_true_eq_false, not_false_eq_true, Bool.not_eq_true, Prod.mk.injEq, and_true, true_and, forall_const, preA_f, selB_0, selB_1, boolOf_eq_false, rep1, rep2, rep3, List.length_set, List.length_append, List.length_map, List.length_cons, List.length_nil, List.length_replicate, Nat.zero_add, Nat.add_zero]); first | done | exact trivial | rfl | omega | exact boolOf_eq _ | (simp only [allP, lo, hi, room, true_and, and_true, implies_true]; done) | ((try simp only [allP, lo, hi, room, true_and, and_true, implies_true]); (repeat' (first | (with_reducible refine And.intro ?_ ?_) | ((with_reducible refine preA_t ?_ ?_); rotate_left; (focus (repeat (first | exact trivial | ((conv => whnf); refine And.intro (by rfl) ?_))))) | intro hv)) <;> (try omega))))
  · exact hpre.1
  · rw [if_pos hc]
  · rw [if_pos hc]
  · exact hpre.2.1 _ (by assumption)
  · rw [if_neg hc, if_pos hif]
  · rw [if_neg hc, if_pos hif]
  · rw [if_neg hc, if_pos hif]
set_option maxRecDepth 100000 in
theorem ok_ref18_Sweep_Result : SpecOK SP glob fi_ref18_Sweep_Result S_ref18_Sweep_Result := mk_ok (c := (cf_ref18_Sweep_Result (Fl [(fi_ref18_Sweep_count, S_ref18_Sweep_count), (fi_ref18_Keep, S_ref18_Keep)]))) (tab_ok _) mix_ok wf_ref18_Sweep_Result (by decide) (.cons ok_ref18_Sweep_count (.cons ok_ref18_Keep .nil)) (fun x hx => Nat.zero_lt_one) g_ref18_Sweep_Result
end Go.Gv
