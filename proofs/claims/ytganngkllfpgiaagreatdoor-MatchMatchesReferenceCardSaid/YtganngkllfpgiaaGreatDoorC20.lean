/- Chapter 20: scores and weights of matches. -/
import Derived.Test.YtganngkllfpgiaaGreatDoorR04b
set_option linter.all false
namespace Go.Gv
open Go Go.Proofs Go.Proofs.YtganngkllfpgiaaGreatDoor
set_option maxRecDepth 100000
set_option maxHeartbeats 4000000

@[reducible] def tWgh : Ty := .st (.cs tInt (.cs tInt (.cs tInt (.cs tRt (.cs tInt (.cs tInt .nl))))))
abbrev Wg := Int × Int × Int × Rt × Int × Int × Unit
@[reducible] def tMat : Ty := .st (.cs .str (.cs tInt (.cs tInt (.cs (.sl tWgh) .nl))))
abbrev Ma := List UInt8 × Int × Int × List Wg × Unit
@[reducible] def tKey : Ty := .st (.cs tInt (.cs .str (.cs .str .nl)))
@[reducible] def tCel : Ty := .st (.cs tVal (.cs tInt (.cs tInt .nl)))
abbrev Ce := Vl × Int × Int × Unit
@[reducible] def tRec : Ty := .st (.cs tKey (.cs tInt (.cs tInt (.cs (.sl tCel) .nl))))
abbrev Rc := (Int × List UInt8 × List UInt8 × Unit) × Int × Int × List Ce × Unit

structure WgOK (t : Wg) : Prop where
  least : validR t.2.2.2.1
  lo : 0 ≤ t.2.2.2.1.1
  hi : t.2.2.2.1.1 ≤ t.2.2.2.1.2.1
  meas : 1 ≤ t.2.1 ∧ t.2.1 ≤ 5
  tol : 0 ≤ t.2.2.1 ∧ t.2.2.1 ≤ 1000000000
  giv : 0 ≤ t.2.2.2.2.1 ∧ t.2.2.2.2.1 ≤ 1000
  tak : 0 ≤ t.2.2.2.2.2.1 ∧ t.2.2.2.2.2.1 ≤ 1000
theorem wgOK_iff (t : Wg) : WgOK t ↔ (((((validR t.2.2.2.1 ∧ (0 ≤ t.2.2.2.1.1 ∧ t.2.2.2.1.1 ≤ t.2.2.2.1.2.1)) ∧ (1 ≤ t.2.1 ∧ t.2.1 ≤ 5)) ∧ (0 ≤ t.2.2.1 ∧ t.2.2.1 ≤ 1000000000)) ∧ (0 ≤ t.2.2.2.2.1 ∧ t.2.2.2.2.1 ≤ 1000)) ∧ (0 ≤ t.2.2.2.2.2.1 ∧ t.2.2.2.2.2.1 ≤ 1000)) :=
  ⟨fun ⟨a, b, c, d, e, f, g⟩ => ⟨⟨⟨⟨⟨a, b, c⟩, d⟩, e⟩, f⟩, g⟩, fun ⟨⟨⟨⟨⟨a, b, c⟩, d⟩, e⟩, f⟩, g⟩ => ⟨a, b, c, d, e, f, g⟩⟩
noncomputable instance (t : Wg) : Decidable (WgOK t) := Classical.propDecidable _
structure MOK (m : Ma) : Prop where
  at_ : 0 ≤ m.2.2.1 ∧ m.2.2.1 ≤ 10000
  few : m.2.2.2.1.length ≤ 200
  all : ∀ t ∈ m.2.2.2.1, WgOK t
structure AbM (m : Ma) (a b : Rc) : Prop where
  ta : m.2.1 = a.2.1
  tb : m.2.1 = b.2.1
  ok : MOK m
def vlAt (a : Rc) (c : Int) : Vl := (a.2.2.2.1.getD c.toNat ((0, 0, [], ()), 0, 0, ())).1
structure HoW (t : Wg) (a b : Rc) : Prop where
  lo : 0 ≤ t.1
  ha : t.1 < a.2.2.2.1.length
  hb : t.1 < b.2.2.2.1.length
  ok : ofE t.2.1 t.2.2.1 (vlAt a t.1) (vlAt b t.1) = 0
  ge : 0 ≤ cmpR (ofV t.2.1 t.2.2.1 (vlAt a t.1) (vlAt b t.1)) t.2.2.2.1
noncomputable instance (m : Ma) (a b : Rc) : Decidable (AbM m a b) := Classical.propDecidable _
noncomputable instance (t : Wg) (a b : Rc) : Decidable (HoW t a b) := Classical.propDecidable _
noncomputable def coW (a b : Rc) (t : Wg) : Bool × Int × Unit := (decide (HoW t a b), if HoW t a b then t.2.2.2.2.1 else -t.2.2.2.2.2.1, ())
noncomputable def coS (a b : Rc) (l : List Wg) : Int := (l.map fun t => (coW a b t).2.1).sum
noncomputable def coL (a b : Rc) (l : List Wg) : List Bool := l.map fun t => decide (HoW t a b)
noncomputable def scS (m : Ma) (a b : Rc) : Int := if AbM m a b then coS a b m.2.2.2.1 else 0
noncomputable def scL (m : Ma) (a b : Rc) : List Bool := if AbM m a b then coL a b m.2.2.2.1 else []
noncomputable def wtM (a b : Rc) (m : Ma) : Int := if AbM m a b then scS m a b - m.2.2.1 else 0
noncomputable def wtS (l : List Ma) (a b : Rc) : Int := (l.map (wtM a b)).sum

theorem co_pos {a b : Rc} {t : Wg} (h : HoW t a b) : coW a b t = (decide (HoW t a b), t.2.2.2.2.1, ()) := by unfold coW; rw [if_pos h]
theorem co_neg {a b : Rc} {t : Wg} (h : ¬ HoW t a b) : coW a b t = (decide (HoW t a b), -t.2.2.2.2.2.1, ()) := by unfold coW; rw [if_neg h]
theorem coS_snoc {l : List Wg} {a b : Rc} {k : Nat} {d : Wg} (h : k < l.length) : coS a b (l.take (k + 1)) = coS a b (l.take k) + (coW a b (l.getD k d)).2.1 := by
  unfold coS
  rw [List.take_succ_eq_append_getElem h, List.map_append, List.sum_append, getD_ok _ h]
  simp
theorem coL_snoc {l : List Wg} {a b : Rc} {k : Nat} {d : Wg} (h : k < l.length) : coL a b (l.take (k + 1)) = coL a b (l.take k) ++ [(coW a b (l.getD k d)).1] := by
  unfold coL coW
  rw [List.take_succ_eq_append_getElem h, List.map_append, getD_ok _ h]
  rfl
theorem co_bound {a b : Rc} {t : Wg} (h : WgOK t) : -1000 ≤ (coW a b t).2.1 ∧ (coW a b t).2.1 ≤ 1000 := by
  have h1 := h.giv
  have h2 := h.tak
  unfold coW
  dsimp only
  split <;> omega
theorem coS_bound {a b : Rc} : ∀ {l : List Wg}, (∀ t ∈ l, WgOK t) → -1000 * (l.length : Int) ≤ coS a b l ∧ coS a b l ≤ 1000 * (l.length : Int)
  | [], _ => by simp [coS]
  | t :: l, h => by
    have ih := coS_bound (a := a) (b := b) fun t ht => h t (List.mem_cons_of_mem _ ht)
    have h1 := co_bound (a := a) (b := b) (h t List.mem_cons_self)
    have e : coS a b (t :: l) = (coW a b t).2.1 + coS a b l := rfl
    rw [e, List.length_cons]
    omega
theorem scS_bound {m : Ma} {a b : Rc} : -200000 ≤ scS m a b ∧ scS m a b ≤ 200000 := by
  unfold scS
  split
  · rename_i h
    have h1 := coS_bound (a := a) (b := b) h.ok.all
    have h2 := h.ok.few
    omega
  · omega
theorem wtM_bound {m : Ma} {a b : Rc} : -210000 ≤ wtM a b m ∧ wtM a b m ≤ 210000 := by
  unfold wtM
  split
  · rename_i h
    have h1 := scS_bound (m := m) (a := a) (b := b)
    have h2 := h.ok.at_
    omega
  · omega
theorem wtS_snoc {l : List Ma} {a b : Rc} {k : Nat} {d : Ma} (h : k < l.length) : wtS (l.take (k + 1)) a b = wtS (l.take k) a b + wtM a b (l.getD k d) := by
  unfold wtS
  rw [List.take_succ_eq_append_getElem h, List.map_append, List.sum_append, getD_ok _ h]
  simp
theorem wtS_bound {a b : Rc} : ∀ {l : List Ma}, -210000 * (l.length : Int) ≤ wtS l a b ∧ wtS l a b ≤ 210000 * (l.length : Int)
  | [] => by simp [wtS]
  | m :: l => by
    have ih := wtS_bound (a := a) (b := b) (l := l)
    have h1 := wtM_bound (a := a) (b := b) (m := m)
    have e : wtS (m :: l) a b = wtM a b m + wtS l a b := rfl
    rw [e, List.length_cons]
    omega

@[reducible] noncomputable def S_match_between : Spec := { ins := (.cons (.d tInt) (.cons (.d tInt) (.cons (.d tInt) .nil))), pre := fun _ => True, alts := [{ outs := (.cons (.d .bool) .nil), res := (fun x => (fun l n h => (boolOf (l ≤ n ∧ n ≤ h), ())) x.1 x.2.1 x.2.2.1) }] }
noncomputable def c_match_between : Cf := (cf_match_between (Fl []))
theorem g_match_between : ∀ x, S_match_between.pre x → shOK S_match_between.ins x → fnGoal c_match_between fn_match_between S_match_between x := by
  rintro ⟨l, n, h, ⟨⟩⟩ hpre hok
  clear hpre
  have hln := shLn_of _ hok; replace hok := Hd.mk hok; try simp only [shLn, datLn, inRng, lo, hi, maxLen, true_and, and_true] at hln
  first | refine fn_goal (w_head ?_)
  intro K_ hK_; (conv => whnf); (try dsimp +instances only); refine hK_ _ ?_; clear hK_ K_; (conv => (arg 2; whnf))
  repeat' (first | with_reducible refine And.intro ?_ ?_ | ((try with_reducible refine gv_more ?_); first | ((with_reducible show K_ _); (try dsimp +instances only); (with_reducible refine hK_ _ ?_); clear hK_ K_) | with_reducible refine st ?_ | ((with_reducible refine sr ?_); intro K_ hK_; conv => whnf) | ((with_reducible refine w_cond ?_); (conv => arg 2; whnf); with_reducible refine st ?_) | refine blockK_y (by rfl) ?_ | ((with_reducible refine sw ?_); conv => whnf)) | ((with_reducible refine gv_more ?_); conv => whnf) | (intro hc; (try dsimp +instances only [Dat, SDat, dflt, Ty.size, keepS, bkUpd, Gv.bk, backS, wayA, maxI, minI, negI] at hc); (try simp only [LS] at hc)))
  all_goals (try ((fail_if_success with_reducible refine nl ?_); (try dsimp only [Dat, SDat, dflt, Ty.size, keepS, bkUpd, Gv.bk, backS, wayA, maxI, minI, negI]); (try simp only [LS]); first | done | exact dsc | ((try simp only [allP, lo, hi, room, true_and, and_true, implies_true]); (repeat' (first | with_reducible refine And.intro ?_ ?_ | ((with_reducible refine preA_t ?_ ?_); rotate_left; exact sameP_t) | intro hv)) <;> (try omega))))
theorem ok_match_between : SpecOK SP glob fi_match_between S_match_between := mk_ok (c := c_match_between) (tab_ok _) mix_ok wf_match_between (by decide) .nil (fun x hx => Nat.zero_lt_one) g_match_between

theorem nand6 {A B C D E F : Prop} : (((((¬ (A ∧ B) ∨ ¬ C) ∨ ¬ D) ∨ ¬ E) ∨ ¬ F)) ↔ ¬ (((((A ∧ B) ∧ C) ∧ D) ∧ E) ∧ F) := by
  by_cases A <;> by_cases B <;> by_cases C <;> by_cases D <;> by_cases E <;> by_cases F <;> simp [*]

@[reducible] noncomputable def S_match_valid_1 : Spec := { ins := (.cons (.d tWgh) .nil), pre := fun _ => True, alts := [{ outs := (.cons (.d .bool) .nil), res := (fun x => (fun t => (decide (¬ WgOK t), ())) x.1) }] }
noncomputable def c_match_valid_1 : Cf := (cf_match_valid_1 (Fl [(fi_ratio_Valid, S_ratio_Valid), (fi_match_between, S_match_between)]))
theorem g_match_valid_1 : ∀ x, S_match_valid_1.pre x → shOK S_match_valid_1.ins x → fnGoal c_match_valid_1 fn_match_valid_1 S_match_valid_1 x := by
  rintro ⟨⟨(c : Int), (me : Int), (to : Int), ⟨(n : Int), (d : Int), ⟨⟩⟩, (gi : Int), (ta : Int), ⟨⟩⟩, ⟨⟩⟩ hpre hok
  clear hpre
  have hln := shLn_of _ hok; replace hok := Hd.mk hok; try simp only [shLn, datLn, inRng, lo, hi, maxLen, true_and, and_true] at hln
  have hv := wgOK_iff (c, me, to, (n, d, ()), gi, ta, ())
  first | refine fn_goal (w_head ?_)
  intro K_ hK_; (conv => whnf); (try dsimp +instances only); refine hK_ _ ?_; clear hK_ K_; (conv => (arg 2; whnf))
  repeat' (first | with_reducible refine And.intro ?_ ?_ | ((try with_reducible refine gv_more ?_); first | ((with_reducible show K_ _); (try dsimp +instances only); (with_reducible refine hK_ _ ?_); clear hK_ K_) | with_reducible refine st ?_ | ((with_reducible refine sr ?_); intro K_ hK_; conv => whnf) | ((with_reducible refine w_cond ?_); (conv => arg 2; whnf); with_reducible refine st ?_) | refine blockK_y (by rfl) ?_ | ((with_reducible refine sw ?_); conv => whnf)) | ((with_reducible refine gv_more ?_); conv => whnf) | (intro hc; (try dsimp +instances only [Dat, SDat, dflt, Ty.size, keepS, bkUpd, Gv.bk, backS, wayA, maxI, minI, negI] at hc); (try simp only [LS] at hc)))
  all_goals (try ((fail_if_success with_reducible refine nl ?_); (try dsimp only [Dat, SDat, dflt, Ty.size, keepS, bkUpd, Gv.bk, backS, wayA, maxI, minI, negI]); (try simp only [LS]); first | done | exact dsc | ((try simp only [allP, lo, hi, room, true_and, and_true, implies_true]); (repeat' (first | with_reducible refine And.intro ?_ ?_ | ((with_reducible refine preA_t ?_ ?_); rotate_left; exact sameP_t) | intro hv)) <;> (try omega))))
  rw [boolOf_eq]
  exact decide_eq_decide.2 (nand6.trans (not_congr hv.symm))
theorem ok_match_valid_1 : SpecOK SP glob fi_match_valid_1 S_match_valid_1 := mk_ok (c := c_match_valid_1) (tab_ok _) mix_ok wf_match_valid_1 (by decide) (.cons ok_ratio_Valid (.cons ok_match_between .nil)) (fun x hx => Nat.zero_lt_one) g_match_valid_1

noncomputable def findI {α : Type} (p : α → Bool) (l : List α) : Int := if l.any p = true then (l.findIdx p : Int) else -1
theorem findI_ge {α : Type} {p : α → Bool} {l : List α} : 0 ≤ findI p l ↔ l.any p = true := by
  unfold findI; split <;> simp_all <;> omega
theorem findI_miss {α : Type} {p : α → Bool} {l : List α} {k : Nat} (h : ∀ x ∈ l.take k, p x = false) (hk : l.length ≤ k) : findI p l = -1 := by
  have := all_end h hk
  unfold findI
  rw [if_neg]
  rw [List.any_eq_true]
  rintro ⟨x, hx, hp⟩
  rw [this x hx] at hp; cases hp
theorem findI_hit {α : Type} {p : α → Bool} {l : List α} {k : Nat} {d : α} (h : ∀ x ∈ l.take k, p x = false) (hk : k < l.length) (hp : p (List.getD l k d) = true) : findI p l = k := by
  have hm := getD_mem (d := d) hk
  unfold findI
  rw [if_pos (List.any_eq_true.2 ⟨_, hm, hp⟩)]
  congr 1
  rw [getD_ok d hk] at hp
  refine (List.findIdx_eq hk).2 ⟨hp, fun j hj => ?_⟩
  refine Bool.eq_false_iff.1 (h _ ?_) |> fun e => by simpa using e
  rw [List.mem_take_iff_getElem]
  exact ⟨j, by omega, rfl⟩

@[reducible] noncomputable def S_idx_wgh_1 : Spec := { ins := (.cons (.d (.sl tWgh)) (.cons (.clos fi_match_valid_1 .nil) .nil)), pre := fun _ => True, alts := [{ outs := (.cons (.d tInt) .nil), res := (fun x => (fun s c => (findI (fun k => (fun (_ : Unit) (t : Wg) => decide (¬ WgOK t)) c k) s, ())) x.1 x.2.1) }] }
noncomputable def c_idx_wgh_1 : Cf := (cf_slices_IndexFunc_sl_api_Weigh_api_Weigh (Fl [(fi_match_valid_1, S_match_valid_1)]))
theorem g_idx_wgh_1 : ∀ x, S_idx_wgh_1.pre x → shOK S_idx_wgh_1.ins x → fnGoal c_idx_wgh_1 fn_slices_IndexFunc_sl_api_Weigh_api_Weigh S_idx_wgh_1 x := by
  rintro ⟨s, ⟨⟩, ⟨⟩⟩ hpre hok
  clear hpre
  have hln := shLn_of _ hok; replace hok := Hd.mk hok; try simp only [shLn, datLn, inRng, lo, hi, maxLen, true_and, and_true] at hln
  first | refine fn_goal (w_head ?_)
  intro K_ hK_; (conv => whnf); (try dsimp +instances only); refine hK_ _ ?_; clear hK_ K_; (conv => (arg 2; whnf))
  repeat' (first | with_reducible refine And.intro ?_ ?_ | ((try with_reducible refine gv_more ?_); first | ((with_reducible show K_ _); (try dsimp +instances only); (with_reducible refine hK_ _ ?_); clear hK_ K_) | with_reducible refine st ?_ | ((with_reducible refine sr ?_); intro K_ hK_; conv => whnf) | ((with_reducible refine w_cond ?_); (conv => arg 2; whnf); with_reducible refine st ?_) | refine blockK_y (by rfl) ?_ | ((with_reducible refine sw ?_); conv => whnf)) | ((with_reducible refine gv_more ?_); conv => whnf) | (intro hc; (try dsimp +instances only [Dat, SDat, dflt, Ty.size, keepS, bkUpd, Gv.bk, backS, wayA, maxI, minI, negI] at hc); (try simp only [LS] at hc)))
  all_goals (try ((fail_if_success with_reducible refine nl ?_); (try dsimp only [Dat, SDat, dflt, Ty.size, keepS, bkUpd, Gv.bk, backS, wayA, maxI, minI, negI]); (try simp only [LS]); first | done | exact dsc | ((try simp only [allP, lo, hi, room, true_and, and_true, implies_true]); (repeat' (first | with_reducible refine And.intro ?_ ?_ | ((with_reducible refine preA_t ?_ ?_); rotate_left; exact sameP_t) | intro hv)) <;> (try omega))))
  refine w_loop [(8, .d tInt)] [] (fun y => ∃ k : Nat, y.1.1 = (k : Int) ∧ k ≤ s.length ∧ ∀ x ∈ s.take k, (fun (_ : Unit) (t : Wg) => decide (¬ WgOK t)) ⟨⟩ x = false) (fun y => s.length - y.1.1.toNat) ?_
  conv => whnf
  refine And.intro ?_ ?_
  · exact ⟨0, by simp⟩
  rintro ⟨⟨_, ⟨⟩⟩, ⟨⟩⟩ ⟨k, rfl, hk, hj⟩
  repeat' (first | with_reducible refine And.intro ?_ ?_ | ((try with_reducible refine gv_more ?_); first | ((with_reducible show K_ _); (try dsimp +instances only); (with_reducible refine hK_ _ ?_); clear hK_ K_) | with_reducible refine st ?_ | ((with_reducible refine sr ?_); intro K_ hK_; conv => whnf) | ((with_reducible refine w_cond ?_); (conv => arg 2; whnf); with_reducible refine st ?_) | refine blockK_y (by rfl) ?_ | ((with_reducible refine sw ?_); conv => whnf)) | ((with_reducible refine gv_more ?_); conv => whnf) | (intro hc; (try dsimp +instances only [Dat, SDat, dflt, Ty.size, keepS, bkUpd, Gv.bk, backS, wayA, maxI, minI, negI] at hc); (try simp only [LS] at hc)))
  all_goals (try ((fail_if_success with_reducible refine nl ?_); (try dsimp only [Dat, SDat, dflt, Ty.size, keepS, bkUpd, Gv.bk, backS, wayA, maxI, minI, negI]); (try simp only [LS]); first | done | exact dsc | ((try simp only [allP, lo, hi, room, true_and, and_true, implies_true]); (repeat' (first | with_reducible refine And.intro ?_ ?_ | ((with_reducible refine preA_t ?_ ?_); rotate_left; exact sameP_t) | intro hv)) <;> (try omega))))
  · exact (findI_hit (d := ((0, 0, 0, (0, 0, ()), 0, 0, ()) : Wg)) hj (by omega) (by first | exact hc | (simpa using hc) | (simp at hc ⊢; grind))).symm
  · refine ⟨k + 1, by omega, by omega, fun x hx => ?_⟩
    have hst := all_step (p := fun x => (fun (_ : Unit) (t : Wg) => decide (¬ WgOK t)) ⟨⟩ x = false) (d := ((0, 0, 0, (0, 0, ()), 0, 0, ()) : Wg)) hj (by omega) (by first | exact hc | (simpa using hc) | (simp at hc ⊢; grind)) x hx
    first | exact hst | simpa using hst | (simp at hst ⊢; grind)
  · exact (findI_miss hj (by omega)).symm
theorem ok_idx_wgh_1 : SpecOK SP glob fi_slices_IndexFunc_sl_api_Weigh_api_Weigh S_idx_wgh_1 := mk_ok (c := c_idx_wgh_1) (tab_ok _) mix_ok wf_slices_IndexFunc_sl_api_Weigh_api_Weigh (by decide) (.cons ok_match_valid_1 .nil) (fun x hx => Nat.zero_lt_one) g_idx_wgh_1
@[reducible] noncomputable def S_con_wgh_1 : Spec := { ins := (.cons (.d (.sl tWgh)) (.cons (.clos fi_match_valid_1 .nil) .nil)), pre := fun _ => True, alts := [{ outs := (.cons (.d .bool) .nil), res := (fun x => (fun s c => (s.any (fun k => (fun (_ : Unit) (t : Wg) => decide (¬ WgOK t)) c k), ())) x.1 x.2.1) }] }
noncomputable def c_con_wgh_1 : Cf := (cf_slices_ContainsFunc_sl_api_Weigh_api_Weigh (Fl [(fi_slices_IndexFunc_sl_api_Weigh_api_Weigh, S_idx_wgh_1)]))
theorem g_con_wgh_1 : ∀ x, S_con_wgh_1.pre x → shOK S_con_wgh_1.ins x → fnGoal c_con_wgh_1 fn_slices_ContainsFunc_sl_api_Weigh_api_Weigh S_con_wgh_1 x := by
  rintro ⟨s, ⟨⟩, ⟨⟩⟩ hpre hok
  clear hpre
  have hln := shLn_of _ hok; replace hok := Hd.mk hok; try simp only [shLn, datLn, inRng, lo, hi, maxLen, true_and, and_true] at hln
  first | refine fn_goal (w_head ?_)
  intro K_ hK_; (conv => whnf); (try dsimp +instances only); refine hK_ _ ?_; clear hK_ K_; (conv => (arg 2; whnf))
  repeat' (first | with_reducible refine And.intro ?_ ?_ | ((try with_reducible refine gv_more ?_); first | ((with_reducible show K_ _); (try dsimp +instances only); (with_reducible refine hK_ _ ?_); clear hK_ K_) | with_reducible refine st ?_ | ((with_reducible refine sr ?_); intro K_ hK_; conv => whnf) | ((with_reducible refine w_cond ?_); (conv => arg 2; whnf); with_reducible refine st ?_) | refine blockK_y (by rfl) ?_ | ((with_reducible refine sw ?_); conv => whnf)) | ((with_reducible refine gv_more ?_); conv => whnf) | (intro hc; (try dsimp +instances only [Dat, SDat, dflt, Ty.size, keepS, bkUpd, Gv.bk, backS, wayA, maxI, minI, negI] at hc); (try simp only [LS] at hc)))
  all_goals (try ((fail_if_success with_reducible refine nl ?_); (try dsimp only [Dat, SDat, dflt, Ty.size, keepS, bkUpd, Gv.bk, backS, wayA, maxI, minI, negI]); (try simp only [LS]); first | done | exact dsc | ((try simp only [allP, lo, hi, room, true_and, and_true, implies_true]); (repeat' (first | with_reducible refine And.intro ?_ ?_ | ((with_reducible refine preA_t ?_ ?_); rotate_left; exact sameP_t) | intro hv)) <;> (try omega))))
  · rw [boolOf_eq, Bool.eq_iff_iff, decide_eq_true_eq]; exact findI_ge
theorem ok_con_wgh_1 : SpecOK SP glob fi_slices_ContainsFunc_sl_api_Weigh_api_Weigh S_con_wgh_1 := mk_ok (c := c_con_wgh_1) (tab_ok _) mix_ok wf_slices_ContainsFunc_sl_api_Weigh_api_Weigh (by decide) (.cons ok_idx_wgh_1 .nil) (fun x hx => Nat.zero_lt_one) g_con_wgh_1

@[reducible] noncomputable def S_match_valid : Spec := { ins := (.cons (.d tMat) .nil), pre := fun _ => True, alts := [{ outs := (.cons (.d .bool) .nil), res := (fun x => (fun m => (boolOf (MOK m), ())) x.1) }] }
noncomputable def c_match_valid : Cf := (cf_match_valid (Fl [(fi_match_between, S_match_between), (fi_slices_ContainsFunc_sl_api_Weigh_api_Weigh, S_con_wgh_1)]))
theorem g_match_valid : ∀ x, S_match_valid.pre x → shOK S_match_valid.ins x → fnGoal c_match_valid fn_match_valid S_match_valid x := by
  rintro ⟨⟨nm, (tb : Int), (at_ : Int), l, ⟨⟩⟩, ⟨⟩⟩ hpre hok
  clear hpre
  have hln := shLn_of _ hok; replace hok := Hd.mk hok; try simp only [shLn, datLn, inRng, lo, hi, maxLen, true_and, and_true] at hln
  first | refine fn_goal (w_head ?_)
  intro K_ hK_; (conv => whnf); (try dsimp +instances only); refine hK_ _ ?_; clear hK_ K_; (conv => (arg 2; whnf))
  repeat' (first | with_reducible refine And.intro ?_ ?_ | ((try with_reducible refine gv_more ?_); first | ((with_reducible show K_ _); (try dsimp +instances only); (with_reducible refine hK_ _ ?_); clear hK_ K_) | with_reducible refine st ?_ | ((with_reducible refine sr ?_); intro K_ hK_; conv => whnf) | ((with_reducible refine w_cond ?_); (conv => arg 2; whnf); with_reducible refine st ?_) | refine blockK_y (by rfl) ?_ | ((with_reducible refine sw ?_); conv => whnf)) | ((with_reducible refine gv_more ?_); conv => whnf) | (intro hc; (try dsimp +instances only [Dat, SDat, dflt, Ty.size, keepS, bkUpd, Gv.bk, backS, wayA, maxI, minI, negI] at hc); (try simp only [LS] at hc)))
  all_goals (try ((fail_if_success with_reducible refine nl ?_); (try dsimp only [Dat, SDat, dflt, Ty.size, keepS, bkUpd, Gv.bk, backS, wayA, maxI, minI, negI]); (try simp only [LS]); first | done | exact dsc | ((try simp only [allP, lo, hi, room, true_and, and_true, implies_true]); (repeat' (first | with_reducible refine And.intro ?_ ?_ | ((with_reducible refine preA_t ?_ ?_); rotate_left; exact sameP_t) | intro hv)) <;> (try omega))))
  · exact bF fun h => hc.elim (fun k => k h.at_) fun k => by
      have h2 : l.length ≤ 200 := h.few
      omega
  · refine bC ⟨fun h => ⟨by show 0 ≤ at_ ∧ at_ ≤ 10000; omega, by show l.length ≤ 200; omega, fun t ht => ?_⟩, fun h => List.any_eq_false.2 fun t ht => ?_⟩
    · have := List.any_eq_false.1 h t ht
      simpa using this
    · have := h.all t ht
      simpa using this
theorem ok_match_valid : SpecOK SP glob fi_match_valid S_match_valid := mk_ok (c := c_match_valid) (tab_ok _) mix_ok wf_match_valid (by decide) (.cons ok_match_between (.cons ok_con_wgh_1 .nil)) (fun x hx => Nat.zero_lt_one) g_match_valid

@[reducible] noncomputable def S_match_about : Spec := { ins := (.cons (.d tMat) (.cons (.d tRec) (.cons (.d tRec) .nil))), pre := fun _ => True, alts := [{ outs := (.cons (.d .bool) .nil), res := (fun x => (fun m a b => (boolOf (AbM m a b), ())) x.1 x.2.1 x.2.2.1) }] }
noncomputable def c_match_about : Cf := (cf_match_about (Fl [(fi_match_valid, S_match_valid)]))
theorem g_match_about : ∀ x, S_match_about.pre x → shOK S_match_about.ins x → fnGoal c_match_about fn_match_about S_match_about x := by
  rintro ⟨m, a, b, ⟨⟩⟩ hpre hok
  clear hpre
  have hln := shLn_of _ hok; replace hok := Hd.mk hok; try simp only [shLn, datLn, inRng, lo, hi, maxLen, true_and, and_true] at hln
  first | refine fn_goal (w_head ?_)
  intro K_ hK_; (conv => whnf); (try dsimp +instances only); refine hK_ _ ?_; clear hK_ K_; (conv => (arg 2; whnf))
  repeat' (first | with_reducible refine And.intro ?_ ?_ | ((try with_reducible refine gv_more ?_); first | ((with_reducible show K_ _); (try dsimp +instances only); (with_reducible refine hK_ _ ?_); clear hK_ K_) | with_reducible refine st ?_ | ((with_reducible refine sr ?_); intro K_ hK_; conv => whnf) | ((with_reducible refine w_cond ?_); (conv => arg 2; whnf); with_reducible refine st ?_) | refine blockK_y (by rfl) ?_ | ((with_reducible refine sw ?_); conv => whnf)) | ((with_reducible refine gv_more ?_); conv => whnf) | (intro hc; (try dsimp +instances only [Dat, SDat, dflt, Ty.size, keepS, bkUpd, Gv.bk, backS, wayA, maxI, minI, negI] at hc); (try simp only [LS] at hc)))
  all_goals (try ((fail_if_success with_reducible refine nl ?_); (try dsimp only [Dat, SDat, dflt, Ty.size, keepS, bkUpd, Gv.bk, backS, wayA, maxI, minI, negI]); (try simp only [LS]); first | done | exact dsc | ((try simp only [allP, lo, hi, room, true_and, and_true, implies_true]); (repeat' (first | with_reducible refine And.intro ?_ ?_ | ((with_reducible refine preA_t ?_ ?_); rotate_left; exact sameP_t) | intro hv)) <;> (try omega))))
  exact bC ⟨fun ⟨⟨h1, h2⟩, h3⟩ => ⟨h1, h2, h3⟩, fun h => ⟨⟨h.ta, h.tb⟩, h.ok⟩⟩
theorem ok_match_about : SpecOK SP glob fi_match_about S_match_about := mk_ok (c := c_match_about) (tab_ok _) mix_ok wf_match_about (by decide) (.cons ok_match_valid .nil) (fun x hx => Nat.zero_lt_one) g_match_about

@[reducible] noncomputable def S_match_holds : Spec := { ins := (.cons (.d tWgh) (.cons (.d tRec) (.cons (.d tRec) .nil))), pre := fun _ => True, alts := [{ outs := (.cons (.d .bool) .nil), res := (fun x => (fun t a b => (decide (HoW t a b), ())) x.1 x.2.1 x.2.2.1) }], noisy := true }
noncomputable def c_match_holds : Cf := { cf_match_holds (Fl [(fi_match_between, S_match_between), (fi_measure_Of, S_measure_Of), (fi_ratio_Cmp, S_ratio_Cmp)]) with nz := true }
theorem g_match_holds : ∀ x, S_match_holds.pre x → shOK S_match_holds.ins x → fnGoal c_match_holds fn_match_holds S_match_holds x := by
  rintro ⟨t, a, b, ⟨⟩⟩ hpre hok
  clear hpre
  have hln := shLn_of _ hok; replace hok := Hd.mk hok; try simp only [shLn, datLn, inRng, lo, hi, maxLen, true_and, and_true] at hln
  first | refine fn_goal (w_head ?_)
  intro K_ hK_; (conv => whnf); (try dsimp +instances only); refine hK_ _ ?_; clear hK_ K_; (conv => (arg 2; whnf))
  repeat' (first | with_reducible refine And.intro ?_ ?_ | ((try with_reducible refine gv_more ?_); first | ((with_reducible show K_ _); (try dsimp +instances only); (with_reducible refine hK_ _ ?_); clear hK_ K_) | with_reducible refine st ?_ | ((with_reducible refine sr ?_); intro K_ hK_; conv => whnf) | ((with_reducible refine w_cond ?_); (conv => arg 2; whnf); with_reducible refine st ?_) | refine blockK_y (by rfl) ?_ | ((with_reducible refine sw ?_); conv => whnf)) | ((with_reducible refine gv_more ?_); conv => whnf) | (intro hc; (try dsimp +instances only [Dat, SDat, dflt, Ty.size, keepS, bkUpd, Gv.bk, backS, wayA, maxI, minI, negI] at hc); (try simp only [LS] at hc)))
  all_goals (try ((fail_if_success with_reducible refine nl ?_); (try dsimp only [Dat, SDat, dflt, Ty.size, keepS, bkUpd, Gv.bk, backS, wayA, maxI, minI, negI]); (try simp only [LS]); first | done | exact dsc | ((try simp only [allP, lo, hi, room, true_and, and_true, implies_true]); (repeat' (first | with_reducible refine And.intro ?_ ?_ | ((with_reducible refine preA_t ?_ ?_); rotate_left; exact sameP_t) | intro hv)) <;> (try omega))))
  · exact (decide_eq_false fun h => hc ⟨h.lo, by have h1 := h.ha; have h2 := h.hb; omega⟩).symm
  · rw [boolOf_eq]
    exact decide_eq_decide.2 ⟨fun h => ⟨hc.1, by omega, by omega, h.1, h.2⟩, fun h => ⟨h.ok, h.ge⟩⟩
theorem ok_match_holds : SpecOK SP glob fi_match_holds S_match_holds := mk_ok (c := c_match_holds) (tab_ok _) mix_ok wf_match_holds (by decide) (.cons ok_match_between (.cons ok_measure_Of (.cons ok_ratio_Cmp .nil))) (fun x hx => Nat.zero_lt_one) g_match_holds

@[reducible] noncomputable def S_match_contributions : Spec := { ins := (.cons (.d tMat) (.cons (.d tRec) (.cons (.d tRec) .nil))), pre := fun _ => True, alts := [{ outs := (.cons (.clos fi_match_contributions_1 (.cons (.d (.pt tMat)) (.cons (.d (.pt tRec)) (.cons (.d (.pt tRec)) .nil)))) .nil), res := (fun x => (fun m a b => ((some m, some a, some b, ()), ())) x.1 x.2.1 x.2.2.1) }] }
noncomputable def c_match_contributions : Cf := (cf_match_contributions (Fl []))
theorem g_match_contributions : ∀ x, S_match_contributions.pre x → shOK S_match_contributions.ins x → fnGoal c_match_contributions fn_match_contributions S_match_contributions x := by
  rintro ⟨m, a, b, ⟨⟩⟩ hpre hok
  clear hpre
  have hln := shLn_of _ hok; replace hok := Hd.mk hok; try simp only [shLn, datLn, inRng, lo, hi, maxLen, true_and, and_true] at hln
  first | refine fn_goal (w_head ?_)
  intro K_ hK_; (conv => whnf); (try dsimp +instances only); refine hK_ _ ?_; clear hK_ K_; (conv => (arg 2; whnf))
  repeat' (first | with_reducible refine And.intro ?_ ?_ | ((try with_reducible refine gv_more ?_); first | ((with_reducible show K_ _); (try dsimp +instances only); (with_reducible refine hK_ _ ?_); clear hK_ K_) | with_reducible refine st ?_ | ((with_reducible refine sr ?_); intro K_ hK_; conv => whnf) | ((with_reducible refine w_cond ?_); (conv => arg 2; whnf); with_reducible refine st ?_) | refine blockK_y (by rfl) ?_ | ((with_reducible refine sw ?_); conv => whnf)) | ((with_reducible refine gv_more ?_); conv => whnf) | (intro hc; (try dsimp +instances only [Dat, SDat, dflt, Ty.size, keepS, bkUpd, Gv.bk, backS, wayA, maxI, minI, negI] at hc); (try simp only [LS] at hc)))
  all_goals (try ((fail_if_success with_reducible refine nl ?_); (try dsimp only [Dat, SDat, dflt, Ty.size, keepS, bkUpd, Gv.bk, backS, wayA, maxI, minI, negI]); (try simp only [LS]); first | done | exact dsc | ((try simp only [allP, lo, hi, room, true_and, and_true, implies_true]); (repeat' (first | with_reducible refine And.intro ?_ ?_ | ((with_reducible refine preA_t ?_ ?_); rotate_left; exact sameP_t) | intro hv)) <;> (try omega))))
theorem ok_match_contributions : SpecOK SP glob fi_match_contributions S_match_contributions := mk_ok (c := c_match_contributions) (tab_ok _) mix_ok wf_match_contributions (by decide) .nil (fun x hx => Nat.zero_lt_one) g_match_contributions

@[reducible] noncomputable def S_match_contributions_1 : ItSpec := { ts := [.bool, tInt], caps := (.cons (.d (.pt tMat)) (.cons (.d (.pt tRec)) (.cons (.d (.pt tRec)) .nil))), pre := (fun x => (fun m a b => ∃ M A B, m = some M ∧ a = some A ∧ b = some B ∧ MOK M) x.1 x.2.1 x.2.2.1), seq := (fun x => (fun m a b => match m, a, b with | some M, some A, some B => M.2.2.2.1.map (coW A B) | _, _, _ => []) x.1 x.2.1 x.2.2.1), noisy := true }
noncomputable def c_match_contributions_1 : Cf := { cf_match_contributions_1 (Fl [(fi_match_holds, S_match_holds)]) with nz := true, eat := Eats SP }
theorem g_match_contributions_1 : ∀ x : SDat (.cons (.ob (.log S_match_contributions_1.ts)) S_match_contributions_1.caps), S_match_contributions_1.pre x.2 → x.1.1 = S_match_contributions_1.seq x.2 → c_match_contributions_1.eat S_match_contributions_1.ts x.1.2.2 x.1.1 x.1.2.1 → shOK (.cons (.ob (.log S_match_contributions_1.ts)) S_match_contributions_1.caps) x → fnGoalI c_match_contributions_1 fn_match_contributions_1 S_match_contributions_1 x := by
  rintro ⟨⟨ys, E, D⟩, m, a, b, ⟨⟩⟩ hpre hys heat hok
  try dsimp only [Dat, SDat, dflt, Ty.size, keepS, bkUpd, Gv.bk, backS, wayA, maxI, minI, negI] at hpre
  dsimp only at hys heat
  have hln := shLn_of _ hok; replace hok := Hd.mk hok; try simp only [shLn, datLn, inRng, lo, hi, maxLen, true_and, and_true] at hln
  obtain ⟨M, A, B, rfl, rfl, rfl, hM⟩ := hpre
  first | refine fn_goal (w_head ?_) | refine fnL_goal (w_head ?_) | refine fnI_goal (w_head ?_)
  intro K_ hK_; (conv => whnf); (try dsimp +instances only); refine hK_ _ ?_; clear hK_ K_; (conv => (arg 2; whnf))
  repeat' (first | with_reducible refine And.intro ?_ ?_ | ((try with_reducible refine gv_more ?_); first | ((with_reducible show K_ _); (try dsimp +instances only); (with_reducible refine hK_ _ ?_); clear hK_ K_) | with_reducible refine st ?_ | ((with_reducible refine sr ?_); intro K_ hK_; conv => whnf) | ((with_reducible refine w_cond ?_); (conv => arg 2; whnf); with_reducible refine st ?_) | refine blockK_y (by rfl) ?_ | ((with_reducible refine sw ?_); conv => whnf)) | ((with_reducible refine gv_more ?_); conv => whnf) | (intro hc; (try dsimp +instances only [Dat, SDat, dflt, Ty.size, keepS, bkUpd, Gv.bk, backS, wayA, maxI, minI, negI] at hc); (try simp only [LS] at hc)))
  all_goals (try ((fail_if_success with_reducible refine nl ?_); (try dsimp only [Dat, SDat, dflt, Ty.size, keepS, bkUpd, Gv.bk, backS, wayA, maxI, minI, negI]); (try simp only [LS]); first | done | exact dsc | ((try simp only [allP, lo, hi, room, true_and, and_true, implies_true]); (repeat' (first | with_reducible refine And.intro ?_ ?_ | ((with_reducible refine preA_t ?_ ?_); rotate_left; exact sameP_t) | intro hv)) <;> (try omega))))
  refine w_loop [(12, .d tInt), (0, .ob (.log [.bool, tInt]))] [] (fun y => ∃ k : Nat, y.1.1 = (k : Int) ∧ k ≤ M.2.2.2.1.length ∧ y.1.2.1.2.2 = D ∧ y.1.2.1.1 = (M.2.2.2.1.drop k).map (coW A B) ∧ Eats SP [.bool, tInt] D y.1.2.1.1 y.1.2.1.2.1) (fun y => (M.2.2.2.1.length - y.1.1).toNat) ?_
  conv => whnf
  refine And.intro ?_ ?_
  · exact ⟨0, rfl, Nat.zero_le _, rfl, by simpa using hys, heat⟩
  rintro ⟨⟨_, ⟨ys', E', D'⟩, ⟨⟩⟩, ⟨⟩⟩ ⟨k, rfl, hk, hD, hy, he⟩
  dsimp only at hD hy he
  subst hD
  have hd : (k : Int) < (M.2.2.2.1.length : Int) → M.2.2.2.1.drop k = M.2.2.2.1.getD k ((0, 0, 0, (0, 0, ()), 0, 0, ()) : Wg) :: M.2.2.2.1.drop (k + 1) := fun h => by
    have h' : k < M.2.2.2.1.length := by omega
    rw [List.drop_eq_getElem_cons h', getD_ok _ h']
  have hw : (k : Int) < (M.2.2.2.1.length : Int) → WgOK (M.2.2.2.1.getD k ((0, 0, 0, (0, 0, ()), 0, 0, ()) : Wg)) := fun h => hM.all _ (getD_mem (by omega))
  have e1 := fun (h : HoW (M.2.2.2.1.getD k ((0, 0, 0, (0, 0, ()), 0, 0, ()) : Wg)) A B) => co_pos h
  have e0 := fun (h : ¬ HoW (M.2.2.2.1.getD k ((0, 0, 0, (0, 0, ()), 0, 0, ()) : Wg)) A B) => co_neg h
  have h200 := hM.few
  repeat' (first | with_reducible refine And.intro ?_ ?_ | ((try with_reducible refine gv_more ?_); first | ((with_reducible show K_ _); (try dsimp +instances only); (with_reducible refine hK_ _ ?_); clear hK_ K_) | with_reducible refine st ?_ | ((with_reducible refine sr ?_); intro K_ hK_; conv => whnf) | ((with_reducible refine w_cond ?_); (conv => arg 2; whnf); with_reducible refine st ?_) | refine blockK_y (by rfl) ?_ | ((with_reducible refine sw ?_); conv => whnf)) | ((with_reducible refine gv_more ?_); conv => whnf) | (intro hc; (try dsimp +instances only [Dat, SDat, dflt, Ty.size, keepS, bkUpd, Gv.bk, backS, wayA, maxI, minI, negI] at hc); (try simp only [LS] at hc)))
  all_goals (try ((fail_if_success with_reducible refine nl ?_); (try dsimp only [Dat, SDat, dflt, Ty.size, keepS, bkUpd, Gv.bk, backS, wayA, maxI, minI, negI]); (try simp only [LS]); first | done | exact dsc | ((try simp only [allP, lo, hi, room, true_and, and_true, implies_true]); (repeat' (first | with_reducible refine And.intro ?_ ?_ | ((with_reducible refine preA_t ?_ ?_); rotate_left; exact sameP_t) | intro hv)) <;> (try omega))))
  all_goals (try (have h9 := (hw (by assumption)).tak; omega))
  · rw [hy, hd (by assumption)]; exact congrArg some (e1 hc)
  · exact he
  · refine w_it 1 _ _ (by rfl) ?_
    rename_i q hq
    rw [hc] at hq ⊢
    exact ⟨rfl, hq⟩
  · rename_i q hq
    have hc' : q.1 = true := (Bool.eq_false_or_eq_true q.1).resolve_right hc
    rw [if_pos hc'] at hq ⊢
    exact ⟨k + 1, by omega, by omega, by rw [hy, hd (by assumption)]; rfl, hq⟩
  · rw [hy, hd (by assumption)]; exact congrArg some (e0 hc)
  · exact he
  · refine w_it 1 _ _ (by rfl) ?_
    rename_i q hq
    rw [hc] at hq ⊢
    exact ⟨rfl, hq⟩
  · rename_i q hq
    have hc' : q.1 = true := (Bool.eq_false_or_eq_true q.1).resolve_right hc
    rw [if_pos hc'] at hq ⊢
    exact ⟨k + 1, by omega, by omega, by rw [hy, hd (by assumption)]; rfl, hq⟩
  · refine w_it 1 _ _ (by rfl) ?_
    have hy0 : ys' = [] := by rw [hy, List.drop_of_length_le (by omega)]; rfl
    subst hy0
    exact ⟨rfl, he⟩
theorem ok_match_contributions_1 : ItOK SP glob fi_match_contributions_1 S_match_contributions_1 := mk_it (c := c_match_contributions_1) (tab_ok _) mix_ok wf_match_contributions_1 (by decide) (.cons ok_match_holds .nil) (LateOK.of rfl .nil .nil) rfl rfl g_match_contributions_1

@[reducible] noncomputable def S_match_Score : Spec := { ins := (.cons (.d tMat) (.cons (.d tRec) (.cons (.d tRec) .nil))), pre := fun _ => True, alts := [{ outs := (.cons (.d tInt) (.cons (.d (.sl .bool)) .nil)), res := (fun x => (fun m a b => (scS m a b, scL m a b, ())) x.1 x.2.1 x.2.2.1) }], noisy := true }
noncomputable def c_match_Score : Cf := { cf_match_Score (Fl [(fi_match_about, S_match_about), (fi_match_contributions, S_match_contributions)]) with nz := true, eat := Eats SP, I := Il [(fi_match_contributions_1, S_match_contributions_1)] }
theorem g_match_Score : ∀ x, S_match_Score.pre x → shOK S_match_Score.ins x → fnGoal c_match_Score fn_match_Score S_match_Score x := by
  rintro ⟨m, a, b, ⟨⟩⟩ hpre hok
  clear hpre
  have hln := shLn_of _ hok; replace hok := Hd.mk hok; try simp only [shLn, datLn, inRng, lo, hi, maxLen, true_and, and_true] at hln
  first | refine fn_goal (w_head ?_) | refine fnL_goal (w_head ?_) | refine fnI_goal (w_head ?_)
  intro K_ hK_; (conv => whnf); (try dsimp +instances only); refine hK_ _ ?_; clear hK_ K_; (conv => (arg 2; whnf))
  repeat' (first | with_reducible refine And.intro ?_ ?_ | ((try with_reducible refine gv_more ?_); first | ((with_reducible show K_ _); (try dsimp +instances only); (with_reducible refine hK_ _ ?_); clear hK_ K_) | with_reducible refine st ?_ | ((with_reducible refine sr ?_); intro K_ hK_; conv => whnf) | ((with_reducible refine w_cond ?_); (conv => arg 2; whnf); with_reducible refine st ?_) | refine blockK_y (by rfl) ?_ | ((with_reducible refine sw ?_); conv => whnf)) | ((with_reducible refine gv_more ?_); conv => whnf) | (intro hc; (try dsimp +instances only [Dat, SDat, dflt, Ty.size, keepS, bkUpd, Gv.bk, backS, wayA, maxI, minI, negI] at hc); (try simp only [LS] at hc)))
  all_goals (try ((fail_if_success with_reducible refine nl ?_); (try dsimp only [Dat, SDat, dflt, Ty.size, keepS, bkUpd, Gv.bk, backS, wayA, maxI, minI, negI]); (try simp only [LS]); first | done | exact dsc | ((try simp only [allP, lo, hi, room, true_and, and_true, implies_true]); (repeat' (first | with_reducible refine And.intro ?_ ?_ | ((with_reducible refine preA_t ?_ ?_); rotate_left; exact sameP_t) | intro hv)) <;> (try omega))))
  · unfold scS; rw [if_neg hc]
  · unfold scL; rw [if_neg hc]
  refine w_rf S_match_contributions_1 [(0, .cons (.d tInt) .nil), (1, .cons (.row .bool) .nil)] (fun l y => ∃ k : Nat, k ≤ m.2.2.2.1.length ∧ l = (m.2.2.2.1.drop k).map (coW a b) ∧ y.1.1 = coS a b (m.2.2.2.1.take k) ∧ (y.2.1.1 : List Bool) = coL a b (m.2.2.2.1.take k)) (by rfl) (by rfl) (by rfl) (by rfl) (by rfl) (by rfl) (by rfl) ?_ ?_
  rotate_left
  conv => whnf
  refine And.intro ?_ (And.intro ?_ ?_)
  · exact ⟨0, Nat.zero_le _, rfl, rfl, rfl⟩
  · rintro ⟨is, (n : Int), ⟨⟩⟩ r ⟨⟨(su : Int), ⟨⟩⟩, ⟨row, ⟨⟩⟩, ⟨⟩⟩ ⟨k, hk, hl, hs, hr⟩
    dsimp only at hs hr
    have hk2 : k < m.2.2.2.1.length := Nat.lt_of_not_le fun h => by
      rw [List.drop_of_length_le h] at hl; cases hl
    rw [List.drop_eq_getElem_cons hk2, List.map_cons, ← getD_ok ((0, 0, 0, (0, 0, ()), 0, 0, ()) : Wg) hk2] at hl
    obtain ⟨e1, e2⟩ := List.cons.inj hl
    have en : n = (coW a b (m.2.2.2.1.getD k ((0, 0, 0, (0, 0, ()), 0, 0, ()) : Wg))).2.1 := congrArg (fun p : Bool × Int × Unit => p.2.1) e1
    have ei : is = (coW a b (m.2.2.2.1.getD k ((0, 0, 0, (0, 0, ()), 0, 0, ()) : Wg))).1 := congrArg (fun p : Bool × Int × Unit => p.1) e1
    have b1 := coS_bound (a := a) (b := b) (l := m.2.2.2.1.take k) fun t ht => hc.ok.all t (List.mem_of_mem_take ht)
    have b2 := co_bound (a := a) (b := b) (hc.ok.all _ (getD_mem (d := ((0, 0, 0, (0, 0, ()), 0, 0, ()) : Wg)) hk2))
    have b3 := hc.ok.few
    rw [List.length_take, ← hs] at b1
    rw [← en] at b2
    have q1 := coS_snoc (a := a) (b := b) (d := ((0, 0, 0, (0, 0, ()), 0, 0, ()) : Wg)) hk2
    have q2 := coL_snoc (a := a) (b := b) (d := ((0, 0, 0, (0, 0, ()), 0, 0, ()) : Wg)) hk2
    rw [← hs, ← en] at q1
    rw [← hr, ← ei] at q2
    have hrl : List.length (row : List Bool) ≤ 200 := by
      have : row = coL a b (m.2.2.2.1.take k) := hr
      rw [this]
      unfold coL
      rw [List.length_map, List.length_take]
      omega
    repeat' (first | with_reducible refine And.intro ?_ ?_ | ((try with_reducible refine gv_more ?_); first | ((with_reducible show K_ _); (try dsimp +instances only); (with_reducible refine hK_ _ ?_); clear hK_ K_) | with_reducible refine st ?_ | ((with_reducible refine sr ?_); intro K_ hK_; conv => whnf) | ((with_reducible refine w_cond ?_); (conv => arg 2; whnf); with_reducible refine st ?_) | refine blockK_y (by rfl) ?_ | ((with_reducible refine sw ?_); conv => whnf)) | ((with_reducible refine gv_more ?_); conv => whnf) | (intro hc; (try dsimp +instances only [Dat, SDat, dflt, Ty.size, keepS, bkUpd, Gv.bk, backS, wayA, maxI, minI, negI] at hc); (try simp only [LS] at hc)))
    all_goals (try ((fail_if_success with_reducible refine nl ?_); (try dsimp only [Dat, SDat, dflt, Ty.size, keepS, bkUpd, Gv.bk, backS, wayA, maxI, minI, negI]); (try simp only [LS]); first | done | exact dsc | ((try simp only [allP, lo, hi, room, true_and, and_true, implies_true]); (repeat' (first | with_reducible refine And.intro ?_ ?_ | ((with_reducible refine preA_t ?_ ?_); rotate_left; exact sameP_t) | intro hv)) <;> (try omega))))
    all_goals (first | exact ⟨k + 1, by omega, e2, q1.symm, q2.symm⟩ | skip)
  · rintro ⟨⟨(su : Int), ⟨⟩⟩, ⟨row, ⟨⟩⟩, ⟨⟩⟩ ⟨k, hk, hl, hs, hr⟩
    dsimp only at hs hr
    have hk2 : m.2.2.2.1.length ≤ k := by
      have := congrArg List.length hl
      rw [List.length_map, List.length_drop, List.length_nil] at this
      omega
    rw [List.take_of_length_le hk2] at hs hr
    have r1 : su = scS m a b := by unfold scS; rw [if_pos hc]; exact hs
    have r2 : row = scL m a b := by unfold scL; rw [if_pos hc]; exact hr
    repeat' (first | with_reducible refine And.intro ?_ ?_ | ((try with_reducible refine gv_more ?_); first | ((with_reducible show K_ _); (try dsimp +instances only); (with_reducible refine hK_ _ ?_); clear hK_ K_) | with_reducible refine st ?_ | ((with_reducible refine sr ?_); intro K_ hK_; conv => whnf) | ((with_reducible refine w_cond ?_); (conv => arg 2; whnf); with_reducible refine st ?_) | refine blockK_y (by rfl) ?_ | ((with_reducible refine sw ?_); conv => whnf)) | ((with_reducible refine gv_more ?_); conv => whnf) | (intro hc; (try dsimp +instances only [Dat, SDat, dflt, Ty.size, keepS, bkUpd, Gv.bk, backS, wayA, maxI, minI, negI] at hc); (try simp only [LS] at hc)))
    all_goals (try ((fail_if_success with_reducible refine nl ?_); (try dsimp only [Dat, SDat, dflt, Ty.size, keepS, bkUpd, Gv.bk, backS, wayA, maxI, minI, negI]); (try simp only [LS]); first | done | exact dsc | ((try simp only [allP, lo, hi, room, true_and, and_true, implies_true]); (repeat' (first | with_reducible refine And.intro ?_ ?_ | ((with_reducible refine preA_t ?_ ?_); rotate_left; exact sameP_t) | intro hv)) <;> (try omega))))
    all_goals (first | exact r1 | exact r2 | skip)
  · exact ⟨m, a, b, rfl, rfl, rfl, hc.ok⟩
theorem ok_match_Score : SpecOK SP glob fi_match_Score S_match_Score := mk_ok (c := c_match_Score) (tab_ok _) mix_ok wf_match_Score (by decide) (.cons ok_match_about (.cons ok_match_contributions .nil)) (fun x hx => Nat.zero_lt_one) g_match_Score (hL := (LateOK.of rfl .nil (.cons ok_match_contributions_1 .nil)))

@[reducible] noncomputable def S_match_Weight : Spec := { ins := (.cons (.d (.sl tMat)) (.cons (.d tRec) (.cons (.d tRec) .nil))), pre := (fun x => (fun l a b => l.length ≤ 1000000) x.1 x.2.1 x.2.2.1), alts := [{ outs := (.cons (.d tInt) .nil), res := (fun x => (fun l a b => (wtS l a b, ())) x.1 x.2.1 x.2.2.1) }], noisy := true }
noncomputable def c_match_Weight : Cf := { cf_match_Weight (Fl [(fi_match_about, S_match_about), (fi_match_Score, S_match_Score)]) with nz := true }
theorem g_match_Weight : ∀ x, S_match_Weight.pre x → shOK S_match_Weight.ins x → fnGoal c_match_Weight fn_match_Weight S_match_Weight x := by
  rintro ⟨l, a, b, ⟨⟩⟩ hpre hok
  try dsimp only [Dat, SDat, dflt, Ty.size, keepS, bkUpd, Gv.bk, backS, wayA, maxI, minI, negI] at hpre
  have hln := shLn_of _ hok; replace hok := Hd.mk hok; try simp only [shLn, datLn, inRng, lo, hi, maxLen, true_and, and_true] at hln
  first | refine fn_goal (w_head ?_)
  intro K_ hK_; (conv => whnf); (try dsimp +instances only); refine hK_ _ ?_; clear hK_ K_; (conv => (arg 2; whnf))
  repeat' (first | with_reducible refine And.intro ?_ ?_ | ((try with_reducible refine gv_more ?_); first | ((with_reducible show K_ _); (try dsimp +instances only); (with_reducible refine hK_ _ ?_); clear hK_ K_) | with_reducible refine st ?_ | ((with_reducible refine sr ?_); intro K_ hK_; conv => whnf) | ((with_reducible refine w_cond ?_); (conv => arg 2; whnf); with_reducible refine st ?_) | refine blockK_y (by rfl) ?_ | ((with_reducible refine sw ?_); conv => whnf)) | ((with_reducible refine gv_more ?_); conv => whnf) | (intro hc; (try dsimp +instances only [Dat, SDat, dflt, Ty.size, keepS, bkUpd, Gv.bk, backS, wayA, maxI, minI, negI] at hc); (try simp only [LS] at hc)))
  all_goals (try ((fail_if_success with_reducible refine nl ?_); (try dsimp only [Dat, SDat, dflt, Ty.size, keepS, bkUpd, Gv.bk, backS, wayA, maxI, minI, negI]); (try simp only [LS]); first | done | exact dsc | ((try simp only [allP, lo, hi, room, true_and, and_true, implies_true]); (repeat' (first | with_reducible refine And.intro ?_ ?_ | ((with_reducible refine preA_t ?_ ?_); rotate_left; exact sameP_t) | intro hv)) <;> (try omega))))
  refine w_loop [(7, .d tInt), (14, .d tInt)] [] (fun y => ∃ k : Nat, y.1.2.1 = (k : Int) ∧ k ≤ l.length ∧ y.1.1 = wtS (l.take k) a b) (fun y => l.length - y.1.2.1.toNat) ?_
  conv => whnf
  refine And.intro ?_ ?_
  · exact ⟨0, rfl, Nat.zero_le _, rfl⟩
  rintro ⟨⟨(s : Int), _, ⟨⟩⟩, ⟨⟩⟩ ⟨k, rfl, hk, hs⟩
  have hs : s = wtS (l.take k) a b := hs
  have b1 := wtS_bound (a := a) (b := b) (l := l.take k)
  rw [List.length_take, ← hs] at b1
  have b2 := scS_bound (m := l.getD k ([], 0, 0, [], ())) (a := a) (b := b)
  have b3 := fun (h : AbM (l.getD k ([], 0, 0, [], ())) a b) => h.ok.at_
  have hst := fun h => wtS_snoc (a := a) (b := b) (l := l) (k := k) (d := ([], 0, 0, [], ())) h
  have hw1 := fun (h : AbM (l.getD k ([], 0, 0, [], ())) a b) => show wtM a b (l.getD k ([], 0, 0, [], ())) = scS (l.getD k ([], 0, 0, [], ())) a b - (l.getD k ([], 0, 0, [], ())).2.2.1 by unfold wtM; rw [if_pos h]
  have hw0 := fun (h : ¬ AbM (l.getD k ([], 0, 0, [], ())) a b) => show wtM a b (l.getD k ([], 0, 0, [], ())) = 0 by unfold wtM; rw [if_neg h]
  have f1 := fun (h : AbM (l.getD k ([], 0, 0, [], ())) a b) => show (-9223372036854775808 ≤ scS (l.getD k ([], 0, 0, [], ())) a b - (l.getD k ([], 0, 0, [], ())).2.2.1 ∧ scS (l.getD k ([], 0, 0, [], ())) a b - (l.getD k ([], 0, 0, [], ())).2.2.1 ≤ 9223372036854775807) ∧ -9223372036854775808 ≤ s + (scS (l.getD k ([], 0, 0, [], ())) a b - (l.getD k ([], 0, 0, [], ())).2.2.1) ∧ s + (scS (l.getD k ([], 0, 0, [], ())) a b - (l.getD k ([], 0, 0, [], ())).2.2.1) ≤ 9223372036854775807 by
    have := b3 h
    omega
  have f2 := fun (hk2 : k < l.length) (h : AbM (l.getD k ([], 0, 0, [], ())) a b) => show ∃ k_1 : Nat, (k : Int) + 1 = (k_1 : Int) ∧ k_1 ≤ l.length ∧ s + (scS (l.getD k ([], 0, 0, [], ())) a b - (l.getD k ([], 0, 0, [], ())).2.2.1) = wtS (l.take k_1) a b from ⟨k + 1, by omega, by omega, by rw [hst hk2, hw1 h, hs]⟩
  repeat' (first | with_reducible refine And.intro ?_ ?_ | ((try with_reducible refine gv_more ?_); first | ((with_reducible show K_ _); (try dsimp +instances only); (with_reducible refine hK_ _ ?_); clear hK_ K_) | with_reducible refine st ?_ | ((with_reducible refine sr ?_); intro K_ hK_; conv => whnf) | ((with_reducible refine w_cond ?_); (conv => arg 2; whnf); with_reducible refine st ?_) | refine blockK_y (by rfl) ?_ | ((with_reducible refine sw ?_); conv => whnf)) | ((with_reducible refine gv_more ?_); conv => whnf) | (intro hc; (try dsimp +instances only [Dat, SDat, dflt, Ty.size, keepS, bkUpd, Gv.bk, backS, wayA, maxI, minI, negI] at hc); (try simp only [LS] at hc)))
  all_goals (try ((fail_if_success with_reducible refine nl ?_); (try dsimp only [Dat, SDat, dflt, Ty.size, keepS, bkUpd, Gv.bk, backS, wayA, maxI, minI, negI]); (try simp only [LS]); first | done | exact dsc | ((try simp only [allP, lo, hi, room, true_and, and_true, implies_true]); (repeat' (first | with_reducible refine And.intro ?_ ?_ | ((with_reducible refine preA_t ?_ ?_); rotate_left; exact sameP_t) | intro hv)) <;> (try omega))))
  all_goals (first
    | exact (f1 hc).1.1
    | exact (f1 hc).1.2
    | exact (f1 hc).2.1
    | exact (f1 hc).2.2
    | exact f2 (by omega) hc
    | exact ⟨k + 1, by omega, by omega, by rw [hst (by omega), hw0 hc, hs, Int.add_zero]⟩
    | (rw [hs, List.take_of_length_le (by omega)]; done)
    | skip)
theorem ok_match_Weight : SpecOK SP glob fi_match_Weight S_match_Weight := mk_ok (c := c_match_Weight) (tab_ok _) mix_ok wf_match_Weight (by decide) (.cons ok_match_about (.cons ok_match_Score .nil)) (fun x hx => Nat.zero_lt_one) g_match_Weight
end Go.Gv
