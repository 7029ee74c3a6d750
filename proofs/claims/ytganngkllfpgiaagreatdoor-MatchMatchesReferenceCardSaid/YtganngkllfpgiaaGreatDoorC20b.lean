/- Chapter 20: edges: weights in a map, sorted. -/
import Derived.Test.YtganngkllfpgiaaGreatDoorGg
import Derived.Test.YtganngkllfpgiaaGreatDoorC20
import Derived.Test.YtganngkllfpgiaaGreatDoorP20
import Derived.Test.YtganngkllfpgiaaGreatDoorY
import Derived.Test.YtganngkllfpgiaaGreatDoorJ03
set_option linter.all false
namespace Go.Gv
open Go Go.Proofs Go.Proofs.YtganngkllfpgiaaGreatDoor
set_option maxRecDepth 100000
set_option maxHeartbeats 4000000

@[reducible] def tEdg : Ty := .st (.cs tInt (.cs tInt (.cs tInt .nl)))
@[reducible] def tPr : Ty := .arr 2 tInt

@[reducible] noncomputable def S_cmp_isNaN_int : Spec := { ins := (.cons (.d tInt) .nil), pre := fun _ => True, alts := [{ outs := (.cons (.d .bool) .nil), res := (fun x => (fun x => (false, ())) x.1) }] }
noncomputable def c_cmp_isNaN_int : Cf := (cf_cmp_isNaN_int (Fl []))
theorem g_cmp_isNaN_int : ∀ x, S_cmp_isNaN_int.pre x → shOK S_cmp_isNaN_int.ins x → fnGoal c_cmp_isNaN_int fn_cmp_isNaN_int S_cmp_isNaN_int x := by
  rintro ⟨x, ⟨⟩⟩ hpre hok
  clear hpre
  have hln := shLn_of _ hok; replace hok := Hd.mk hok; try simp only [shLn, datLn, inRng, lo, hi, maxLen, true_and, and_true] at hln
  first | refine fn_goal (w_head ?_)
  intro K_ hK_; (conv => whnf); (try dsimp +instances only); refine hK_ _ ?_; clear hK_ K_; (conv => (arg 2; whnf))
  repeat' (first | with_reducible refine And.intro ?_ ?_ | ((try with_reducible refine gv_more ?_); first | ((with_reducible show K_ _); (try dsimp +instances only); (with_reducible refine hK_ _ ?_); clear hK_ K_) | with_reducible refine st ?_ | ((with_reducible refine sr ?_); intro K_ hK_; conv => whnf) | ((with_reducible refine w_cond ?_); (conv => arg 2; whnf); with_reducible refine st ?_) | refine blockK_y (by rfl) ?_ | ((with_reducible refine sw ?_); conv => whnf)) | ((with_reducible refine gv_more ?_); conv => whnf) | (intro hc; (try dsimp +instances only [Dat, SDat, dflt, Ty.size, keepS, bkUpd, Gv.bk, backS, wayA, maxI, minI, negI] at hc); (try simp only [LS] at hc)))
  all_goals (try ((fail_if_success with_reducible refine nl ?_); (try dsimp only [Dat, SDat, dflt, Ty.size, keepS, bkUpd, Gv.bk, backS, wayA, maxI, minI, negI]); (try simp only [LS]); first | done | exact dsc | ((try simp only [allP, lo, hi, room, true_and, and_true, implies_true]); (repeat' (first | with_reducible refine And.intro ?_ ?_ | ((with_reducible refine preA_t ?_ ?_); rotate_left; exact sameP_t) | intro hv)) <;> (try omega))))
theorem ok_cmp_isNaN_int : SpecOK SP glob fi_cmp_isNaN_int S_cmp_isNaN_int := mk_ok (c := c_cmp_isNaN_int) (tab_ok _) mix_ok wf_cmp_isNaN_int (by decide) .nil (fun x hx => Nat.zero_lt_one) g_cmp_isNaN_int

@[reducible] noncomputable def S_cmp_Compare_int : Spec := { ins := (.cons (.d tInt) (.cons (.d tInt) .nil)), pre := fun _ => True, alts := [{ outs := (.cons (.d tInt) .nil), res := (fun x => (fun x y => (cmpI x y, ())) x.1 x.2.1) }] }
noncomputable def c_cmp_Compare_int : Cf := (cf_cmp_Compare_int (Fl [(fi_cmp_isNaN_int, S_cmp_isNaN_int)]))
theorem g_cmp_Compare_int : ∀ x, S_cmp_Compare_int.pre x → shOK S_cmp_Compare_int.ins x → fnGoal c_cmp_Compare_int fn_cmp_Compare_int S_cmp_Compare_int x := by
  rintro ⟨x, y, ⟨⟩⟩ hpre hok
  clear hpre
  have hln := shLn_of _ hok; replace hok := Hd.mk hok; try simp only [shLn, datLn, inRng, lo, hi, maxLen, true_and, and_true] at hln
  first | refine fn_goal (w_head ?_)
  intro K_ hK_; (conv => whnf); (try dsimp +instances only); refine hK_ _ ?_; clear hK_ K_; (conv => (arg 2; whnf))
  repeat' (first | with_reducible refine And.intro ?_ ?_ | ((try with_reducible refine gv_more ?_); first | ((with_reducible show K_ _); (try dsimp +instances only); (with_reducible refine hK_ _ ?_); clear hK_ K_) | with_reducible refine st ?_ | ((with_reducible refine sr ?_); intro K_ hK_; conv => whnf) | ((with_reducible refine w_cond ?_); (conv => arg 2; whnf); with_reducible refine st ?_) | refine blockK_y (by rfl) ?_ | ((with_reducible refine sw ?_); conv => whnf)) | ((with_reducible refine gv_more ?_); conv => whnf) | (intro hc; (try dsimp +instances only [Dat, SDat, dflt, Ty.size, keepS, bkUpd, Gv.bk, backS, wayA, maxI, minI, negI] at hc); (try simp only [LS] at hc)))
  all_goals (try ((fail_if_success with_reducible refine nl ?_); (try dsimp only [Dat, SDat, dflt, Ty.size, keepS, bkUpd, Gv.bk, backS, wayA, maxI, minI, negI]); (try simp only [LS]); first | done | exact dsc | ((try simp only [allP, lo, hi, room, true_and, and_true, implies_true]); (repeat' (first | with_reducible refine And.intro ?_ ?_ | ((with_reducible refine preA_t ?_ ?_); rotate_left; exact sameP_t) | intro hv)) <;> (try omega))))
  all_goals (unfold cmpI; first | (exfalso; simp at *; done) | (split <;> first | rfl | omega | (split <;> first | rfl | omega)))
theorem ok_cmp_Compare_int : SpecOK SP glob fi_cmp_Compare_int S_cmp_Compare_int := mk_ok (c := c_cmp_Compare_int) (tab_ok _) mix_ok wf_cmp_Compare_int (by decide) (.cons ok_cmp_isNaN_int .nil) (fun x hx => Nat.zero_lt_one) g_cmp_Compare_int

def orL : List Int → Int
  | [] => 0
  | x :: l => if x = 0 then orL l else x
theorem orL_drop : ∀ {k : Nat} {l : List Int}, (∀ x ∈ l.take k, x = 0) → orL l = orL (l.drop k)
  | 0, _, _ => rfl
  | k + 1, [], _ => rfl
  | k + 1, x :: l, h => by
    have h1 := h x (by simp)
    simp only [orL, h1, if_true, List.drop_succ_cons]
    exact orL_drop fun y hy => h y (by simp [hy])

@[reducible] noncomputable def S_cmp_Or_int : Spec := { ins := (.cons (.d (.sl tInt)) .nil), pre := fun _ => True, alts := [{ outs := (.cons (.d tInt) .nil), res := (fun x => (fun l => (orL l, ())) x.1) }] }
noncomputable def c_cmp_Or_int : Cf := (cf_cmp_Or_int (Fl []))
theorem g_cmp_Or_int : ∀ x, S_cmp_Or_int.pre x → shOK S_cmp_Or_int.ins x → fnGoal c_cmp_Or_int fn_cmp_Or_int S_cmp_Or_int x := by
  rintro ⟨l, ⟨⟩⟩ hpre hok
  clear hpre
  have hln := shLn_of _ hok; replace hok := Hd.mk hok; try simp only [shLn, datLn, inRng, lo, hi, maxLen, true_and, and_true] at hln
  first | refine fn_goal (w_head ?_)
  intro K_ hK_; (conv => whnf); (try dsimp +instances only); refine hK_ _ ?_; clear hK_ K_; (conv => (arg 2; whnf))
  repeat' (first | with_reducible refine And.intro ?_ ?_ | ((try with_reducible refine gv_more ?_); first | ((with_reducible show K_ _); (try dsimp +instances only); (with_reducible refine hK_ _ ?_); clear hK_ K_) | with_reducible refine st ?_ | ((with_reducible refine sr ?_); intro K_ hK_; conv => whnf) | ((with_reducible refine w_cond ?_); (conv => arg 2; whnf); with_reducible refine st ?_) | refine blockK_y (by rfl) ?_ | ((with_reducible refine sw ?_); conv => whnf)) | ((with_reducible refine gv_more ?_); conv => whnf) | (intro hc; (try dsimp +instances only [Dat, SDat, dflt, Ty.size, keepS, bkUpd, Gv.bk, backS, wayA, maxI, minI, negI] at hc); (try simp only [LS] at hc)))
  all_goals (try ((fail_if_success with_reducible refine nl ?_); (try dsimp only [Dat, SDat, dflt, Ty.size, keepS, bkUpd, Gv.bk, backS, wayA, maxI, minI, negI]); (try simp only [LS]); first | done | exact dsc | ((try simp only [allP, lo, hi, room, true_and, and_true, implies_true]); (repeat' (first | with_reducible refine And.intro ?_ ?_ | ((with_reducible refine preA_t ?_ ?_); rotate_left; exact sameP_t) | intro hv)) <;> (try omega))))
  refine w_loop [(8, .d tInt)] [] (fun y => ∃ k : Nat, y.1.1 = (k : Int) ∧ k ≤ l.length ∧ ∀ x ∈ l.take k, x = 0) (fun y => l.length - y.1.1.toNat) ?_
  conv => whnf
  refine And.intro ?_ ?_
  · exact ⟨0, by simp⟩
  rintro ⟨⟨_, ⟨⟩⟩, ⟨⟩⟩ ⟨k, rfl, hk, hj⟩
  repeat' (first | with_reducible refine And.intro ?_ ?_ | ((try with_reducible refine gv_more ?_); first | ((with_reducible show K_ _); (try dsimp +instances only); (with_reducible refine hK_ _ ?_); clear hK_ K_) | with_reducible refine st ?_ | ((with_reducible refine sr ?_); intro K_ hK_; conv => whnf) | ((with_reducible refine w_cond ?_); (conv => arg 2; whnf); with_reducible refine st ?_) | refine blockK_y (by rfl) ?_ | ((with_reducible refine sw ?_); conv => whnf)) | ((with_reducible refine gv_more ?_); conv => whnf) | (intro hc; (try dsimp +instances only [Dat, SDat, dflt, Ty.size, keepS, bkUpd, Gv.bk, backS, wayA, maxI, minI, negI] at hc); (try simp only [LS] at hc)))
  all_goals (try ((fail_if_success with_reducible refine nl ?_); (try dsimp only [Dat, SDat, dflt, Ty.size, keepS, bkUpd, Gv.bk, backS, wayA, maxI, minI, negI]); (try simp only [LS]); first | done | exact dsc | ((try simp only [allP, lo, hi, room, true_and, and_true, implies_true]); (repeat' (first | with_reducible refine And.intro ?_ ?_ | ((with_reducible refine preA_t ?_ ?_); rotate_left; exact sameP_t) | intro hv)) <;> (try omega))))
  · have h1 : k < l.length := by omega
    rw [getD_ok _ h1] at hc ⊢
    rw [orL_drop hj, List.drop_eq_getElem_cons h1]
    simp only [orL, hc, if_false]
  · exact ⟨k + 1, by omega, by omega, all_step (d := (0 : Int)) hj (by omega) hc⟩
  · rw [orL_drop hj, List.drop_eq_nil_of_le (by omega)]; rfl
theorem ok_cmp_Or_int : SpecOK SP glob fi_cmp_Or_int S_cmp_Or_int := mk_ok (c := c_cmp_Or_int) (tab_ok _) mix_ok wf_cmp_Or_int (by decide) .nil (fun x hx => Nat.zero_lt_one) g_cmp_Or_int

theorem cmpE_or (x y : Ed) : orL [cmpI x.1 y.1, cmpI x.2.1 y.2.1] = cmpE x y := by
  unfold cmpE
  simp only [orL]
  split
  · split <;> simp_all
  · rfl

@[reducible] noncomputable def S_match_Edges_1 : Spec := { ins := (.cons (.d tEdg) (.cons (.d tEdg) .nil)), pre := fun _ => True, alts := [{ outs := (.cons (.d tInt) .nil), res := (fun x => (fun x y => (cmpE x y, ())) x.1 x.2.1) }] }
noncomputable def c_match_Edges_1 : Cf := (cf_match_Edges_1 (Fl [(fi_cmp_Compare_int, S_cmp_Compare_int), (fi_cmp_Or_int, S_cmp_Or_int)]))
theorem g_match_Edges_1 : ∀ x, S_match_Edges_1.pre x → shOK S_match_Edges_1.ins x → fnGoal c_match_Edges_1 fn_match_Edges_1 S_match_Edges_1 x := by
  rintro ⟨x, y, ⟨⟩⟩ hpre hok
  clear hpre
  have hln := shLn_of _ hok; replace hok := Hd.mk hok; try simp only [shLn, datLn, inRng, lo, hi, maxLen, true_and, and_true] at hln
  have he := cmpE_or x y
  first | refine fn_goal (w_head ?_)
  intro K_ hK_; (conv => whnf); (try dsimp +instances only); refine hK_ _ ?_; clear hK_ K_; (conv => (arg 2; whnf))
  repeat' (first | with_reducible refine And.intro ?_ ?_ | ((try with_reducible refine gv_more ?_); first | ((with_reducible show K_ _); (try dsimp +instances only); (with_reducible refine hK_ _ ?_); clear hK_ K_) | with_reducible refine st ?_ | ((with_reducible refine sr ?_); intro K_ hK_; conv => whnf) | ((with_reducible refine w_cond ?_); (conv => arg 2; whnf); with_reducible refine st ?_) | refine blockK_y (by rfl) ?_ | ((with_reducible refine sw ?_); conv => whnf)) | ((with_reducible refine gv_more ?_); conv => whnf) | (intro hc; (try dsimp +instances only [Dat, SDat, dflt, Ty.size, keepS, bkUpd, Gv.bk, backS, wayA, maxI, minI, negI] at hc); (try simp only [LS] at hc)))
  all_goals (try ((fail_if_success with_reducible refine nl ?_); (try dsimp only [Dat, SDat, dflt, Ty.size, keepS, bkUpd, Gv.bk, backS, wayA, maxI, minI, negI]); (try simp only [LS]); first | done | exact dsc | ((try simp only [allP, lo, hi, room, true_and, and_true, implies_true]); (repeat' (first | with_reducible refine And.intro ?_ ?_ | ((with_reducible refine preA_t ?_ ?_); rotate_left; exact sameP_t) | intro hv)) <;> (try omega))))
  all_goals (first | exact he | skip)
theorem ok_match_Edges_1 : SpecOK SP glob fi_match_Edges_1 S_match_Edges_1 := mk_ok (c := c_match_Edges_1) (tab_ok _) mix_ok wf_match_Edges_1 (by decide) (.cons ok_cmp_Compare_int (.cons ok_cmp_Or_int .nil)) (fun x hx => Nat.zero_lt_one) g_match_Edges_1

def sortPreE (xs : List Ed) : Prop := distE xs ∧ List.length xs ≤ 1000000
@[reducible] noncomputable def S_math_bits_Len : Spec := { ins := .cons (.d (.int .u64)) .nil, pre := fun _ => True, alts := [{ outs := .cons (.d (.int .i64)) .nil, res := fun x => ((Lib.bitLen (Int.toNat x.1) : Int), ()) }] }
set_option maxRecDepth 100000 in
theorem ok_math_bits_Len : SpecOK SP glob fi_math_bits_Len S_math_bits_Len := bitsLen_ok lays125 wf_math_bits_Len
@[reducible] noncomputable def S_pdqE : Spec := { ins := .cons (.row tEdg) (.cons (.d (.int .i64)) (.cons (.d (.int .i64)) (.cons (.d (.int .i64)) (.cons (.clos fi_match_Edges_1 .nil) .nil)))), pre := fun x => sortPreE x.1 ∧ x.2.1 = 0 ∧ x.2.2.1 = (List.length x.1 : Int) ∧ 0 ≤ x.2.2.2.1 ∧ x.2.2.2.1 ≤ 1000000, alts := [{ outs := .nil, res := fun _ => (), upd := fun x => (sortE x.1, x.2.1, x.2.2.1, x.2.2.2.1, (), ()) }] }
set_option maxRecDepth 100000 in
theorem ok_pdqE : SpecOK SP glob fi_slices_pdqsortCmpFunc_api_Edge S_pdqE :=
  pdqF_ok (t := tEdg) (cf := fun a b => cmpE a b) (res := sortE) (pre := sortPreE) laysSlLaysF0_32 rfl (by decide) Tryz.isAgg50 Tryz.sizeOf50 (fn_hf wf_slices_pdqsortCmpFunc_api_Edge) ok_match_Edges_1 (fun _ => True) (fun _ _ _ _ => trivial)
    (fun x _ => cmpE_self x) (fun x y z _ _ _ h1 h2 => cmpE_trans h1 h2) (fun x y z _ _ _ h1 h2 => cmpE_ntrans h1 h2) (fun _ _ _ _ => trivial) (fun xs h => by have := h.2; omega) (fun xs ys h hp hs => sortE_uniq h.1 hp hs)

theorem bitLen_small {n : Int} (h0 : 0 ≤ n) (h1 : n ≤ 1000000) : (0 : Int) ≤ (Lib.bitLen (Int.toNat n) : Int) ∧ (Lib.bitLen (Int.toNat n) : Int) ≤ 1000000 := by
  have := Lib.bitLen_le (Int.toNat n) 20 (by decide) (by omega)
  omega

@[reducible] noncomputable def S_slices_SortFunc_sl_api_Edge_api_Edge : Spec := { ins := (.cons (.row tEdg) (.cons (.clos fi_match_Edges_1 .nil) .nil)), pre := (fun x => (fun l c => sortPreE l) x.1 x.2.1), alts := [{ outs := .nil, res := (fun x => (fun l c => (())) x.1 x.2.1), upd := (fun x => (fun l c => (sortE l, (), ())) x.1 x.2.1) }] }
noncomputable def c_slices_SortFunc_sl_api_Edge_api_Edge : Cf := (cf_slices_SortFunc_sl_api_Edge_api_Edge (Fl [(fi_math_bits_Len, S_math_bits_Len), (fi_slices_pdqsortCmpFunc_api_Edge, S_pdqE)]))
theorem g_slices_SortFunc_sl_api_Edge_api_Edge : ∀ x, S_slices_SortFunc_sl_api_Edge_api_Edge.pre x → shOK S_slices_SortFunc_sl_api_Edge_api_Edge.ins x → fnGoal c_slices_SortFunc_sl_api_Edge_api_Edge fn_slices_SortFunc_sl_api_Edge_api_Edge S_slices_SortFunc_sl_api_Edge_api_Edge x := by
  rintro ⟨l, ⟨⟩, ⟨⟩⟩ hpre hok
  try dsimp only [Dat, SDat, dflt, Ty.size, keepS, bkUpd, Gv.bk, backS, wayA, maxI, minI, negI] at hpre
  have hln := shLn_of _ hok; replace hok := Hd.mk hok; try simp only [shLn, datLn, inRng, lo, hi, maxLen, true_and, and_true] at hln
  have hl : List.length l ≤ 1000000 := hpre.2
  have hb := bitLen_small (n := (List.length l : Int)) (by omega) (by omega)
  rw [Int.toNat_natCast] at hb
  have hb2 := hb.2
  first | refine fn_goal (w_head ?_)
  intro K_ hK_; (conv => whnf); (try dsimp +instances only); refine hK_ _ ?_; clear hK_ K_; (conv => (arg 2; whnf))
  repeat' (first | with_reducible refine And.intro ?_ ?_ | ((try with_reducible refine gv_more ?_); first | ((with_reducible show K_ _); (try dsimp +instances only); (with_reducible refine hK_ _ ?_); clear hK_ K_) | with_reducible refine st ?_ | ((with_reducible refine sr ?_); intro K_ hK_; conv => whnf) | ((with_reducible refine w_cond ?_); (conv => arg 2; whnf); with_reducible refine st ?_) | refine blockK_y (by rfl) ?_ | ((with_reducible refine sw ?_); conv => whnf)) | ((with_reducible refine gv_more ?_); conv => whnf) | (intro hc; (try dsimp +instances only [Dat, SDat, dflt, Ty.size, keepS, bkUpd, Gv.bk, backS, wayA, maxI, minI, negI] at hc); (try simp only [LS] at hc)))
  all_goals (try ((fail_if_success with_reducible refine nl ?_); (try dsimp only [Dat, SDat, dflt, Ty.size, keepS, bkUpd, Gv.bk, backS, wayA, maxI, minI, negI]); (try simp only [LS]); first | done | exact dsc | ((try simp only [allP, lo, hi, room, true_and, and_true, implies_true]); (repeat' (first | with_reducible refine And.intro ?_ ?_ | ((with_reducible refine preA_t ?_ ?_); rotate_left; exact sameP_t) | intro hv)) <;> (try omega))))
theorem ok_slices_SortFunc_sl_api_Edge_api_Edge : SpecOK SP glob fi_slices_SortFunc_sl_api_Edge_api_Edge S_slices_SortFunc_sl_api_Edge_api_Edge := mk_ok (c := c_slices_SortFunc_sl_api_Edge_api_Edge) (tab_ok _) mix_ok wf_slices_SortFunc_sl_api_Edge_api_Edge (by decide) (.cons ok_math_bits_Len (.cons ok_pdqE .nil)) (fun x hx => Nat.zero_lt_one) g_slices_SortFunc_sl_api_Edge_api_Edge

noncomputable def wE (ms : List Ma) (rs : List Rc) (i j : Int) : Int := wtS ms (rs.getD i.toNat ((0, [], [], ()), 0, 0, [], ())) (rs.getD j.toNat ((0, [], [], ()), 0, 0, [], ()))
def okP (n : Nat) (p : Pi2) : Prop := 0 ≤ p.getD 0 0 ∧ p.getD 0 0 < p.getD 1 0 ∧ p.getD 1 0 < (n : Int)
noncomputable def edV (ms : List Ma) (rs : List Rc) (ps : List Pi2) : List Ed := if (20000 : Int) < (ps.length : Int) ∨ (200 : Int) < (ms.length : Int) then [] else @ite _ (∀ p ∈ ps, okP rs.length p) (Classical.propDecidable _) (edS (wE ms rs) ps) []
noncomputable def edEr (ms : List Ma) (rs : List Rc) (ps : List Pi2) : Int := if (20000 : Int) < (ps.length : Int) ∨ (200 : Int) < (ms.length : Int) then 3 else @ite _ (∀ p ∈ ps, okP rs.length p) (Classical.propDecidable _) 0 1
theorem ed_many {ms : List Ma} {rs : List Rc} {ps : List Pi2} (h : (20000 : Int) < (ps.length : Int) ∨ (200 : Int) < (ms.length : Int)) : edV ms rs ps = [] ∧ edEr ms rs ps = 3 := by unfold edV edEr; rw [if_pos h, if_pos h]; exact ⟨rfl, rfl⟩
theorem ed_bad {ms : List Ma} {rs : List Rc} {ps : List Pi2} (h : ¬ ((20000 : Int) < (ps.length : Int) ∨ (200 : Int) < (ms.length : Int))) (k : ¬ ∀ p ∈ ps, okP rs.length p) : edV ms rs ps = [] ∧ edEr ms rs ps = 1 := by unfold edV edEr; rw [if_neg h, if_neg h, if_neg k, if_neg k]; exact ⟨rfl, rfl⟩
theorem ed_good {ms : List Ma} {rs : List Rc} {ps : List Pi2} (h : ¬ ((20000 : Int) < (ps.length : Int) ∨ (200 : Int) < (ms.length : Int))) (k : ∀ p ∈ ps, okP rs.length p) : edV ms rs ps = edS (wE ms rs) ps ∧ edEr ms rs ps = 0 := by unfold edV edEr; rw [if_neg h, if_neg h, if_pos k, if_pos k]; exact ⟨rfl, rfl⟩
theorem ok_wrap {a b n : Int} (h : n ≤ 9223372036854775807) : (¬ (0 ≤ a ∧ a ≤ (b - 1 + 9223372036854775808) % 18446744073709551616 - 9223372036854775808) ∨ ¬ (0 ≤ b ∧ b ≤ n - 1)) ↔ ¬ (0 ≤ a ∧ a < b ∧ b < n) := by omega

def prP (p : Pi2) : Pi2 := [p.getD 0 0, p.getD 1 0]
abbrev WM := List (Pi2 × Int)
structure MInv (W : Int → Int → Int) (m : WM) (qs : List Pi2) : Prop where
  nd : (m.map Prod.fst).Nodup
  all : ∀ e ∈ m, ∃ p ∈ qs, e = (prP p, W (p.getD 0 0) (p.getD 1 0))
  cov : ∀ p ∈ qs, prP p ∈ m.map Prod.fst
theorem MInv.hit {W : Int → Int → Int} {m : WM} {qs : List Pi2} {p : Pi2} (h : MInv W m qs) (k : prP p ∈ m.map Prod.fst) : MInv W m (qs ++ [p]) :=
  ⟨h.nd, fun e he => let ⟨q, hq, e⟩ := h.all e he; ⟨q, List.mem_append_left _ hq, e⟩, fun q hq => by
    rcases List.mem_append.1 hq with hq | hq
    · exact h.cov q hq
    · rw [List.mem_singleton.1 hq]; exact k⟩
theorem MInv.new {W : Int → Int → Int} {m : WM} {qs : List Pi2} {p : Pi2} (h : MInv W m qs) (k : prP p ∉ m.map Prod.fst) : MInv W (m ++ [(prP p, W (p.getD 0 0) (p.getD 1 0))]) (qs ++ [p]) := by
  refine ⟨?_, fun e he => ?_, fun q hq => ?_⟩
  · rw [List.map_append]
    refine List.nodup_append.2 ⟨h.nd, by simp, fun a ha b hb => ?_⟩
    simp at hb
    subst hb
    exact fun e => k (e ▸ ha)
  · rcases List.mem_append.1 he with he | he
    · obtain ⟨q, hq, e⟩ := h.all e he
      exact ⟨q, List.mem_append_left _ hq, e⟩
    · exact ⟨p, List.mem_append_right _ (by simp), List.mem_singleton.1 he⟩
  · rw [List.map_append]
    rcases List.mem_append.1 hq with hq | hq
    · exact List.mem_append_left _ (h.cov q hq)
    · rw [List.mem_singleton.1 hq]; exact List.mem_append_right _ (by simp)
def nzM (e : Pi2 × Int) : Bool := decide (e.2 ≠ 0)
def eoM (e : Pi2 × Int) : Ed := (e.1.getD 0 0, e.1.getD 1 0, e.2, ())
theorem MInv.dist {W : Int → Int → Int} {m : WM} {qs : List Pi2} (h : MInv W m qs) : distE ((m.filter nzM).map eoM) := by
  unfold distE
  rw [List.pairwise_map]
  have h1 : m.Pairwise (fun a b => a.1 ≠ b.1) := List.pairwise_map.1 h.nd
  refine (h1.filter _).imp_of_mem fun {a b} ha hb hne hab => hne ?_
  obtain ⟨p, _, rfl⟩ := h.all a (List.mem_filter.1 ha).1
  obtain ⟨q, _, rfl⟩ := h.all b (List.mem_filter.1 hb).1
  have e1 : p.getD 0 0 = q.getD 0 0 := hab.1
  have e2 : p.getD 1 0 = q.getD 1 0 := hab.2
  show [p.getD 0 0, p.getD 1 0] = [q.getD 0 0, q.getD 1 0]
  rw [e1, e2]
theorem MInv.mem {W : Int → Int → Int} {m : WM} {qs : List Pi2} (h : MInv W m qs) (e : Ed) : e ∈ (m.filter nzM).map eoM ↔ (∃ p ∈ qs, e = edO W p) ∧ e.2.2.1 ≠ 0 := by
  rw [List.mem_map]
  constructor
  · rintro ⟨x, hx, rfl⟩
    obtain ⟨h1, h2⟩ := List.mem_filter.1 hx
    obtain ⟨p, hp, rfl⟩ := h.all x h1
    exact ⟨⟨p, hp, rfl⟩, of_decide_eq_true h2⟩
  · rintro ⟨⟨p, hp, rfl⟩, h2⟩
    obtain ⟨x, hx, e⟩ := List.mem_map.1 (h.cov p hp)
    obtain ⟨q, hq, rfl⟩ := h.all x hx
    have e : [q.getD 0 0, q.getD 1 0] = [p.getD 0 0, p.getD 1 0] := e
    simp only [List.cons.injEq, and_true] at e
    have e3 : eoM (prP q, W (q.getD 0 0) (q.getD 1 0)) = edO W p := by
      show (q.getD 0 0, q.getD 1 0, W (q.getD 0 0) (q.getD 1 0), ()) = edO W p
      rw [e.1, e.2]; rfl
    refine ⟨_, List.mem_filter.2 ⟨hx, ?_⟩, e3⟩
    have : W (q.getD 0 0) (q.getD 1 0) ≠ 0 := by rw [e.1, e.2]; exact h2
    simpa [nzM] using this
theorem MInv.len {W : Int → Int → Int} {m : WM} {qs : List Pi2} (h : MInv W m qs) : m.length ≤ qs.length := by
  have h1 : (m.map Prod.fst) ⊆ qs.map prP := fun x hx => by
    obtain ⟨e, he, rfl⟩ := List.mem_map.1 hx
    obtain ⟨p, hp, rfl⟩ := h.all e he
    exact List.mem_map.2 ⟨p, hp, rfl⟩
  have := List.Nodup.length_le_of_subset h.nd h1
  rwa [List.length_map, List.length_map] at this
theorem MInv.sort {W : Int → Int → Int} {m : WM} {qs : List Pi2} {ou : List Ed} (h : MInv W m qs) (hp : ou.Perm ((m.filter nzM).map eoM)) : distE ou ∧ sortE ou = edS W qs :=
  ⟨distE_perm hp.symm h.dist, edS_of (distE_perm hp.symm h.dist) fun e => by rw [hp.mem_iff, h.mem]⟩
theorem erase_permE {α : Type} : ∀ {l : List α} {i : Nat} (h : i < l.length), (l[i] :: l.eraseIdx i).Perm l
  | [], i, h => by simp at h
  | x :: l, 0, _ => List.Perm.refl _
  | x :: l, i + 1, h => by
    have := erase_permE (l := l) (i := i) (by simpa using h)
    rw [List.eraseIdx_cons_succ, List.getElem_cons_succ]
    exact (List.Perm.swap x _ _).trans (this.cons x)
theorem walkE_hit {left : WM} {R : List Ed} {ou : List Ed} {i : Nat} {d : Pi2 × Int} (h : (ou ++ (left.filter nzM).map eoM).Perm R) (hi : i < left.length) (hn : (left.getD i d).2 ≠ 0) : (ou ++ [eoM (left.getD i d)] ++ ((left.eraseIdx i).filter nzM).map eoM).Perm R := by
  refine List.Perm.trans ?_ h
  rw [List.append_assoc]
  refine List.Perm.append_left _ ?_
  have hp : (left.getD i d :: left.eraseIdx i).Perm left := by rw [getD_ok _ hi]; exact erase_permE hi
  have := (hp.filter nzM).map eoM
  rw [List.filter_cons_of_pos (by simpa [nzM] using hn)] at this
  exact this
theorem walkE_miss {left : WM} {R : List Ed} {ou : List Ed} {i : Nat} {d : Pi2 × Int} (h : (ou ++ (left.filter nzM).map eoM).Perm R) (hi : i < left.length) (hn : (left.getD i d).2 = 0) : (ou ++ ((left.eraseIdx i).filter nzM).map eoM).Perm R := by
  refine List.Perm.trans ?_ h
  refine List.Perm.append_left _ ?_
  have hp : (left.getD i d :: left.eraseIdx i).Perm left := by rw [getD_ok _ hi]; exact erase_permE hi
  have := (hp.filter nzM).map eoM
  rw [List.filter_cons_of_neg (by simpa [nzM] using hn)] at this
  exact this

theorem minv_new {W : Int → Int → Int} {m : WM} {ps : List Pi2} {k : Nat} (h : MInv W m (ps.take k)) (hk : k < ps.length) (hn : (@mget (Dat tPr) (Dat tInt) (instDecidableEqDat tPr) m (prP (ps.getD k (List.replicate 2 0)))).isSome = false) :
    MInv W (@mput (Dat tPr) (Dat tInt) (instDecidableEqDat tPr) m (prP (ps.getD k (List.replicate 2 0))) (W ((ps.getD k (List.replicate 2 0)).getD 0 0) ((ps.getD k (List.replicate 2 0)).getD 1 0))) (ps.take (k + 1)) := by
  have hn' : @mget (Dat tPr) (Dat tInt) (instDecidableEqDat tPr) m (prP (ps.getD k (List.replicate 2 0))) = none := by
    cases e : @mget (Dat tPr) (Dat tInt) (instDecidableEqDat tPr) m (prP (ps.getD k (List.replicate 2 0))) with
    | none => rfl
    | some _ => rw [e] at hn; cases hn
  rw [mput_none hn', List.take_succ_eq_append_getElem hk, ← getD_ok (List.replicate 2 0) hk]
  refine h.new fun hm => ?_
  obtain ⟨e, he, ee⟩ := List.mem_map.1 hm
  exact mget_none.1 hn' e he ee
theorem minv_hit {W : Int → Int → Int} {m : WM} {ps : List Pi2} {k : Nat} (h : MInv W m (ps.take k)) (hk : k < ps.length) (hn : ¬ (@mget (Dat tPr) (Dat tInt) (instDecidableEqDat tPr) m (prP (ps.getD k (List.replicate 2 0)))).isSome = false) : MInv W m (ps.take (k + 1)) := by
  rw [List.take_succ_eq_append_getElem hk, ← getD_ok (List.replicate 2 0) hk]
  refine h.hit ?_
  cases e : @mget (Dat tPr) (Dat tInt) (instDecidableEqDat tPr) m (prP (ps.getD k (List.replicate 2 0))) with
  | none => rw [e] at hn; exact (hn rfl).elim
  | some w => exact List.mem_map.2 ⟨_, mget_some e, rfl⟩

@[reducible] noncomputable def S_match_Edges : Spec := { ins := (.cons (.d (.sl tMat)) (.cons (.d (.sl tRec)) (.cons (.d (.sl tPr)) .nil))), pre := fun _ => True, alts := [{ outs := (.cons (.d (.sl tEdg)) (.cons (.d tInt) .nil)), res := (fun x => (fun ms rs ps => (edV ms rs ps, edEr ms rs ps, ())) x.1 x.2.1 x.2.2.1) }], noisy := true }
noncomputable def c_match_Edges : Cf := { cf_match_Edges (Fl [(fi_match_between, S_match_between), (fi_match_Weight, S_match_Weight), (fi_slices_SortFunc_sl_api_Edge_api_Edge, S_slices_SortFunc_sl_api_Edge_api_Edge)]) with E := { (cf_match_Edges (Fl [(fi_match_between, S_match_between), (fi_match_Weight, S_match_Weight), (fi_slices_SortFunc_sl_api_Edge_api_Edge, S_slices_SortFunc_sl_api_Edge_api_Edge)])).E with wraps := [36] }, nz := true }
theorem g_match_Edges : ∀ x, S_match_Edges.pre x → shOK S_match_Edges.ins x → fnGoal c_match_Edges fn_match_Edges S_match_Edges x := by
  rintro ⟨ms, rs, ps, ⟨⟩⟩ hpre hok
  clear hpre
  have hln := shLn_of _ hok; replace hok := Hd.mk hok; try simp only [shLn, datLn, inRng, lo, hi, maxLen, true_and, and_true] at hln
  have hrs : (List.length rs : Int) ≤ 9223372036854775807 := by omega
  first | refine fn_goal (w_head ?_)
  intro K_ hK_; (conv => whnf); (try dsimp +instances only); refine hK_ _ ?_; clear hK_ K_; (conv => (arg 2; whnf))
  repeat' (first | with_reducible refine And.intro ?_ ?_ | ((try with_reducible refine gv_more ?_); first | ((with_reducible show K_ _); (try dsimp +instances only); (with_reducible refine hK_ _ ?_); clear hK_ K_) | with_reducible refine st ?_ | ((with_reducible refine sr ?_); intro K_ hK_; conv => whnf) | ((with_reducible refine w_cond ?_); (conv => arg 2; whnf); with_reducible refine st ?_) | refine blockK_y (by rfl) ?_ | ((with_reducible refine sw ?_); conv => whnf)) | ((with_reducible refine gv_more ?_); conv => whnf) | (intro hc; (try dsimp +instances only [Dat, SDat, dflt, Ty.size, keepS, bkUpd, Gv.bk, backS, wayA, maxI, minI, negI] at hc); (try simp only [LS] at hc)))
  all_goals (try ((fail_if_success with_reducible refine nl ?_); (try dsimp only [Dat, SDat, dflt, Ty.size, keepS, bkUpd, Gv.bk, backS, wayA, maxI, minI, negI]); (try simp only [LS]); first | done | exact dsc | ((try simp only [allP, lo, hi, room, true_and, and_true, implies_true]); (repeat' (first | with_reducible refine And.intro ?_ ?_ | ((with_reducible refine preA_t ?_ ?_); rotate_left; exact sameP_t) | intro hv)) <;> (try omega))))
  all_goals (try (first | exact (ed_many hc).1.symm | exact (ed_many hc).2.symm))
  have hfew := hc
  refine w_loop [(28, .d tInt)] [] (fun y => ∃ k : Nat, y.1.1 = (k : Int) ∧ k ≤ ps.length ∧ ∀ p ∈ ps.take k, okP rs.length p) (fun y => ps.length - y.1.1.toNat) ?_
  conv => whnf
  refine And.intro ?_ ?_
  · exact ⟨0, rfl, Nat.zero_le _, by simp⟩
  rintro ⟨⟨_, ⟨⟩⟩, ⟨⟩⟩ ⟨k, rfl, hk, hok1⟩
  have how := ok_wrap (a := (ps.getD k (List.replicate 2 0)).getD 0 0) (b := (ps.getD k (List.replicate 2 0)).getD 1 0) hrs
  repeat' (first | with_reducible refine And.intro ?_ ?_ | ((try with_reducible refine gv_more ?_); first | ((with_reducible show K_ _); (try dsimp +instances only); (with_reducible refine hK_ _ ?_); clear hK_ K_) | with_reducible refine st ?_ | ((with_reducible refine sr ?_); intro K_ hK_; conv => whnf) | ((with_reducible refine w_cond ?_); (conv => arg 2; whnf); with_reducible refine st ?_) | refine blockK_y (by rfl) ?_ | ((with_reducible refine sw ?_); conv => whnf)) | ((with_reducible refine gv_more ?_); conv => whnf) | (intro hc; (try dsimp +instances only [Dat, SDat, dflt, Ty.size, keepS, bkUpd, Gv.bk, backS, wayA, maxI, minI, negI] at hc); (try simp only [LS] at hc)))
  all_goals (try ((fail_if_success with_reducible refine nl ?_); (try dsimp only [Dat, SDat, dflt, Ty.size, keepS, bkUpd, Gv.bk, backS, wayA, maxI, minI, negI]); (try simp only [LS]); first | done | exact dsc | ((try simp only [allP, lo, hi, room, true_and, and_true, implies_true]); (repeat' (first | with_reducible refine And.intro ?_ ?_ | ((with_reducible refine preA_t ?_ ?_); rotate_left; exact sameP_t) | intro hv)) <;> (try omega))))
  · have hk2 : k < ps.length := by omega
    exact (ed_bad hfew fun h => (how.1 hc) (h _ (getD_mem hk2))).1.symm
  · have hk2 : k < ps.length := by omega
    exact (ed_bad hfew fun h => (how.1 hc) (h _ (getD_mem hk2))).2.symm
  · have hk2 : k < ps.length := by omega
    exact ⟨k + 1, by omega, by omega, all_step (d := List.replicate 2 0) hok1 hk2 (Classical.byContradiction fun h => hc (how.2 h))⟩
  have hall : ∀ p ∈ ps, okP rs.length p := all_end hok1 (by omega)
  have hgood := ed_good hfew hall
  clear hok1 how hc hk
  refine w_loop [(52, .d tInt), (10, .map tPr tInt)] [] (fun y => ∃ k : Nat, y.1.1 = (k : Int) ∧ k ≤ ps.length ∧ MInv (wE ms rs) y.1.2.1 (ps.take k)) (fun y => ps.length - y.1.1.toNat) ?_
  conv => whnf
  refine And.intro ?_ ?_
  · exact ⟨0, rfl, Nat.zero_le _, ⟨List.nodup_nil, fun _ h => (by cases h), fun _ h => (by cases h)⟩⟩
  rintro ⟨⟨_, m, ⟨⟩⟩, ⟨⟩⟩ ⟨k, rfl, hk, hm⟩
  have hm : MInv (wE ms rs) (m : WM) (ps.take k) := hm
  have hp := fun (h : k < ps.length) => hall _ (getD_mem (d := List.replicate 2 0) h)
  have hfew2 : ms.length ≤ 200 := by omega
  repeat' (first | with_reducible refine And.intro ?_ ?_ | ((try with_reducible refine gv_more ?_); first | ((with_reducible show K_ _); (try dsimp +instances only); (with_reducible refine hK_ _ ?_); clear hK_ K_) | with_reducible refine st ?_ | ((with_reducible refine sr ?_); intro K_ hK_; conv => whnf) | ((with_reducible refine w_cond ?_); (conv => arg 2; whnf); with_reducible refine st ?_) | refine blockK_y (by rfl) ?_ | ((with_reducible refine sw ?_); conv => whnf)) | ((with_reducible refine gv_more ?_); conv => whnf) | (intro hc; (try dsimp +instances only [Dat, SDat, dflt, Ty.size, keepS, bkUpd, Gv.bk, backS, wayA, maxI, minI, negI] at hc); (try simp only [LS] at hc)))
  all_goals (try ((fail_if_success with_reducible refine nl ?_); (try dsimp only [Dat, SDat, dflt, Ty.size, keepS, bkUpd, Gv.bk, backS, wayA, maxI, minI, negI]); (try simp only [LS]); first | done | exact dsc | ((try simp only [allP, lo, hi, room, true_and, and_true, implies_true]); (repeat' (first | with_reducible refine And.intro ?_ ?_ | ((with_reducible refine preA_t ?_ ?_); rotate_left; exact sameP_t) | intro hv)) <;> (try omega))))
  all_goals (try (have hq := hp (by omega); unfold okP at hq; omega))
  · exact ⟨k + 1, by omega, by omega, minv_new hm (by omega) hc⟩
  · exact ⟨k + 1, by omega, by omega, minv_hit hm (by omega) hc⟩
  have hke : k = ps.length := by omega
  subst hke
  rw [List.take_length] at hm
  have hml := hm.len
  clear hp hk hc
  refine w_loop [(80, .ob (.mit tPr tInt)), (15, .row tEdg)] [] (fun y => List.Perm ((y.1.2.1 : List Ed) ++ ((y.1.1.1 : WM).filter nzM).map eoM) (((m : WM).filter nzM).map eoM)) (fun y => List.length y.1.1.1) ?_
  conv => whnf
  refine And.intro ?_ ?_
  · exact List.Perm.refl _
  rintro ⟨⟨⟨left, cur, q⟩, ou, ⟨⟩⟩, ⟨⟩⟩ hp1
  have hp1 : List.Perm ((ou : List Ed) ++ ((left : WM).filter nzM).map eoM) (((m : WM).filter nzM).map eoM) := hp1
  have hol := hp1.length_eq
  have hfl := List.length_filter_le nzM m
  rw [List.length_append, List.length_map, List.length_map] at hol
  have hol : List.length (ou : List Ed) ≤ 20000 := by omega
  repeat' (first | with_reducible refine And.intro ?_ ?_ | ((try with_reducible refine gv_more ?_); first | ((with_reducible show K_ _); (try dsimp +instances only); (with_reducible refine hK_ _ ?_); clear hK_ K_) | with_reducible refine st ?_ | ((with_reducible refine sr ?_); intro K_ hK_; conv => whnf) | ((with_reducible refine w_cond ?_); (conv => arg 2; whnf); with_reducible refine st ?_) | refine blockK_y (by rfl) ?_ | ((with_reducible refine sw ?_); conv => whnf)) | ((with_reducible refine gv_more ?_); conv => whnf) | (intro hc; (try dsimp +instances only [Dat, SDat, dflt, Ty.size, keepS, bkUpd, Gv.bk, backS, wayA, maxI, minI, negI] at hc); (try simp only [LS] at hc)))
  all_goals (try ((fail_if_success with_reducible refine nl ?_); (try dsimp only [Dat, SDat, dflt, Ty.size, keepS, bkUpd, Gv.bk, backS, wayA, maxI, minI, negI]); (try simp only [LS]); first | done | exact dsc | ((try simp only [allP, lo, hi, room, true_and, and_true, implies_true]); (repeat' (first | with_reducible refine And.intro ?_ ?_ | ((with_reducible refine preA_t ?_ ?_); rotate_left; exact sameP_t) | intro hv)) <;> (try omega))))
  all_goals (first
    | exact absurd hc (by assumption)
    | (rename_i i hi hn
       have hi := hi hn
       first
         | exact walkE_hit hp1 hi hc
         | exact walkE_miss hp1 hi hc
         | (rw [List.length_eraseIdx]; split <;> omega)
         | (simp only [Nat.reduceAdd, Nat.reduceMul]; omega))
    | skip)
  all_goals (have he : left = [] := hc)
  all_goals (subst he; have hpe : List.Perm (ou : List Ed) (((m : WM).filter nzM).map eoM) := (by simpa using hp1); have hs := hm.sort hpe)
  all_goals (first
    | exact ⟨hs.1, by omega⟩
    | (rw [hgood.1]; exact hs.2)
    | exact hgood.2.symm
    | skip)
theorem ok_match_Edges : SpecOK SP glob fi_match_Edges S_match_Edges := mk_ok (c := c_match_Edges) (tab_ok _) mix_ok wf_match_Edges (by decide) (.cons ok_match_between (.cons ok_match_Weight (.cons ok_slices_SortFunc_sl_api_Edge_api_Edge .nil))) (fun x hx => Nat.zero_lt_one) g_match_Edges
end Go.Gv
