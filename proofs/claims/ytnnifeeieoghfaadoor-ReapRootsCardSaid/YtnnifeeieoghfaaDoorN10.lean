/- Decimal numerals: strconv.AppendInt at base 10, of numbers that are not negative. -/
import Derived.Test.YtnnifeeieoghfaaDoorY
import Derived.Test.YtnnifeeieoghfaaDoorB0
import Derived.Lib.ItoaLen
set_option linter.all false
namespace Go.Gv
open Go Go.Proofs Go.Proofs.YtnnifeeieoghfaaDoor
def dig (n : Int) : List Int := (Lib.itoa n).map (fun b : UInt8 => (b.toNat : Int))
theorem dig_nat (n : Nat) : dig n = digU n := by unfold dig digU; rw [Lib.itoa_nonneg]
@[reducible] noncomputable def S_i_strconv_small : Spec := smallSpec
theorem ok_i_strconv_small : SpecOK SP glob fi_i_strconv_small S_i_strconv_small := small_ok lays283 wf_i_strconv_small

@[reducible] noncomputable def S_appU_small : Spec := { ins := (.cons (.spare tBy) (.cons (.d tU64) (.cons (.d tInt) .nil))), pre := (fun x => (fun dst i b => (b = 10 ∧ dst.length ≤ 1100000000) ∧ i < 100) x.1 x.2.1 x.2.2.1), alts := [{ outs := (.cons (.spare tBy) .nil), res := (fun x => (fun dst i b => (dst ++ digU i.toNat, ())) x.1 x.2.1 x.2.2.1) }] }
set_option maxRecDepth 100000 in
set_option maxHeartbeats 4000000 in
theorem g_appU_small : ∀ x, S_appU_small.pre x → shOK S_appU_small.ins x → fnGoal (cf_i_strconv_AppendUint (Fl [(fi_i_strconv_small, S_i_strconv_small)])) fn_i_strconv_AppendUint S_appU_small x := by
  rintro ⟨dst, i, b, ⟨⟩⟩ hpre hok
  try dsimp only [Dat, SDat, dflt, Ty.size, keepS, bkUpd, Gv.bk, backS, wayA, maxI, minI, negI] at hpre
  have hln := shLn_of _ hok; replace hok := Hd.mk hok; try simp only [shLn, datLn, inRng, lo, hi, maxLen, true_and, and_true] at hln
  have hd := decDigits_le i.toNat (by omega)
  conv => whnf
  repeat' (first | (with_reducible refine And.intro ?_ ?_) | ((with_reducible refine gv_more ?_); conv => whnf) | (intro hc; (try dsimp only [Dat, SDat, dflt, Ty.size, keepS, bkUpd, Gv.bk, backS, wayA, maxI, minI, negI] at hc); (try simp only [Int.toNat_natCast, Int.toNat_zero, Int.toNat_one, Classical.not_not, boolOf_true, decide_eq_true_eq, decide_eq_false_iff_not, ne_eq, true_implies, not_true_eq_false, not_false_eq_true, Bool.not_eq_true, Prod.mk.injEq, and_true, true_and, forall_const, preA_f, selB_0, selB_1, boolOf_eq_false, rep1, rep2, rep3, List.length_set, List.length_append, List.length_map, List.length_cons, List.length_nil, List.length_replicate, Nat.zero_add, Nat.add_zero] at hc)))
  all_goals (try ((fail_if_success refine Exists.intro ([] : List (Nat × Sh)) ?_); (fail_if_success refine Exists.intro (0 : Nat) (Exists.intro (_ : Alt _) ?_)); (try dsimp only [Dat, SDat, dflt, Ty.size, keepS, bkUpd, Gv.bk, backS, wayA, maxI, minI, negI]); (try simp only [Int.toNat_natCast, Int.toNat_zero, Int.toNat_one, Classical.not_not, boolOf_true, decide_eq_true_eq, decide_eq_false_iff_not, ne_eq, true_implies, not_true_eq_false, not_false_eq_true, Bool.not_eq_true, Prod.mk.injEq, and_true, true_and, forall_const, preA_f, selB_0, selB_1, boolOf_eq_false, rep1, rep2, rep3, List.length_set, List.length_append, List.length_map, List.length_cons, List.length_nil, List.length_replicate, Nat.zero_add, Nat.add_zero]); first | done | exact trivial | rfl | omega | exact boolOf_eq _ | (simp only [allP, lo, hi, room, true_and, and_true, implies_true]; done) | ((try simp only [allP, lo, hi, room, true_and, and_true, implies_true]); (repeat' (first | (with_reducible refine And.intro ?_ ?_) | ((with_reducible refine preA_t ?_ ?_); rotate_left; (focus (repeat (first | exact trivial | ((conv => whnf); refine And.intro (by rfl) ?_))))) | intro hv)) <;> (try omega))))
set_option maxRecDepth 100000 in
theorem ok_appU_small : SpecOK SP glob fi_i_strconv_AppendUint S_appU_small := mk_ok (c := (cf_i_strconv_AppendUint (Fl [(fi_i_strconv_small, S_i_strconv_small)]))) (tab_ok _) mix_ok wf_i_strconv_AppendUint (by decide) (.cons ok_i_strconv_small .nil) (fun x hx => Nat.zero_lt_one) g_appU_small

theorem env_ok : (Env.mk tab []).ok SP = true := tab_ok []
theorem env_by : (Env.mk tab []).ty (lays288_ren.t 37) = some (.sl tBy, ((Env.mk tab []).ty (lays288_ren.t 37)).elim 0 (fun p => p.2)) := rfl
@[reducible] noncomputable def S_i_strconv_AppendUint : Spec := { ins := .cons (.spare tBy) (.cons (.d tU64) (.cons (.d tInt) .nil)), pre := fun x => x.2.2.1 = 10 ∧ List.length x.1 ≤ 1100000000, alts := [{ outs := .cons (.spare tBy) .nil, res := fun x => (x.1 ++ digU x.2.1.toNat, ()) }] }
theorem ok_i_strconv_AppendUint : SpecOK SP glob fi_i_strconv_AppendUint S_i_strconv_AppendUint :=
  SpecOK.either (q := fun (x : List Int × Int × Int × Unit) => x.2.1 < 100) ok_appU_small (appU_big lays288 env_ok env_by wf_i_strconv_AppendUint rfl)

@[reducible] noncomputable def S_i_strconv_AppendInt : Spec := { ins := (.cons (.spare tBy) (.cons (.d tInt) (.cons (.d tInt) .nil))), pre := (fun x => (fun dst i b => (b = 10 ∧ dst.length ≤ 1100000000) ∧ 0 ≤ i) x.1 x.2.1 x.2.2.1), alts := [{ outs := (.cons (.spare tBy) .nil), res := (fun x => (fun dst i b => (dst ++ dig i, ())) x.1 x.2.1 x.2.2.1) }] }
set_option maxRecDepth 100000 in
set_option maxHeartbeats 4000000 in
theorem g_i_strconv_AppendInt : ∀ x, S_i_strconv_AppendInt.pre x → shOK S_i_strconv_AppendInt.ins x → fnGoal (cf_i_strconv_AppendInt (Fl [(fi_i_strconv_AppendUint, S_i_strconv_AppendUint)])) fn_i_strconv_AppendInt S_i_strconv_AppendInt x := by
  rintro ⟨dst, i, b, ⟨⟩⟩ hpre hok
  try dsimp only [Dat, SDat, dflt, Ty.size, keepS, bkUpd, Gv.bk, backS, wayA, maxI, minI, negI] at hpre
  have hln := shLn_of _ hok; replace hok := Hd.mk hok; try simp only [shLn, datLn, inRng, lo, hi, maxLen, true_and, and_true] at hln
  obtain ⟨n, rfl⟩ : ∃ n : Nat, i = (n : Int) := ⟨i.toNat, (Int.toNat_of_nonneg hpre.2).symm⟩
  conv => whnf
  repeat' (first | (with_reducible refine And.intro ?_ ?_) | ((with_reducible refine gv_more ?_); conv => whnf) | (intro hc; (try dsimp only [Dat, SDat, dflt, Ty.size, keepS, bkUpd, Gv.bk, backS, wayA, maxI, minI, negI] at hc); (try simp only [Int.toNat_natCast, Int.toNat_zero, Int.toNat_one, Classical.not_not, boolOf_true, decide_eq_true_eq, decide_eq_false_iff_not, ne_eq, true_implies, not_true_eq_false, not_false_eq_true, Bool.not_eq_true, Prod.mk.injEq, and_true, true_and, forall_const, preA_f, selB_0, selB_1, boolOf_eq_false, rep1, rep2, rep3, List.length_set, List.length_append, List.length_map, List.length_cons, List.length_nil, List.length_replicate, Nat.zero_add, Nat.add_zero] at hc)))
  all_goals (try ((fail_if_success refine Exists.intro ([] : List (Nat × Sh)) ?_); (fail_if_success refine Exists.intro (0 : Nat) (Exists.intro (_ : Alt _) ?_)); (try dsimp only [Dat, SDat, dflt, Ty.size, keepS, bkUpd, Gv.bk, backS, wayA, maxI, minI, negI]); (try simp only [Int.toNat_natCast, Int.toNat_zero, Int.toNat_one, Classical.not_not, boolOf_true, decide_eq_true_eq, decide_eq_false_iff_not, ne_eq, true_implies, not_true_eq_false, not_false_eq_true, Bool.not_eq_true, Prod.mk.injEq, and_true, true_and, forall_const, preA_f, selB_0, selB_1, boolOf_eq_false, rep1, rep2, rep3, List.length_set, List.length_append, List.length_map, List.length_cons, List.length_nil, List.length_replicate, Nat.zero_add, Nat.add_zero]); first | done | exact trivial | rfl | omega | exact boolOf_eq _ | (simp only [allP, lo, hi, room, true_and, and_true, implies_true]; done) | ((try simp only [allP, lo, hi, room, true_and, and_true, implies_true]); (repeat' (first | (with_reducible refine And.intro ?_ ?_) | ((with_reducible refine preA_t ?_ ?_); rotate_left; (focus (repeat (first | exact trivial | ((conv => whnf); refine And.intro (by rfl) ?_))))) | intro hv)) <;> (try omega))))
set_option maxRecDepth 100000 in
theorem ok_i_strconv_AppendInt : SpecOK SP glob fi_i_strconv_AppendInt S_i_strconv_AppendInt := mk_ok (c := (cf_i_strconv_AppendInt (Fl [(fi_i_strconv_AppendUint, S_i_strconv_AppendUint)]))) (tab_ok _) mix_ok wf_i_strconv_AppendInt (by decide) (.cons ok_i_strconv_AppendUint .nil) (fun x hx => Nat.zero_lt_one) g_i_strconv_AppendInt

@[reducible] noncomputable def S_strconv_AppendInt : Spec := { ins := (.cons (.spare tBy) (.cons (.d tInt) (.cons (.d tInt) .nil))), pre := (fun x => (fun dst i b => (b = 10 ∧ dst.length ≤ 1100000000) ∧ 0 ≤ i) x.1 x.2.1 x.2.2.1), alts := [{ outs := (.cons (.spare tBy) .nil), res := (fun x => (fun dst i b => (dst ++ dig i, ())) x.1 x.2.1 x.2.2.1) }] }
set_option maxRecDepth 100000 in
set_option maxHeartbeats 4000000 in
theorem g_strconv_AppendInt : ∀ x, S_strconv_AppendInt.pre x → shOK S_strconv_AppendInt.ins x → fnGoal (cf_strconv_AppendInt (Fl [(fi_i_strconv_AppendInt, S_i_strconv_AppendInt)])) fn_strconv_AppendInt S_strconv_AppendInt x := by
  rintro ⟨dst, i, b, ⟨⟩⟩ hpre hok
  try dsimp only [Dat, SDat, dflt, Ty.size, keepS, bkUpd, Gv.bk, backS, wayA, maxI, minI, negI] at hpre
  have hln := shLn_of _ hok; replace hok := Hd.mk hok; try simp only [shLn, datLn, inRng, lo, hi, maxLen, true_and, and_true] at hln
  conv => whnf
  repeat' (first | (with_reducible refine And.intro ?_ ?_) | ((with_reducible refine gv_more ?_); conv => whnf) | (intro hc; (try dsimp only [Dat, SDat, dflt, Ty.size, keepS, bkUpd, Gv.bk, backS, wayA, maxI, minI, negI] at hc); (try simp only [Int.toNat_natCast, Int.toNat_zero, Int.toNat_one, Classical.not_not, boolOf_true, decide_eq_true_eq, decide_eq_false_iff_not, ne_eq, true_implies, not_true_eq_false, not_false_eq_true, Bool.not_eq_true, Prod.mk.injEq, and_true, true_and, forall_const, preA_f, selB_0, selB_1, boolOf_eq_false, rep1, rep2, rep3, List.length_set, List.length_append, List.length_map, List.length_cons, List.length_nil, List.length_replicate, Nat.zero_add, Nat.add_zero] at hc)))
  all_goals (try ((fail_if_success refine Exists.intro ([] : List (Nat × Sh)) ?_); (fail_if_success refine Exists.intro (0 : Nat) (Exists.intro (_ : Alt _) ?_)); (try dsimp only [Dat, SDat, dflt, Ty.size, keepS, bkUpd, Gv.bk, backS, wayA, maxI, minI, negI]); (try simp only [Int.toNat_natCast, Int.toNat_zero, Int.toNat_one, Classical.not_not, boolOf_true, decide_eq_true_eq, decide_eq_false_iff_not, ne_eq, true_implies, not_true_eq_false, not_false_eq_true, Bool.not_eq_true, Prod.mk.injEq, and_true, true_and, forall_const, preA_f, selB_0, selB_1, boolOf_eq_false, rep1, rep2, rep3, List.length_set, List.length_append, List.length_map, List.length_cons, List.length_nil, List.length_replicate, Nat.zero_add, Nat.add_zero]); first | done | exact trivial | rfl | omega | exact boolOf_eq _ | (simp only [allP, lo, hi, room, true_and, and_true, implies_true]; done) | ((try simp only [allP, lo, hi, room, true_and, and_true, implies_true]); (repeat' (first | (with_reducible refine And.intro ?_ ?_) | ((with_reducible refine preA_t ?_ ?_); rotate_left; (focus (repeat (first | exact trivial | ((conv => whnf); refine And.intro (by rfl) ?_))))) | intro hv)) <;> (try omega))))
set_option maxRecDepth 100000 in
theorem ok_strconv_AppendInt : SpecOK SP glob fi_strconv_AppendInt S_strconv_AppendInt := mk_ok (c := (cf_strconv_AppendInt (Fl [(fi_i_strconv_AppendInt, S_i_strconv_AppendInt)]))) (tab_ok _) mix_ok wf_strconv_AppendInt (by decide) (.cons ok_i_strconv_AppendInt .nil) (fun x hx => Nat.zero_lt_one) g_strconv_AppendInt
end Go.Gv
