/- Chapter 18: Keep's contract in other words. -/
import Derived.Test.YtnnifeeieoghfaaDoorL18
set_option linter.all false
namespace Go.Gv
open Go Go.Proofs Go.Proofs.YtnnifeeieoghfaaDoor

/-- A contract for a part of the arguments, where it says the same in other words. -/
theorem SpecOK.sub {P : Program} {gl : Glob} {f : FuncId} {ins outs : Sh} {pre pre' : SDat ins → Prop} {res : SDat ins → SDat outs} {upd : SDat ins → SDat (backS ins)} {ro : Bool} (h : SpecOK P gl f { ins := ins, pre := pre, alts := [{ outs := outs, res := res, upd := upd }], ro := ro }) {sel : SDat ins → Nat} {alts : List (Alt ins)}
    (hp : ∀ x, pre' x → pre x ∧ ∃ res' upd', alts[sel x]? = some { outs := outs, res := res', upd := upd' } ∧ res x = res' x ∧ upd x = upd' x) : SpecOK P gl f { ins := ins, pre := pre', sel := sel, alts := alts, ro := ro } := by
  refine ⟨h.1, fun x hx => ?_⟩
  obtain ⟨h1, res', upd', h0, h2, h3⟩ := hp x hx
  refine ⟨_, h0, fun C β G args hg H ha => ?_⟩
  obtain ⟨A, hA, hc⟩ := h.2 x h1
  have hAe : A = { outs := outs, res := res, upd := upd } := (Option.some.inj hA).symm
  subst hAe
  refine (hc C β G args hg H ha).mono fun e w' hr => ?_
  cases e with
  | returned v =>
    obtain ⟨hp', β', G', L, vs, nx, y, ns, ex, nx1, z, ms, ey, nx2, k1, k2, k3, k4, k5, k6, k7, k8, k9, k10, k11, k12, k13⟩ := hr.ex
    refine ⟨⟨hp', β', G', L, vs, nx, y, ns, ex, nx1, z, ms, ey, nx2, k1, k2, k3, k4, k5, k6, k7, k8, k9, k10, k11.trans h2, ?_, k13⟩⟩
    rw [k12]
    cases ro with
    | true => rfl
    | false => exact h3
  | panicked _ => exact hr
  | outgrown => exact hr
/-- Keep, of roots that are right. -/
@[reducible] noncomputable def S_keep_right : Spec := { ins := (.cons (.d tCirc) (.cons (.d (.sl tInt)) .nil)), pre := fun x => RightP x.1.1 x.2.1 ∧ SmallG x.1.1 ∧ List.length x.2.1 ≤ 1000000, alts := [{ outs := (.cons (.d tCirc) (.cons (.d (.sl tInt)) (.cons (.d tInt) .nil))), res := fun x => ((keepG x.1.1 x.2.1, ()), keepL x.1.1 x.2.1, (0 : Int), ()) }] }
theorem ok_keep_right : SpecOK SP glob fi_reap_Keep S_keep_right := SpecOK.sub ok_reap_Keep fun x hx => ⟨hx.2, _, _, rfl, by
  have hr := boolOf_true.2 hx.1
  dsimp only
  rw [if_pos hr, if_pos hr, if_pos hr], rfl⟩
/-- Keep, in two ways. -/
@[reducible] noncomputable def S_keep_two : Spec := { ins := (.cons (.d tCirc) (.cons (.d (.sl tInt)) .nil)), pre := fun x => SmallG x.1.1 ∧ List.length x.2.1 ≤ 1000000, sel := fun x => selB (boolOf (RightP x.1.1 x.2.1)), alts := [{ outs := (.cons (.d tCirc) (.cons (.d (.sl tInt)) (.cons (.d tInt) .nil))), res := fun _ => (([], ()), [], (1 : Int), ()) }, { outs := (.cons (.d tCirc) (.cons (.d (.sl tInt)) (.cons (.d tInt) .nil))), res := fun x => ((keepG x.1.1 x.2.1, ()), keepL x.1.1 x.2.1, (0 : Int), ()) }] }
theorem ok_keep_two : SpecOK SP glob fi_reap_Keep S_keep_two := SpecOK.sub ok_reap_Keep fun x hx => ⟨hx, by
  by_cases hR : RightP x.1.1 x.2.1
  · have hr := boolOf_true.2 hR
    refine ⟨_, _, by rw [hr]; rfl, ?_, rfl⟩
    dsimp only
    rw [if_pos hr, if_pos hr, if_pos hr]
  · have hr : ¬ boolOf (RightP x.1.1 x.2.1) = true := fun h => hR (boolOf_true.1 h)
    refine ⟨_, _, by rw [Bool.eq_false_iff.2 hr]; rfl, ?_, rfl⟩
    dsimp only
    rw [if_neg hr, if_neg hr, if_neg hr]⟩
/-- Step, in two ways. -/
@[reducible] noncomputable def S_step_two : Spec := { ins := .cons (.box (.cons (.d (.sl tGate)) (.cons (.spare tInt) (.cons (.map tInt .bool) (.cons (.spare tInt) .nil))))) (.cons (.d tInt) .nil), pre := S_reap_Sweep_Step.pre, sel := fun x => selB (boolOf (((stepF x.1.1 x.2.1.toNat (x.1.2.2.1, x.1.2.2.2.1))).2 = [])), alts := [{ outs := .cons (.d .bool) .nil, res := fun _ => (false, ()), upd := fun x => ((x.1.1, x.1.2.1, ((stepF x.1.1 x.2.1.toNat (x.1.2.2.1, x.1.2.2.2.1))).1, ((stepF x.1.1 x.2.1.toNat (x.1.2.2.1, x.1.2.2.2.1))).2, ()), x.2.1, ()) }, { outs := .cons (.d .bool) .nil, res := fun _ => (true, ()), upd := fun x => ((x.1.1, x.1.2.1, ((stepF x.1.1 x.2.1.toNat (x.1.2.2.1, x.1.2.2.2.1))).1, ((stepF x.1.1 x.2.1.toNat (x.1.2.2.1, x.1.2.2.2.1))).2, ()), x.2.1, ()) }] }
theorem ok_step_two : SpecOK SP glob fi_reap_Sweep_Step S_step_two := SpecOK.sub ok_reap_Sweep_Step fun x hx => ⟨hx, by
  by_cases hR : ((stepF x.1.1 x.2.1.toNat (x.1.2.2.1, x.1.2.2.2.1))).2 = []
  · refine ⟨_, _, by rw [boolOf_true.2 hR]; rfl, ?_, rfl⟩
    dsimp only
    rw [decide_eq_true hR]
  · refine ⟨_, _, by rw [boolOf_false.2 hR]; rfl, ?_, rfl⟩
    dsimp only
    rw [decide_eq_false hR]⟩
/-- Add, in two ways. -/
@[reducible] noncomputable def S_add_two : Spec := { ins := .cons (.box (.cons (.d (.sl tGate)) (.cons (.spare tInt) (.cons (.map tInt .bool) (.cons (.spare tInt) .nil))))) (.cons (.d tInt) .nil), pre := S_reap_Sweep_Add.pre, sel := fun x => selB (boolOf ((0 : Int) ≤ x.2.1 ∧ (x.2.1 : Int) < x.1.1.length)), alts := [{ outs := .cons (.d tInt) .nil, res := fun _ => ((1 : Int), ()), upd := fun x => ((x.1.1, x.1.2.1, x.1.2.2.1, x.1.2.2.2.1, ()), x.2.1, ()) }, { outs := .cons (.d tInt) .nil, res := fun _ => ((0 : Int), ()), upd := fun x => ((x.1.1, x.1.2.1 ++ [x.2.1], ((pushF (x.1.2.2.1, x.1.2.2.2.1) x.2.1)).1, ((pushF (x.1.2.2.1, x.1.2.2.2.1) x.2.1)).2, ()), x.2.1, ()) }] }
theorem ok_add_two : SpecOK SP glob fi_reap_Sweep_Add S_add_two := SpecOK.sub ok_reap_Sweep_Add fun x hx => ⟨hx, by
  by_cases hR : (0 : Int) ≤ x.2.1 ∧ (x.2.1 : Int) < x.1.1.length
  · refine ⟨_, _, by rw [boolOf_true.2 hR]; rfl, ?_, ?_⟩
    · dsimp only
      rw [if_pos hR]
    · dsimp only
      rw [if_pos hR, if_pos hR, if_pos hR]
      rfl
  · refine ⟨_, _, by rw [boolOf_false.2 hR]; rfl, ?_, ?_⟩
    · dsimp only
      rw [if_neg hR]
    · dsimp only
      rw [if_neg hR, if_neg hR, if_neg hR]
      rfl⟩
/-- Result, in two ways. -/
@[reducible] noncomputable def S_result_two : Spec := { ins := .cons (.box (.cons (.d (.sl tGate)) (.cons (.spare tInt) (.cons (.map tInt .bool) (.cons (.spare tInt) .nil))))) .nil, pre := S_reap_Sweep_Result.pre, sel := fun x => selB (boolOf (x.1.2.2.2.1 = [])), ro := true, alts := [{ outs := (.cons (.d tCirc) (.cons (.d (.sl tInt)) (.cons (.d tInt) .nil))), res := fun _ => (([], ()), [], (12 : Int), ()) }, { outs := (.cons (.d tCirc) (.cons (.d (.sl tInt)) (.cons (.d tInt) .nil))), res := fun x => ((pickG x.1.1 (ksM x.1.1 x.1.2.2.1) (fM (ksM x.1.1 x.1.2.2.1)) x.1.1.length, ()), x.1.2.1.map (fM (ksM x.1.1 x.1.2.2.1)), (0 : Int), ()) }] }
theorem ok_result_two : SpecOK SP glob fi_reap_Sweep_Result S_result_two := SpecOK.sub ok_reap_Sweep_Result fun x hx => ⟨hx, by
  by_cases hR : x.1.2.2.2.1 = []
  · refine ⟨_, _, by rw [boolOf_true.2 hR]; rfl, ?_, rfl⟩
    dsimp only
    rw [if_pos hR, if_pos hR, if_pos hR]
  · refine ⟨_, _, by rw [boolOf_false.2 hR]; rfl, ?_, rfl⟩
    dsimp only
    rw [if_neg hR, if_neg hR, if_neg hR]⟩
end Go.Gv
