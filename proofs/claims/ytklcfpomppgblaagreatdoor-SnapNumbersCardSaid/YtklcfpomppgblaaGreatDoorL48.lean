/- Chapter 48: the law's example. -/
import Derived.Test.YtklcfpomppgblaaGreatDoorC48e
set_option linter.all false
namespace Go.Gv
open Go Go.Proofs Go.Proofs.YtklcfpomppgblaaGreatDoor
set_option maxRecDepth 100000
set_option maxHeartbeats 4000000
theorem SpecOK.pin {P : Program} {gl : Glob} {f : FuncId} {ins o : Sh} {pre pre' : SDat ins → Prop} {res res' : SDat ins → SDat o} {upd upd' : SDat ins → SDat (backS ins)} {ro nz : Bool}
    (h : SpecOK P gl f { ins := ins, pre := pre, alts := [{ outs := o, res := res, upd := upd }], ro := ro, noisy := nz }) (hp : ∀ x, pre' x → pre x ∧ res x = res' x ∧ upd x = upd' x) :
    SpecOK P gl f { ins := ins, pre := pre', alts := [{ outs := o, res := res', upd := upd' }], ro := ro, noisy := nz } := by
  refine ⟨h.1, fun x hx => ⟨_, rfl, fun C β G args hg hz H ha => ?_⟩⟩
  obtain ⟨h1, h2, h3⟩ := hp x hx
  obtain ⟨A, hA, hrun⟩ := h.2 x h1
  have hA' : A = { outs := o, res := res, upd := upd } := (Option.some.inj hA).symm
  subst hA'
  refine (hrun C β G args hg hz H ha).mono fun e w' hr => ?_
  cases e with
  | returned v =>
    obtain ⟨⟨hp', β', G', L, vs, nx, y, ns, ex, nx1, z, ms, ey, nx2, a1, a2, a3, a4, a5, a6, a7, a8, a9, a10, a11, a12, a13⟩⟩ := hr
    refine ⟨⟨hp', β', G', L, vs, nx, y, ns, ex, nx1, z, ms, ey, nx2, a1, a2, a3, a4, a5, a6, a7, a8, a9, a10, ?_, ?_, a13⟩⟩
    · rw [a11]; exact h2
    · rw [a12]
      cases ro
      · exact h3
      · rfl
  | _ => exact hr
@[reducible] noncomputable def S_ref11_Same : Spec := { ins := (.cons (.d tDel) (.cons (.d tDel) .nil)), pre := (fun x => (fun a b => a = del0 ∧ b = del0) x.1 x.2.1), alts := [{ outs := (.cons (.d .bool) .nil), res := (fun x => (fun a b => (true, ())) x.1 x.2.1) }] }
noncomputable def c_ref11_Same : Cf := (cf_ref11_Same (Fl []))
theorem g_ref11_Same : ∀ x, S_ref11_Same.pre x → shOK S_ref11_Same.ins x → fnGoal c_ref11_Same fn_ref11_Same S_ref11_Same x := by
  rintro ⟨a, b, ⟨⟩⟩ hpre hok
  try dsimp only [Dat,SDat,dflt,Ty.size,keepS,bkUpd,Gv.bk,backS,wayA,maxI,minI,negI] at hpre
  have hln := shLn_of _ hok; replace hok := Hd.mk hok; try simp only [shLn, datLn, inRng, lo, hi, maxLen, true_and, and_true] at hln
  rcases hpre with ⟨h1, h2⟩
  subst h1 h2
  clear hln
  first | refine fn_goal (w_head ?_)
  intro Kz kz;(conv=>whnf);(try dsimp +instances only);refine kz _ ?_;clear kz Kz;(conv=>(arg 2;whnf))
  repeat' (first|(with_reducible first|refine an ?_ ?_|((try refine gm ?_);refine st ?_))|((try (with_reducible refine gm ?_));first|((with_reducible show Kz _);(try dsimp +instances only);(with_reducible refine kz _ ?_);clear kz Kz)|((with_reducible refine sr ?_);intro Kz kz;conv=>whnf)|((with_reducible refine cd ?_);(conv=>arg 2;whnf);(with_reducible refine st ?_))|refine blockK_y (by rfl) ?_|refine blockR_y (by rfl) ?_|((with_reducible refine sw ?_);conv=>whnf))|((with_reducible refine gm ?_);conv=>whnf)|(intro hc;(try dsimp +instances only[Dat,SDat,dflt,Ty.size,keepS,bkUpd,Gv.bk,backS,wayA,maxI,minI,negI]at hc);try simp only[LS]at hc))
  all_goals (try ((fail_if_success (with_reducible refine nl ?_));(try dsimp only[Dat,SDat,dflt,Ty.size,keepS,bkUpd,Gv.bk,backS,wayA,maxI,minI,negI]);(try simp only[LS]);first|done|exact dsc|((try simp only[allP,lo,hi,room,true_and,and_true,implies_true]);(repeat' (first|refine an ?_ ?_|((with_reducible refine preA_t ?_ ?_);rotate_left;exact sameP_t)|intro hv))<;>(try omega))))
  · exfalso; simp at hc
  refine w_loop [(5, .d tInt)] [] (fun y => y.1.1 = 0) (fun y => 0) ?_
  conv => whnf
  refine And.intro ?_ ?_
  · rfl
  rintro ⟨⟨_, ⟨⟩⟩, ⟨⟩⟩ hj
  dsimp only [SDat, Dat] at hj
  subst hj
  repeat' (first|(with_reducible first|refine an ?_ ?_|((try refine gm ?_);refine st ?_))|((try (with_reducible refine gm ?_));first|((with_reducible show Kz _);(try dsimp +instances only);(with_reducible refine kz _ ?_);clear kz Kz)|((with_reducible refine sr ?_);intro Kz kz;conv=>whnf)|((with_reducible refine cd ?_);(conv=>arg 2;whnf);(with_reducible refine st ?_))|refine blockK_y (by rfl) ?_|refine blockR_y (by rfl) ?_|((with_reducible refine sw ?_);conv=>whnf))|((with_reducible refine gm ?_);conv=>whnf)|(intro hc;(try dsimp +instances only[Dat,SDat,dflt,Ty.size,keepS,bkUpd,Gv.bk,backS,wayA,maxI,minI,negI]at hc);try simp only[LS]at hc))
  all_goals (try ((fail_if_success (with_reducible refine nl ?_));(try dsimp only[Dat,SDat,dflt,Ty.size,keepS,bkUpd,Gv.bk,backS,wayA,maxI,minI,negI]);(try simp only[LS]);first|done|exact dsc|((try simp only[allP,lo,hi,room,true_and,and_true,implies_true]);(repeat' (first|refine an ?_ ?_|((with_reducible refine preA_t ?_ ?_);rotate_left;exact sameP_t)|intro hv))<;>(try omega))))
theorem ok_ref11_Same : SpecOK SP glob fi_ref11_Same S_ref11_Same := mk_ok (c := c_ref11_Same) (tab_ok _) mix_ok wf_ref11_Same (by decide) .nil (fun x hx => Nat.zero_lt_one) g_ref11_Same
@[reducible] noncomputable def S_ref13_Same : Spec := { ins := (.cons (.d tEv) (.cons (.d tEv) .nil)), pre := (fun x => (fun a b => a = ev1 ∧ b = ev1) x.1 x.2.1), alts := [{ outs := (.cons (.d .bool) .nil), res := (fun x => (fun a b => (true, ())) x.1 x.2.1) }] }
noncomputable def c_ref13_Same : Cf := (cf_ref13_Same (Fl [(fi_ref11_Same, S_ref11_Same)]))
theorem g_ref13_Same : ∀ x, S_ref13_Same.pre x → shOK S_ref13_Same.ins x → fnGoal c_ref13_Same fn_ref13_Same S_ref13_Same x := by
  rintro ⟨a, b, ⟨⟩⟩ hpre hok
  try dsimp only [Dat,SDat,dflt,Ty.size,keepS,bkUpd,Gv.bk,backS,wayA,maxI,minI,negI] at hpre
  have hln := shLn_of _ hok; replace hok := Hd.mk hok; try simp only [shLn, datLn, inRng, lo, hi, maxLen, true_and, and_true] at hln
  rcases hpre with ⟨h1, h2⟩
  subst h1 h2
  clear hln
  first | refine fn_goal (w_head ?_)
  intro Kz kz;(conv=>whnf);(try dsimp +instances only);refine kz _ ?_;clear kz Kz;(conv=>(arg 2;whnf))
  repeat' (first|(with_reducible first|refine an ?_ ?_|((try refine gm ?_);refine st ?_))|((try (with_reducible refine gm ?_));first|((with_reducible show Kz _);(try dsimp +instances only);(with_reducible refine kz _ ?_);clear kz Kz)|((with_reducible refine sr ?_);intro Kz kz;conv=>whnf)|((with_reducible refine cd ?_);(conv=>arg 2;whnf);(with_reducible refine st ?_))|refine blockK_y (by rfl) ?_|refine blockR_y (by rfl) ?_|((with_reducible refine sw ?_);conv=>whnf))|((with_reducible refine gm ?_);conv=>whnf)|(intro hc;(try dsimp +instances only[Dat,SDat,dflt,Ty.size,keepS,bkUpd,Gv.bk,backS,wayA,maxI,minI,negI]at hc);try simp only[LS]at hc))
  all_goals (try ((fail_if_success (with_reducible refine nl ?_));(try dsimp only[Dat,SDat,dflt,Ty.size,keepS,bkUpd,Gv.bk,backS,wayA,maxI,minI,negI]);(try simp only[LS]);first|done|exact dsc|((try simp only[allP,lo,hi,room,true_and,and_true,implies_true]);(repeat' (first|refine an ?_ ?_|((with_reducible refine preA_t ?_ ?_);rotate_left;exact sameP_t)|intro hv))<;>(try omega))))
theorem ok_ref13_Same : SpecOK SP glob fi_ref13_Same S_ref13_Same := mk_ok (c := c_ref13_Same) (tab_ok _) mix_ok wf_ref13_Same (by decide) (.cons ok_ref11_Same .nil) (fun x hx => Nat.zero_lt_one) g_ref13_Same
@[reducible] noncomputable def S_ref13_Lists : Spec := { ins := (.cons (.d (.sl tEv)) (.cons (.d (.sl tEv)) .nil)), pre := (fun x => (fun a b => a = [ev1] ∧ b = [ev1]) x.1 x.2.1), alts := [{ outs := (.cons (.d .bool) .nil), res := (fun x => (fun a b => (true, ())) x.1 x.2.1) }] }
noncomputable def c_ref13_Lists : Cf := (cf_ref13_Lists (Fl [(fi_ref13_Same, S_ref13_Same)]))
theorem g_ref13_Lists : ∀ x, S_ref13_Lists.pre x → shOK S_ref13_Lists.ins x → fnGoal c_ref13_Lists fn_ref13_Lists S_ref13_Lists x := by
  rintro ⟨a, b, ⟨⟩⟩ hpre hok
  try dsimp only [Dat,SDat,dflt,Ty.size,keepS,bkUpd,Gv.bk,backS,wayA,maxI,minI,negI] at hpre
  have hln := shLn_of _ hok; replace hok := Hd.mk hok; try simp only [shLn, datLn, inRng, lo, hi, maxLen, true_and, and_true] at hln
  rcases hpre with ⟨h1, h2⟩
  subst h1 h2
  clear hln
  first | refine fn_goal (w_head ?_)
  intro Kz kz;(conv=>whnf);(try dsimp +instances only);refine kz _ ?_;clear kz Kz;(conv=>(arg 2;whnf))
  repeat' (first|(with_reducible first|refine an ?_ ?_|((try refine gm ?_);refine st ?_))|((try (with_reducible refine gm ?_));first|((with_reducible show Kz _);(try dsimp +instances only);(with_reducible refine kz _ ?_);clear kz Kz)|((with_reducible refine sr ?_);intro Kz kz;conv=>whnf)|((with_reducible refine cd ?_);(conv=>arg 2;whnf);(with_reducible refine st ?_))|refine blockK_y (by rfl) ?_|refine blockR_y (by rfl) ?_|((with_reducible refine sw ?_);conv=>whnf))|((with_reducible refine gm ?_);conv=>whnf)|(intro hc;(try dsimp +instances only[Dat,SDat,dflt,Ty.size,keepS,bkUpd,Gv.bk,backS,wayA,maxI,minI,negI]at hc);try simp only[LS]at hc))
  all_goals (try ((fail_if_success (with_reducible refine nl ?_));(try dsimp only[Dat,SDat,dflt,Ty.size,keepS,bkUpd,Gv.bk,backS,wayA,maxI,minI,negI]);(try simp only[LS]);first|done|exact dsc|((try simp only[allP,lo,hi,room,true_and,and_true,implies_true]);(repeat' (first|refine an ?_ ?_|((with_reducible refine preA_t ?_ ?_);rotate_left;exact sameP_t)|intro hv))<;>(try omega))))
  refine w_loop [(5, .d tInt)] [] (fun y => ∃ k : Nat, y.1.1 = (k : Int) ∧ k ≤ 1) (fun y => 1 - y.1.1.toNat) ?_
  conv => whnf
  refine And.intro ?_ ?_
  · exact ⟨0, by simp⟩
  rintro ⟨⟨_, ⟨⟩⟩, ⟨⟩⟩ ⟨k, rfl, hk⟩
  repeat' (first|(with_reducible first|refine an ?_ ?_|((try refine gm ?_);refine st ?_))|((try (with_reducible refine gm ?_));first|((with_reducible show Kz _);(try dsimp +instances only);(with_reducible refine kz _ ?_);clear kz Kz)|((with_reducible refine sr ?_);intro Kz kz;conv=>whnf)|((with_reducible refine cd ?_);(conv=>arg 2;whnf);(with_reducible refine st ?_))|refine blockK_y (by rfl) ?_|refine blockR_y (by rfl) ?_|((with_reducible refine sw ?_);conv=>whnf))|((with_reducible refine gm ?_);conv=>whnf)|(intro hc;(try dsimp +instances only[Dat,SDat,dflt,Ty.size,keepS,bkUpd,Gv.bk,backS,wayA,maxI,minI,negI]at hc);try simp only[LS]at hc))
  all_goals (try ((fail_if_success (with_reducible refine nl ?_));(try dsimp only[Dat,SDat,dflt,Ty.size,keepS,bkUpd,Gv.bk,backS,wayA,maxI,minI,negI]);(try simp only[LS]);first|done|exact dsc|((try simp only[allP,lo,hi,room,true_and,and_true,implies_true]);(repeat' (first|refine an ?_ ?_|((with_reducible refine preA_t ?_ ?_);rotate_left;exact sameP_t)|intro hv))<;>(try omega))))
  · have h0 : k = 0 := by omega
    subst h0; rfl
  · have h0 : k = 0 := by omega
    subst h0; rfl
  · exact ⟨k + 1, by omega, by omega⟩
theorem ok_ref13_Lists : SpecOK SP glob fi_ref13_Lists S_ref13_Lists := mk_ok (c := c_ref13_Lists) (tab_ok _) mix_ok wf_ref13_Lists (by decide) (.cons ok_ref13_Same .nil) (fun x hx => Nat.zero_lt_one) g_ref13_Lists
@[reducible] noncomputable def S_law48_erase : Spec := { ins := (.cons (.d tInt) (.cons (.d .str) .nil)), pre := fun _ => True, alts := [{ outs := (.cons (.d tEv) .nil), res := (fun x => (fun n p => (erE n p, ())) x.1 x.2.1) }] }
noncomputable def c_law48_erase : Cf := (cf_law48_erase (Fl []))
theorem g_law48_erase : ∀ x, S_law48_erase.pre x → shOK S_law48_erase.ins x → fnGoal c_law48_erase fn_law48_erase S_law48_erase x := by
  rintro ⟨n, p, ⟨⟩⟩ hpre hok
  clear hpre
  have hln := shLn_of _ hok; replace hok := Hd.mk hok; try simp only [shLn, datLn, inRng, lo, hi, maxLen, true_and, and_true] at hln
  first | refine fn_goal (w_head ?_)
  intro Kz kz;(conv=>whnf);(try dsimp +instances only);refine kz _ ?_;clear kz Kz;(conv=>(arg 2;whnf))
  repeat' (first|(with_reducible first|refine an ?_ ?_|((try refine gm ?_);refine st ?_))|((try (with_reducible refine gm ?_));first|((with_reducible show Kz _);(try dsimp +instances only);(with_reducible refine kz _ ?_);clear kz Kz)|((with_reducible refine sr ?_);intro Kz kz;conv=>whnf)|((with_reducible refine cd ?_);(conv=>arg 2;whnf);(with_reducible refine st ?_))|refine blockK_y (by rfl) ?_|refine blockR_y (by rfl) ?_|((with_reducible refine sw ?_);conv=>whnf))|((with_reducible refine gm ?_);conv=>whnf)|(intro hc;(try dsimp +instances only[Dat,SDat,dflt,Ty.size,keepS,bkUpd,Gv.bk,backS,wayA,maxI,minI,negI]at hc);try simp only[LS]at hc))
  all_goals (try ((fail_if_success (with_reducible refine nl ?_));(try dsimp only[Dat,SDat,dflt,Ty.size,keepS,bkUpd,Gv.bk,backS,wayA,maxI,minI,negI]);(try simp only[LS]);first|done|exact dsc|((try simp only[allP,lo,hi,room,true_and,and_true,implies_true]);(repeat' (first|refine an ?_ ?_|((with_reducible refine preA_t ?_ ?_);rotate_left;exact sameP_t)|intro hv))<;>(try omega))))
theorem ok_law48_erase : SpecOK SP glob fi_law48_erase S_law48_erase := mk_ok (c := c_law48_erase) (tab_ok _) mix_ok wf_law48_erase (by decide) .nil (fun x hx => Nat.zero_lt_one) g_law48_erase
abbrev StD : Type := Int × VsD × Int × OmD × Unit
abbrev V0 : VsD := [(0, [])]
abbrev V1 : VsD := [(0, []), (1, [ev1])]
abbrev V2 : VsD := [(0, []), (1, [ev1]), (2, [ev1, ev2])]
abbrev V3 : VsD := [(1, [ev1]), (2, [ev1, ev2])]
abbrev V4 : VsD := [(2, [ev1, ev2])]
def numW (l : List EvD) : Int := (l.getD 0 ev0).2.1.2.1
@[reducible] noncomputable def S_hWrite : Spec := { ins := (.cons (.box (.cons (.d tInt) (.cons (.map tInt (.sl tEv)) (.cons (.d tInt) (.cons (.map tInt tInt) .nil))))) (.cons (.d (.sl tEv)) .nil)), pre := fun x => (x.1 = ((0, V0, 0, [], ()) : StD) ∧ x.2.1 = [ev1]) ∨ (x.1 = ((1, V1, 1, [(1, 1)], ()) : StD) ∧ x.2.1 = [ev2]) ∨ (x.1 = ((2, V4, 1, [], ()) : StD) ∧ x.2.1 = [ev0]), alts := [{ outs := (.cons (.d tInt) (.cons (.d tInt) .nil)), res := fun x => (numW x.2.1, if numW x.2.1 = 0 then 1 else 0, ()), upd := fun x => ((if numW x.2.1 = 1 then 1 else 2, if numW x.2.1 = 1 then V1 else if numW x.2.1 = 2 then V2 else V4, if numW x.2.1 = 1 then 0 else 1, if numW x.2.1 = 2 then [(1, 1)] else [], ()), x.2.1, ()) }], noisy := true }
theorem ok_hWrite : SpecOK SP glob fi_snap_Snap_Write S_hWrite := by
  refine SpecOK.pin ok_snap_Snap_Write ?_
  rintro ⟨⟨n, vs, o, om, ⟨⟩⟩, l, ⟨⟩⟩ (⟨h1, h2⟩ | ⟨h1, h2⟩ | ⟨h1, h2⟩)
  · cases h1; cases h2
    exact ⟨⟨fun e he => .inl (List.mem_singleton.1 he), fun _ => .inl rfl, by decide, by decide, by decide⟩, rfl, rfl⟩
  · cases h1; cases h2
    exact ⟨⟨fun e he => .inr (.inl (List.mem_singleton.1 he)), fun _ => .inr rfl, by decide, by decide, by decide⟩, rfl, rfl⟩
  · cases h1; cases h2
    exact ⟨⟨fun e he => .inr (.inr (List.mem_singleton.1 he)), fun h => absurd h (by decide), by decide, by decide, by decide⟩, rfl, rfl⟩
@[reducible] noncomputable def S_hOpen : Spec := { ins := (.cons (.box (.cons (.d tInt) (.cons (.map tInt (.sl tEv)) (.cons (.d tInt) (.cons (.map tInt tInt) .nil))))) .nil), pre := fun x => x.1 = ((1, V1, 0, [], ()) : StD), alts := [{ outs := (.cons (.d tInt) (.cons (.d tInt) .nil)), res := fun _ => (1, 0, ()), upd := fun _ => ((1, V1, 1, [(1, 1)], ()), ()) }] }
theorem ok_hOpen : SpecOK SP glob fi_snap_Snap_Open S_hOpen := by
  refine SpecOK.pin ok_snap_Snap_Open ?_
  rintro ⟨⟨n, vs, o, om, ⟨⟩⟩, ⟨⟩⟩ h1
  cases h1
  exact ⟨⟨by decide, by decide, by decide⟩, rfl, rfl⟩
theorem readOK {n : Nat} : ∀ {vs : VsD}, (∀ e ∈ vs, e.2.length ≤ n) → ∀ v : Int, ((@mget (Dat tInt) (Dat (.sl tEv)) (instDecidableEqDat tInt) vs v).getD []).length ≤ n
  | [], _, _ => Nat.zero_le _
  | (k, w) :: vs, h, v => by
    unfold mget
    split
    · exact h (k, w) List.mem_cons_self
    · exact readOK (fun e he => h e (List.mem_cons_of_mem _ he)) v
@[reducible] noncomputable def S_hRead : Spec := { ins := (.cons (.box (.cons (.d tInt) (.cons (.map tInt (.sl tEv)) (.cons (.d tInt) (.cons (.map tInt tInt) .nil))))) (.cons (.d tInt) .nil)), pre := fun x => (x.1 = ((2, V2, 1, [(1, 1)], ()) : StD) ∨ x.1 = ((2, V3, 1, [], ()) : StD)) ∧ x.2.1 = 1, alts := [{ outs := .cons (.d (.sl tEv)) (.cons (.d tInt) (.cons (.d tInt) .nil)), res := fun x => (if List.length x.1.2.2.2.1 = 1 then [ev1] else [], if List.length x.1.2.2.2.1 = 1 then 1 else 0, if List.length x.1.2.2.2.1 = 1 then 0 else 22, ()) }], ro := true }
theorem ok_hRead : SpecOK SP glob fi_snap_Snap_Read S_hRead := by
  refine SpecOK.pin ok_snap_Snap_Read ?_
  rintro ⟨⟨n, vs, o, om, ⟨⟩⟩, k, ⟨⟩⟩ ⟨h1 | h1, h2⟩
  · cases h1; cases h2
    exact ⟨fun v => readOK (by decide) v, rfl, rfl⟩
  · cases h1; cases h2
    exact ⟨fun v => readOK (by decide) v, rfl, rfl⟩
@[reducible] noncomputable def S_hClose : Spec := { ins := (.cons (.box (.cons (.d tInt) (.cons (.map tInt (.sl tEv)) (.cons (.d tInt) (.cons (.map tInt tInt) .nil))))) (.cons (.d tInt) .nil)), pre := fun x => x.1 = ((2, V3, 1, [(1, 1)], ()) : StD) ∧ x.2.1 = 1, alts := [{ outs := (.cons (.d tInt) .nil), res := fun _ => (0, ()), upd := fun x => ((2, V3, 1, [], ()), x.2.1, ()) }] }
theorem ok_hClose : SpecOK SP glob fi_snap_Snap_Close S_hClose := by
  refine SpecOK.pin ok_snap_Snap_Close ?_
  rintro ⟨⟨n, vs, o, om, ⟨⟩⟩, k, ⟨⟩⟩ ⟨h1, h2⟩
  cases h1; cases h2
  exact ⟨trivial, rfl, rfl⟩
@[reducible] noncomputable def S_hCollect : Spec := { ins := (.cons (.box (.cons (.d tInt) (.cons (.map tInt (.sl tEv)) (.cons (.d tInt) (.cons (.map tInt tInt) .nil))))) .nil), pre := fun x => x.1 = ((2, V2, 1, [(1, 1)], ()) : StD) ∨ x.1 = ((2, V3, 1, [], ()) : StD), alts := [{ outs := (.cons (.d tInt) .nil), res := fun x => (if List.length x.1.2.2.2.1 = 1 then 2 else 1, ()), upd := fun x => ((2, if List.length x.1.2.2.2.1 = 1 then V3 else V4, 1, x.1.2.2.2.1, ()), ()) }] }
theorem ok_hCollect : SpecOK SP glob fi_snap_Snap_Collect S_hCollect := by
  refine SpecOK.pin ok_snap_Snap_Collect ?_
  rintro ⟨⟨n, vs, o, om, ⟨⟩⟩, ⟨⟩⟩ (h1 | h1)
  · cases h1
    exact ⟨⟨by decide, by decide, by decide⟩, rfl, rfl⟩
  · cases h1
    exact ⟨⟨by decide, by decide, by decide⟩, rfl, rfl⟩
end Go.Gv
