/- Where a list's elements are found; comparisons of numbers. -/
import Derived.Test.YtklcfpomppgblaaGreatDoorB0
set_option linter.all false
namespace Go.Gv
open Go Go.Proofs Go.Proofs.YtklcfpomppgblaaGreatDoor
set_option maxRecDepth 100000
set_option maxHeartbeats 4000000
noncomputable def findI {α : Type} (p : α → Bool) (l : List α) : Int := if l.any p = true then (l.findIdx p : Int) else -1
theorem findI_ge {α : Type} {p : α → Bool} {l : List α} : 0 ≤ findI p l ↔ l.any p = true := by
  unfold findI; split <;> simp_all <;> omega
theorem findI_miss {α : Type} {p : α → Bool} {l : List α} {k : Nat} (h : ∀ x ∈ l.take k, p x = false) (hk : l.length ≤ k) : findI p l = -1 := by
  have := all_end h hk
  unfold findI
  rw [if_neg]
  rw [List.any_eq_true]
  rintro ⟨x, hx, hp⟩
  rw [this x hx] at hp; cases hp
theorem findI_hit {α : Type} {p : α → Bool} {l : List α} {k : Nat} {d : α} (h : ∀ x ∈ l.take k, p x = false) (hk : k < l.length) (hp : p (List.getD l k d) = true) : findI p l = k := by
  have hm := getD_mem (d := d) hk
  unfold findI
  rw [if_pos (List.any_eq_true.2 ⟨_, hm, hp⟩)]
  congr 1
  rw [getD_ok d hk] at hp
  refine (List.findIdx_eq hk).2 ⟨hp, fun j hj => ?_⟩
  refine Bool.eq_false_iff.1 (h _ ?_) |> fun e => by simpa using e
  rw [List.mem_take_iff_getElem]
  exact ⟨j, by omega, rfl⟩


@[reducible] noncomputable def S_cmp_isNaN_int : Spec := { ins := (.cons (.d tInt) .nil), pre := fun _ => True, alts := [{ outs := (.cons (.d .bool) .nil), res := (fun x => (fun x => (false, ())) x.1) }] }
noncomputable def c_cmp_isNaN_int : Cf := (cf_cmp_isNaN_int (Fl []))
theorem g_cmp_isNaN_int : ∀ x, S_cmp_isNaN_int.pre x → shOK S_cmp_isNaN_int.ins x → fnGoal c_cmp_isNaN_int fn_cmp_isNaN_int S_cmp_isNaN_int x := by
  rintro ⟨x, ⟨⟩⟩ hpre hok
  clear hpre
  have hln := shLn_of _ hok; replace hok := Hd.mk hok; try simp only [shLn, datLn, inRng, lo, hi, maxLen, true_and, and_true] at hln
  first | refine fn_goal (w_head ?_)
  intro Kz kz;(conv=>whnf);(try dsimp +instances only);refine kz _ ?_;clear kz Kz;(conv=>(arg 2;whnf))
  repeat' (first|(with_reducible first|refine an ?_ ?_|((try refine gm ?_);refine st ?_))|((try (with_reducible refine gm ?_));first|((with_reducible show Kz _);(try dsimp +instances only);(with_reducible refine kz _ ?_);clear kz Kz)|((with_reducible refine sr ?_);intro Kz kz;conv=>whnf)|((with_reducible refine cd ?_);(conv=>arg 2;whnf);(with_reducible refine st ?_))|refine blockK_y (by rfl) ?_|refine blockR_y (by rfl) ?_|((with_reducible refine sw ?_);conv=>whnf))|((with_reducible refine gm ?_);conv=>whnf)|(intro hc;(try dsimp +instances only[Dat,SDat,dflt,Ty.size,keepS,bkUpd,Gv.bk,backS,wayA,maxI,minI,negI]at hc);try simp only[LS]at hc))
  all_goals (try ((fail_if_success (with_reducible refine nl ?_));(try dsimp only[Dat,SDat,dflt,Ty.size,keepS,bkUpd,Gv.bk,backS,wayA,maxI,minI,negI]);(try simp only[LS]);first|done|exact dsc|((try simp only[allP,lo,hi,room,true_and,and_true,implies_true]);(repeat' (first|refine an ?_ ?_|((with_reducible refine preA_t ?_ ?_);rotate_left;exact sameP_t)|intro hv))<;>(try omega))))
theorem ok_cmp_isNaN_int : SpecOK SP glob fi_cmp_isNaN_int S_cmp_isNaN_int := mk_ok (c := c_cmp_isNaN_int) (tab_ok _) mix_ok wf_cmp_isNaN_int (by decide) .nil (fun x hx => Nat.zero_lt_one) g_cmp_isNaN_int
def cmpI (a b : Int) : Int := if a < b then -1 else if b < a then 1 else 0
@[reducible] noncomputable def S_cmp_Compare_int : Spec := { ins := (.cons (.d tInt) (.cons (.d tInt) .nil)), pre := fun _ => True, alts := [{ outs := (.cons (.d tInt) .nil), res := (fun x => (fun x y => (cmpI x y, ())) x.1 x.2.1) }] }
noncomputable def c_cmp_Compare_int : Cf := (cf_cmp_Compare_int (Fl [(fi_cmp_isNaN_int, S_cmp_isNaN_int)]))
theorem g_cmp_Compare_int : ∀ x, S_cmp_Compare_int.pre x → shOK S_cmp_Compare_int.ins x → fnGoal c_cmp_Compare_int fn_cmp_Compare_int S_cmp_Compare_int x := by
  rintro ⟨x, y, ⟨⟩⟩ hpre hok
  clear hpre
  have hln := shLn_of _ hok; replace hok := Hd.mk hok; try simp only [shLn, datLn, inRng, lo, hi, maxLen, true_and, and_true] at hln
  first | refine fn_goal (w_head ?_)
  intro Kz kz;(conv=>whnf);(try dsimp +instances only);refine kz _ ?_;clear kz Kz;(conv=>(arg 2;whnf))
  repeat' (first|(with_reducible first|refine an ?_ ?_|((try refine gm ?_);refine st ?_))|((try (with_reducible refine gm ?_));first|((with_reducible show Kz _);(try dsimp +instances only);(with_reducible refine kz _ ?_);clear kz Kz)|((with_reducible refine sr ?_);intro Kz kz;conv=>whnf)|((with_reducible refine cd ?_);(conv=>arg 2;whnf);(with_reducible refine st ?_))|refine blockK_y (by rfl) ?_|refine blockR_y (by rfl) ?_|((with_reducible refine sw ?_);conv=>whnf))|((with_reducible refine gm ?_);conv=>whnf)|(intro hc;(try dsimp +instances only[Dat,SDat,dflt,Ty.size,keepS,bkUpd,Gv.bk,backS,wayA,maxI,minI,negI]at hc);try simp only[LS]at hc))
  all_goals (try ((fail_if_success (with_reducible refine nl ?_));(try dsimp only[Dat,SDat,dflt,Ty.size,keepS,bkUpd,Gv.bk,backS,wayA,maxI,minI,negI]);(try simp only[LS]);first|done|exact dsc|((try simp only[allP,lo,hi,room,true_and,and_true,implies_true]);(repeat' (first|refine an ?_ ?_|((with_reducible refine preA_t ?_ ?_);rotate_left;exact sameP_t)|intro hv))<;>(try omega))))
  all_goals (unfold cmpI; first | (exfalso; simp at *; done) | (split <;> first | rfl | omega | (split <;> first | rfl | omega)))
theorem ok_cmp_Compare_int : SpecOK SP glob fi_cmp_Compare_int S_cmp_Compare_int := mk_ok (c := c_cmp_Compare_int) (tab_ok _) mix_ok wf_cmp_Compare_int (by decide) (.cons ok_cmp_isNaN_int .nil) (fun x hx => Nat.zero_lt_one) g_cmp_Compare_int

def orL : List Int → Int
  | [] => 0
  | x :: l => if x = 0 then orL l else x
theorem orL_drop : ∀ {k : Nat} {l : List Int}, (∀ x ∈ l.take k, x = 0) → orL l = orL (l.drop k)
  | 0, _, _ => rfl
  | k + 1, [], _ => rfl
  | k + 1, x :: l, h => by
    have h1 := h x (by simp)
    simp only [orL, h1, if_true, List.drop_succ_cons]
    exact orL_drop fun y hy => h y (by simp [hy])

@[reducible] noncomputable def S_cmp_Or_int : Spec := { ins := (.cons (.d (.sl tInt)) .nil), pre := fun _ => True, alts := [{ outs := (.cons (.d tInt) .nil), res := (fun x => (fun l => (orL l, ())) x.1) }] }
noncomputable def c_cmp_Or_int : Cf := (cf_cmp_Or_int (Fl []))
theorem g_cmp_Or_int : ∀ x, S_cmp_Or_int.pre x → shOK S_cmp_Or_int.ins x → fnGoal c_cmp_Or_int fn_cmp_Or_int S_cmp_Or_int x := by
  rintro ⟨l, ⟨⟩⟩ hpre hok
  clear hpre
  have hln := shLn_of _ hok; replace hok := Hd.mk hok; try simp only [shLn, datLn, inRng, lo, hi, maxLen, true_and, and_true] at hln
  first | refine fn_goal (w_head ?_)
  intro Kz kz;(conv=>whnf);(try dsimp +instances only);refine kz _ ?_;clear kz Kz;(conv=>(arg 2;whnf))
  repeat' (first|(with_reducible first|refine an ?_ ?_|((try refine gm ?_);refine st ?_))|((try (with_reducible refine gm ?_));first|((with_reducible show Kz _);(try dsimp +instances only);(with_reducible refine kz _ ?_);clear kz Kz)|((with_reducible refine sr ?_);intro Kz kz;conv=>whnf)|((with_reducible refine cd ?_);(conv=>arg 2;whnf);(with_reducible refine st ?_))|refine blockK_y (by rfl) ?_|refine blockR_y (by rfl) ?_|((with_reducible refine sw ?_);conv=>whnf))|((with_reducible refine gm ?_);conv=>whnf)|(intro hc;(try dsimp +instances only[Dat,SDat,dflt,Ty.size,keepS,bkUpd,Gv.bk,backS,wayA,maxI,minI,negI]at hc);try simp only[LS]at hc))
  all_goals (try ((fail_if_success (with_reducible refine nl ?_));(try dsimp only[Dat,SDat,dflt,Ty.size,keepS,bkUpd,Gv.bk,backS,wayA,maxI,minI,negI]);(try simp only[LS]);first|done|exact dsc|((try simp only[allP,lo,hi,room,true_and,and_true,implies_true]);(repeat' (first|refine an ?_ ?_|((with_reducible refine preA_t ?_ ?_);rotate_left;exact sameP_t)|intro hv))<;>(try omega))))
  refine w_loop [(8, .d tInt)] [] (fun y => ∃ k : Nat, y.1.1 = (k : Int) ∧ k ≤ l.length ∧ ∀ x ∈ l.take k, x = 0) (fun y => l.length - y.1.1.toNat) ?_
  conv => whnf
  refine And.intro ?_ ?_
  · exact ⟨0, by simp⟩
  rintro ⟨⟨_, ⟨⟩⟩, ⟨⟩⟩ ⟨k, rfl, hk, hj⟩
  repeat' (first|(with_reducible first|refine an ?_ ?_|((try refine gm ?_);refine st ?_))|((try (with_reducible refine gm ?_));first|((with_reducible show Kz _);(try dsimp +instances only);(with_reducible refine kz _ ?_);clear kz Kz)|((with_reducible refine sr ?_);intro Kz kz;conv=>whnf)|((with_reducible refine cd ?_);(conv=>arg 2;whnf);(with_reducible refine st ?_))|refine blockK_y (by rfl) ?_|refine blockR_y (by rfl) ?_|((with_reducible refine sw ?_);conv=>whnf))|((with_reducible refine gm ?_);conv=>whnf)|(intro hc;(try dsimp +instances only[Dat,SDat,dflt,Ty.size,keepS,bkUpd,Gv.bk,backS,wayA,maxI,minI,negI]at hc);try simp only[LS]at hc))
  all_goals (try ((fail_if_success (with_reducible refine nl ?_));(try dsimp only[Dat,SDat,dflt,Ty.size,keepS,bkUpd,Gv.bk,backS,wayA,maxI,minI,negI]);(try simp only[LS]);first|done|exact dsc|((try simp only[allP,lo,hi,room,true_and,and_true,implies_true]);(repeat' (first|refine an ?_ ?_|((with_reducible refine preA_t ?_ ?_);rotate_left;exact sameP_t)|intro hv))<;>(try omega))))
  · have h1 : k < l.length := by omega
    rw [getD_ok _ h1] at hc ⊢
    rw [orL_drop hj, List.drop_eq_getElem_cons h1]
    simp only [orL, hc, if_false]
  · exact ⟨k + 1, by omega, by omega, all_step (d := (0 : Int)) hj (by omega) hc⟩
  · rw [orL_drop hj, List.drop_eq_nil_of_le (by omega)]; rfl
theorem ok_cmp_Or_int : SpecOK SP glob fi_cmp_Or_int S_cmp_Or_int := mk_ok (c := c_cmp_Or_int) (tab_ok _) mix_ok wf_cmp_Or_int (by decide) .nil (fun x hx => Nat.zero_lt_one) g_cmp_Or_int
end Go.Gv
