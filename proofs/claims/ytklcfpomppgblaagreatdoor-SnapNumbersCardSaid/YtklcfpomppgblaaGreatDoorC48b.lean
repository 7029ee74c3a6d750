/- Chapter 48: texts of events, sorting and merging for lists of erasures. -/
import Derived.Test.YtklcfpomppgblaaGreatDoorC48
import Derived.Lib.ItoaLen
set_option linter.all false
namespace Go.Gv
open Go Go.Proofs Go.Proofs.YtklcfpomppgblaaGreatDoor
set_option maxRecDepth 100000
set_option maxHeartbeats 4000000
abbrev AnyT : Type := Dat (.ifc 3 tInt (.ifc 9 .str (.ifc 50 tKey (.ifc 54 tId .ni))))
def partT : AnyT → List UInt8
  | .inl n => Lib.itoa n
  | .inr (.inl s) => s
  | .inr (.inr (.inl _)) => []
  | .inr (.inr (.inr (.inl i))) => Lib.join [Lib.itoa i.1, Lib.itoa i.2.1] [32]
  | .inr (.inr (.inr (.inr _))) => []
def joinT (l : List AnyT) : List UInt8 := Lib.join (l.map partT) [32]
def okP (kk : Nat) : AnyT → Prop
  | .inl n => True
  | .inr (.inl s) => True
  | .inr (.inr (.inl _)) => False
  | .inr (.inr (.inr (.inl i))) => 1 < kk ∧ (joinT [.inl i.1, .inl i.2.1]).length ≤ 1000
  | .inr (.inr (.inr (.inr _))) => False
theorem br_int : ∀ {p : AnyT}, (getI (.int .i64) 3 (.ifc 3 tInt (.ifc 9 .str (.ifc 50 tKey (.ifc 54 tId .ni)))) p).isSome = true → partT p = Lib.itoa ((getI (.int .i64) 3 (.ifc 3 tInt (.ifc 9 .str (.ifc 50 tKey (.ifc 54 tId .ni)))) p).getD 0)
  | .inl n, _ => rfl
  | .inr (.inl s), h => Bool.noConfusion h
  | .inr (.inr (.inl _)), h => Bool.noConfusion h
  | .inr (.inr (.inr (.inl i))), h => Bool.noConfusion h
  | .inr (.inr (.inr (.inr _))), h => Bool.noConfusion h
theorem br_str : ∀ {p : AnyT}, (getI .str 9 (.ifc 3 tInt (.ifc 9 .str (.ifc 50 tKey (.ifc 54 tId .ni)))) p).isSome = true → partT p = (getI .str 9 (.ifc 3 tInt (.ifc 9 .str (.ifc 50 tKey (.ifc 54 tId .ni)))) p).getD []
  | .inl n, h => Bool.noConfusion h
  | .inr (.inl s), _ => rfl
  | .inr (.inr (.inl _)), h => Bool.noConfusion h
  | .inr (.inr (.inr (.inl i))), h => Bool.noConfusion h
  | .inr (.inr (.inr (.inr _))), h => Bool.noConfusion h
theorem br_id {kk : Nat} : ∀ {p : AnyT}, okP (kk + 1) p → (getI tId 54 (.ifc 3 tInt (.ifc 9 .str (.ifc 50 tKey (.ifc 54 tId .ni)))) p).isSome = true → 0 < kk ∧ (joinT [.inl ((getI tId 54 (.ifc 3 tInt (.ifc 9 .str (.ifc 50 tKey (.ifc 54 tId .ni)))) p).getD (0, 0, ())).1, .inl ((getI tId 54 (.ifc 3 tInt (.ifc 9 .str (.ifc 50 tKey (.ifc 54 tId .ni)))) p).getD (0, 0, ())).2.1]).length ≤ 1000 ∧ partT p = joinT [.inl ((getI tId 54 (.ifc 3 tInt (.ifc 9 .str (.ifc 50 tKey (.ifc 54 tId .ni)))) p).getD (0, 0, ())).1, .inl ((getI tId 54 (.ifc 3 tInt (.ifc 9 .str (.ifc 50 tKey (.ifc 54 tId .ni)))) p).getD (0, 0, ())).2.1]
  | .inl n, _, h => Bool.noConfusion h
  | .inr (.inl s), _, h => Bool.noConfusion h
  | .inr (.inr (.inl _)), _, h => Bool.noConfusion h
  | .inr (.inr (.inr (.inl i))), hk, _ => ⟨by have := hk.1; omega, hk.2, rfl⟩
  | .inr (.inr (.inr (.inr _))), _, h => Bool.noConfusion h
theorem br_key {kk : Nat} : ∀ {p : AnyT}, okP kk p → (getI tKey 50 (.ifc 3 tInt (.ifc 9 .str (.ifc 50 tKey (.ifc 54 tId .ni)))) p).isSome = true → False
  | .inl n, _, h => Bool.noConfusion h
  | .inr (.inl s), _, h => Bool.noConfusion h
  | .inr (.inr (.inl _)), hk, _ => hk
  | .inr (.inr (.inr (.inl i))), _, h => Bool.noConfusion h
  | .inr (.inr (.inr (.inr _))), hk, _ => hk
theorem br_none {kk : Nat} : ∀ {p : AnyT}, okP kk p → (getI (.int .i64) 3 (.ifc 3 tInt (.ifc 9 .str (.ifc 50 tKey (.ifc 54 tId .ni)))) p).isSome = false → (getI .str 9 (.ifc 3 tInt (.ifc 9 .str (.ifc 50 tKey (.ifc 54 tId .ni)))) p).isSome = false → (getI tId 54 (.ifc 3 tInt (.ifc 9 .str (.ifc 50 tKey (.ifc 54 tId .ni)))) p).isSome = false → False
  | .inl n, _, h, _, _ => Bool.noConfusion h
  | .inr (.inl s), _, _, h, _ => Bool.noConfusion h
  | .inr (.inr (.inl _)), hk, _, _, _ => hk
  | .inr (.inr (.inr (.inl i))), _, _, _, h => Bool.noConfusion h
  | .inr (.inr (.inr (.inr _))), hk, _, _, _ => hk
@[reducible] noncomputable def S_ledger_join (kk : Nat) : Spec := { ins := (.cons (.d (.sl (.ifc 3 tInt (.ifc 9 .str (.ifc 50 tKey (.ifc 54 tId .ni)))))) .nil), pre := (fun x => (fun l => 0 < kk ∧ l.length ≤ 1000 ∧ (joinT l).length ≤ 1000 ∧ ∀ p ∈ l, okP kk p) x.1), alts := [{ outs := (.cons (.d .str) .nil), res := (fun x => (fun l => (joinT l, ())) x.1) }], noisy := true }
noncomputable def c_ledger_join (kk : Nat) : Cf := { cf_ledger_join (Fl [(fi_ledger_join, S_ledger_join kk), (fi_strconv_Itoa, S_strconv_Itoa), (fi_strings_Join, S_strings_Join)]) with nz := true }
theorem g_ledger_join (kk : Nat) : ∀ x, (S_ledger_join (kk + 1)).pre x → shOK (S_ledger_join (kk + 1)).ins x → fnGoal (c_ledger_join kk) fn_ledger_join (S_ledger_join (kk + 1)) x := by
  rintro ⟨l, ⟨⟩⟩ hpre hok
  try dsimp only [Dat,SDat,dflt,Ty.size,keepS,bkUpd,Gv.bk,backS,wayA,maxI,minI,negI] at hpre
  have hln := shLn_of _ hok; replace hok := Hd.mk hok; try simp only [shLn, datLn, inRng, lo, hi, maxLen, true_and, and_true] at hln
  have hl : l.length ≤ 1000 := hpre.2.1
  first | refine fn_goal (w_head ?_)
  intro Kz kz;(conv=>whnf);(try dsimp +instances only);refine kz _ ?_;clear kz Kz;(conv=>(arg 2;whnf))
  repeat' (first|(with_reducible first|refine an ?_ ?_|((try refine gm ?_);refine st ?_))|((try (with_reducible refine gm ?_));first|((with_reducible show Kz _);(try dsimp +instances only);(with_reducible refine kz _ ?_);clear kz Kz)|((with_reducible refine sr ?_);intro Kz kz;conv=>whnf)|((with_reducible refine cd ?_);(conv=>arg 2;whnf);(with_reducible refine st ?_))|refine blockK_y (by rfl) ?_|refine blockR_y (by rfl) ?_|((with_reducible refine sw ?_);conv=>whnf))|((with_reducible refine gm ?_);conv=>whnf)|(intro hc;(try dsimp +instances only[Dat,SDat,dflt,Ty.size,keepS,bkUpd,Gv.bk,backS,wayA,maxI,minI,negI]at hc);try simp only[LS]at hc))
  all_goals (try ((fail_if_success (with_reducible refine nl ?_));(try dsimp only[Dat,SDat,dflt,Ty.size,keepS,bkUpd,Gv.bk,backS,wayA,maxI,minI,negI]);(try simp only[LS]);first|done|exact dsc|((try simp only[allP,lo,hi,room,true_and,and_true,implies_true]);(repeat' (first|refine an ?_ ?_|((with_reducible refine preA_t ?_ ?_);rotate_left;exact sameP_t)|intro hv))<;>(try omega))))
  refine w_loop [(3, .row .str), (12, .d tInt)] [] (fun y => ∃ k : Nat, y.1.2.1 = (k : Int) ∧ k ≤ l.length ∧ y.1.1 = (l.take k).map partT) (fun y => l.length - y.1.2.1.toNat) ?_
  conv => whnf
  refine And.intro ?_ ?_
  · exact ⟨0, by simp⟩
  rintro ⟨⟨a, _, ⟨⟩⟩, ⟨⟩⟩ ⟨k, rfl, hk, hj⟩
  dsimp only [SDat, Dat] at hj
  subst hj
  have hm : k < l.length → okP (kk + 1) (List.getD l k (Sum.inr (Sum.inr (Sum.inr (Sum.inr ()))))) := fun h => hpre.2.2.2 _ (getD_mem h)
  have hst : k < l.length → (l.take (k + 1)).map partT = (l.take k).map partT ++ [partT (List.getD l k (Sum.inr (Sum.inr (Sum.inr (Sum.inr ())))))] := fun h => by rw [List.take_succ_eq_append_getElem h, List.map_append, getD_ok _ h]; rfl
  have hlt : (List.take k l).length ≤ 1000 := by rw [List.length_take]; omega
  repeat' (first|(with_reducible first|refine an ?_ ?_|((try refine gm ?_);refine st ?_))|((try (with_reducible refine gm ?_));first|((with_reducible show Kz _);(try dsimp +instances only);(with_reducible refine kz _ ?_);clear kz Kz)|((with_reducible refine sr ?_);intro Kz kz;conv=>whnf)|((with_reducible refine cd ?_);(conv=>arg 2;whnf);(with_reducible refine st ?_))|refine blockK_y (by rfl) ?_|refine blockR_y (by rfl) ?_|((with_reducible refine sw ?_);conv=>whnf))|((with_reducible refine gm ?_);conv=>whnf)|(intro hc;(try dsimp +instances only[Dat,SDat,dflt,Ty.size,keepS,bkUpd,Gv.bk,backS,wayA,maxI,minI,negI]at hc);try simp only[LS]at hc))
  all_goals (try ((fail_if_success (with_reducible refine nl ?_));(try dsimp only[Dat,SDat,dflt,Ty.size,keepS,bkUpd,Gv.bk,backS,wayA,maxI,minI,negI]);(try simp only[LS]);first|done|exact dsc|((try simp only[allP,lo,hi,room,true_and,and_true,implies_true]);(repeat' (first|refine an ?_ ?_|((with_reducible refine preA_t ?_ ?_);rotate_left;exact sameP_t)|intro hv))<;>(try omega))))
  all_goals (try (simp only [Ty.size]; omega))
  · have h := br_int hc
    rw [← h]
    exact ⟨k + 1, by omega, by omega, (hst (by omega)).symm⟩
  · have h := br_str hc
    rw [← h]
    exact ⟨k + 1, by omega, by omega, (hst (by omega)).symm⟩
  · exact (br_id (hm (by omega)) hc).1
  · exact (br_id (hm (by omega)) hc).2.1
  · rename_i hv
    simp only [List.mem_cons, List.not_mem_nil, or_false] at hv
    rcases hv with hv | hv <;> subst hv <;> exact trivial
  · have h := (br_id (hm (by omega)) hc).2.2
    refine ⟨k + 1, by omega, by omega, ?_⟩
    rw [hst (by omega), h]
  · exact (br_key (hm (by omega)) hc).elim
  · exact (br_key (hm (by omega)) hc).elim
  · exact (br_key (hm (by omega)) hc).elim
  · exact (br_key (hm (by omega)) hc).elim
  · rename_i h3 h2 h1 _
    exact (br_none (hm (by omega)) (by assumption) (by assumption) (by assumption)).elim
  · rw [List.take_of_length_le (by omega)]
    exact Nat.le_trans hpre.2.2.1 (by decide)
  · rw [List.take_of_length_le (by omega)]
    rfl
theorem ok_ledger_join : ∀ kk, SpecOK SP glob fi_ledger_join (S_ledger_join kk)
  | 0 => mk_ok (c := { cf_ledger_join (Fl []) with nz := true }) (tab_ok _) mix_ok wf_ledger_join (Nat.le_of_ble_eq_true rfl) .nil (fun x hx => Nat.zero_lt_one) (fun x hx _ => absurd hx.1 (Nat.lt_irrefl 0))
  | kk + 1 => mk_ok (c := c_ledger_join kk) (tab_ok _) mix_ok wf_ledger_join (Nat.le_of_ble_eq_true rfl) (.cons (ok_ledger_join kk) (.cons ok_strconv_Itoa (.cons ok_strings_Join .nil))) (fun x hx => Nat.zero_lt_one) (g_ledger_join kk)
end Go.Gv
