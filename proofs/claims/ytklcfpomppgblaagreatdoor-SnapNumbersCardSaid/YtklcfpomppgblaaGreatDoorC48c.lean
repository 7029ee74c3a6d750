/- Chapter 48: texts of erasures, sorting and merging lists of them. -/
import Derived.Test.YtklcfpomppgblaaGreatDoorC48b
set_option linter.all false
namespace Go.Gv
open Go Go.Proofs Go.Proofs.YtklcfpomppgblaaGreatDoor
set_option maxRecDepth 100000
set_option maxHeartbeats 4000000
abbrev T1 : List UInt8 := [101, 114, 97, 115, 101, 32, 48, 32, 49, 32, 112]
abbrev T2 : List UInt8 := [101, 114, 97, 115, 101, 32, 48, 32, 50, 32, 113]
theorem itoa0 : Lib.itoa 0 = [48] := by simp [Lib.itoa, Lib.decDigits]
theorem itoa1 : Lib.itoa 1 = [49] := by simp [Lib.itoa, Lib.decDigits]
theorem itoa2 : Lib.itoa 2 = [50] := by simp [Lib.itoa, Lib.decDigits]
abbrev eraseB : List UInt8 := [101, 114, 97, 115, 101]
theorem text1 : joinT [.inr (.inl eraseB), .inr (.inr (.inr (.inl (0, 1, ())))), .inr (.inl [112])] = T1 := by
  simp [joinT, partT, itoa0, itoa1, Lib.join, List.intercalate]
theorem text2 : joinT [.inr (.inl eraseB), .inr (.inr (.inr (.inl (0, 2, ())))), .inr (.inl [113])] = T2 := by
  simp [joinT, partT, itoa0, itoa2, Lib.join, List.intercalate]
theorem id1 : joinT [.inl 0, .inl 1] = [48, 32, 49] := by simp [joinT, partT, itoa0, itoa1, Lib.join, List.intercalate]
theorem id2 : joinT [.inl 0, .inl 2] = [48, 32, 50] := by simp [joinT, partT, itoa0, itoa2, Lib.join, List.intercalate]
abbrev n1 : EnD := (ev1, T1, ())
abbrev n2 : EnD := (ev2, T2, ())
def textV (e : EvD) : List UInt8 := if e.2.1.2.1 = 1 then T1 else T2
@[reducible] noncomputable def S_join2 : Spec := S_ledger_join 2
theorem ok_join2 : SpecOK SP glob fi_ledger_join S_join2 := ok_ledger_join 2
@[reducible] noncomputable def S_ledger_Text : Spec := { ins := (.cons (.d tEv) .nil), pre := (fun x => (fun e => okV e) x.1), alts := [{ outs := (.cons (.d .str) .nil), res := (fun x => (fun e => (textV e, ())) x.1) }], noisy := true }
noncomputable def c_ledger_Text : Cf := { cf_ledger_Text (Fl [(fi_ledger_Valid, S_ledger_Valid), (fi_ledger_join, S_join2), (fi_feed_Text, S_feed_Text), (fi_value_Text, S_value_Text), (fi_cmp_Or_string, S_cmp_Or_string)]) with nz := true }
theorem g_ledger_Text : ∀ x, S_ledger_Text.pre x → shOK S_ledger_Text.ins x → fnGoal c_ledger_Text fn_ledger_Text S_ledger_Text x := by
  rintro ⟨e, ⟨⟩⟩ hpre hok
  try dsimp only [Dat,SDat,dflt,Ty.size,keepS,bkUpd,Gv.bk,backS,wayA,maxI,minI,negI] at hpre
  have hln := shLn_of _ hok; replace hok := Hd.mk hok; try simp only [shLn, datLn, inRng, lo, hi, maxLen, true_and, and_true] at hln
  rcases hpre with h | h <;> subst h
  all_goals (clear hln)
  · first | refine fn_goal (w_head ?_)
    intro Kz kz;(conv=>whnf);(try dsimp +instances only);refine kz _ ?_;clear kz Kz;(conv=>(arg 2;whnf))
    repeat' (first|(with_reducible first|refine an ?_ ?_|((try refine gm ?_);refine st ?_))|((try (with_reducible refine gm ?_));first|((with_reducible show Kz _);(try dsimp +instances only);(with_reducible refine kz _ ?_);clear kz Kz)|((with_reducible refine sr ?_);intro Kz kz;conv=>whnf)|((with_reducible refine cd ?_);(conv=>arg 2;whnf);(with_reducible refine st ?_))|refine blockK_y (by rfl) ?_|refine blockR_y (by rfl) ?_|((with_reducible refine sw ?_);conv=>whnf))|((with_reducible refine gm ?_);conv=>whnf)|(intro hc;(try dsimp +instances only[Dat,SDat,dflt,Ty.size,keepS,bkUpd,Gv.bk,backS,wayA,maxI,minI,negI]at hc);try simp only[LS]at hc))
    all_goals (try ((fail_if_success (with_reducible refine nl ?_));(try dsimp only[Dat,SDat,dflt,Ty.size,keepS,bkUpd,Gv.bk,backS,wayA,maxI,minI,negI]);(try simp only[LS]);first|done|exact dsc|((try simp only[allP,lo,hi,room,true_and,and_true,implies_true]);(repeat' (first|refine an ?_ ?_|((with_reducible refine preA_t ?_ ?_);rotate_left;exact sameP_t)|intro hv))<;>(try omega))))
    · exact .inl rfl
    · exact Nat.le_trans (Nat.le_of_eq (congrArg List.length text1)) (by decide)
    · rename_i hv
      simp only [List.mem_cons, List.not_mem_nil, or_false] at hv
      rcases hv with hv | hv | hv <;> subst hv
      · exact trivial
      · exact ⟨by decide, by rw [id1]; decide⟩
      · exact trivial
    · exact text1
  · first | refine fn_goal (w_head ?_)
    intro Kz kz;(conv=>whnf);(try dsimp +instances only);refine kz _ ?_;clear kz Kz;(conv=>(arg 2;whnf))
    repeat' (first|(with_reducible first|refine an ?_ ?_|((try refine gm ?_);refine st ?_))|((try (with_reducible refine gm ?_));first|((with_reducible show Kz _);(try dsimp +instances only);(with_reducible refine kz _ ?_);clear kz Kz)|((with_reducible refine sr ?_);intro Kz kz;conv=>whnf)|((with_reducible refine cd ?_);(conv=>arg 2;whnf);(with_reducible refine st ?_))|refine blockK_y (by rfl) ?_|refine blockR_y (by rfl) ?_|((with_reducible refine sw ?_);conv=>whnf))|((with_reducible refine gm ?_);conv=>whnf)|(intro hc;(try dsimp +instances only[Dat,SDat,dflt,Ty.size,keepS,bkUpd,Gv.bk,backS,wayA,maxI,minI,negI]at hc);try simp only[LS]at hc))
    all_goals (try ((fail_if_success (with_reducible refine nl ?_));(try dsimp only[Dat,SDat,dflt,Ty.size,keepS,bkUpd,Gv.bk,backS,wayA,maxI,minI,negI]);(try simp only[LS]);first|done|exact dsc|((try simp only[allP,lo,hi,room,true_and,and_true,implies_true]);(repeat' (first|refine an ?_ ?_|((with_reducible refine preA_t ?_ ?_);rotate_left;exact sameP_t)|intro hv))<;>(try omega))))
    · exact .inr (.inl rfl)
    · exact Nat.le_trans (Nat.le_of_eq (congrArg List.length text2)) (by decide)
    · rename_i hv
      simp only [List.mem_cons, List.not_mem_nil, or_false] at hv
      rcases hv with hv | hv | hv <;> subst hv
      · exact trivial
      · exact ⟨by decide, by rw [id2]; decide⟩
      · exact trivial
    · exact text2
theorem ok_ledger_Text : SpecOK SP glob fi_ledger_Text S_ledger_Text := mk_ok (c := c_ledger_Text) (tab_ok _) mix_ok wf_ledger_Text (by decide) (.cons ok_ledger_Valid (.cons ok_join2 (.cons ok_feed_Text (.cons ok_value_Text (.cons ok_cmp_Or_string .nil))))) (fun x hx => Nat.zero_lt_one) g_ledger_Text

noncomputable def cmpS (a b : List UInt8) : Int := @ite _ (strLt a b) (Classical.propDecidable _) (-1) (@ite _ (¬ (strLt a b ∨ a = b)) (Classical.propDecidable _) 1 0)
@[reducible] noncomputable def S_cmp_isNaN_string : Spec := { ins := (.cons (.d .str) .nil), pre := fun _ => True, alts := [{ outs := (.cons (.d .bool) .nil), res := (fun x => (fun x => (false, ())) x.1) }] }
noncomputable def c_cmp_isNaN_string : Cf := (cf_cmp_isNaN_string (Fl []))
theorem g_cmp_isNaN_string : ∀ x, S_cmp_isNaN_string.pre x → shOK S_cmp_isNaN_string.ins x → fnGoal c_cmp_isNaN_string fn_cmp_isNaN_string S_cmp_isNaN_string x := by
  rintro ⟨x, ⟨⟩⟩ hpre hok
  clear hpre
  have hln := shLn_of _ hok; replace hok := Hd.mk hok; try simp only [shLn, datLn, inRng, lo, hi, maxLen, true_and, and_true] at hln
  first | refine fn_goal (w_head ?_)
  intro Kz kz;(conv=>whnf);(try dsimp +instances only);refine kz _ ?_;clear kz Kz;(conv=>(arg 2;whnf))
  repeat' (first|(with_reducible first|refine an ?_ ?_|((try refine gm ?_);refine st ?_))|((try (with_reducible refine gm ?_));first|((with_reducible show Kz _);(try dsimp +instances only);(with_reducible refine kz _ ?_);clear kz Kz)|((with_reducible refine sr ?_);intro Kz kz;conv=>whnf)|((with_reducible refine cd ?_);(conv=>arg 2;whnf);(with_reducible refine st ?_))|refine blockK_y (by rfl) ?_|refine blockR_y (by rfl) ?_|((with_reducible refine sw ?_);conv=>whnf))|((with_reducible refine gm ?_);conv=>whnf)|(intro hc;(try dsimp +instances only[Dat,SDat,dflt,Ty.size,keepS,bkUpd,Gv.bk,backS,wayA,maxI,minI,negI]at hc);try simp only[LS]at hc))
  all_goals (try ((fail_if_success (with_reducible refine nl ?_));(try dsimp only[Dat,SDat,dflt,Ty.size,keepS,bkUpd,Gv.bk,backS,wayA,maxI,minI,negI]);(try simp only[LS]);first|done|exact dsc|((try simp only[allP,lo,hi,room,true_and,and_true,implies_true]);(repeat' (first|refine an ?_ ?_|((with_reducible refine preA_t ?_ ?_);rotate_left;exact sameP_t)|intro hv))<;>(try omega))))
theorem ok_cmp_isNaN_string : SpecOK SP glob fi_cmp_isNaN_string S_cmp_isNaN_string := mk_ok (c := c_cmp_isNaN_string) (tab_ok _) mix_ok wf_cmp_isNaN_string (by decide) .nil (fun x hx => Nat.zero_lt_one) g_cmp_isNaN_string
@[reducible] noncomputable def S_cmp_Compare_string : Spec := { ins := (.cons (.d .str) (.cons (.d .str) .nil)), pre := fun _ => True, alts := [{ outs := (.cons (.d tInt) .nil), res := (fun x => (fun x y => (cmpS x y, ())) x.1 x.2.1) }] }
noncomputable def c_cmp_Compare_string : Cf := (cf_cmp_Compare_string (Fl [(fi_cmp_isNaN_string, S_cmp_isNaN_string)]))
theorem g_cmp_Compare_string : ∀ x, S_cmp_Compare_string.pre x → shOK S_cmp_Compare_string.ins x → fnGoal c_cmp_Compare_string fn_cmp_Compare_string S_cmp_Compare_string x := by
  rintro ⟨x, y, ⟨⟩⟩ hpre hok
  clear hpre
  have hln := shLn_of _ hok; replace hok := Hd.mk hok; try simp only [shLn, datLn, inRng, lo, hi, maxLen, true_and, and_true] at hln
  first | refine fn_goal (w_head ?_)
  intro Kz kz;(conv=>whnf);(try dsimp +instances only);refine kz _ ?_;clear kz Kz;(conv=>(arg 2;whnf))
  repeat' (first|(with_reducible first|refine an ?_ ?_|((try refine gm ?_);refine st ?_))|((try (with_reducible refine gm ?_));first|((with_reducible show Kz _);(try dsimp +instances only);(with_reducible refine kz _ ?_);clear kz Kz)|((with_reducible refine sr ?_);intro Kz kz;conv=>whnf)|((with_reducible refine cd ?_);(conv=>arg 2;whnf);(with_reducible refine st ?_))|refine blockK_y (by rfl) ?_|refine blockR_y (by rfl) ?_|((with_reducible refine sw ?_);conv=>whnf))|((with_reducible refine gm ?_);conv=>whnf)|(intro hc;(try dsimp +instances only[Dat,SDat,dflt,Ty.size,keepS,bkUpd,Gv.bk,backS,wayA,maxI,minI,negI]at hc);try simp only[LS]at hc))
  all_goals (try ((fail_if_success (with_reducible refine nl ?_));(try dsimp only[Dat,SDat,dflt,Ty.size,keepS,bkUpd,Gv.bk,backS,wayA,maxI,minI,negI]);(try simp only[LS]);first|done|exact dsc|((try simp only[allP,lo,hi,room,true_and,and_true,implies_true]);(repeat' (first|refine an ?_ ?_|((with_reducible refine preA_t ?_ ?_);rotate_left;exact sameP_t)|intro hv))<;>(try omega))))
  all_goals (try (exfalso; contradiction))
  all_goals (try (exfalso; simp at hc; done))
  all_goals (try (rename_i hd; exfalso; simp at hd; done))
  all_goals (unfold cmpS)
  · rw [if_pos hc]
  · rename_i hd
    rw [if_neg hd, if_pos hc]
  · rename_i hd
    rw [if_neg hd, if_neg (fun h => h hc)]
theorem ok_cmp_Compare_string : SpecOK SP glob fi_cmp_Compare_string S_cmp_Compare_string := mk_ok (c := c_cmp_Compare_string) (tab_ok _) mix_ok wf_cmp_Compare_string (by decide) (.cons ok_cmp_isNaN_string .nil) (fun x hx => Nat.zero_lt_one) g_cmp_Compare_string
abbrev rankE (x : EnD) : Int := if x.1.1 = 1 then 0 else 1
@[reducible] noncomputable def S_ledger_entry_compare_1 : Spec := { ins := (.cons (.d tEn) .nil), pre := fun _ => True, alts := [{ outs := (.cons (.d tInt) .nil), res := (fun x => (fun x => (rankE x, ())) x.1) }] }
noncomputable def c_ledger_entry_compare_1 : Cf := (cf_ledger_entry_compare_1 (Fl []))
theorem g_ledger_entry_compare_1 : ∀ x, S_ledger_entry_compare_1.pre x → shOK S_ledger_entry_compare_1.ins x → fnGoal c_ledger_entry_compare_1 fn_ledger_entry_compare_1 S_ledger_entry_compare_1 x := by
  rintro ⟨x, ⟨⟩⟩ hpre hok
  clear hpre
  have hln := shLn_of _ hok; replace hok := Hd.mk hok; try simp only [shLn, datLn, inRng, lo, hi, maxLen, true_and, and_true] at hln
  first | refine fn_goal (w_head ?_)
  intro Kz kz;(conv=>whnf);(try dsimp +instances only);refine kz _ ?_;clear kz Kz;(conv=>(arg 2;whnf))
  repeat' (first|(with_reducible first|refine an ?_ ?_|((try refine gm ?_);refine st ?_))|((try (with_reducible refine gm ?_));first|((with_reducible show Kz _);(try dsimp +instances only);(with_reducible refine kz _ ?_);clear kz Kz)|((with_reducible refine sr ?_);intro Kz kz;conv=>whnf)|((with_reducible refine cd ?_);(conv=>arg 2;whnf);(with_reducible refine st ?_))|refine blockK_y (by rfl) ?_|refine blockR_y (by rfl) ?_|((with_reducible refine sw ?_);conv=>whnf))|((with_reducible refine gm ?_);conv=>whnf)|(intro hc;(try dsimp +instances only[Dat,SDat,dflt,Ty.size,keepS,bkUpd,Gv.bk,backS,wayA,maxI,minI,negI]at hc);try simp only[LS]at hc))
  all_goals (try ((fail_if_success (with_reducible refine nl ?_));(try dsimp only[Dat,SDat,dflt,Ty.size,keepS,bkUpd,Gv.bk,backS,wayA,maxI,minI,negI]);(try simp only[LS]);first|done|exact dsc|((try simp only[allP,lo,hi,room,true_and,and_true,implies_true]);(repeat' (first|refine an ?_ ?_|((with_reducible refine preA_t ?_ ?_);rotate_left;exact sameP_t)|intro hv))<;>(try omega))))
  · exact (if_pos hc).symm
  · exact (if_neg hc).symm
theorem ok_ledger_entry_compare_1 : SpecOK SP glob fi_ledger_entry_compare_1 S_ledger_entry_compare_1 := mk_ok (c := c_ledger_entry_compare_1) (tab_ok _) mix_ok wf_ledger_entry_compare_1 (by decide) .nil (fun x hx => Nat.zero_lt_one) g_ledger_entry_compare_1
noncomputable def cmpEn (a b : EnD) : Int := orL [cmpI (rankE a) (rankE b), cmpI a.1.2.2.1.1 b.1.2.2.1.1, cmpI a.1.2.2.1.2.1 b.1.2.2.1.2.1, orL [cmpI a.1.2.1.2.1 b.1.2.1.2.1, cmpI a.1.2.1.1 b.1.2.1.1], cmpS a.2.1 b.2.1]
@[reducible] noncomputable def S_ledger_entry_compare : Spec := { ins := (.cons (.d tEn) (.cons (.d tEn) .nil)), pre := fun _ => True, alts := [{ outs := (.cons (.d tInt) .nil), res := (fun x => (fun a b => (cmpEn a b, ())) x.1 x.2.1) }] }
noncomputable def c_ledger_entry_compare : Cf := (cf_ledger_entry_compare (Fl [(fi_ledger_entry_compare_1, S_ledger_entry_compare_1), (fi_cmp_Compare_int, S_cmp_Compare_int), (fi_ledger_compareIds, S_ledger_compareIds), (fi_cmp_Compare_string, S_cmp_Compare_string), (fi_cmp_Or_int, S_cmp_Or_int)]))
theorem g_ledger_entry_compare : ∀ x, S_ledger_entry_compare.pre x → shOK S_ledger_entry_compare.ins x → fnGoal c_ledger_entry_compare fn_ledger_entry_compare S_ledger_entry_compare x := by
  rintro ⟨a, b, ⟨⟩⟩ hpre hok
  clear hpre
  have hln := shLn_of _ hok; replace hok := Hd.mk hok; try simp only [shLn, datLn, inRng, lo, hi, maxLen, true_and, and_true] at hln
  first | refine fn_goal (w_head ?_)
  intro Kz kz;(conv=>whnf);(try dsimp +instances only);refine kz _ ?_;clear kz Kz;(conv=>(arg 2;whnf))
  repeat' (first|(with_reducible first|refine an ?_ ?_|((try refine gm ?_);refine st ?_))|((try (with_reducible refine gm ?_));first|((with_reducible show Kz _);(try dsimp +instances only);(with_reducible refine kz _ ?_);clear kz Kz)|((with_reducible refine sr ?_);intro Kz kz;conv=>whnf)|((with_reducible refine cd ?_);(conv=>arg 2;whnf);(with_reducible refine st ?_))|refine blockK_y (by rfl) ?_|refine blockR_y (by rfl) ?_|((with_reducible refine sw ?_);conv=>whnf))|((with_reducible refine gm ?_);conv=>whnf)|(intro hc;(try dsimp +instances only[Dat,SDat,dflt,Ty.size,keepS,bkUpd,Gv.bk,backS,wayA,maxI,minI,negI]at hc);try simp only[LS]at hc))
  all_goals (try ((fail_if_success (with_reducible refine nl ?_));(try dsimp only[Dat,SDat,dflt,Ty.size,keepS,bkUpd,Gv.bk,backS,wayA,maxI,minI,negI]);(try simp only[LS]);first|done|exact dsc|((try simp only[allP,lo,hi,room,true_and,and_true,implies_true]);(repeat' (first|refine an ?_ ?_|((with_reducible refine preA_t ?_ ?_);rotate_left;exact sameP_t)|intro hv))<;>(try omega))))
theorem ok_ledger_entry_compare : SpecOK SP glob fi_ledger_entry_compare S_ledger_entry_compare := mk_ok (c := c_ledger_entry_compare) (tab_ok _) mix_ok wf_ledger_entry_compare (by decide) (.cons ok_ledger_entry_compare_1 (.cons ok_cmp_Compare_int (.cons ok_ledger_compareIds (.cons ok_cmp_Compare_string (.cons ok_cmp_Or_int .nil))))) (fun x hx => Nat.zero_lt_one) g_ledger_entry_compare
@[reducible] noncomputable def S_ledger_Merge_1 : Spec := { ins := (.cons (.d tEn) (.cons (.d tEn) .nil)), pre := fun _ => True, alts := [{ outs := (.cons (.d .bool) .nil), res := (fun x => (fun x y => (decide (x.2.1 = y.2.1), ())) x.1 x.2.1) }] }
noncomputable def c_ledger_Merge_1 : Cf := (cf_ledger_Merge_1 (Fl []))
theorem g_ledger_Merge_1 : ∀ x, S_ledger_Merge_1.pre x → shOK S_ledger_Merge_1.ins x → fnGoal c_ledger_Merge_1 fn_ledger_Merge_1 S_ledger_Merge_1 x := by
  rintro ⟨x, y, ⟨⟩⟩ hpre hok
  clear hpre
  have hln := shLn_of _ hok; replace hok := Hd.mk hok; try simp only [shLn, datLn, inRng, lo, hi, maxLen, true_and, and_true] at hln
  first | refine fn_goal (w_head ?_)
  intro Kz kz;(conv=>whnf);(try dsimp +instances only);refine kz _ ?_;clear kz Kz;(conv=>(arg 2;whnf))
  repeat' (first|(with_reducible first|refine an ?_ ?_|((try refine gm ?_);refine st ?_))|((try (with_reducible refine gm ?_));first|((with_reducible show Kz _);(try dsimp +instances only);(with_reducible refine kz _ ?_);clear kz Kz)|((with_reducible refine sr ?_);intro Kz kz;conv=>whnf)|((with_reducible refine cd ?_);(conv=>arg 2;whnf);(with_reducible refine st ?_))|refine blockK_y (by rfl) ?_|refine blockR_y (by rfl) ?_|((with_reducible refine sw ?_);conv=>whnf))|((with_reducible refine gm ?_);conv=>whnf)|(intro hc;(try dsimp +instances only[Dat,SDat,dflt,Ty.size,keepS,bkUpd,Gv.bk,backS,wayA,maxI,minI,negI]at hc);try simp only[LS]at hc))
  all_goals (try ((fail_if_success (with_reducible refine nl ?_));(try dsimp only[Dat,SDat,dflt,Ty.size,keepS,bkUpd,Gv.bk,backS,wayA,maxI,minI,negI]);(try simp only[LS]);first|done|exact dsc|((try simp only[allP,lo,hi,room,true_and,and_true,implies_true]);(repeat' (first|refine an ?_ ?_|((with_reducible refine preA_t ?_ ?_);rotate_left;exact sameP_t)|intro hv))<;>(try omega))))
theorem ok_ledger_Merge_1 : SpecOK SP glob fi_ledger_Merge_1 S_ledger_Merge_1 := mk_ok (c := c_ledger_Merge_1) (tab_ok _) mix_ok wf_ledger_Merge_1 (by decide) .nil (fun x hx => Nat.zero_lt_one) g_ledger_Merge_1
theorem bl_irr : ∀ a : List UInt8, Op.bytesLess a a = false
  | [] => rfl
  | a :: x => by simp [Op.bytesLess, bl_irr x]
theorem cmpS_self (a : List UInt8) : cmpS a a = 0 := by
  unfold cmpS
  rw [if_neg (by unfold strLt; rw [bl_irr]; exact Bool.noConfusion), if_neg (fun h => h (.inr rfl))]
theorem cmpI_self (a : Int) : cmpI a a = 0 := by unfold cmpI; rw [if_neg (by omega), if_neg (by omega)]
theorem orL_0 (l : List Int) : orL (0 :: l) = orL l := by simp [orL]
theorem orL_x {x : Int} (l : List Int) (h : x ≠ 0) : orL (x :: l) = x := by simp [orL, h]
theorem cmpEn_self (a : EnD) : cmpEn a a = 0 := by
  unfold cmpEn
  rw [cmpS_self, cmpI_self, cmpI_self, cmpI_self, cmpI_self, cmpI_self]
  rfl
theorem cmpEn_lt {a b : EnD} (h1 : rankE a = rankE b) (h2 : a.1.2.2.1.1 = b.1.2.2.1.1) (h3 : a.1.2.2.1.2.1 = b.1.2.2.1.2.1) (h4 : a.1.2.1.2.1 < b.1.2.1.2.1) : cmpEn a b = -1 := by
  unfold cmpEn
  rw [h1, h2, h3, cmpI_self, cmpI_self, cmpI_self, show cmpI a.1.2.1.2.1 b.1.2.1.2.1 = -1 by unfold cmpI; rw [if_pos h4], orL_0, orL_0, orL_0, show orL [(-1 : Int), cmpI a.1.2.1.1 b.1.2.1.1] = -1 from orL_x _ (by decide), orL_x _ (by decide)]
theorem cmpEn_gt {a b : EnD} (h1 : rankE a = rankE b) (h2 : a.1.2.2.1.1 = b.1.2.2.1.1) (h3 : a.1.2.2.1.2.1 = b.1.2.2.1.2.1) (h4 : b.1.2.1.2.1 < a.1.2.1.2.1) : cmpEn a b = 1 := by
  unfold cmpEn
  rw [h1, h2, h3, cmpI_self, cmpI_self, cmpI_self, show cmpI a.1.2.1.2.1 b.1.2.1.2.1 = 1 by unfold cmpI; rw [if_neg (by omega), if_pos h4], orL_0, orL_0, orL_0, show orL [(1 : Int), cmpI a.1.2.1.1 b.1.2.1.1] = 1 from orL_x _ (by decide), orL_x _ (by decide)]
theorem cmp12 : cmpEn n1 n2 = -1 := cmpEn_lt rfl rfl rfl (show (1 : Int) < 2 by decide)
theorem cmp21 : cmpEn n2 n1 = 1 := cmpEn_gt rfl rfl rfl (show (1 : Int) < 2 by decide)
def Qn (x : EnD) : Prop := x = n1 ∨ x = n2
def keyN (x : EnD) : Int := x.1.2.1.2.1
theorem cmpQ {x y : EnD} (hx : Qn x) (hy : Qn y) : cmpEn x y < 0 ↔ keyN x < keyN y := by
  have k1 : keyN n1 = 1 := rfl
  have k2 : keyN n2 = 2 := rfl
  rcases hx with hx | hx <;> rcases hy with hy | hy <;> rw [hx, hy]
  · rw [cmpEn_self]; omega
  · rw [cmp12, k1, k2]; decide
  · rw [cmp21, k1, k2]; decide
  · rw [cmpEn_self]; omega
def preN (xs : List EnD) : Prop := xs = [] ∨ xs = [n1] ∨ xs = [n2] ∨ xs = [n1, n2]
theorem preN_len {xs : List EnD} (h : preN xs) : List.length xs ≤ 2 := by rcases h with h | h | h | h <;> rw [h] <;> decide
theorem preN_Q {xs : List EnD} (h : preN xs) {x : EnD} (hx : x ∈ xs) : Qn x := by
  rcases h with h | h | h | h <;> rw [h] at hx
  · exact (List.not_mem_nil hx).elim
  · exact .inl (List.mem_singleton.1 hx)
  · exact .inr (List.mem_singleton.1 hx)
  · rcases List.mem_cons.1 hx with hx | hx
    · exact .inl hx
    · exact .inr (List.mem_singleton.1 hx)
theorem uniq2 {α : Type} {a b : α} {lt : α → α → Prop} {ys : List α} (hp : ys.Perm [a, b]) (hs : ys.Pairwise (fun x y => ¬ lt y x)) (h : lt a b) : ys = [a, b] := by
  have hl := hp.length_eq
  match ys, hl with
  | [x, y], _ =>
    have hx : x ∈ [a, b] := hp.subset List.mem_cons_self
    rcases List.mem_cons.1 hx with hx | hx
    · subst hx
      have := List.perm_singleton.1 ((List.perm_cons _).1 hp)
      rw [this]
    · have hx := List.mem_singleton.1 hx
      subst hx
      have h2 := List.perm_singleton.1 ((List.perm_cons _).1 (hp.trans (List.Perm.swap x a [])))
      have hy : y = a := (List.cons.inj h2).1
      subst hy
      exact ((List.pairwise_cons.1 hs).1 y List.mem_cons_self h).elim
theorem preN_uniq {xs ys : List EnD} (h : preN xs) (hp : ys.Perm xs) (hs : ys.Pairwise (fun a b => ¬ cmpEn b a < 0)) : ys = xs := by
  rcases h with h | h | h | h <;> rw [h] at hp ⊢
  · exact hp.eq_nil
  · exact List.perm_singleton.1 hp
  · exact List.perm_singleton.1 hp
  · exact uniq2 (lt := fun a b => cmpEn a b < 0) hp hs (by rw [cmp12]; decide)
@[reducible] noncomputable def S_pdqE : Spec := { ins := .cons (.row tEn) (.cons (.d (.int .i64)) (.cons (.d (.int .i64)) (.cons (.d (.int .i64)) (.cons (.clos fi_ledger_entry_compare .nil) .nil)))), pre := fun x => preN x.1 ∧ x.2.1 = 0 ∧ x.2.2.1 = (List.length x.1 : Int) ∧ 0 ≤ x.2.2.2.1 ∧ x.2.2.2.1 ≤ 1000000, alts := [{ outs := .nil, res := fun _ => (), upd := fun x => (x.1, x.2.1, x.2.2.1, x.2.2.2.1, (), ()) }] }
theorem ok_pdqE : SpecOK SP glob fi_slices_pdqsortCmpFunc_ledger_entry S_pdqE :=
  pdqF_ok (t := tEn) (cf := fun a b => cmpEn a b) (res := fun xs => xs) (pre := preN) laysSlLaysF0_72 rfl (by decide) Tryz.isAgg102 Tryz.sizeOf102 (fn_hf wf_slices_pdqsortCmpFunc_ledger_entry) ok_ledger_entry_compare Qn (fun _ _ _ _ => trivial)
    (fun x h hl => Int.lt_irrefl _ ((cmpQ h h).1 hl)) (fun x y z hx hy hz h1 h2 => (cmpQ hx hz).2 (Int.lt_trans ((cmpQ hx hy).1 h1) ((cmpQ hy hz).1 h2))) (fun x y z hx hy hz h1 h2 h3 => by
      have a1 := mt (cmpQ hx hy).2 h1
      have a2 := mt (cmpQ hy hz).2 h2
      have a3 := (cmpQ hx hz).1 h3
      omega)
    (fun xs h x hx => preN_Q h hx) (fun xs h => by have := preN_len h; omega) (fun xs ys h hp hs => preN_uniq h hp hs)
theorem bitLen_small {n : Int} (h0 : 0 ≤ n) (h1 : n ≤ 1000000) : (0 : Int) ≤ (Lib.bitLen (Int.toNat n) : Int) ∧ (Lib.bitLen (Int.toNat n) : Int) ≤ 1000000 := by
  have := Lib.bitLen_le (Int.toNat n) 20 (by decide) (by omega)
  omega

@[reducible] noncomputable def S_slices_SortFunc_sl_ledger_entry_ledger_entry : Spec := { ins := (.cons (.row tEn) (.cons (.clos fi_ledger_entry_compare .nil) .nil)), pre := (fun x => (fun l c => preN l) x.1 x.2.1), alts := [{ outs := .nil, res := (fun x => (fun l c => (())) x.1 x.2.1), upd := (fun x => (fun l c => (l, (), ())) x.1 x.2.1) }] }
noncomputable def c_slices_SortFunc_sl_ledger_entry_ledger_entry : Cf := (cf_slices_SortFunc_sl_ledger_entry_ledger_entry (Fl [(fi_math_bits_Len, S_math_bits_Len), (fi_slices_pdqsortCmpFunc_ledger_entry, S_pdqE)]))
theorem g_slices_SortFunc_sl_ledger_entry_ledger_entry : ∀ x, S_slices_SortFunc_sl_ledger_entry_ledger_entry.pre x → shOK S_slices_SortFunc_sl_ledger_entry_ledger_entry.ins x → fnGoal c_slices_SortFunc_sl_ledger_entry_ledger_entry fn_slices_SortFunc_sl_ledger_entry_ledger_entry S_slices_SortFunc_sl_ledger_entry_ledger_entry x := by
  rintro ⟨l, ⟨⟩, ⟨⟩⟩ hpre hok
  try dsimp only [Dat,SDat,dflt,Ty.size,keepS,bkUpd,Gv.bk,backS,wayA,maxI,minI,negI] at hpre
  have hln := shLn_of _ hok; replace hok := Hd.mk hok; try simp only [shLn, datLn, inRng, lo, hi, maxLen, true_and, and_true] at hln
  have hl : List.length l ≤ 2 := preN_len hpre
  have hb := bitLen_small (n := (List.length l : Int)) (by omega) (by omega)
  rw [Int.toNat_natCast] at hb
  have hb2 := hb.2
  first | refine fn_goal (w_head ?_)
  intro Kz kz;(conv=>whnf);(try dsimp +instances only);refine kz _ ?_;clear kz Kz;(conv=>(arg 2;whnf))
  repeat' (first|(with_reducible first|refine an ?_ ?_|((try refine gm ?_);refine st ?_))|((try (with_reducible refine gm ?_));first|((with_reducible show Kz _);(try dsimp +instances only);(with_reducible refine kz _ ?_);clear kz Kz)|((with_reducible refine sr ?_);intro Kz kz;conv=>whnf)|((with_reducible refine cd ?_);(conv=>arg 2;whnf);(with_reducible refine st ?_))|refine blockK_y (by rfl) ?_|refine blockR_y (by rfl) ?_|((with_reducible refine sw ?_);conv=>whnf))|((with_reducible refine gm ?_);conv=>whnf)|(intro hc;(try dsimp +instances only[Dat,SDat,dflt,Ty.size,keepS,bkUpd,Gv.bk,backS,wayA,maxI,minI,negI]at hc);try simp only[LS]at hc))
  all_goals (try ((fail_if_success (with_reducible refine nl ?_));(try dsimp only[Dat,SDat,dflt,Ty.size,keepS,bkUpd,Gv.bk,backS,wayA,maxI,minI,negI]);(try simp only[LS]);first|done|exact dsc|((try simp only[allP,lo,hi,room,true_and,and_true,implies_true]);(repeat' (first|refine an ?_ ?_|((with_reducible refine preA_t ?_ ?_);rotate_left;exact sameP_t)|intro hv))<;>(try omega))))
  all_goals (first | exact hpre | skip)
theorem ok_slices_SortFunc_sl_ledger_entry_ledger_entry : SpecOK SP glob fi_slices_SortFunc_sl_ledger_entry_ledger_entry S_slices_SortFunc_sl_ledger_entry_ledger_entry := mk_ok (c := c_slices_SortFunc_sl_ledger_entry_ledger_entry) (tab_ok _) mix_ok wf_slices_SortFunc_sl_ledger_entry_ledger_entry (by decide) (.cons ok_math_bits_Len (.cons ok_pdqE .nil)) (fun x hx => Nat.zero_lt_one) g_slices_SortFunc_sl_ledger_entry_ledger_entry
def adj (xs : List EnD) : Prop := ∀ k : Nat, 0 < k → k < List.length xs → ¬ (List.getD xs k (ev0, [], ())).2.1 = (List.getD xs (k - 1) (ev0, [], ())).2.1
theorem preN_adj {xs : List EnD} (h : preN xs) : adj xs := by
  intro k h0 hk
  have hl := preN_len h
  have h1 : k = 1 := by omega
  subst h1
  rcases h with h | h | h | h
  · rw [h] at hk; exact absurd hk (by decide)
  · rw [h] at hk; exact absurd hk (by decide)
  · rw [h] at hk; exact absurd hk (by decide)
  · rw [h]; exact fun e => absurd (show T2 = T1 from e) (by decide)
@[reducible] noncomputable def S_slices_CompactFunc_sl_ledger_entry_ledger_entry : Spec := { ins := (.cons (.d (.sl tEn)) (.cons (.clos fi_ledger_Merge_1 .nil) .nil)), pre := (fun x => (fun s c => preN s) x.1 x.2.1), alts := [{ outs := (.cons (.d (.sl tEn)) .nil), res := (fun x => (fun s c => (s, ())) x.1 x.2.1) }] }
noncomputable def c_slices_CompactFunc_sl_ledger_entry_ledger_entry : Cf := (cf_slices_CompactFunc_sl_ledger_entry_ledger_entry (Fl [(fi_ledger_Merge_1, S_ledger_Merge_1)]))
theorem g_slices_CompactFunc_sl_ledger_entry_ledger_entry : ∀ x, S_slices_CompactFunc_sl_ledger_entry_ledger_entry.pre x → shOK S_slices_CompactFunc_sl_ledger_entry_ledger_entry.ins x → fnGoal c_slices_CompactFunc_sl_ledger_entry_ledger_entry fn_slices_CompactFunc_sl_ledger_entry_ledger_entry S_slices_CompactFunc_sl_ledger_entry_ledger_entry x := by
  rintro ⟨s, ⟨⟩, ⟨⟩⟩ hpre hok
  try dsimp only [Dat,SDat,dflt,Ty.size,keepS,bkUpd,Gv.bk,backS,wayA,maxI,minI,negI] at hpre
  have hln := shLn_of _ hok; replace hok := Hd.mk hok; try simp only [shLn, datLn, inRng, lo, hi, maxLen, true_and, and_true] at hln
  have hl : List.length s ≤ 2 := preN_len hpre
  have ha := preN_adj hpre
  first | refine fn_goal (w_head ?_)
  intro Kz kz;(conv=>whnf);(try dsimp +instances only);refine kz _ ?_;clear kz Kz;(conv=>(arg 2;whnf))
  repeat' (first|(with_reducible first|refine an ?_ ?_|((try refine gm ?_);refine st ?_))|((try (with_reducible refine gm ?_));first|((with_reducible show Kz _);(try dsimp +instances only);(with_reducible refine kz _ ?_);clear kz Kz)|((with_reducible refine sr ?_);intro Kz kz;conv=>whnf)|((with_reducible refine cd ?_);(conv=>arg 2;whnf);(with_reducible refine st ?_))|refine blockK_y (by rfl) ?_|refine blockR_y (by rfl) ?_|((with_reducible refine sw ?_);conv=>whnf))|((with_reducible refine gm ?_);conv=>whnf)|(intro hc;(try dsimp +instances only[Dat,SDat,dflt,Ty.size,keepS,bkUpd,Gv.bk,backS,wayA,maxI,minI,negI]at hc);try simp only[LS]at hc))
  all_goals (try ((fail_if_success (with_reducible refine nl ?_));(try dsimp only[Dat,SDat,dflt,Ty.size,keepS,bkUpd,Gv.bk,backS,wayA,maxI,minI,negI]);(try simp only[LS]);first|done|exact dsc|((try simp only[allP,lo,hi,room,true_and,and_true,implies_true]);(repeat' (first|refine an ?_ ?_|((with_reducible refine preA_t ?_ ?_);rotate_left;exact sameP_t)|intro hv))<;>(try omega))))
  refine w_loop [(5, .d tInt)] [] (fun y => ∃ k : Nat, y.1.1 = (k : Int) ∧ 0 < k ∧ k ≤ s.length) (fun y => s.length - y.1.1.toNat) ?_
  conv => whnf
  refine And.intro ?_ ?_
  · exact ⟨1, rfl, by omega, by omega⟩
  rintro ⟨⟨_, ⟨⟩⟩, ⟨⟩⟩ ⟨k, rfl, hk0, hk⟩
  have hc1 : ((k : Int) - 1).toNat = k - 1 := by omega
  repeat' (first|(with_reducible first|refine an ?_ ?_|((try refine gm ?_);refine st ?_))|((try (with_reducible refine gm ?_));first|((with_reducible show Kz _);(try dsimp +instances only);(with_reducible refine kz _ ?_);clear kz Kz)|((with_reducible refine sr ?_);intro Kz kz;conv=>whnf)|((with_reducible refine cd ?_);(conv=>arg 2;whnf);(with_reducible refine st ?_))|refine blockK_y (by rfl) ?_|refine blockR_y (by rfl) ?_|((with_reducible refine sw ?_);conv=>whnf))|((with_reducible refine gm ?_);conv=>whnf)|(intro hc;(try dsimp +instances only[Dat,SDat,dflt,Ty.size,keepS,bkUpd,Gv.bk,backS,wayA,maxI,minI,negI]at hc);try simp only[LS]at hc))
  all_goals (try ((fail_if_success (with_reducible refine nl ?_));(try dsimp only[Dat,SDat,dflt,Ty.size,keepS,bkUpd,Gv.bk,backS,wayA,maxI,minI,negI]);(try simp only[LS]);first|done|exact dsc|((try simp only[allP,lo,hi,room,true_and,and_true,implies_true]);(repeat' (first|refine an ?_ ?_|((with_reducible refine preA_t ?_ ?_);rotate_left;exact sameP_t)|intro hv))<;>(try omega))))
  · rw [hc1] at hc
    exact (ha k hk0 (by omega) hc).elim
  · exact ⟨k + 1, by omega, by omega, by omega⟩
theorem ok_slices_CompactFunc_sl_ledger_entry_ledger_entry : SpecOK SP glob fi_slices_CompactFunc_sl_ledger_entry_ledger_entry S_slices_CompactFunc_sl_ledger_entry_ledger_entry := mk_ok (c := c_slices_CompactFunc_sl_ledger_entry_ledger_entry) (tab_ok _) mix_ok wf_slices_CompactFunc_sl_ledger_entry_ledger_entry (by decide) (.cons ok_ledger_Merge_1 .nil) (fun x hx => Nat.zero_lt_one) g_slices_CompactFunc_sl_ledger_entry_ledger_entry
end Go.Gv
