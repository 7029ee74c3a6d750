/- Chapter 48: events, and which of those of this law are valid. -/
import Derived.Test.YtklcfpomppgblaaGreatDoorFI
import Derived.Test.YtklcfpomppgblaaGreatDoorJ48
set_option linter.all false
namespace Go.Gv
open Go Go.Proofs Go.Proofs.YtklcfpomppgblaaGreatDoor
set_option maxRecDepth 100000
set_option maxHeartbeats 4000000
@[reducible] def tId : Ty := .st (.cs tInt (.cs tInt .nl))
@[reducible] def tKey : Ty := .st (.cs tInt (.cs .str (.cs .str .nl)))
@[reducible] def tDec : Ty := .st (.cs tInt (.cs tKey (.cs tKey .nl)))
@[reducible] def tVal : Ty := .st (.cs tInt (.cs tInt (.cs .str .nl)))
@[reducible] def tNam : Ty := .st (.cs .str (.cs tVal .nl))
@[reducible] def tDel : Ty := .st (.cs tInt (.cs tInt (.cs tInt (.cs tInt (.cs .str (.cs .str (.cs (.sl tNam) (.cs .str .nl))))))))
@[reducible] def tChg : Ty := .st (.cs tInt (.cs .str (.cs .str (.cs .str (.cs tInt (.cs tVal .nl))))))
@[reducible] def tEv : Ty := .st (.cs tInt (.cs tId (.cs tDel (.cs tDec (.cs .str (.cs tChg (.cs tId (.cs tInt (.cs .str .nl)))))))))
@[reducible] def tEn : Ty := .st (.cs tEv (.cs .str .nl))
abbrev IdD : Type := Int × Int × Unit
abbrev KeyD : Type := Int × List UInt8 × List UInt8 × Unit
abbrev ValD : Type := Int × Int × List UInt8 × Unit
abbrev DelD : Type := Int × Int × Int × Int × List UInt8 × List UInt8 × List (List UInt8 × ValD × Unit) × List UInt8 × Unit
abbrev DecD : Type := Int × KeyD × KeyD × Unit
abbrev ChgD : Type := Int × List UInt8 × List UInt8 × List UInt8 × Int × ValD × Unit
abbrev EvD : Type := Int × IdD × DelD × DecD × List UInt8 × ChgD × IdD × Int × List UInt8 × Unit
abbrev EnD : Type := EvD × List UInt8 × Unit
abbrev id0 : IdD := (0, 0, ())
abbrev key0 : KeyD := (0, [], [], ())
abbrev del0 : DelD := (0, 0, 0, 0, [], [], [], [], ())
abbrev dec0 : DecD := (0, key0, key0, ())
abbrev chg0 : ChgD := (0, [], [], [], 0, (0, 0, [], ()), ())
abbrev ev0 : EvD := (0, id0, del0, dec0, [], chg0, id0, 0, [], ())
abbrev erE (n : Int) (p : List UInt8) : EvD := (7, (0, n, ()), del0, dec0, [], chg0, id0, 0, p, ())
abbrev ev1 : EvD := erE 1 [112]
abbrev ev2 : EvD := erE 2 [113]
def okE (e : EvD) : Prop := e = ev1 ∨ e = ev2 ∨ e = ev0
def okV (e : EvD) : Prop := e = ev1 ∨ e = ev2

def consP (s bytes : List UInt8) : Prop := (∀ c ∈ s, 0 ≤ Lib.indexByte bytes c) ∧ s ≠ [] ∧ s.length ≤ 24
abbrev idAl : List UInt8 := [97, 98, 99, 100, 101, 102, 103, 104, 105, 106, 107, 108, 109, 110, 111, 112, 113, 114, 115, 116, 117, 118, 119, 120, 121, 122, 65, 66, 67, 68, 69, 70, 71, 72, 73, 74, 75, 76, 77, 78, 79, 80, 81, 82, 83, 84, 85, 86, 87, 88, 89, 90, 48, 49, 50, 51, 52, 53, 54, 55, 56, 57, 95, 45]
theorem byte_back (b : UInt8) : (b.toNat).toUInt8 = b := by simp
theorem boolOf_congr {p q : Prop} (h : p ↔ q) : boolOf p = boolOf q := by rw [propext h]

@[reducible] noncomputable def S_ledger_consists : Spec := { ins := (.cons (.d .str) (.cons (.d .str) .nil)), pre := fun _ => True, alts := [{ outs := (.cons (.d .bool) .nil), res := (fun x => (fun s bytes => (boolOf (consP s bytes), ())) x.1 x.2.1) }] }
noncomputable def c_ledger_consists : Cf := (cf_ledger_consists (Fl [(fi_strings_IndexByte, S_strings_IndexByte)]))
theorem g_ledger_consists : ∀ x, S_ledger_consists.pre x → shOK S_ledger_consists.ins x → fnGoal c_ledger_consists fn_ledger_consists S_ledger_consists x := by
  rintro ⟨s, bytes, ⟨⟩⟩ hpre hok
  clear hpre
  have hln := shLn_of _ hok; replace hok := Hd.mk hok; try simp only [shLn, datLn, inRng, lo, hi, maxLen, true_and, and_true] at hln
  first | refine fn_goal (w_head ?_)
  intro Kz kz;(conv=>whnf);(try dsimp +instances only);refine kz _ ?_;clear kz Kz;(conv=>(arg 2;whnf))
  repeat' (first|(with_reducible first|refine an ?_ ?_|((try refine gm ?_);refine st ?_))|((try (with_reducible refine gm ?_));first|((with_reducible show Kz _);(try dsimp +instances only);(with_reducible refine kz _ ?_);clear kz Kz)|((with_reducible refine sr ?_);intro Kz kz;conv=>whnf)|((with_reducible refine cd ?_);(conv=>arg 2;whnf);(with_reducible refine st ?_))|refine blockK_y (by rfl) ?_|refine blockR_y (by rfl) ?_|((with_reducible refine sw ?_);conv=>whnf))|((with_reducible refine gm ?_);conv=>whnf)|(intro hc;(try dsimp +instances only[Dat,SDat,dflt,Ty.size,keepS,bkUpd,Gv.bk,backS,wayA,maxI,minI,negI]at hc);try simp only[LS]at hc))
  all_goals (try ((fail_if_success (with_reducible refine nl ?_));(try dsimp only[Dat,SDat,dflt,Ty.size,keepS,bkUpd,Gv.bk,backS,wayA,maxI,minI,negI]);(try simp only[LS]);first|done|exact dsc|((try simp only[allP,lo,hi,room,true_and,and_true,implies_true]);(repeat' (first|refine an ?_ ?_|((with_reducible refine preA_t ?_ ?_);rotate_left;exact sameP_t)|intro hv))<;>(try omega))))
  refine w_loop [(8, .d tInt)] [] (fun y => ∃ k : Nat, y.1.1 = (k : Int) ∧ k ≤ s.length ∧ ∀ c ∈ s.take k, 0 ≤ Lib.indexByte bytes c) (fun y => s.length - y.1.1.toNat) ?_
  conv => whnf
  refine And.intro ?_ ?_
  · exact ⟨0, by simp⟩
  rintro ⟨⟨_, ⟨⟩⟩, ⟨⟩⟩ ⟨k, rfl, hk, hj⟩
  repeat' (first|(with_reducible first|refine an ?_ ?_|((try refine gm ?_);refine st ?_))|((try (with_reducible refine gm ?_));first|((with_reducible show Kz _);(try dsimp +instances only);(with_reducible refine kz _ ?_);clear kz Kz)|((with_reducible refine sr ?_);intro Kz kz;conv=>whnf)|((with_reducible refine cd ?_);(conv=>arg 2;whnf);(with_reducible refine st ?_))|refine blockK_y (by rfl) ?_|refine blockR_y (by rfl) ?_|((with_reducible refine sw ?_);conv=>whnf))|((with_reducible refine gm ?_);conv=>whnf)|(intro hc;(try dsimp +instances only[Dat,SDat,dflt,Ty.size,keepS,bkUpd,Gv.bk,backS,wayA,maxI,minI,negI]at hc);try simp only[LS]at hc))
  all_goals (try ((fail_if_success (with_reducible refine nl ?_));(try dsimp only[Dat,SDat,dflt,Ty.size,keepS,bkUpd,Gv.bk,backS,wayA,maxI,minI,negI]);(try simp only[LS]);first|done|exact dsc|((try simp only[allP,lo,hi,room,true_and,and_true,implies_true]);(repeat' (first|refine an ?_ ?_|((with_reducible refine preA_t ?_ ?_);rotate_left;exact sameP_t)|intro hv))<;>(try omega))))
  · rw [byte_back] at hc
    have hm := getD_mem (d := (0 : UInt8)) (l := s) (k := k) (by omega)
    refine (boolOf_false.2 fun h => ?_).symm
    have := h.1 _ hm
    omega
  · rw [byte_back] at hc
    exact ⟨k + 1, by omega, by omega, all_step (p := fun c => 0 ≤ Lib.indexByte bytes c) (d := (0 : UInt8)) hj (by omega) (by omega)⟩
  · refine boolOf_congr ⟨fun h => ⟨all_end (p := fun c => 0 ≤ Lib.indexByte bytes c) hj (by omega), h.1, by omega⟩, fun h => ⟨h.2.1, by have := h.2.2; omega⟩⟩
theorem ok_ledger_consists : SpecOK SP glob fi_ledger_consists S_ledger_consists := mk_ok (c := c_ledger_consists) (tab_ok _) mix_ok wf_ledger_consists (by decide) (.cons ok_strings_IndexByte .nil) (fun x hx => Nat.zero_lt_one) g_ledger_consists
@[reducible] noncomputable def S_ledger_identifier : Spec := { ins := (.cons (.d .str) .nil), pre := (fun x => (fun s => s = [112] ∨ s = [113]) x.1), alts := [{ outs := (.cons (.d .bool) .nil), res := (fun x => (fun s => (true, ())) x.1) }] }
noncomputable def c_ledger_identifier : Cf := (cf_ledger_identifier (Fl [(fi_ledger_consists, S_ledger_consists)]))
theorem g_ledger_identifier : ∀ x, S_ledger_identifier.pre x → shOK S_ledger_identifier.ins x → fnGoal c_ledger_identifier fn_ledger_identifier S_ledger_identifier x := by
  rintro ⟨s, ⟨⟩⟩ hpre hok
  try dsimp only [Dat,SDat,dflt,Ty.size,keepS,bkUpd,Gv.bk,backS,wayA,maxI,minI,negI] at hpre
  have hln := shLn_of _ hok; replace hok := Hd.mk hok; try simp only [shLn, datLn, inRng, lo, hi, maxLen, true_and, and_true] at hln
  first | refine fn_goal (w_head ?_)
  intro Kz kz;(conv=>whnf);(try dsimp +instances only);refine kz _ ?_;clear kz Kz;(conv=>(arg 2;whnf))
  repeat' (first|(with_reducible first|refine an ?_ ?_|((try refine gm ?_);refine st ?_))|((try (with_reducible refine gm ?_));first|((with_reducible show Kz _);(try dsimp +instances only);(with_reducible refine kz _ ?_);clear kz Kz)|((with_reducible refine sr ?_);intro Kz kz;conv=>whnf)|((with_reducible refine cd ?_);(conv=>arg 2;whnf);(with_reducible refine st ?_))|refine blockK_y (by rfl) ?_|refine blockR_y (by rfl) ?_|((with_reducible refine sw ?_);conv=>whnf))|((with_reducible refine gm ?_);conv=>whnf)|(intro hc;(try dsimp +instances only[Dat,SDat,dflt,Ty.size,keepS,bkUpd,Gv.bk,backS,wayA,maxI,minI,negI]at hc);try simp only[LS]at hc))
  all_goals (try ((fail_if_success (with_reducible refine nl ?_));(try dsimp only[Dat,SDat,dflt,Ty.size,keepS,bkUpd,Gv.bk,backS,wayA,maxI,minI,negI]);(try simp only[LS]);first|done|exact dsc|((try simp only[allP,lo,hi,room,true_and,and_true,implies_true]);(repeat' (first|refine an ?_ ?_|((with_reducible refine preA_t ?_ ?_);rotate_left;exact sameP_t)|intro hv))<;>(try omega))))
  have h : consP s idAl := by
    unfold consP
    rcases hpre with h | h <;> subst h <;> exact ⟨by decide, by decide, by decide⟩
  exact h
theorem ok_ledger_identifier : SpecOK SP glob fi_ledger_identifier S_ledger_identifier := mk_ok (c := c_ledger_identifier) (tab_ok _) mix_ok wf_ledger_identifier (by decide) (.cons ok_ledger_consists .nil) (fun x hx => Nat.zero_lt_one) g_ledger_identifier
@[reducible] noncomputable def S_ledger_source : Spec := { ins := (.cons (.d tInt) .nil), pre := fun _ => True, alts := [{ outs := (.cons (.d .bool) .nil), res := (fun x => (fun n => (decide (0 ≤ n ∧ n < 64), ())) x.1) }] }
noncomputable def c_ledger_source : Cf := (cf_ledger_source (Fl []))
theorem g_ledger_source : ∀ x, S_ledger_source.pre x → shOK S_ledger_source.ins x → fnGoal c_ledger_source fn_ledger_source S_ledger_source x := by
  rintro ⟨n, ⟨⟩⟩ hpre hok
  clear hpre
  have hln := shLn_of _ hok; replace hok := Hd.mk hok; try simp only [shLn, datLn, inRng, lo, hi, maxLen, true_and, and_true] at hln
  first | refine fn_goal (w_head ?_)
  intro Kz kz;(conv=>whnf);(try dsimp +instances only);refine kz _ ?_;clear kz Kz;(conv=>(arg 2;whnf))
  repeat' (first|(with_reducible first|refine an ?_ ?_|((try refine gm ?_);refine st ?_))|((try (with_reducible refine gm ?_));first|((with_reducible show Kz _);(try dsimp +instances only);(with_reducible refine kz _ ?_);clear kz Kz)|((with_reducible refine sr ?_);intro Kz kz;conv=>whnf)|((with_reducible refine cd ?_);(conv=>arg 2;whnf);(with_reducible refine st ?_))|refine blockK_y (by rfl) ?_|refine blockR_y (by rfl) ?_|((with_reducible refine sw ?_);conv=>whnf))|((with_reducible refine gm ?_);conv=>whnf)|(intro hc;(try dsimp +instances only[Dat,SDat,dflt,Ty.size,keepS,bkUpd,Gv.bk,backS,wayA,maxI,minI,negI]at hc);try simp only[LS]at hc))
  all_goals (try ((fail_if_success (with_reducible refine nl ?_));(try dsimp only[Dat,SDat,dflt,Ty.size,keepS,bkUpd,Gv.bk,backS,wayA,maxI,minI,negI]);(try simp only[LS]);first|done|exact dsc|((try simp only[allP,lo,hi,room,true_and,and_true,implies_true]);(repeat' (first|refine an ?_ ?_|((with_reducible refine preA_t ?_ ?_);rotate_left;exact sameP_t)|intro hv))<;>(try omega))))
theorem ok_ledger_source : SpecOK SP glob fi_ledger_source S_ledger_source := mk_ok (c := c_ledger_source) (tab_ok _) mix_ok wf_ledger_source (by decide) .nil (fun x hx => Nat.zero_lt_one) g_ledger_source
@[reducible] noncomputable def S_ledger_ident : Spec := { ins := (.cons (.d tId) .nil), pre := fun _ => True, alts := [{ outs := (.cons (.d .bool) .nil), res := (fun x => (fun a => (decide ((0 ≤ a.1 ∧ a.1 < 64) ∧ 0 < a.2.1 ∧ a.2.1 ≤ 1000000), ())) x.1) }] }
noncomputable def c_ledger_ident : Cf := (cf_ledger_ident (Fl [(fi_ledger_source, S_ledger_source)]))
theorem g_ledger_ident : ∀ x, S_ledger_ident.pre x → shOK S_ledger_ident.ins x → fnGoal c_ledger_ident fn_ledger_ident S_ledger_ident x := by
  rintro ⟨a, ⟨⟩⟩ hpre hok
  clear hpre
  have hln := shLn_of _ hok; replace hok := Hd.mk hok; try simp only [shLn, datLn, inRng, lo, hi, maxLen, true_and, and_true] at hln
  first | refine fn_goal (w_head ?_)
  intro Kz kz;(conv=>whnf);(try dsimp +instances only);refine kz _ ?_;clear kz Kz;(conv=>(arg 2;whnf))
  repeat' (first|(with_reducible first|refine an ?_ ?_|((try refine gm ?_);refine st ?_))|((try (with_reducible refine gm ?_));first|((with_reducible show Kz _);(try dsimp +instances only);(with_reducible refine kz _ ?_);clear kz Kz)|((with_reducible refine sr ?_);intro Kz kz;conv=>whnf)|((with_reducible refine cd ?_);(conv=>arg 2;whnf);(with_reducible refine st ?_))|refine blockK_y (by rfl) ?_|refine blockR_y (by rfl) ?_|((with_reducible refine sw ?_);conv=>whnf))|((with_reducible refine gm ?_);conv=>whnf)|(intro hc;(try dsimp +instances only[Dat,SDat,dflt,Ty.size,keepS,bkUpd,Gv.bk,backS,wayA,maxI,minI,negI]at hc);try simp only[LS]at hc))
  all_goals (try ((fail_if_success (with_reducible refine nl ?_));(try dsimp only[Dat,SDat,dflt,Ty.size,keepS,bkUpd,Gv.bk,backS,wayA,maxI,minI,negI]);(try simp only[LS]);first|done|exact dsc|((try simp only[allP,lo,hi,room,true_and,and_true,implies_true]);(repeat' (first|refine an ?_ ?_|((with_reducible refine preA_t ?_ ?_);rotate_left;exact sameP_t)|intro hv))<;>(try omega))))
  · rw [boolOf_eq, decide_eq_decide, and_assoc]
theorem ok_ledger_ident : SpecOK SP glob fi_ledger_ident S_ledger_ident := mk_ok (c := c_ledger_ident) (tab_ok _) mix_ok wf_ledger_ident (by decide) (.cons ok_ledger_source .nil) (fun x hx => Nat.zero_lt_one) g_ledger_ident
@[reducible] noncomputable def S_ledger_compareIds : Spec := { ins := (.cons (.d tId) (.cons (.d tId) .nil)), pre := fun _ => True, alts := [{ outs := (.cons (.d tInt) .nil), res := (fun x => (fun a b => (orL [cmpI a.2.1 b.2.1, cmpI a.1 b.1], ())) x.1 x.2.1) }] }
noncomputable def c_ledger_compareIds : Cf := (cf_ledger_compareIds (Fl [(fi_cmp_Compare_int, S_cmp_Compare_int), (fi_cmp_Or_int, S_cmp_Or_int)]))
theorem g_ledger_compareIds : ∀ x, S_ledger_compareIds.pre x → shOK S_ledger_compareIds.ins x → fnGoal c_ledger_compareIds fn_ledger_compareIds S_ledger_compareIds x := by
  rintro ⟨a, b, ⟨⟩⟩ hpre hok
  clear hpre
  have hln := shLn_of _ hok; replace hok := Hd.mk hok; try simp only [shLn, datLn, inRng, lo, hi, maxLen, true_and, and_true] at hln
  first | refine fn_goal (w_head ?_)
  intro Kz kz;(conv=>whnf);(try dsimp +instances only);refine kz _ ?_;clear kz Kz;(conv=>(arg 2;whnf))
  repeat' (first|(with_reducible first|refine an ?_ ?_|((try refine gm ?_);refine st ?_))|((try (with_reducible refine gm ?_));first|((with_reducible show Kz _);(try dsimp +instances only);(with_reducible refine kz _ ?_);clear kz Kz)|((with_reducible refine sr ?_);intro Kz kz;conv=>whnf)|((with_reducible refine cd ?_);(conv=>arg 2;whnf);(with_reducible refine st ?_))|refine blockK_y (by rfl) ?_|refine blockR_y (by rfl) ?_|((with_reducible refine sw ?_);conv=>whnf))|((with_reducible refine gm ?_);conv=>whnf)|(intro hc;(try dsimp +instances only[Dat,SDat,dflt,Ty.size,keepS,bkUpd,Gv.bk,backS,wayA,maxI,minI,negI]at hc);try simp only[LS]at hc))
  all_goals (try ((fail_if_success (with_reducible refine nl ?_));(try dsimp only[Dat,SDat,dflt,Ty.size,keepS,bkUpd,Gv.bk,backS,wayA,maxI,minI,negI]);(try simp only[LS]);first|done|exact dsc|((try simp only[allP,lo,hi,room,true_and,and_true,implies_true]);(repeat' (first|refine an ?_ ?_|((with_reducible refine preA_t ?_ ?_);rotate_left;exact sameP_t)|intro hv))<;>(try omega))))
theorem ok_ledger_compareIds : SpecOK SP glob fi_ledger_compareIds S_ledger_compareIds := mk_ok (c := c_ledger_compareIds) (tab_ok _) mix_ok wf_ledger_compareIds (by decide) (.cons ok_cmp_Compare_int (.cons ok_cmp_Or_int .nil)) (fun x hx => Nat.zero_lt_one) g_ledger_compareIds
@[reducible] noncomputable def S_ledger_bare : Spec := { ins := (.cons (.d tDel) .nil), pre := (fun x => (fun d => d = del0) x.1), alts := [{ outs := (.cons (.d .bool) .nil), res := (fun x => (fun d => (true, ())) x.1) }] }
noncomputable def c_ledger_bare : Cf := (cf_ledger_bare (Fl []))
theorem g_ledger_bare : ∀ x, S_ledger_bare.pre x → shOK S_ledger_bare.ins x → fnGoal c_ledger_bare fn_ledger_bare S_ledger_bare x := by
  rintro ⟨d, ⟨⟩⟩ hpre hok
  try dsimp only [Dat,SDat,dflt,Ty.size,keepS,bkUpd,Gv.bk,backS,wayA,maxI,minI,negI] at hpre
  have hln := shLn_of _ hok; replace hok := Hd.mk hok; try simp only [shLn, datLn, inRng, lo, hi, maxLen, true_and, and_true] at hln
  subst hpre
  first | refine fn_goal (w_head ?_)
  intro Kz kz;(conv=>whnf);(try dsimp +instances only);refine kz _ ?_;clear kz Kz;(conv=>(arg 2;whnf))
  repeat' (first|(with_reducible first|refine an ?_ ?_|((try refine gm ?_);refine st ?_))|((try (with_reducible refine gm ?_));first|((with_reducible show Kz _);(try dsimp +instances only);(with_reducible refine kz _ ?_);clear kz Kz)|((with_reducible refine sr ?_);intro Kz kz;conv=>whnf)|((with_reducible refine cd ?_);(conv=>arg 2;whnf);(with_reducible refine st ?_))|refine blockK_y (by rfl) ?_|refine blockR_y (by rfl) ?_|((with_reducible refine sw ?_);conv=>whnf))|((with_reducible refine gm ?_);conv=>whnf)|(intro hc;(try dsimp +instances only[Dat,SDat,dflt,Ty.size,keepS,bkUpd,Gv.bk,backS,wayA,maxI,minI,negI]at hc);try simp only[LS]at hc))
  all_goals (try ((fail_if_success (with_reducible refine nl ?_));(try dsimp only[Dat,SDat,dflt,Ty.size,keepS,bkUpd,Gv.bk,backS,wayA,maxI,minI,negI]);(try simp only[LS]);first|done|exact dsc|((try simp only[allP,lo,hi,room,true_and,and_true,implies_true]);(repeat' (first|refine an ?_ ?_|((with_reducible refine preA_t ?_ ?_);rotate_left;exact sameP_t)|intro hv))<;>(try omega))))
theorem ok_ledger_bare : SpecOK SP glob fi_ledger_bare S_ledger_bare := mk_ok (c := c_ledger_bare) (tab_ok _) mix_ok wf_ledger_bare (by decide) .nil (fun x hx => Nat.zero_lt_one) g_ledger_bare
@[reducible] noncomputable def S_feed_Valid : Spec := { ins := (.cons (.d tDel) .nil), pre := (fun x => (fun d => False ∧ True) x.1), alts := [{ outs := (.cons (.d .bool) .nil), res := (fun x => (fun d => (false, ())) x.1) }] }
noncomputable def c_feed_Valid : Cf := (cf_feed_Valid (Fl []))
theorem g_feed_Valid : ∀ x, S_feed_Valid.pre x → shOK S_feed_Valid.ins x → fnGoal c_feed_Valid fn_feed_Valid S_feed_Valid x := by
  rintro ⟨d, ⟨⟩⟩ hpre hok
  try dsimp only [Dat,SDat,dflt,Ty.size,keepS,bkUpd,Gv.bk,backS,wayA,maxI,minI,negI] at hpre
  have hln := shLn_of _ hok; replace hok := Hd.mk hok; try simp only [shLn, datLn, inRng, lo, hi, maxLen, true_and, and_true] at hln
  exact hpre.1.elim
theorem ok_feed_Valid : SpecOK SP glob fi_feed_Valid S_feed_Valid := mk_ok (c := c_feed_Valid) (tab_ok _) mix_ok wf_feed_Valid (by decide) .nil (fun x hx => Nat.zero_lt_one) g_feed_Valid
@[reducible] noncomputable def S_ledger_key : Spec := { ins := (.cons (.d tKey) .nil), pre := (fun x => (fun k => False ∧ True) x.1), alts := [{ outs := (.cons (.d .bool) .nil), res := (fun x => (fun k => (false, ())) x.1) }] }
noncomputable def c_ledger_key : Cf := (cf_ledger_key (Fl []))
theorem g_ledger_key : ∀ x, S_ledger_key.pre x → shOK S_ledger_key.ins x → fnGoal c_ledger_key fn_ledger_key S_ledger_key x := by
  rintro ⟨k, ⟨⟩⟩ hpre hok
  try dsimp only [Dat,SDat,dflt,Ty.size,keepS,bkUpd,Gv.bk,backS,wayA,maxI,minI,negI] at hpre
  have hln := shLn_of _ hok; replace hok := Hd.mk hok; try simp only [shLn, datLn, inRng, lo, hi, maxLen, true_and, and_true] at hln
  exact hpre.1.elim
theorem ok_ledger_key : SpecOK SP glob fi_ledger_key S_ledger_key := mk_ok (c := c_ledger_key) (tab_ok _) mix_ok wf_ledger_key (by decide) .nil (fun x hx => Nat.zero_lt_one) g_ledger_key
@[reducible] noncomputable def S_ledger_compareKeys : Spec := { ins := (.cons (.d tKey) (.cons (.d tKey) .nil)), pre := (fun x => (fun a b => False ∧ True) x.1 x.2.1), alts := [{ outs := (.cons (.d tInt) .nil), res := (fun x => (fun a b => (0, ())) x.1 x.2.1) }] }
noncomputable def c_ledger_compareKeys : Cf := (cf_ledger_compareKeys (Fl []))
theorem g_ledger_compareKeys : ∀ x, S_ledger_compareKeys.pre x → shOK S_ledger_compareKeys.ins x → fnGoal c_ledger_compareKeys fn_ledger_compareKeys S_ledger_compareKeys x := by
  rintro ⟨a, b, ⟨⟩⟩ hpre hok
  try dsimp only [Dat,SDat,dflt,Ty.size,keepS,bkUpd,Gv.bk,backS,wayA,maxI,minI,negI] at hpre
  have hln := shLn_of _ hok; replace hok := Hd.mk hok; try simp only [shLn, datLn, inRng, lo, hi, maxLen, true_and, and_true] at hln
  exact hpre.1.elim
theorem ok_ledger_compareKeys : SpecOK SP glob fi_ledger_compareKeys S_ledger_compareKeys := mk_ok (c := c_ledger_compareKeys) (tab_ok _) mix_ok wf_ledger_compareKeys (by decide) .nil (fun x hx => Nat.zero_lt_one) g_ledger_compareKeys
@[reducible] noncomputable def S_ledger_change : Spec := { ins := (.cons (.d tChg) .nil), pre := (fun x => (fun c => False ∧ True) x.1), alts := [{ outs := (.cons (.d .bool) .nil), res := (fun x => (fun c => (false, ())) x.1) }] }
noncomputable def c_ledger_change : Cf := (cf_ledger_change (Fl []))
theorem g_ledger_change : ∀ x, S_ledger_change.pre x → shOK S_ledger_change.ins x → fnGoal c_ledger_change fn_ledger_change S_ledger_change x := by
  rintro ⟨c, ⟨⟩⟩ hpre hok
  try dsimp only [Dat,SDat,dflt,Ty.size,keepS,bkUpd,Gv.bk,backS,wayA,maxI,minI,negI] at hpre
  have hln := shLn_of _ hok; replace hok := Hd.mk hok; try simp only [shLn, datLn, inRng, lo, hi, maxLen, true_and, and_true] at hln
  exact hpre.1.elim
theorem ok_ledger_change : SpecOK SP glob fi_ledger_change S_ledger_change := mk_ok (c := c_ledger_change) (tab_ok _) mix_ok wf_ledger_change (by decide) .nil (fun x hx => Nat.zero_lt_one) g_ledger_change
@[reducible] noncomputable def S_feed_Text : Spec := { ins := (.cons (.d tDel) .nil), pre := (fun x => (fun d => False ∧ True) x.1), alts := [{ outs := (.cons (.d .str) .nil), res := (fun x => (fun d => ([], ())) x.1) }] }
noncomputable def c_feed_Text : Cf := (cf_feed_Text (Fl []))
theorem g_feed_Text : ∀ x, S_feed_Text.pre x → shOK S_feed_Text.ins x → fnGoal c_feed_Text fn_feed_Text S_feed_Text x := by
  rintro ⟨d, ⟨⟩⟩ hpre hok
  try dsimp only [Dat,SDat,dflt,Ty.size,keepS,bkUpd,Gv.bk,backS,wayA,maxI,minI,negI] at hpre
  have hln := shLn_of _ hok; replace hok := Hd.mk hok; try simp only [shLn, datLn, inRng, lo, hi, maxLen, true_and, and_true] at hln
  exact hpre.1.elim
theorem ok_feed_Text : SpecOK SP glob fi_feed_Text S_feed_Text := mk_ok (c := c_feed_Text) (tab_ok _) mix_ok wf_feed_Text (by decide) .nil (fun x hx => Nat.zero_lt_one) g_feed_Text
@[reducible] noncomputable def S_value_Text : Spec := { ins := (.cons (.d tVal) .nil), pre := (fun x => (fun d => False ∧ True) x.1), alts := [{ outs := (.cons (.d .str) .nil), res := (fun x => (fun d => ([], ())) x.1) }] }
noncomputable def c_value_Text : Cf := (cf_value_Text (Fl []))
theorem g_value_Text : ∀ x, S_value_Text.pre x → shOK S_value_Text.ins x → fnGoal c_value_Text fn_value_Text S_value_Text x := by
  rintro ⟨d, ⟨⟩⟩ hpre hok
  try dsimp only [Dat,SDat,dflt,Ty.size,keepS,bkUpd,Gv.bk,backS,wayA,maxI,minI,negI] at hpre
  have hln := shLn_of _ hok; replace hok := Hd.mk hok; try simp only [shLn, datLn, inRng, lo, hi, maxLen, true_and, and_true] at hln
  exact hpre.1.elim
theorem ok_value_Text : SpecOK SP glob fi_value_Text S_value_Text := mk_ok (c := c_value_Text) (tab_ok _) mix_ok wf_value_Text (by decide) .nil (fun x hx => Nat.zero_lt_one) g_value_Text
@[reducible] noncomputable def S_cmp_Or_string : Spec := { ins := (.cons (.d (.sl .str)) .nil), pre := (fun x => (fun d => False ∧ True) x.1), alts := [{ outs := (.cons (.d .str) .nil), res := (fun x => (fun d => ([], ())) x.1) }] }
noncomputable def c_cmp_Or_string : Cf := (cf_cmp_Or_string (Fl []))
theorem g_cmp_Or_string : ∀ x, S_cmp_Or_string.pre x → shOK S_cmp_Or_string.ins x → fnGoal c_cmp_Or_string fn_cmp_Or_string S_cmp_Or_string x := by
  rintro ⟨d, ⟨⟩⟩ hpre hok
  try dsimp only [Dat,SDat,dflt,Ty.size,keepS,bkUpd,Gv.bk,backS,wayA,maxI,minI,negI] at hpre
  have hln := shLn_of _ hok; replace hok := Hd.mk hok; try simp only [shLn, datLn, inRng, lo, hi, maxLen, true_and, and_true] at hln
  exact hpre.1.elim
theorem ok_cmp_Or_string : SpecOK SP glob fi_cmp_Or_string S_cmp_Or_string := mk_ok (c := c_cmp_Or_string) (tab_ok _) mix_ok wf_cmp_Or_string (by decide) .nil (fun x hx => Nat.zero_lt_one) g_cmp_Or_string
@[reducible] noncomputable def S_ledger_Valid : Spec := { ins := (.cons (.d tEv) .nil), pre := (fun x => (fun e => okE e) x.1), alts := [{ outs := (.cons (.d .bool) .nil), res := (fun x => (fun e => (decide (e.1 = 7), ())) x.1) }] }
noncomputable def c_ledger_Valid : Cf := (cf_ledger_Valid (Fl [(fi_feed_Valid, S_feed_Valid), (fi_ledger_key, S_ledger_key), (fi_ledger_compareKeys, S_ledger_compareKeys), (fi_ledger_change, S_ledger_change), (fi_ledger_ident, S_ledger_ident), (fi_ledger_compareIds, S_ledger_compareIds), (fi_ledger_source, S_ledger_source), (fi_ledger_identifier, S_ledger_identifier), (fi_ledger_bare, S_ledger_bare)]))
theorem g_ledger_Valid : ∀ x, S_ledger_Valid.pre x → shOK S_ledger_Valid.ins x → fnGoal c_ledger_Valid fn_ledger_Valid S_ledger_Valid x := by
  rintro ⟨e, ⟨⟩⟩ hpre hok
  try dsimp only [Dat,SDat,dflt,Ty.size,keepS,bkUpd,Gv.bk,backS,wayA,maxI,minI,negI] at hpre
  have hln := shLn_of _ hok; replace hok := Hd.mk hok; try simp only [shLn, datLn, inRng, lo, hi, maxLen, true_and, and_true] at hln
  rcases hpre with h | h | h <;> subst h
  all_goals (clear hln)
  · first | refine fn_goal (w_head ?_)
    intro Kz kz;(conv=>whnf);(try dsimp +instances only);refine kz _ ?_;clear kz Kz;(conv=>(arg 2;whnf))
    repeat' (first|(with_reducible first|refine an ?_ ?_|((try refine gm ?_);refine st ?_))|((try (with_reducible refine gm ?_));first|((with_reducible show Kz _);(try dsimp +instances only);(with_reducible refine kz _ ?_);clear kz Kz)|((with_reducible refine sr ?_);intro Kz kz;conv=>whnf)|((with_reducible refine cd ?_);(conv=>arg 2;whnf);(with_reducible refine st ?_))|refine blockK_y (by rfl) ?_|refine blockR_y (by rfl) ?_|((with_reducible refine sw ?_);conv=>whnf))|((with_reducible refine gm ?_);conv=>whnf)|(intro hc;(try dsimp +instances only[Dat,SDat,dflt,Ty.size,keepS,bkUpd,Gv.bk,backS,wayA,maxI,minI,negI]at hc);try simp only[LS]at hc))
    all_goals (try ((fail_if_success (with_reducible refine nl ?_));(try dsimp only[Dat,SDat,dflt,Ty.size,keepS,bkUpd,Gv.bk,backS,wayA,maxI,minI,negI]);(try simp only[LS]);first|done|exact dsc|((try simp only[allP,lo,hi,room,true_and,and_true,implies_true]);(repeat' (first|refine an ?_ ?_|((with_reducible refine preA_t ?_ ?_);rotate_left;exact sameP_t)|intro hv))<;>(try omega))))
    exact .inl trivial
  · first | refine fn_goal (w_head ?_)
    intro Kz kz;(conv=>whnf);(try dsimp +instances only);refine kz _ ?_;clear kz Kz;(conv=>(arg 2;whnf))
    repeat' (first|(with_reducible first|refine an ?_ ?_|((try refine gm ?_);refine st ?_))|((try (with_reducible refine gm ?_));first|((with_reducible show Kz _);(try dsimp +instances only);(with_reducible refine kz _ ?_);clear kz Kz)|((with_reducible refine sr ?_);intro Kz kz;conv=>whnf)|((with_reducible refine cd ?_);(conv=>arg 2;whnf);(with_reducible refine st ?_))|refine blockK_y (by rfl) ?_|refine blockR_y (by rfl) ?_|((with_reducible refine sw ?_);conv=>whnf))|((with_reducible refine gm ?_);conv=>whnf)|(intro hc;(try dsimp +instances only[Dat,SDat,dflt,Ty.size,keepS,bkUpd,Gv.bk,backS,wayA,maxI,minI,negI]at hc);try simp only[LS]at hc))
    all_goals (try ((fail_if_success (with_reducible refine nl ?_));(try dsimp only[Dat,SDat,dflt,Ty.size,keepS,bkUpd,Gv.bk,backS,wayA,maxI,minI,negI]);(try simp only[LS]);first|done|exact dsc|((try simp only[allP,lo,hi,room,true_and,and_true,implies_true]);(repeat' (first|refine an ?_ ?_|((with_reducible refine preA_t ?_ ?_);rotate_left;exact sameP_t)|intro hv))<;>(try omega))))
    exact .inr trivial
  · first | refine fn_goal (w_head ?_)
    intro Kz kz;(conv=>whnf);(try dsimp +instances only);refine kz _ ?_;clear kz Kz;(conv=>(arg 2;whnf))
    repeat' (first|(with_reducible first|refine an ?_ ?_|((try refine gm ?_);refine st ?_))|((try (with_reducible refine gm ?_));first|((with_reducible show Kz _);(try dsimp +instances only);(with_reducible refine kz _ ?_);clear kz Kz)|((with_reducible refine sr ?_);intro Kz kz;conv=>whnf)|((with_reducible refine cd ?_);(conv=>arg 2;whnf);(with_reducible refine st ?_))|refine blockK_y (by rfl) ?_|refine blockR_y (by rfl) ?_|((with_reducible refine sw ?_);conv=>whnf))|((with_reducible refine gm ?_);conv=>whnf)|(intro hc;(try dsimp +instances only[Dat,SDat,dflt,Ty.size,keepS,bkUpd,Gv.bk,backS,wayA,maxI,minI,negI]at hc);try simp only[LS]at hc))
    all_goals (try ((fail_if_success (with_reducible refine nl ?_));(try dsimp only[Dat,SDat,dflt,Ty.size,keepS,bkUpd,Gv.bk,backS,wayA,maxI,minI,negI]);(try simp only[LS]);first|done|exact dsc|((try simp only[allP,lo,hi,room,true_and,and_true,implies_true]);(repeat' (first|refine an ?_ ?_|((with_reducible refine preA_t ?_ ?_);rotate_left;exact sameP_t)|intro hv))<;>(try omega))))
theorem ok_ledger_Valid : SpecOK SP glob fi_ledger_Valid S_ledger_Valid := mk_ok (c := c_ledger_Valid) (tab_ok _) mix_ok wf_ledger_Valid (by decide) (.cons ok_feed_Valid (.cons ok_ledger_key (.cons ok_ledger_compareKeys (.cons ok_ledger_change (.cons ok_ledger_ident (.cons ok_ledger_compareIds (.cons ok_ledger_source (.cons ok_ledger_identifier (.cons ok_ledger_bare .nil))))))))) (fun x hx => Nat.zero_lt_one) g_ledger_Valid
end Go.Gv
