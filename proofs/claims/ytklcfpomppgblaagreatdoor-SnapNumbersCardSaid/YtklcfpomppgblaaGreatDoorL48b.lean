/- Chapter 48: the law's example, and the law SnapNumbers. -/
import Derived.Test.YtklcfpomppgblaaGreatDoorL48
set_option linter.all false
namespace Go.Gv
open Go Go.Proofs Go.Proofs.YtklcfpomppgblaaGreatDoor
set_option maxRecDepth 100000
set_option maxHeartbeats 4000000
@[reducible] noncomputable def S_law48_head : Spec := { ins := .nil, pre := fun _ => True, alts := [{ outs := (.cons (.d .bool) .nil), res := (fun _ => (true, ())) }], noisy := true }
noncomputable def c_law48_head : Cf := { cf_law48_head (Fl [(fi_snap_New, S_snap_New), (fi_law48_erase, S_law48_erase), (fi_snap_Snap_Write, S_hWrite), (fi_snap_Snap_Open, S_hOpen), (fi_snap_Snap_Read, S_hRead), (fi_snap_Snap_Collect, S_hCollect), (fi_snap_Snap_Close, S_hClose), (fi_snap_Snap_Open, S_snap_Open_nil), (fi_snap_Snap_Collect, S_snap_Collect_nil), (fi_ref13_Lists, S_ref13_Lists)]) with nz := true }
theorem g_law48_head : ∀ x, S_law48_head.pre x → shOK S_law48_head.ins x → fnGoal c_law48_head fn_law48_head S_law48_head x := by
  rintro ⟨⟩ hpre hok
  clear hpre
  have hln := shLn_of _ hok; replace hok := Hd.mk hok; try simp only [shLn, datLn, inRng, lo, hi, maxLen, true_and, and_true] at hln
  clear hln
  first | refine fn_goal (w_head ?_)
  intro Kz kz;(conv=>whnf);(try dsimp +instances only);refine kz _ ?_;clear kz Kz;(conv=>(arg 2;whnf))
  repeat' (first|(with_reducible first|refine an ?_ ?_|((try refine gm ?_);refine st ?_))|((try (with_reducible refine gm ?_));first|((with_reducible show Kz _);(try dsimp +instances only);(with_reducible refine kz _ ?_);clear kz Kz)|((with_reducible refine sr ?_);intro Kz kz;conv=>whnf)|((with_reducible refine cd ?_);(conv=>arg 2;whnf);(with_reducible refine st ?_))|refine blockK_y (by rfl) ?_|refine blockR_y (by rfl) ?_|((with_reducible refine sw ?_);conv=>whnf))|((with_reducible refine gm ?_);conv=>whnf)|(intro hc;(try dsimp +instances only[Dat,SDat,dflt,Ty.size,keepS,bkUpd,Gv.bk,backS,wayA,maxI,minI,negI]at hc);try simp only[LS]at hc))
  all_goals (try ((fail_if_success (with_reducible refine nl ?_));(try dsimp only[Dat,SDat,dflt,Ty.size,keepS,bkUpd,Gv.bk,backS,wayA,maxI,minI,negI]);(try simp only[LS]);first|done|exact dsc|((try simp only[allP,lo,hi,room,true_and,and_true,implies_true]);(repeat' (first|refine an ?_ ?_|((with_reducible refine preA_t ?_ ?_);rotate_left;exact sameP_t)|intro hv))<;>(try omega))))
  all_goals (first | rfl | exact .inl trivial | exact .inr (.inl trivial) | exact .inl ⟨rfl, rfl, rfl, rfl⟩ | exact .inr trivial | exact .inr (.inr rfl))
theorem ok_law48_head : SpecOK SP glob fi_law48_head S_law48_head := mk_ok (c := c_law48_head) (tab_ok _) mix_ok wf_law48_head (by decide) (.cons ok_snap_New (.cons ok_law48_erase (.cons ok_hWrite (.cons ok_hOpen (.cons ok_hRead (.cons ok_hCollect (.cons ok_hClose (.cons ok_snap_Open_nil (.cons ok_snap_Collect_nil (.cons ok_ref13_Lists .nil)))))))))) (fun x hx => Nat.zero_lt_one) g_law48_head
theorem mdel_none {α β : Type} [DecidableEq α] {y : α} {m : List (α × β)} (h : ∀ e ∈ m, e.1 ≠ y) : (m.filter fun e => !decide (e.1 = y)) = m :=
  List.filter_eq_self.2 fun e he => by simp [h e he]
theorem mget_fil {α β : Type} [DecidableEq α] {y z : α} : ∀ {m : List (α × β)}, mget (m.filter fun e => !decide (e.1 = y)) z = if z = y then none else mget m z
  | [] => by simp [mget]
  | (k, v) :: m => by
    by_cases hk : k = y
    · rw [List.filter_cons_of_neg (by simp [hk]), mget_fil]
      split
      · rfl
      · rename_i hz
        rw [mget, if_neg (by rw [hk]; exact fun h => hz h.symm)]
    · rw [List.filter_cons_of_pos (by simp [hk])]
      by_cases hz : k = z
      · rw [mget, if_pos hz, mget, if_pos hz, if_neg (by rw [← hz]; exact hk)]
      · rw [mget, if_neg hz, mget, if_neg hz, mget_fil]
theorem mdel_len {α β : Type} [DecidableEq α] {y : α} : ∀ {m : List (α × β)}, (mget m y).isSome = true → (mdel m y).length + 1 = m.length
  | [], h => by simp [mget] at h
  | (k, v) :: m, h => by
    unfold mdel
    split
    · simp
    · rename_i hk
      rw [mget, if_neg hk] at h
      have := mdel_len h
      simp only [List.length_cons]; omega
structure InvN (ol : List Bool) (cnt n : Int) (vs : VsD) (op : Int) (om : OmD) : Prop where
  n0 : n = 0
  v0 : vs = V0
  o0 : op = (ol.length : Int)
  c0 : cnt = (om.length : Int)
  le : om.length ≤ 100
  nd : (om.map Prod.fst).Nodup
  mg : ∀ j : Int, @mget (Dat tInt) (Dat tInt) (instDecidableEqDat tInt) om j = if (1 ≤ j ∧ j ≤ (ol.length : Int)) ∧ ol.getD (j - 1).toNat false = true then some 0 else none
theorem InvN.som {ol : List Bool} {cnt n : Int} {vs : VsD} {op : Int} {om : OmD} (h : InvN ol cnt n vs op om) (k : Int) : (@mget (Dat tInt) (Dat tInt) (instDecidableEqDat tInt) om k).isSome = true ↔ (1 ≤ k ∧ k ≤ (ol.length : Int)) ∧ ol.getD (k - 1).toNat false = true := by
  rw [h.mg k]
  split
  · rename_i hk; exact ⟨fun _ => hk, fun _ => rfl⟩
  · rename_i hk; exact ⟨fun h => Bool.noConfusion h, fun h => (hk h).elim⟩
theorem InvN.new : InvN [] 0 0 V0 0 [] := ⟨rfl, rfl, rfl, rfl, by decide, by decide, fun j => by
  rw [if_neg (fun h => absurd h.2 Bool.false_ne_true)]; rfl⟩
theorem getD_snoc {l : List Bool} {i : Nat} (h : i < l.length) : (l ++ [true]).getD i false = l.getD i false := by
  simp [List.getD_eq_getElem?_getD, List.getElem?_append_left h]
theorem getD_snoc_last {l : List Bool} : (l ++ [true]).getD l.length false = true := by
  simp [List.getD_eq_getElem?_getD]
theorem InvN.opn {ol : List Bool} {cnt n : Int} {vs : VsD} {op : Int} {om : OmD} (h : InvN ol cnt n vs op om) (hl : ¬ List.length om = 100) : InvN (ol ++ [true]) (cnt + 1) n vs (op + 1) (@mput (Dat tInt) (Dat tInt) (instDecidableEqDat tInt) om (op + 1) n) := by
  have hno : @mget (Dat tInt) (Dat tInt) (instDecidableEqDat tInt) om (op + 1) = none := by
    rw [h.mg, if_neg]
    have := h.o0
    intro hc; omega
  have hp : @mput (Dat tInt) (Dat tInt) (instDecidableEqDat tInt) om (op + 1) n = om ++ [(op + 1, n)] := mput_none hno
  refine ⟨h.n0, h.v0, by have := h.o0; simp; omega, ?_, ?_, ?_, fun j => ?_⟩
  · rw [hp, h.c0]; simp
  · rw [hp]; have := h.le; simp; omega
  · rw [hp, List.map_append]
    refine List.nodup_append.2 ⟨h.nd, by simp, fun a ha b hb e => ?_⟩
    obtain ⟨x, hx, hx2⟩ := List.mem_map.1 ha
    have hb' : b = op + 1 := by simpa using hb
    exact (mget_none.1 hno) x hx (by rw [hx2, e, hb'])
  · rw [mget_mput]
    have ho := h.o0
    split
    · rename_i hj
      have hj' : op + 1 = j := hj
      rw [if_pos, h.n0]
      refine ⟨⟨by omega, by simp; omega⟩, ?_⟩
      rw [show (j - 1).toNat = ol.length by omega]
      exact getD_snoc_last
    · rename_i hj
      have hj' : ¬ op + 1 = j := hj
      rw [h.mg j]
      by_cases hj2 : 1 ≤ j ∧ j ≤ (ol.length : Int)
      · rw [getD_snoc (by omega)]
        congr 1
        simp only [List.length_append, List.length_cons, List.length_nil]
        refine propext (and_congr_left fun _ => ?_)
        omega
      · rw [if_neg (fun hc => hj2 hc.1), if_neg]
        intro hc
        have := hc.1
        simp only [List.length_append, List.length_cons, List.length_nil] at this
        omega
theorem InvN.cls {ol : List Bool} {cnt n : Int} {vs : VsD} {op : Int} {om : OmD} (h : InvN ol cnt n vs op om) {k : Int} (hk : (@mget (Dat tInt) (Dat tInt) (instDecidableEqDat tInt) om k).isSome = true) : InvN (ol.set (k - 1).toNat false) (cnt - 1) n vs op (@mdel (Dat tInt) (Dat tInt) (instDecidableEqDat tInt) om k) := by
  have hl : (@mdel (Dat tInt) (Dat tInt) (instDecidableEqDat tInt) om k).length + 1 = om.length := mdel_len hk
  have hd : @mdel (Dat tInt) (Dat tInt) (instDecidableEqDat tInt) om k = om.filter fun e => !decide (e.1 = k) := mdel_fil h.nd
  have hs := (h.som k).1 hk
  refine ⟨h.n0, h.v0, by have := h.o0; simpa using this, by have := h.c0; omega, by have := h.le; omega, ?_, fun j => ?_⟩
  · rw [hd]; exact h.nd.sublist (List.filter_sublist.map _)
  · have hg : @mget (Dat tInt) (Dat tInt) (instDecidableEqDat tInt) (@mdel (Dat tInt) (Dat tInt) (instDecidableEqDat tInt) om k) j = if j = k then none else @mget (Dat tInt) (Dat tInt) (instDecidableEqDat tInt) om j := by
      have h1 := @mdel_fil Int Int (instDecidableEqDat tInt) k om h.nd
      show @mget Int Int (instDecidableEqDat tInt) (@mdel Int Int (instDecidableEqDat tInt) om k) j = _
      rw [h1, @mget_fil Int Int (instDecidableEqDat tInt) k j om]
      by_cases hj : j = k
      · rw [if_pos hj, if_pos hj]
      · rw [if_neg hj, if_neg hj]
    rw [hg, h.mg j, List.length_set]
    split
    · rename_i hj
      rw [if_neg]
      intro hc
      have h2 := hc.2
      rw [hj] at h2
      rw [List.getD_eq_getElem?_getD, List.getElem?_set_self (by omega)] at h2
      exact Bool.noConfusion h2
    · rename_i hj
      by_cases hj2 : 1 ≤ j ∧ j ≤ (ol.length : Int)
      · rw [List.getD_eq_getElem?_getD (l := ol.set _ _), List.getElem?_set_ne (by omega), ← List.getD_eq_getElem?_getD]
      · rw [if_neg (fun hc => hj2 hc.1), if_neg (fun hc => hj2 hc.1)]

theorem c22 (b : Bool) : ((if b = true then (0 : Int) else 22) = 0 ↔ b = true) := by cases b <;> decide
theorem InvN.v0len {ol : List Bool} {cnt n : Int} {vs : VsD} {op : Int} {om : OmD} (h : InvN ol cnt n vs op om) (v : Int) : ((@mget (Dat tInt) (Dat (.sl tEv)) (instDecidableEqDat tInt) vs v).getD []).length ≤ 1000000 := by
  refine readOK (fun e he => ?_) v
  rw [h.v0] at he
  have := List.mem_singleton.1 he
  rw [this]; exact Nat.zero_le _
@[reducible] noncomputable def S_law48_SnapNumbers : Spec := { ins := (.cons (.d (.sl tBy)) .nil), pre := fun _ => True, alts := [{ outs := (.cons (.d .bool) .nil), res := (fun x => (fun l => (true, ())) x.1) }], noisy := true }
noncomputable def c_law48_SnapNumbers : Cf := { cf_law48_SnapNumbers (Fl [(fi_law48_head, S_law48_head), (fi_snap_New, S_snap_New), (fi_snap_Snap_Open, S_snap_Snap_Open), (fi_snap_Snap_Close, S_snap_Snap_Close), (fi_snap_Snap_Read, S_snap_Snap_Read)]) with nz := true }
theorem g_law48_SnapNumbers : ∀ x, S_law48_SnapNumbers.pre x → shOK S_law48_SnapNumbers.ins x → fnGoal c_law48_SnapNumbers fn_law48_SnapNumbers S_law48_SnapNumbers x := by
  rintro ⟨l, ⟨⟩⟩ hpre hok
  clear hpre
  have hln := shLn_of _ hok; replace hok := Hd.mk hok; try simp only [shLn, datLn, inRng, lo, hi, maxLen, true_and, and_true] at hln
  first | refine fn_goal (w_head ?_)
  intro Kz kz;(conv=>whnf);(try dsimp +instances only);refine kz _ ?_;clear kz Kz;(conv=>(arg 2;whnf))
  repeat' (first|(with_reducible first|refine an ?_ ?_|((try refine gm ?_);refine st ?_))|((try (with_reducible refine gm ?_));first|((with_reducible show Kz _);(try dsimp +instances only);(with_reducible refine kz _ ?_);clear kz Kz)|((with_reducible refine sr ?_);intro Kz kz;conv=>whnf)|((with_reducible refine cd ?_);(conv=>arg 2;whnf);(with_reducible refine st ?_))|refine blockK_y (by rfl) ?_|refine blockR_y (by rfl) ?_|((with_reducible refine sw ?_);conv=>whnf))|((with_reducible refine gm ?_);conv=>whnf)|(intro hc;(try dsimp +instances only[Dat,SDat,dflt,Ty.size,keepS,bkUpd,Gv.bk,backS,wayA,maxI,minI,negI]at hc);try simp only[LS]at hc))
  all_goals (try ((fail_if_success (with_reducible refine nl ?_));(try dsimp only[Dat,SDat,dflt,Ty.size,keepS,bkUpd,Gv.bk,backS,wayA,maxI,minI,negI]);(try simp only[LS]);first|done|exact dsc|((try simp only[allP,lo,hi,room,true_and,and_true,implies_true]);(repeat' (first|refine an ?_ ?_|((with_reducible refine preA_t ?_ ?_);rotate_left;exact sameP_t)|intro hv))<;>(try omega))))
  refine w_loop [(5, .row .bool), (6, .d tInt), (7, .d tInt)] [(0, .cons (.d tInt) (.cons (.map tInt (.sl tEv)) (.cons (.d tInt) (.cons (.map tInt tInt) .nil))))] (fun y => ∃ k : Nat, y.1.2.2.1 = (k : Int) ∧ k ≤ l.length ∧ List.length y.1.1 ≤ k ∧ InvN y.1.1 y.1.2.1 y.2.1.1 y.2.1.2.1 y.2.1.2.2.1 y.2.1.2.2.2.1) (fun y => l.length - y.1.2.2.1.toNat) ?_
  conv => whnf
  refine And.intro ?_ ?_
  · exact ⟨0, rfl, Nat.zero_le _, Nat.le_refl _, InvN.new⟩
  rintro ⟨⟨ol, cnt, _, ⟨⟩⟩, ⟨n, vs, op, om, ⟨⟩⟩, ⟨⟩⟩ ⟨k, rfl, hk, hok1, hI⟩
  dsimp only [SDat, Dat] at hok1 hI
  have hlen : k ≤ 150 := by omega
  have hO := hI.o0
  have hC := hI.c0
  have hL := hI.le
  have hby : k < l.length → (0 : Int) ≤ List.getD l k 0 ∧ List.getD l k 0 ≤ 255 := fun h => by
    have h2 := hok.out.1.2 _ (getD_mem (l := l) (d := (0 : Int)) h)
    simp only [datOK, inRng, lo, hi] at h2
    exact h2
  repeat' (first|(with_reducible first|refine an ?_ ?_|((try refine gm ?_);refine st ?_))|((try (with_reducible refine gm ?_));first|((with_reducible show Kz _);(try dsimp +instances only);(with_reducible refine kz _ ?_);clear kz Kz)|((with_reducible refine sr ?_);intro Kz kz;conv=>whnf)|((with_reducible refine cd ?_);(conv=>arg 2;whnf);(with_reducible refine st ?_))|refine blockK_y (by rfl) ?_|refine blockR_y (by rfl) ?_|((with_reducible refine sw ?_);conv=>whnf))|((with_reducible refine gm ?_);conv=>whnf)|(intro hc;(try dsimp +instances only[Dat,SDat,dflt,Ty.size,keepS,bkUpd,Gv.bk,backS,wayA,maxI,minI,negI]at hc);try simp only[LS]at hc))
  all_goals (try ((fail_if_success (with_reducible refine nl ?_));(try dsimp only[Dat,SDat,dflt,Ty.size,keepS,bkUpd,Gv.bk,backS,wayA,maxI,minI,negI]);(try simp only[LS]);first|done|exact dsc|((try simp only[allP,lo,hi,room,true_and,and_true,implies_true]);(repeat' (first|refine an ?_ ?_|((with_reducible refine preA_t ?_ ?_);rotate_left;exact sameP_t)|intro hv))<;>(try omega))))
  · exact Int.le_trans (hby (by omega)).2 (by decide)
  · have h100 : List.length om = 100 := by omega
    exfalso
    simp only [if_pos h100] at hc
    exact hc ((c22 _).trans (hI.som _))
  · have h100 : List.length om = 100 := by omega
    have hs := (hI.som _).2 hc
    simp only [if_pos h100]
    refine ⟨k + 1, by omega, by omega, by omega, ?_⟩
    rw [if_pos hs]
    exact hI.cls hs
  · have h100 : List.length om = 100 := by omega
    have hs := mt (hI.som _).1 hc
    simp only [if_pos h100]
    refine ⟨k + 1, by omega, by omega, by omega, ?_⟩
    rw [if_neg hs]
    exact hI
  · exact Int.le_trans (hby (by omega)).2 (by decide)
  · have h100 : ¬ List.length om = 100 := by omega
    have J := hI.opn h100
    have hJ := J.som (List.getD l k 0)
    rw [show (ol ++ [true]).length = List.length ol + 1 from by simp] at hJ
    exfalso
    simp only [if_neg h100] at hc
    exact hc ((c22 _).trans hJ)
  · have h100 : ¬ List.length om = 100 := by omega
    have J := hI.opn h100
    have hJ := J.som (List.getD l k 0)
    rw [show (ol ++ [true]).length = List.length ol + 1 from by simp] at hJ
    have hs := hJ.2 hc
    simp only [if_neg h100]
    refine ⟨k + 1, by omega, by omega, by omega, ?_⟩
    rw [if_pos hs]
    exact J.cls hs
  · have h100 : ¬ List.length om = 100 := by omega
    have J := hI.opn h100
    have hJ := J.som (List.getD l k 0)
    rw [show (ol ++ [true]).length = List.length ol + 1 from by simp] at hJ
    have hs := mt hJ.1 hc
    simp only [if_neg h100]
    refine ⟨k + 1, by omega, by omega, by omega, ?_⟩
    rw [if_neg hs]
    exact J
  refine w_loop [(5, .row .bool), (12, .d tInt)] [(0, .cons (.d tInt) (.cons (.map tInt (.sl tEv)) (.cons (.d tInt) (.cons (.map tInt tInt) .nil))))] (fun y => ∃ i : Nat, y.1.2.1 = (i : Int) ∧ i ≤ ol.length ∧ y.1.1 = ol ∧ y.2.1.2.1 = vs ∧ y.2.1.2.2.2.1 = om) (fun y => ol.length - y.1.2.1.toNat) ?_
  conv => whnf
  refine And.intro ?_ ?_
  · exact ⟨0, rfl, Nat.zero_le _, rfl, rfl, rfl⟩
  rintro ⟨⟨ol2, _, ⟨⟩⟩, ⟨n2, vs2, op2, om2, ⟨⟩⟩, ⟨⟩⟩ ⟨i, rfl, hi1, e1, e2, e3⟩
  dsimp only [SDat, Dat] at e1 e2 e3
  subst e1 e2 e3
  repeat' (first|(with_reducible first|refine an ?_ ?_|((try refine gm ?_);refine st ?_))|((try (with_reducible refine gm ?_));first|((with_reducible show Kz _);(try dsimp +instances only);(with_reducible refine kz _ ?_);clear kz Kz)|((with_reducible refine sr ?_);intro Kz kz;conv=>whnf)|((with_reducible refine cd ?_);(conv=>arg 2;whnf);(with_reducible refine st ?_))|refine blockK_y (by rfl) ?_|refine blockR_y (by rfl) ?_|((with_reducible refine sw ?_);conv=>whnf))|((with_reducible refine gm ?_);conv=>whnf)|(intro hc;(try dsimp +instances only[Dat,SDat,dflt,Ty.size,keepS,bkUpd,Gv.bk,backS,wayA,maxI,minI,negI]at hc);try simp only[LS]at hc))
  all_goals (try ((fail_if_success (with_reducible refine nl ?_));(try dsimp only[Dat,SDat,dflt,Ty.size,keepS,bkUpd,Gv.bk,backS,wayA,maxI,minI,negI]);(try simp only[LS]);first|done|exact dsc|((try simp only[allP,lo,hi,room,true_and,and_true,implies_true]);(repeat' (first|refine an ?_ ?_|((with_reducible refine preA_t ?_ ?_);rotate_left;exact sameP_t)|intro hv))<;>(try omega))))
  · exact hI.v0len _
  · exfalso
    refine hc ((c22 _).trans ((hI.som _).trans ?_))
    rw [show ((i : Int) + 1 - 1).toNat = i by omega]
    exact ⟨fun h => h.2, fun h => ⟨by omega, h⟩⟩
  · exact ⟨i + 1, by omega, by omega⟩
theorem ok_law48_SnapNumbers : SpecOK SP glob fi_law48_SnapNumbers S_law48_SnapNumbers := mk_ok (c := c_law48_SnapNumbers) (tab_ok _) mix_ok wf_law48_SnapNumbers (by decide) (.cons ok_law48_head (.cons ok_snap_New (.cons ok_snap_Snap_Open (.cons ok_snap_Snap_Close (.cons ok_snap_Snap_Read .nil))))) (fun x hx => Nat.zero_lt_one) g_law48_SnapNumbers
end Go.Gv
