/- Chapter 20: the fixed examples; scores and weights are the same both ways. -/
import Derived.Test.YtganngkllfpgiaaGreatDoorR20
import Derived.Test.YtganngkllfpgiaaGreatDoorP04g
set_option linter.all false
namespace Go.Gv
open Go Go.Proofs Go.Proofs.YtganngkllfpgiaaGreatDoor
set_option maxRecDepth 100000
set_option maxHeartbeats 4000000

theorem ifc {α : Type} {p q : Prop} [Decidable p] [Decidable q] {x y : α} (h : p ↔ q) : (if p then x else y) = if q then x else y := by
  by_cases k : p
  · rw [if_pos k, if_pos (h.1 k)]
  · rw [if_neg k, if_neg fun e => k (h.2 e)]
def hoB (t : Wg) (a b : Rc) : Bool := decide (0 ≤ t.1) && decide (t.1 < (a.2.2.2.1.length : Int)) && decide (t.1 < (b.2.2.2.1.length : Int)) && decide (ofE t.2.1 t.2.2.1 (vlAt a t.1) (vlAt b t.1) = 0) && decide (0 ≤ cmpR (ofV t.2.1 t.2.2.1 (vlAt a t.1) (vlAt b t.1)) t.2.2.2.1)
theorem hoB_iff {t : Wg} {a b : Rc} : HoW t a b ↔ hoB t a b = true := by
  unfold hoB
  simp only [Bool.and_eq_true, decide_eq_true_eq]
  exact ⟨fun h => ⟨⟨⟨⟨h.lo, h.ha⟩, h.hb⟩, h.ok⟩, h.ge⟩, fun ⟨⟨⟨⟨h1, h2⟩, h3⟩, h4⟩, h5⟩ => ⟨h1, h2, h3, h4, h5⟩⟩
theorem coS_B (a b : Rc) (l : List Wg) : coS a b l = (l.map fun t => if hoB t a b = true then t.2.2.2.2.1 else -t.2.2.2.2.2.1).sum := by
  unfold coS coW
  congr 1
  refine List.map_congr_left fun t _ => ?_
  exact ifc hoB_iff
theorem coL_B (a b : Rc) (l : List Wg) : coL a b l = l.map fun t => hoB t a b := by
  unfold coL
  refine List.map_congr_left fun t _ => ?_
  rw [Bool.eq_iff_iff, decide_eq_true_eq, hoB_iff]
theorem ex_ok : MOK exM := ⟨by decide, by decide, fun t ht => by
  have ht : t ∈ [((0, 2, 0, (1, 2, ()), 5, 2, ()) : Wg), (1, 5, 10, (4, 5, ()), 1, 0, ())] := ht
  simp only [List.mem_cons, List.not_mem_nil, or_false] at ht
  rcases ht with rfl | rfl
  · exact ⟨by decide, by decide, by decide, by decide, by decide, by decide, by decide⟩
  · exact ⟨by decide, by decide, by decide, by decide, by decide, by decide, by decide⟩⟩
theorem ex_ab (s s' : List UInt8) (n n' : Int) : AbM exM (recV s n) (recV s' n') := ⟨rfl, rfl, ex_ok⟩
theorem sc_ex (s s' : List UInt8) (n n' : Int) : scS exM (recV s n) (recV s' n') = coS (recV s n) (recV s' n') exM.2.2.2.1 ∧ scL exM (recV s n) (recV s' n') = coL (recV s n) (recV s' n') exM.2.2.2.1 := by
  unfold scS scL
  rw [if_pos (ex_ab _ _ _ _), if_pos (ex_ab _ _ _ _)]
  exact ⟨rfl, rfl⟩
theorem hs1 : scS exM (recV ([97, 110, 110] : List UInt8) 30) (recV ([65, 110, 110] : List UInt8) 31) = 6 := by rw [(sc_ex _ _ _ _).1, coS_B]; decide +kernel
theorem hl1 : scL exM (recV ([97, 110, 110] : List UInt8) 30) (recV ([65, 110, 110] : List UInt8) 31) = [true, true] := by rw [(sc_ex _ _ _ _).2, coL_B]; decide +kernel
theorem hs2 : scS exM (recV ([97, 110, 110] : List UInt8) 30) (recV ([97, 110, 110, 97] : List UInt8) (-1)) = 5 := by rw [(sc_ex _ _ _ _).1, coS_B]; decide +kernel
theorem hl2 : scL exM (recV ([97, 110, 110] : List UInt8) 30) (recV ([97, 110, 110, 97] : List UInt8) (-1)) = [true, false] := by rw [(sc_ex _ _ _ _).2, coL_B]; decide +kernel
theorem hs3 : scS exM (recV ([97, 110, 110] : List UInt8) 30) (recV ([114, 111, 98, 101, 114, 116] : List UInt8) 30) = -1 := by rw [(sc_ex _ _ _ _).1, coS_B]; decide +kernel
theorem hl3 : scL exM (recV ([97, 110, 110] : List UInt8) 30) (recV ([114, 111, 98, 101, 114, 116] : List UInt8) 30) = [false, true] := by rw [(sc_ex _ _ _ _).2, coL_B]; decide +kernel
theorem hs4 : scS exM (recV ([65, 110, 110] : List UInt8) 31) (recV ([114, 111, 98, 101, 114, 116] : List UInt8) 30) = -1 := by rw [(sc_ex _ _ _ _).1, coS_B]; decide +kernel
theorem wt_ex (s s' : List UInt8) (n n' : Int) : wtS [exM] (recV s n) (recV s' n') = scS exM (recV s n) (recV s' n') - 3 := by
  unfold wtS wtM
  rw [List.map_cons, if_pos (ex_ab _ _ _ _)]
  simp [exM]
def otV : Rc := ((0, [], [], ()), 1, 0, (recV ([97, 110, 110] : List UInt8) 30).2.2.2.1, ())
theorem ot_no : ¬ AbM exM (recV ([97, 110, 110] : List UInt8) 30) otV := fun h => absurd h.tb (by decide)
theorem hs5 : scS exM (recV ([97, 110, 110] : List UInt8) 30) otV = 0 := by unfold scS; rw [if_neg ot_no]
theorem hl5 : scL exM (recV ([97, 110, 110] : List UInt8) 30) otV = [] := by unfold scL; rw [if_neg ot_no]
theorem hw5 : wtS [exM] (recV ([97, 110, 110] : List UInt8) 30) otV = 0 := by unfold wtS wtM; rw [List.map_cons, if_neg ot_no]; rfl
theorem edS_congr {W W' : Int → Int → Int} {ps : List Pi2} (h : ∀ p ∈ ps, W (p.getD 0 0) (p.getD 1 0) = W' (p.getD 0 0) (p.getD 1 0)) : edS W ps = edS W' ps := by
  unfold edS
  rw [show ps.map (edO W) = ps.map (edO W') from List.map_congr_left fun p hp => by unfold edO; rw [h p hp]]
theorem he1 : edV [exM] [recV ([97, 110, 110] : List UInt8) 30, recV ([65, 110, 110] : List UInt8) 31, recV ([114, 111, 98, 101, 114, 116] : List UInt8) 30] [[1, 2], [0, 1], [0, 2], [0, 1]] = [(0, 1, 3, ()), (0, 2, -4, ()), (1, 2, -4, ())] ∧ edEr [exM] [recV ([97, 110, 110] : List UInt8) 30, recV ([65, 110, 110] : List UInt8) 31, recV ([114, 111, 98, 101, 114, 116] : List UInt8) 30] [[1, 2], [0, 1], [0, 2], [0, 1]] = 0 := by
  have hg := ed_good (ms := [exM]) (rs := [recV ([97, 110, 110] : List UInt8) 30, recV ([65, 110, 110] : List UInt8) 31, recV ([114, 111, 98, 101, 114, 116] : List UInt8) 30]) (ps := [[1, 2], [0, 1], [0, 2], [0, 1]]) (by decide) (by
    intro p hp
    simp only [List.mem_cons, List.not_mem_nil, or_false] at hp
    rcases hp with rfl | rfl | rfl | rfl <;> (unfold okP; decide))
  refine ⟨?_, hg.2⟩
  rw [hg.1, edS_congr (W' := fun i j => if i = 0 ∧ j = 1 then 3 else -4)]
  · decide +kernel
  · intro p hp
    simp only [List.mem_cons, List.not_mem_nil, or_false] at hp
    rcases hp with rfl | rfl | rfl | rfl
    · show wtS [exM] (recV ([65, 110, 110] : List UInt8) 31) (recV ([114, 111, 98, 101, 114, 116] : List UInt8) 30) = -4
      rw [wt_ex, hs4]; rfl
    · show wtS [exM] (recV ([97, 110, 110] : List UInt8) 30) (recV ([65, 110, 110] : List UInt8) 31) = 3
      rw [wt_ex, hs1]; rfl
    · show wtS [exM] (recV ([97, 110, 110] : List UInt8) 30) (recV ([114, 111, 98, 101, 114, 116] : List UInt8) 30) = -4
      rw [wt_ex, hs3]; rfl
    · show wtS [exM] (recV ([97, 110, 110] : List UInt8) 30) (recV ([65, 110, 110] : List UInt8) 31) = 3
      rw [wt_ex, hs1]; rfl
theorem he2 : edEr [exM] [recV ([97, 110, 110] : List UInt8) 30, recV ([65, 110, 110] : List UInt8) 31, recV ([114, 111, 98, 101, 114, 116] : List UInt8) 30] [[1, 1]] = 1 := by
  refine (ed_bad (by decide) fun h => ?_).2
  have := (h [1, 1] (by simp)).2.1
  exact absurd this (by decide)

@[reducible] noncomputable def S_law20_head : Spec := { ins := .nil, pre := fun _ => True, alts := [{ outs := (.cons (.d .bool) .nil), res := (fun _ => (true, ())) }], noisy := true }
noncomputable def c_law20_head : Cf := { cf_law20_head (Fl [(fi_law20_example, S_law20_example), (fi_law20_record, S_law20_record), (fi_match_Score, S_match_Score), (fi_match_Edges, S_match_Edges), (fi_ref20_Bools, S_ref20_Bools), (fi_ref20_Same, S_ref20_Same), (fi_match_Weight, S_match_Weight)]) with nz := true }
theorem g_law20_head : ∀ x, S_law20_head.pre x → shOK S_law20_head.ins x → fnGoal c_law20_head fn_law20_head S_law20_head x := by
  rintro ⟨⟩ hpre hok
  clear hpre
  have hln := shLn_of _ hok; replace hok := Hd.mk hok; try simp only [shLn, datLn, inRng, lo, hi, maxLen, true_and, and_true] at hln
  first | refine fn_goal (w_head ?_)
  intro K_ hK_; (conv => whnf); (try dsimp +instances only); refine hK_ _ ?_; clear hK_ K_; (conv => (arg 2; whnf))
  repeat' (first | with_reducible refine And.intro ?_ ?_ | ((try with_reducible refine gv_more ?_); first | ((with_reducible show K_ _); (try dsimp +instances only); (with_reducible refine hK_ _ ?_); clear hK_ K_) | with_reducible refine st ?_ | ((with_reducible refine sr ?_); intro K_ hK_; conv => whnf) | ((with_reducible refine w_cond ?_); (conv => arg 2; whnf); with_reducible refine st ?_) | refine blockK_y (by rfl) ?_ | ((with_reducible refine sw ?_); conv => whnf)) | ((with_reducible refine gv_more ?_); conv => whnf) | (intro hc; (try dsimp +instances only [Dat, SDat, dflt, Ty.size, keepS, bkUpd, Gv.bk, backS, wayA, maxI, minI, negI] at hc); (try simp only [LS] at hc)))
  all_goals (try ((fail_if_success with_reducible refine nl ?_); (try dsimp only [Dat, SDat, dflt, Ty.size, keepS, bkUpd, Gv.bk, backS, wayA, maxI, minI, negI]); (try simp only [LS]); first | done | exact dsc | ((try simp only [allP, lo, hi, room, true_and, and_true, implies_true]); (repeat' (first | with_reducible refine And.intro ?_ ?_ | ((with_reducible refine preA_t ?_ ?_); rotate_left; exact sameP_t) | intro hv)) <;> (try omega))))
  all_goals (first
    | exact hs1
    | exact hl1
    | exact hs2
    | exact hl2
    | exact hs3
    | exact hl3
    | exact he1.2
    | exact he1.1
    | exact he2
    | exact hs5
    | exact congrArg List.length hl5
    | exact congrArg (fun l : List Bool => (l.length : Int)) hl5
    | exact hw5)
theorem ok_law20_head : SpecOK SP glob fi_law20_head S_law20_head := mk_ok (c := c_law20_head) (tab_ok _) mix_ok wf_law20_head (by decide) (.cons ok_law20_example (.cons ok_law20_record (.cons ok_match_Score (.cons ok_match_Edges (.cons ok_ref20_Bools (.cons ok_ref20_Same (.cons ok_match_Weight .nil))))))) (fun x hx => Nat.zero_lt_one) g_law20_head

end Go.Gv
