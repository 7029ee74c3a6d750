/- Chapter 20: the statement on edges. -/
import Derived.Test.YtganngkllfpgiaaDoorL20b
set_option linter.all false
namespace Go.Gv
open Go Go.Proofs Go.Proofs.YtganngkllfpgiaaDoor

theorem edS_same {W : Int → Int → Int} {ps qs : List Pi2} (h : ∀ e, (∃ p ∈ ps, e = edO W p) ↔ ∃ p ∈ qs, e = edO W p) : edS W ps = edS W qs :=
  incE_ext (edS_spec W ps).1 (edS_spec W qs).1 fun e => by rw [(edS_spec W ps).2, (edS_spec W qs).2, h]
theorem back_mem {W : Int → Int → Int} {ps : List Pi2} (h : 0 < ps.length) (e : Ed) : (∃ p ∈ ps.reverse.map prP ++ [ps.getD 0 (List.replicate 2 (0 : Int))], e = edO W p) ↔ ∃ p ∈ ps, e = edO W p := by
  constructor
  · rintro ⟨p, hp, rfl⟩
    rcases List.mem_append.1 hp with hp | hp
    · obtain ⟨q, hq, rfl⟩ := List.mem_map.1 hp
      exact ⟨q, List.mem_reverse.1 hq, rfl⟩
    · rw [List.mem_singleton.1 hp]
      exact ⟨_, getD_mem h, rfl⟩
  · rintro ⟨p, hp, rfl⟩
    exact ⟨prP p, List.mem_append_left _ (List.mem_map.2 ⟨p, List.mem_reverse.2 hp, rfl⟩), rfl⟩
theorem back_ok {n : Nat} {ps : List Pi2} (h : 0 < ps.length) (k : ∀ p ∈ ps, okP n p) : ∀ p ∈ ps.reverse.map prP ++ [ps.getD 0 (List.replicate 2 (0 : Int))], okP n p := fun p hp => by
  rcases List.mem_append.1 hp with hp | hp
  · obtain ⟨q, hq, rfl⟩ := List.mem_map.1 hp
    exact k q (List.mem_reverse.1 hq)
  · rw [List.mem_singleton.1 hp]
    exact k _ (getD_mem h)

theorem two_list {p : List Int} (h : p.length = 2) : p = [p.getD 0 0, p.getD 1 0] := by
  match p, h with
  | [a, b], _ => rfl
theorem inc_atE {E : List Ed} {i : Nat} (h : incE E) (h0 : 0 < i) (hi : i < E.length) : cmpE (E.getD (i - 1) ((0, 0, 0, ()) : Ed)) (E.getD i ((0, 0, 0, ()) : Ed)) < 0 := by
  rw [getD_ok ((0, 0, 0, ()) : Ed) (by omega), getD_ok ((0, 0, 0, ()) : Ed) hi]
  exact List.pairwise_iff_getElem.1 h (i - 1) i (by omega) hi (by omega)
theorem ord_no {E : List Ed} {i : Nat} (h : incE E) (hi : i < E.length) (hz : (E.getD i ((0, 0, 0, ()) : Ed)).2.2.1 ≠ 0) (hc : (0 < (i : Int) ∧ ((E.getD i ((0, 0, 0, ()) : Ed)).1 < (E.getD ((i : Int) - 1).toNat ((0, 0, 0, ()) : Ed)).1 ∨ ((E.getD ((i : Int) - 1).toNat ((0, 0, 0, ()) : Ed)).1 = (E.getD i ((0, 0, 0, ()) : Ed)).1 ∧ (E.getD i ((0, 0, 0, ()) : Ed)).2.1 ≤ (E.getD ((i : Int) - 1).toNat ((0, 0, 0, ()) : Ed)).2.1))) ∨ (E.getD i ((0, 0, 0, ()) : Ed)).2.2.1 = 0) : False := by
  rcases hc with ⟨h0, hc⟩ | hc
  · have := inc_atE h (by omega) hi
    rw [cmpE_lt, show i - 1 = ((i : Int) - 1).toNat by omega] at this
    omega
  · exact hz hc

@[reducible] noncomputable def S_law20_MatchEdges : Spec := { ins := (.cons (.d (.sl tMat)) (.cons (.d (.sl tRec)) (.cons (.d (.sl tPr)) .nil))), pre := fun _ => True, alts := [{ outs := (.cons (.d .bool) .nil), res := (fun x => (fun ms rs ps => (true, ())) x.1 x.2.1 x.2.2.1) }], noisy := true }
noncomputable def c_law20_MatchEdges : Cf := { cf_law20_MatchEdges (Fl [(fi_law20_head, S_law20_head), (fi_ref20_Few, S_ref20_Few), (fi_match_Edges, S_match_Edges), (fi_ref20_Same, S_ref20_Same), (fi_match_Weight, S_match_Weight)]) with nz := true }
set_option maxRecDepth 100000 in
set_option maxHeartbeats 4000000 in
theorem g_law20_MatchEdges : ∀ x, S_law20_MatchEdges.pre x → shOK S_law20_MatchEdges.ins x → fnGoal c_law20_MatchEdges fn_law20_MatchEdges S_law20_MatchEdges x := by
  rintro ⟨ms, rs, ps, ⟨⟩⟩ hpre hok
  clear hpre
  have hln := shLn_of _ hok; replace hok := Hd.mk hok; try simp only [shLn, datLn, inRng, lo, hi, maxLen, true_and, and_true] at hln
  have hp2 : ∀ p ∈ ps, p.length = 2 := fun p hp => (hok.out.2.2.1.2 p hp).1
  have hfm : ¬ ((¬ FewM ms rs 12 ∨ 200 < (List.length ps : Int)) ∨ (List.length ps : Int) = 0) → ms.length ≤ 8 := fun h => (Classical.not_not.1 (not_or.1 (not_or.1 h).1).1).fm
  first | refine fn_goal (w_head ?_)
  intro K_ hK_; (conv => whnf); (try dsimp +instances only); refine hK_ _ ?_; clear hK_ K_; (conv => (arg 2; whnf))
  repeat' (first | with_reducible refine And.intro ?_ ?_ | ((try with_reducible refine gv_more ?_); first | ((with_reducible show K_ _); (try dsimp +instances only); (with_reducible refine hK_ _ ?_); clear hK_ K_) | with_reducible refine st ?_ | ((with_reducible first | refine w_region ?_ | refine w_head ?_); intro K_ hK_; conv => whnf) | ((with_reducible refine w_cond ?_); (conv => arg 2; whnf); with_reducible first | refine condK_p ?_ ?_ | refine st ?_ | refine condK_b ?_ ?_) | refine blockK_y (by rfl) ?_ | ((with_reducible first | refine loopK_at ?_ | refine retK_r ?_ | refine retK_n ?_); conv => whnf)) | ((with_reducible refine gv_more ?_); conv => whnf) | (intro hc; (try dsimp +instances only [Dat, SDat, dflt, Ty.size, keepS, bkUpd, Gv.bk, backS, wayA, maxI, minI, negI] at hc); (try simp only [LS] at hc)))
  all_goals (try ((fail_if_success with_reducible refine nl ?_); (try dsimp only [Dat, SDat, dflt, Ty.size, keepS, bkUpd, Gv.bk, backS, wayA, maxI, minI, negI]); (try simp only [LS]); first | done | exact trivial | rfl | omega | exact boolOf_eq _ | (simp only [allP, lo, hi, room, true_and, and_true, implies_true]; done) | ((try simp only [allP, lo, hi, room, true_and, and_true, implies_true]); (repeat' (first | with_reducible refine And.intro ?_ ?_ | ((with_reducible refine preA_t ?_ ?_); rotate_left; (focus (repeat (first | exact trivial | ((conv => whnf); refine And.intro (by rfl) ?_))))) | intro hv)) <;> (try omega))))
  have hlen : ps.length ≤ 200 ∧ 0 < ps.length := by omega
  have hms := hfm hc
  have hmany : ¬ ((20000 : Int) < (ps.length : Int) ∨ (200 : Int) < (ms.length : Int)) := by omega
  clear hc hfm
  refine w_loop [(10, .d .bool), (11, .row tPr), (12, .d tInt)] [] (fun y => ∃ k : Nat, y.1.2.2.1 = (k : Int) ∧ k ≤ ps.length ∧ y.1.1 = boolOf (∀ p ∈ ps.reverse.take k, okP rs.length p) ∧ @Eq (List Pi2) y.1.2.1 ((ps.reverse.take k).map prP)) (fun y => ps.length - y.1.2.2.1.toNat) ?_
  conv => whnf
  refine And.intro ?_ ?_
  · exact ⟨0, rfl, Nat.zero_le _, bT (by simp), rfl⟩
  rintro ⟨⟨ri, ba, _, ⟨⟩⟩, ⟨⟩⟩ ⟨k, rfl, hk, hri, hba0⟩
  have hri : ri = boolOf (∀ p ∈ ps.reverse.take k, okP rs.length p) := hri
  subst hri
  have hba : @Eq (List Pi2) ba ((ps.reverse.take k).map prP) := hba0
  clear hba0
  have q1 := fun h => rev_step (l := ps) (k := k) (d := (List.replicate 2 (0 : Int))) h
  have hbl : List.length (ba : List Pi2) ≤ 200 := by rw [hba, List.length_map, List.length_take, List.length_reverse]; omega
  have hrevall : ps.length ≤ k → ((∀ p ∈ ps.reverse.take k, okP rs.length p) ↔ ∀ p ∈ ps, okP rs.length p) := fun h => by
    rw [List.take_of_length_le (by rw [List.length_reverse]; exact h)]
    exact ⟨fun h p hp => h p (List.mem_reverse.2 hp), fun h p hp => h p (List.mem_reverse.1 hp)⟩
  have hbaall : ps.length ≤ k → @Eq (List Pi2) ba (ps.reverse.map prP) := fun h => by rw [hba, List.take_of_length_le (by rw [List.length_reverse]; exact h)]
  have hsame : ps.length ≤ k → (∀ p ∈ ps, okP rs.length p) → (edEr ms rs ps = 0 ∧ edEr ms rs ((ba : List Pi2) ++ [ps.getD 0 (List.replicate 2 (0 : Int))]) = 0) ∧ edV ms rs ps = edV ms rs ((ba : List Pi2) ++ [ps.getD 0 (List.replicate 2 (0 : Int))]) := fun h hall => by
    have e := hbaall h
    have g1 := ed_good hmany hall
    have g2 := ed_good (ms := ms) (rs := rs) (ps := (ba : List Pi2) ++ [ps.getD 0 (List.replicate 2 (0 : Int))]) (by rw [List.length_append, List.length_cons, List.length_nil]; omega) (by rw [e]; exact back_ok hlen.2 hall)
    refine ⟨⟨g1.2, g2.2⟩, ?_⟩
    rw [g1.1, g2.1, e]
    exact (edS_same fun x => back_mem hlen.2 x).symm
  repeat' (first | with_reducible refine And.intro ?_ ?_ | ((try with_reducible refine gv_more ?_); first | ((with_reducible show K_ _); (try dsimp +instances only); (with_reducible refine hK_ _ ?_); clear hK_ K_) | with_reducible refine st ?_ | ((with_reducible first | refine w_region ?_ | refine w_head ?_); intro K_ hK_; conv => whnf) | ((with_reducible refine w_cond ?_); (conv => arg 2; whnf); with_reducible first | refine condK_p ?_ ?_ | refine st ?_ | refine condK_b ?_ ?_) | refine blockK_y (by rfl) ?_ | ((with_reducible first | refine loopK_at ?_ | refine retK_r ?_ | refine retK_n ?_); conv => whnf)) | ((with_reducible refine gv_more ?_); conv => whnf) | (intro hc; (try dsimp +instances only [Dat, SDat, dflt, Ty.size, keepS, bkUpd, Gv.bk, backS, wayA, maxI, minI, negI] at hc); (try simp only [LS] at hc)))
  all_goals (try ((fail_if_success with_reducible refine nl ?_); (try dsimp only [Dat, SDat, dflt, Ty.size, keepS, bkUpd, Gv.bk, backS, wayA, maxI, minI, negI]); (try simp only [LS]); first | done | exact trivial | rfl | omega | exact boolOf_eq _ | (simp only [allP, lo, hi, room, true_and, and_true, implies_true]; done) | ((try simp only [allP, lo, hi, room, true_and, and_true, implies_true]); (repeat' (first | with_reducible refine And.intro ?_ ?_ | ((with_reducible refine preA_t ?_ ?_); rotate_left; (focus (repeat (first | exact trivial | ((conv => whnf); refine And.intro (by rfl) ?_))))) | intro hv)) <;> (try omega))))
  · have hk2 : k < ps.length := by omega
    have idx : ((ps.length : Int) - 1 - (k : Int)).toNat = ps.length - 1 - k := by omega
    refine ⟨k + 1, by omega, by omega, bC ?_, ?_⟩
    · rw [q1 hk2, idx]
      constructor
      · rintro ⟨⟨⟨h1, h2⟩, h3⟩, h4⟩ p hp
        rcases List.mem_append.1 hp with hp | hp
        · exact h1 p hp
        · rw [List.mem_singleton.1 hp]; exact ⟨h2, h3, h4⟩
      · intro h
        have h5 := h _ (List.mem_append_right _ (List.mem_singleton_self _))
        exact ⟨⟨⟨fun p hp => h p (List.mem_append_left _ hp), h5.1⟩, h5.2.1⟩, h5.2.2⟩
    · rw [q1 hk2, List.map_append, hba, idx]; rfl
  · exact (ed_bad hmany fun h => hc ((hrevall (by omega)).2 h)).2
  · rw [(ed_bad hmany fun h => hc ((hrevall (by omega)).2 h)).1]; rfl
  · exfalso
    have hs := hsame (by omega) ((hrevall (by omega)).1 (by assumption))
    exact hc.elim (fun h => h.elim (fun h => h hs.1.1) fun h => h hs.1.2) fun h => h hs.2
  have hall := (hrevall (by omega)).1 (by assumption)
  have hV := (ed_good (ms := ms) (rs := rs) hmany hall).1
  have hspec := edS_spec (wE ms rs) ps
  have hEl := edS_len (wE ms rs) ps
  rw [← hV] at hspec hEl
  clear hsame hbaall hrevall hbl q1 hba hc
  generalize edV ms rs ps = E at *
  obtain ⟨hinc, hmem⟩ := hspec
  refine w_loop [(16, .d tInt)] [] (fun y => ∃ i : Nat, y.1.1 = (i : Int) ∧ i ≤ E.length) (fun y => E.length - y.1.1.toNat) ?_
  conv => whnf
  refine And.intro ?_ ?_
  · exact ⟨0, rfl, Nat.zero_le _⟩
  rintro ⟨⟨_, ⟨⟩⟩, ⟨⟩⟩ ⟨i, rfl, hi⟩
  have hno := fun (h : i < E.length) => ord_no hinc h ((hmem _).1 (getD_mem h)).2
  repeat' (first | with_reducible refine And.intro ?_ ?_ | ((try with_reducible refine gv_more ?_); first | ((with_reducible show K_ _); (try dsimp +instances only); (with_reducible refine hK_ _ ?_); clear hK_ K_) | with_reducible refine st ?_ | ((with_reducible first | refine w_region ?_ | refine w_head ?_); intro K_ hK_; conv => whnf) | ((with_reducible refine w_cond ?_); (conv => arg 2; whnf); with_reducible first | refine condK_p ?_ ?_ | refine st ?_ | refine condK_b ?_ ?_) | refine blockK_y (by rfl) ?_ | ((with_reducible first | refine loopK_at ?_ | refine retK_r ?_ | refine retK_n ?_); conv => whnf)) | ((with_reducible refine gv_more ?_); conv => whnf) | (intro hc; (try dsimp +instances only [Dat, SDat, dflt, Ty.size, keepS, bkUpd, Gv.bk, backS, wayA, maxI, minI, negI] at hc); (try simp only [LS] at hc)))
  all_goals (try ((fail_if_success with_reducible refine nl ?_); (try dsimp only [Dat, SDat, dflt, Ty.size, keepS, bkUpd, Gv.bk, backS, wayA, maxI, minI, negI]); (try simp only [LS]); first | done | exact trivial | rfl | omega | exact boolOf_eq _ | (simp only [allP, lo, hi, room, true_and, and_true, implies_true]; done) | ((try simp only [allP, lo, hi, room, true_and, and_true, implies_true]); (repeat' (first | with_reducible refine And.intro ?_ ?_ | ((with_reducible refine preA_t ?_ ?_); rotate_left; (focus (repeat (first | exact trivial | ((conv => whnf); refine And.intro (by rfl) ?_))))) | intro hv)) <;> (try omega))))
  all_goals (try (simp only [Gv.hi]; omega))
  · exact (hno (by omega) hc).elim
  · exact ⟨i + 1, by omega, by omega⟩
  clear hno hc
  refine w_loop [(18, .d tInt)] [] (fun y => ∃ i : Nat, y.1.1 = (i : Int) ∧ i ≤ ps.length) (fun y => ps.length - y.1.1.toNat) ?_
  conv => whnf
  refine And.intro ?_ ?_
  · exact ⟨0, rfl, Nat.zero_le _⟩
  clear hi
  rintro ⟨⟨_, ⟨⟩⟩, ⟨⟩⟩ ⟨i, rfl, hi⟩
  repeat' (first | with_reducible refine And.intro ?_ ?_ | ((try with_reducible refine gv_more ?_); first | ((with_reducible show K_ _); (try dsimp +instances only); (with_reducible refine hK_ _ ?_); clear hK_ K_) | with_reducible refine st ?_ | ((with_reducible first | refine w_region ?_ | refine w_head ?_); intro K_ hK_; conv => whnf) | ((with_reducible refine w_cond ?_); (conv => arg 2; whnf); with_reducible first | refine condK_p ?_ ?_ | refine st ?_ | refine condK_b ?_ ?_) | refine blockK_y (by rfl) ?_ | ((with_reducible first | refine loopK_at ?_ | refine retK_r ?_ | refine retK_n ?_); conv => whnf)) | ((with_reducible refine gv_more ?_); conv => whnf) | (intro hc; (try dsimp +instances only [Dat, SDat, dflt, Ty.size, keepS, bkUpd, Gv.bk, backS, wayA, maxI, minI, negI] at hc); (try simp only [LS] at hc)))
  all_goals (try ((fail_if_success with_reducible refine nl ?_); (try dsimp only [Dat, SDat, dflt, Ty.size, keepS, bkUpd, Gv.bk, backS, wayA, maxI, minI, negI]); (try simp only [LS]); first | done | exact trivial | rfl | omega | exact boolOf_eq _ | (simp only [allP, lo, hi, room, true_and, and_true, implies_true]; done) | ((try simp only [allP, lo, hi, room, true_and, and_true, implies_true]); (repeat' (first | with_reducible refine And.intro ?_ ?_ | ((with_reducible refine preA_t ?_ ?_); rotate_left; (focus (repeat (first | exact trivial | ((conv => whnf); refine And.intro (by rfl) ?_))))) | intro hv)) <;> (try omega))))
  all_goals (try (simp only [Gv.hi]; omega))
  · have hi2 : i < ps.length := by omega
    have hP := hall _ (getD_mem (d := (List.replicate 2 (0 : Int))) hi2)
    have hPm := getD_mem (l := ps) (d := (List.replicate 2 (0 : Int))) hi2
    refine w_loop [(19, .d tInt), (20, .d tInt)] [] (fun y => ∃ j : Nat, y.1.2.1 = (j : Int) ∧ j ≤ E.length ∧ ((y.1.1 = 0 ∧ ∀ e ∈ E.take j, ¬ ((e : Ed).1 = (List.getD ps i (List.replicate 2 (0 : Int))).getD 0 0 ∧ e.2.1 = (List.getD ps i (List.replicate 2 (0 : Int))).getD 1 0)) ∨ y.1.1 = wE ms rs ((List.getD ps i (List.replicate 2 (0 : Int))).getD 0 0) ((List.getD ps i (List.replicate 2 (0 : Int))).getD 1 0))) (fun y => E.length - y.1.2.1.toNat) ?_
    conv => whnf
    refine And.intro ?_ ?_
    · exact ⟨0, rfl, Nat.zero_le _, .inl ⟨rfl, by simp⟩⟩
    rintro ⟨⟨(w : Int), _, ⟨⟩⟩, ⟨⟩⟩ ⟨j, rfl, hj, hw⟩
    have hw : (w = 0 ∧ ∀ e ∈ E.take j, ¬ ((e : Ed).1 = (List.getD ps i (List.replicate 2 (0 : Int))).getD 0 0 ∧ e.2.1 = (List.getD ps i (List.replicate 2 (0 : Int))).getD 1 0)) ∨ w = wE ms rs ((List.getD ps i (List.replicate 2 (0 : Int))).getD 0 0) ((List.getD ps i (List.replicate 2 (0 : Int))).getD 1 0) := hw
    have hhit := fun (h : j < E.length) (k : (E.getD j ((0, 0, 0, ()) : Ed)).1 = (List.getD ps i (List.replicate 2 (0 : Int))).getD 0 0 ∧ (E.getD j ((0, 0, 0, ()) : Ed)).2.1 = (List.getD ps i (List.replicate 2 (0 : Int))).getD 1 0) => show (E.getD j ((0, 0, 0, ()) : Ed)).2.2.1 = wE ms rs ((List.getD ps i (List.replicate 2 (0 : Int))).getD 0 0) ((List.getD ps i (List.replicate 2 (0 : Int))).getD 1 0) by
      obtain ⟨⟨q, hq, e⟩, _⟩ := (hmem _).1 (getD_mem (d := ((0, 0, 0, ()) : Ed)) h)
      rw [e] at k ⊢
      show wE ms rs (q.getD 0 0) (q.getD 1 0) = _
      rw [show q.getD 0 0 = (List.getD ps i (List.replicate 2 (0 : Int))).getD 0 0 from k.1, show q.getD 1 0 = (List.getD ps i (List.replicate 2 (0 : Int))).getD 1 0 from k.2]
    have hend := fun (h : E.length ≤ j) => show w = wE ms rs ((List.getD ps i (List.replicate 2 (0 : Int))).getD 0 0) ((List.getD ps i (List.replicate 2 (0 : Int))).getD 1 0) by
      rcases hw with ⟨e, hn⟩ | e
      · rw [e]
        rw [List.take_of_length_le h] at hn
        refine Classical.byContradiction fun k => ?_
        exact hn (edO (wE ms rs) (List.getD ps i (List.replicate 2 (0 : Int)))) ((hmem _).2 ⟨⟨(List.getD ps i (List.replicate 2 (0 : Int))), hPm, rfl⟩, fun e => k e.symm⟩) ⟨rfl, rfl⟩
      · exact e
    repeat' (first | with_reducible refine And.intro ?_ ?_ | ((try with_reducible refine gv_more ?_); first | ((with_reducible show K_ _); (try dsimp +instances only); (with_reducible refine hK_ _ ?_); clear hK_ K_) | with_reducible refine st ?_ | ((with_reducible first | refine w_region ?_ | refine w_head ?_); intro K_ hK_; conv => whnf) | ((with_reducible refine w_cond ?_); (conv => arg 2; whnf); with_reducible first | refine condK_p ?_ ?_ | refine st ?_ | refine condK_b ?_ ?_) | refine blockK_y (by rfl) ?_ | ((with_reducible first | refine loopK_at ?_ | refine retK_r ?_ | refine retK_n ?_); conv => whnf)) | ((with_reducible refine gv_more ?_); conv => whnf) | (intro hc; (try dsimp +instances only [Dat, SDat, dflt, Ty.size, keepS, bkUpd, Gv.bk, backS, wayA, maxI, minI, negI] at hc); (try simp only [LS] at hc)))
    all_goals (try ((fail_if_success with_reducible refine nl ?_); (try dsimp only [Dat, SDat, dflt, Ty.size, keepS, bkUpd, Gv.bk, backS, wayA, maxI, minI, negI]); (try simp only [LS]); first | done | exact trivial | rfl | omega | exact boolOf_eq _ | (simp only [allP, lo, hi, room, true_and, and_true, implies_true]; done) | ((try simp only [allP, lo, hi, room, true_and, and_true, implies_true]); (repeat' (first | with_reducible refine And.intro ?_ ?_ | ((with_reducible refine preA_t ?_ ?_); rotate_left; (focus (repeat (first | exact trivial | ((conv => whnf); refine And.intro (by rfl) ?_))))) | intro hv)) <;> (try omega))))
    all_goals (try (simp only [Gv.hi]; omega))
    all_goals (try (have hq := hP; unfold okP at hq; omega))
    · exact ⟨j + 1, by omega, by omega, .inr (hhit (by omega) hc)⟩
    · exact ⟨j + 1, by omega, by omega, hw.elim (fun h => .inl ⟨h.1, all_step (d := ((0, 0, 0, ()) : Ed)) h.2 (by omega) hc⟩) .inr⟩
    · exact (hc (hend (by omega))).elim
    · exact ⟨i + 1, by omega, by omega⟩
  · refine w_loop [(21, .d tInt)] [] (fun y => ∃ i : Nat, y.1.1 = (i : Int) ∧ i ≤ E.length) (fun y => E.length - y.1.1.toNat) ?_
    conv => whnf
    refine And.intro ?_ ?_
    · exact ⟨0, rfl, Nat.zero_le _⟩
    clear hi
    rintro ⟨⟨_, ⟨⟩⟩, ⟨⟩⟩ ⟨i, rfl, hi⟩
    repeat' (first | with_reducible refine And.intro ?_ ?_ | ((try with_reducible refine gv_more ?_); first | ((with_reducible show K_ _); (try dsimp +instances only); (with_reducible refine hK_ _ ?_); clear hK_ K_) | with_reducible refine st ?_ | ((with_reducible first | refine w_region ?_ | refine w_head ?_); intro K_ hK_; conv => whnf) | ((with_reducible refine w_cond ?_); (conv => arg 2; whnf); with_reducible first | refine condK_p ?_ ?_ | refine st ?_ | refine condK_b ?_ ?_) | refine blockK_y (by rfl) ?_ | ((with_reducible first | refine loopK_at ?_ | refine retK_r ?_ | refine retK_n ?_); conv => whnf)) | ((with_reducible refine gv_more ?_); conv => whnf) | (intro hc; (try dsimp +instances only [Dat, SDat, dflt, Ty.size, keepS, bkUpd, Gv.bk, backS, wayA, maxI, minI, negI] at hc); (try simp only [LS] at hc)))
    all_goals (try ((fail_if_success with_reducible refine nl ?_); (try dsimp only [Dat, SDat, dflt, Ty.size, keepS, bkUpd, Gv.bk, backS, wayA, maxI, minI, negI]); (try simp only [LS]); first | done | exact trivial | rfl | omega | exact boolOf_eq _ | (simp only [allP, lo, hi, room, true_and, and_true, implies_true]; done) | ((try simp only [allP, lo, hi, room, true_and, and_true, implies_true]); (repeat' (first | with_reducible refine And.intro ?_ ?_ | ((with_reducible refine preA_t ?_ ?_); rotate_left; (focus (repeat (first | exact trivial | ((conv => whnf); refine And.intro (by rfl) ?_))))) | intro hv)) <;> (try omega))))
    all_goals (try (simp only [Gv.hi]; omega))
    · refine w_loop [(22, .d .bool), (23, .d tInt)] [] (fun y => ∃ j : Nat, y.1.2.1 = (j : Int) ∧ j ≤ ps.length ∧ y.1.1 = boolOf (∃ q ∈ ps.take j, q = [(E.getD i ((0, 0, 0, ()) : Ed)).1, (E.getD i ((0, 0, 0, ()) : Ed)).2.1])) (fun y => ps.length - y.1.2.1.toNat) ?_
      conv => whnf
      refine And.intro ?_ ?_
      · exact ⟨0, rfl, Nat.zero_le _, bF (by simp)⟩
      rintro ⟨⟨fo, _, ⟨⟩⟩, ⟨⟩⟩ ⟨j, rfl, hj, hfo⟩
      have hfo : fo = boolOf (∃ q ∈ ps.take j, q = [(E.getD i ((0, 0, 0, ()) : Ed)).1, (E.getD i ((0, 0, 0, ()) : Ed)).2.1]) := hfo
      subst hfo
      have hfin := fun (h : i < E.length) (k : ps.length ≤ j) => show ∃ q ∈ ps.take j, q = [(E.getD i ((0, 0, 0, ()) : Ed)).1, (E.getD i ((0, 0, 0, ()) : Ed)).2.1] by
        obtain ⟨⟨p, hp, e⟩, _⟩ := (hmem _).1 (getD_mem (d := ((0, 0, 0, ()) : Ed)) h)
        rw [List.take_of_length_le k, e]
        exact ⟨p, hp, two_list (hp2 p hp)⟩
      repeat' (first | with_reducible refine And.intro ?_ ?_ | ((try with_reducible refine gv_more ?_); first | ((with_reducible show K_ _); (try dsimp +instances only); (with_reducible refine hK_ _ ?_); clear hK_ K_) | with_reducible refine st ?_ | ((with_reducible first | refine w_region ?_ | refine w_head ?_); intro K_ hK_; conv => whnf) | ((with_reducible refine w_cond ?_); (conv => arg 2; whnf); with_reducible first | refine condK_p ?_ ?_ | refine st ?_ | refine condK_b ?_ ?_) | refine blockK_y (by rfl) ?_ | ((with_reducible first | refine loopK_at ?_ | refine retK_r ?_ | refine retK_n ?_); conv => whnf)) | ((with_reducible refine gv_more ?_); conv => whnf) | (intro hc; (try dsimp +instances only [Dat, SDat, dflt, Ty.size, keepS, bkUpd, Gv.bk, backS, wayA, maxI, minI, negI] at hc); (try simp only [LS] at hc)))
      all_goals (try ((fail_if_success with_reducible refine nl ?_); (try dsimp only [Dat, SDat, dflt, Ty.size, keepS, bkUpd, Gv.bk, backS, wayA, maxI, minI, negI]); (try simp only [LS]); first | done | exact trivial | rfl | omega | exact boolOf_eq _ | (simp only [allP, lo, hi, room, true_and, and_true, implies_true]; done) | ((try simp only [allP, lo, hi, room, true_and, and_true, implies_true]); (repeat' (first | with_reducible refine And.intro ?_ ?_ | ((with_reducible refine preA_t ?_ ?_); rotate_left; (focus (repeat (first | exact trivial | ((conv => whnf); refine And.intro (by rfl) ?_))))) | intro hv)) <;> (try omega))))
      all_goals (try (simp only [Gv.hi]; omega))
      · have hj2 : j < ps.length := by omega
        refine ⟨j + 1, by omega, by omega, bC ?_⟩
        rw [List.take_succ_eq_append_getElem hj2, ← getD_ok (List.replicate 2 (0 : Int)) hj2]
        constructor
        · rintro (⟨q, hq, e⟩ | e)
          · exact ⟨q, List.mem_append_left _ hq, e⟩
          · exact ⟨_, List.mem_append_right _ (List.mem_singleton_self _), e⟩
        · rintro ⟨q, hq, e⟩
          rcases List.mem_append.1 hq with hq | hq
          · exact .inl ⟨q, hq, e⟩
          · rw [List.mem_singleton.1 hq] at e; exact .inr e
      · exact (hc (hfin (by omega) (by omega))).elim
      · exact ⟨i + 1, by omega, by omega⟩
set_option maxRecDepth 100000 in
theorem ok_law20_MatchEdges : SpecOK SP glob fi_law20_MatchEdges S_law20_MatchEdges := mk_ok (c := c_law20_MatchEdges) (tab_ok _) mix_ok wf_law20_MatchEdges (by decide) (.cons ok_law20_head (.cons ok_ref20_Few (.cons ok_match_Edges (.cons ok_ref20_Same (.cons ok_match_Weight .nil))))) (fun x hx => Nat.zero_lt_one) g_law20_MatchEdges
end Go.Gv
