/- Chapter 15: the reference's text of a polynomial. -/
import Derived.Test.YtbidlahhpmdenaaDoorC15d
import Derived.Lib.Join
set_option linter.all false
namespace Go.Gv
open Go Go.Proofs Go.Proofs.YtbidlahhpmdenaaDoor
theorem join_snoc (sep : List UInt8) : ∀ (xs : List (List UInt8)) (y : List UInt8), Lib.join (xs ++ [y]) sep = Lib.join xs sep ++ (if xs = [] then [] else sep) ++ y
  | [], y => by simp [Lib.join_one, Lib.join_nil]
  | x :: r, y => by
    rw [List.cons_append, Lib.join_cons, Lib.join_cons]
    simp [Lib.joinTail]
theorem join_len (sep : List UInt8) (b : Nat) : ∀ (xs : List (List UInt8)), (∀ x ∈ xs, x.length ≤ b) → (Lib.join xs sep).length ≤ xs.length * (b + sep.length)
  | [], _ => by simp [Lib.join_nil]
  | x :: r, h => by
    rw [Lib.join_cons]
    have hx := h x (by simp)
    have : (Lib.joinTail sep r).length ≤ r.length * (b + sep.length) := by
      have h2 : ∀ x ∈ r, x.length ≤ b := fun y hy => h y (by simp [hy])
      clear hx h
      induction r with
      | nil => simp [Lib.joinTail]
      | cons y r ih =>
        have ih := ih (fun z hz => h2 z (by simp [hz]))
        have hy := h2 y (by simp)
        simp only [Lib.joinTail, List.map_cons, List.flatten_cons, List.length_append, List.length_cons] at ih ⊢
        rw [Nat.add_mul]; omega
    rw [List.length_append, List.length_cons, Nat.add_mul]; omega
theorem join_step {α : Type} {f : α → List UInt8} {sep : List UInt8} {l : List α} {k : Nat} {d : α} (h : k < l.length) : Lib.join ((l.take (k + 1)).map f) sep = Lib.join ((l.take k).map f) sep ++ (if 0 < k then sep else []) ++ f (l.getD k d) := by
  rw [List.take_succ_eq_append_getElem h, List.map_append, List.map_cons, List.map_nil, join_snoc, getD_ok d h]
  congr 2
  by_cases hk : 0 < k
  · rw [if_pos hk, if_neg]
    intro e
    have := congrArg List.length e
    simp at this
    rcases this with h1 | h1
    · omega
    · subst h1; simp at h
  · have : k = 0 := by omega
    subst this; rfl

/-- The text of a power. -/
def itemX (x : Pw) : List UInt8 := [120] ++ Lib.itoa x.1 ++ (if x.2.1 = 1 then [] else [94] ++ Lib.itoa x.2.1)
def facT (l : List Pw) : List UInt8 := Lib.join (l.map itemX) [42]
theorem fac_step {l : List Pw} {j : Nat} (h : j < l.length) : Lib.join ((l.take (j + 1)).map itemX) [42] = Lib.join ((l.take j).map itemX) [42] ++ (if 0 < j then [42] else []) ++ ([120] ++ Lib.itoa (l.getD j ((0, 0, ()) : Pw)).1 ++ (if (l.getD j ((0, 0, ()) : Pw)).2.1 = 1 then [] else [94] ++ Lib.itoa (l.getD j ((0, 0, ()) : Pw)).2.1)) := join_step (d := ((0, 0, ()) : Pw)) h
def headM (m : Mo) : List UInt8 := if m.1 = 1 ∧ m.2.1 ≠ [] then [] else Lib.itoa m.1 ++ (if m.2.1 = [] then [] else [42])
def monT (m : Mo) : List UInt8 := headM m ++ facT m.2.1
def polyT (p : List Mo) : List UInt8 := Lib.join (p.map monT) [32, 43, 32]
noncomputable def textP (p : List Mo) : List UInt8 := if boolOf (ValidP p) = true then (if p = [] then [48] else polyT p) else []
def baseT (p : List Mo) (n : Nat) : List UInt8 := Lib.join ((p.take n).map monT) [32, 43, 32] ++ (if 0 < n then [32, 43, 32] else []) ++ headM (List.getD p n ((0, [], ()) : Mo))

def okC (m : Mo) : Prop := 1 ≤ m.1 ∧ m.1 ≤ 1000000000 ∧ okP m.2.1
def okX (x : Pw) : Prop := 0 ≤ x.1 ∧ x.1 < 4000 ∧ 1 ≤ x.2.1 ∧ x.2.1 ≤ 100 ∧ (Lib.itoa x.1).length ≤ 21 ∧ (Lib.itoa x.2.1).length ≤ 21
theorem okX_of {l : List Pw} (h : okP l) {x : Pw} (hx : x ∈ l) : okX x := by
  have h := okP_mem h hx
  exact ⟨h.1, h.2.1, h.2.2.1, h.2.2.2, Lib.itoa_length_le _ (by omega) (by omega), Lib.itoa_length_le _ (by omega) (by omega)⟩
theorem okP_len {l : List Pw} (h : okP l) : l.length ≤ 4000 := by
  have : ∀ j, j < l.length → (j : Int) ≤ (l.getD j ((0, 0, ()) : Pw)).1 := by
    intro j
    induction j with
    | zero => intro hj; have := (h 0 hj).1; simpa using this
    | succ j ih =>
      intro hj
      have h1 := ih (by omega)
      have h2 := (h (j + 1) hj).2.2.2.2 (by omega)
      have h3 : (l.getD j ((0, 0, ()) : Pw)).1 < (l.getD (j + 1) ((0, 0, ()) : Pw)).1 := h2
      omega
  rcases Nat.lt_or_ge 4000 l.length with h1 | h1
  · have h2 := this 4000 h1
    have h3 := (h 4000 h1).2.1
    omega
  · exact h1
theorem itemX_len {x : Pw} (h : 0 ≤ x.1 ∧ x.1 < 4000 ∧ 1 ≤ x.2.1 ∧ x.2.1 ≤ 100) : (itemX x).length ≤ 50 := by
  have h1 := Lib.itoa_length_le x.1 (by omega) (by omega)
  have h2 := Lib.itoa_length_le x.2.1 (by omega) (by omega)
  unfold itemX
  split <;> simp only [List.length_append, List.length_cons, List.length_nil] <;> omega
theorem fac_len {l : List Pw} (h : okP l) (k : Nat) : (Lib.join ((l.take k).map itemX) [42]).length ≤ 300000 := by
  have := join_len [42] 50 ((l.take k).map itemX) (by
    intro x hx
    obtain ⟨y, hy, rfl⟩ := List.mem_map.1 hx
    exact itemX_len (okP_mem h (List.mem_of_mem_take hy)))
  have h2 := okP_len h
  have h3 : ((l.take k).map itemX).length ≤ 4000 := by simp; omega
  have h4 : ((l.take k).map itemX).length * (50 + [(42 : UInt8)].length) ≤ 4000 * 51 := Nat.mul_le_mul h3 (by simp)
  omega
theorem head_len {m : Mo} (h : 1 ≤ m.1 ∧ m.1 ≤ 1000000000) : (headM m).length ≤ 22 := by
  have h1 := Lib.itoa_length_le m.1 (by omega) (by omega)
  unfold headM
  split
  · simp
  · split <;> simp only [List.length_append, List.length_cons, List.length_nil] <;> omega
theorem mon_len {p : List Mo} (h : ValidP p) {m : Mo} (hm : m ∈ p) : (monT m).length ≤ 300022 := by
  have hv := valid_mem h hm
  have h1 := head_len ⟨hv.1, hv.2.1⟩
  have h2 := fac_len hv.2.2 m.2.1.length
  rw [List.take_length] at h2
  unfold monT facT
  rw [List.length_append]; omega
theorem pre_len {p : List Mo} (h : ValidP p) (n : Nat) : (Lib.join ((p.take n).map monT) [32, 43, 32]).length ≤ 200000000 := by
  have := join_len [32, 43, 32] 300022 ((p.take n).map monT) (by
    intro x hx
    obtain ⟨y, hy, rfl⟩ := List.mem_map.1 hx
    exact mon_len h (List.mem_of_mem_take hy))
  have h2 := h.1
  have h3 : ((p.take n).map monT).length ≤ 400 := by simp; omega
  have h4 : ((p.take n).map monT).length * (300022 + [(32 : UInt8), 43, 32].length) ≤ 400 * 300025 := Nat.mul_le_mul h3 (by simp)
  omega
theorem text_no {p : List Mo} (h : ¬ ValidP p) : [] = textP p := by unfold textP; rw [boolOf_false.2 h]; rfl
theorem text_yes {p : List Mo} (h : ValidP p) (h2 : p ≠ []) : polyT p = textP p := by unfold textP; rw [boolOf_true.2 h, if_pos rfl, if_neg h2]
theorem text_zero {p : List Mo} (h : ValidP p) (h2 : p = []) : [48] = textP p := by unfold textP; rw [boolOf_true.2 h, if_pos rfl, if_pos h2]

@[reducible] noncomputable def S_ref15_Text : Spec := { ins := (.cons (.d tPoly) .nil), pre := fun _ => True, alts := [{ outs := (.cons (.d .str) .nil), res := (fun x => (fun p => (textP p, ())) x.1) }] }
noncomputable def c_ref15_Text : Cf := (cf_ref15_Text (Fl [(fi_ref15_Valid, S_ref15_Valid), (fi_ref15_Decimal, S_ref15_Decimal)]))
set_option maxRecDepth 100000 in
set_option maxHeartbeats 4000000 in
theorem g_ref15_Text : ∀ x, S_ref15_Text.pre x → shOK S_ref15_Text.ins x → fnGoal c_ref15_Text fn_ref15_Text S_ref15_Text x := by
  rintro ⟨p, ⟨⟩⟩ hpre hok
  clear hpre
  have hln := shLn_of _ hok; replace hok := Hd.mk hok; try simp only [shLn, datLn, inRng, lo, hi, maxLen, true_and, and_true] at hln
  first | refine fn_goal (w_head ?_) | refine w_fn (w_head ?_)
  intro K_ hK_; (conv => whnf); (try dsimp +instances only); refine hK_ _ ?_; clear hK_ K_; (conv => (arg 2; whnf))
  repeat' (first | (with_reducible refine And.intro ?_ ?_) | ((try (with_reducible refine gv_more ?_)); first | ((with_reducible show K_ _); (try dsimp +instances only); (with_reducible refine hK_ _ ?_); clear hK_ K_) | (with_reducible (first | refine w_seq ?_ | refine thenK_n ?_ | refine w_block ?_ | refine blockK_n ?_)) | ((with_reducible refine w_region ?_); intro K_ hK_; (conv => whnf)) | ((with_reducible refine w_cond ?_); (conv => (arg 2; whnf)); (with_reducible (first | refine condK_p ?_ ?_ | refine condK_t ?_ | refine condK_f ?_ | refine condK_b ?_ ?_))) | (with_reducible (first | refine w_skip ?_ | refine w_exit ?_ | refine w_ret ?_ | refine thenK_r ?_ | refine thenK_e ?_ | refine blockK_r ?_ | refine blockK_x ?_ | refine blockK_y (by rfl) ?_ | refine loopK_r ?_ | refine loopK_e ?_ | refine w_label ?_)) | ((with_reducible (first | refine loopK_at ?_ | refine retK_r ?_ | refine retK_n ?_)); (conv => whnf)) | ((with_reducible refine w_head ?_); intro K_ hK_; (conv => whnf))) | ((with_reducible refine gv_more ?_); (conv => whnf)) | (intro hc; (try dsimp +instances only [Dat, SDat, dflt, Ty.size, keepS, bkUpd, Gv.bk, backS, wayA, maxI, minI, negI] at hc); (try simp only [Int.toNat_natCast, Int.toNat_zero, Int.toNat_one, Classical.not_not, boolOf_true, decide_eq_true_eq, decide_eq_false_iff_not, ne_eq, true_implies, not_true_eq_false, not_false_eq_true, Bool.not_eq_true, Prod.mk.injEq, and_true, true_and, forall_const, preA_f, selB_0, selB_1, boolOf_eq_false, rep1, rep2, rep3, List.length_set, List.length_append, List.length_map, List.length_cons, List.length_nil, List.length_replicate, Nat.zero_add, Nat.add_zero] at hc)))
  all_goals (try ((fail_if_success (with_reducible refine w_at ?_)); (fail_if_success refine Exists.intro (0 : Nat) (Exists.intro (_ : Alt _) ?_)); (try dsimp only [Dat, SDat, dflt, Ty.size, keepS, bkUpd, Gv.bk, backS, wayA, maxI, minI, negI]); (try simp only [Int.toNat_natCast, Int.toNat_zero, Int.toNat_one, Classical.not_not, boolOf_true, decide_eq_true_eq, decide_eq_false_iff_not, ne_eq, true_implies, not_true_eq_false, not_false_eq_true, Bool.not_eq_true, Prod.mk.injEq, and_true, true_and, forall_const, preA_f, selB_0, selB_1, boolOf_eq_false, rep1, rep2, rep3, List.length_set, List.length_append, List.length_map, List.length_cons, List.length_nil, List.length_replicate, Nat.zero_add, Nat.add_zero]); first | done | exact trivial | rfl | omega | exact boolOf_eq _ | (simp only [allP, lo, hi, room, true_and, and_true, implies_true]; done) | ((try simp only [allP, lo, hi, room, true_and, and_true, implies_true]); (repeat' (first | (with_reducible refine And.intro ?_ ?_) | ((with_reducible refine preA_t ?_ ?_); rotate_left; (focus (repeat (first | exact trivial | ((conv => whnf); refine And.intro (by rfl) ?_))))) | intro hv)) <;> (try omega))))
  · exact text_no hc
  · exact text_zero (by assumption) (List.eq_nil_of_length_eq_zero (by omega))
  rename_i hval
  have hne : p ≠ [] := fun e => hc (by rw [e]; rfl)
  refine w_loop [(3, .d .str), (4, .d tInt)] [] (fun y => ∃ k : Nat, y.1.2.1 = (k : Int) ∧ k ≤ p.length ∧ y.1.1 = Lib.join ((p.take k).map monT) [32, 43, 32]) (fun y => p.length - y.1.2.1.toNat) ?_
  conv => whnf
  refine And.intro ?_ ?_
  · exact ⟨0, rfl, by omega, rfl⟩
  rintro ⟨⟨ou, _, ⟨⟩⟩, ⟨⟩⟩ ⟨n, rfl, hn, hou⟩
  have hou : @Eq (List UInt8) ou (Lib.join ((p.take n).map monT) [32, 43, 32]) := hou
  subst hou
  have hpl := pre_len hval n
  have hM : n < p.length → okC (List.getD p n ((0, [], ()) : Mo)) := fun h => valid_mem hval (getD_mem h)
  have hI : n < p.length → (Lib.itoa (List.getD p n ((0, [], ()) : Mo)).1).length ≤ 21 := fun h => Lib.itoa_length_le _ (by have := hM h; unfold okC at this; omega) (by have := hM h; unfold okC at this; omega)
  repeat' (first | (with_reducible refine And.intro ?_ ?_) | ((try (with_reducible refine gv_more ?_)); first | ((with_reducible show K_ _); (try dsimp +instances only); (with_reducible refine hK_ _ ?_); clear hK_ K_) | (with_reducible (first | refine w_seq ?_ | refine thenK_n ?_ | refine w_block ?_ | refine blockK_n ?_)) | ((with_reducible refine w_region ?_); intro K_ hK_; (conv => whnf)) | ((with_reducible refine w_cond ?_); (conv => (arg 2; whnf)); (with_reducible (first | refine condK_p ?_ ?_ | refine condK_t ?_ | refine condK_f ?_ | refine condK_b ?_ ?_))) | (with_reducible (first | refine w_skip ?_ | refine w_exit ?_ | refine w_ret ?_ | refine thenK_r ?_ | refine thenK_e ?_ | refine blockK_r ?_ | refine blockK_x ?_ | refine blockK_y (by rfl) ?_ | refine loopK_r ?_ | refine loopK_e ?_ | refine w_label ?_)) | ((with_reducible (first | refine loopK_at ?_ | refine retK_r ?_ | refine retK_n ?_)); (conv => whnf)) | ((with_reducible refine w_head ?_); intro K_ hK_; (conv => whnf))) | ((with_reducible refine gv_more ?_); (conv => whnf)) | (intro hc; (try dsimp +instances only [Dat, SDat, dflt, Ty.size, keepS, bkUpd, Gv.bk, backS, wayA, maxI, minI, negI] at hc); (try simp only [Int.toNat_natCast, Int.toNat_zero, Int.toNat_one, Classical.not_not, boolOf_true, decide_eq_true_eq, decide_eq_false_iff_not, ne_eq, true_implies, not_true_eq_false, not_false_eq_true, Bool.not_eq_true, Prod.mk.injEq, and_true, true_and, forall_const, preA_f, selB_0, selB_1, boolOf_eq_false, rep1, rep2, rep3, List.length_set, List.length_append, List.length_map, List.length_cons, List.length_nil, List.length_replicate, Nat.zero_add, Nat.add_zero] at hc)))
  all_goals (try ((fail_if_success (with_reducible refine w_at ?_)); (fail_if_success refine Exists.intro (0 : Nat) (Exists.intro (_ : Alt _) ?_)); (try dsimp only [Dat, SDat, dflt, Ty.size, keepS, bkUpd, Gv.bk, backS, wayA, maxI, minI, negI]); (try simp only [Int.toNat_natCast, Int.toNat_zero, Int.toNat_one, Classical.not_not, boolOf_true, decide_eq_true_eq, decide_eq_false_iff_not, ne_eq, true_implies, not_true_eq_false, not_false_eq_true, Bool.not_eq_true, Prod.mk.injEq, and_true, true_and, forall_const, preA_f, selB_0, selB_1, boolOf_eq_false, rep1, rep2, rep3, List.length_set, List.length_append, List.length_map, List.length_cons, List.length_nil, List.length_replicate, Nat.zero_add, Nat.add_zero]); first | done | exact trivial | rfl | omega | exact boolOf_eq _ | (simp only [allP, lo, hi, room, true_and, and_true, implies_true]; done) | ((try simp only [allP, lo, hi, room, true_and, and_true, implies_true]); (repeat' (first | (with_reducible refine And.intro ?_ ?_) | ((with_reducible refine preA_t ?_ ?_); rotate_left; (focus (repeat (first | exact trivial | ((conv => whnf); refine And.intro (by rfl) ?_))))) | intro hv)) <;> (try omega))))
  all_goals (try (first
    | (have := hI (by omega); have := hM (by omega); unfold okC at this; omega)
    | (simp only [maxLen, List.length_cons, List.length_nil, List.length_append]; (try have := hI (by omega)); omega)
    | (have hT : p.take n = p := List.take_of_length_le (by omega)
       rw [hT]; exact text_yes hval hne)))
  all_goals
    have hM := hM (by omega)
    unfold okC at hM
    have hgl := okP_len hM.2.2
    refine w_loop [(3, .d .str), (6, .d tInt)] [] (fun y => ∃ j : Nat, y.1.2.1 = (j : Int) ∧ j ≤ (List.getD p n ((0, [], ()) : Mo)).2.1.length ∧ y.1.1 = (baseT p n) ++ Lib.join (((List.getD p n ((0, [], ()) : Mo)).2.1.take j).map itemX) [42]) (fun y => (List.getD p n ((0, [], ()) : Mo)).2.1.length - y.1.2.1.toNat) ?_
    conv => whnf
    refine And.intro ?_ ?_
    · refine ⟨0, rfl, by omega, ?_⟩
      show _ = baseT p n ++ []
      rw [List.append_nil]
      unfold baseT headM
      simp_all [List.length_eq_zero_iff, List.length_pos_iff]
    rintro ⟨⟨ou, _, ⟨⟩⟩, ⟨⟩⟩ ⟨j, rfl, hj, hou⟩
    have hou : @Eq (List UInt8) ou ((baseT p n) ++ Lib.join (((List.getD p n ((0, [], ()) : Mo)).2.1.take j).map itemX) [42]) := hou
    subst hou
    have hbl : ((baseT p n)).length ≤ 200000030 := by
      have h1 := head_len ⟨hM.1, hM.2.1⟩
      unfold baseT
      split <;> simp only [List.length_append, List.length_cons, List.length_nil] <;> omega
    have hfl := fac_len hM.2.2 j
    have hX : j < (List.getD p n ((0, [], ()) : Mo)).2.1.length → okX (List.getD (List.getD p n ((0, [], ()) : Mo)).2.1 j ((0, 0, ()) : Pw)) := fun h => okX_of hM.2.2 (getD_mem h)
    repeat' (first | (with_reducible refine And.intro ?_ ?_) | ((try (with_reducible refine gv_more ?_)); first | ((with_reducible show K_ _); (try dsimp +instances only); (with_reducible refine hK_ _ ?_); clear hK_ K_) | (with_reducible (first | refine w_seq ?_ | refine thenK_n ?_ | refine w_block ?_ | refine blockK_n ?_)) | ((with_reducible refine w_region ?_); intro K_ hK_; (conv => whnf)) | ((with_reducible refine w_cond ?_); (conv => (arg 2; whnf)); (with_reducible (first | refine condK_p ?_ ?_ | refine condK_t ?_ | refine condK_f ?_ | refine condK_b ?_ ?_))) | (with_reducible (first | refine w_skip ?_ | refine w_exit ?_ | refine w_ret ?_ | refine thenK_r ?_ | refine thenK_e ?_ | refine blockK_r ?_ | refine blockK_x ?_ | refine blockK_y (by rfl) ?_ | refine loopK_r ?_ | refine loopK_e ?_ | refine w_label ?_)) | ((with_reducible (first | refine loopK_at ?_ | refine retK_r ?_ | refine retK_n ?_)); (conv => whnf)) | ((with_reducible refine w_head ?_); intro K_ hK_; (conv => whnf))) | ((with_reducible refine gv_more ?_); (conv => whnf)) | (intro hc; (try dsimp +instances only [Dat, SDat, dflt, Ty.size, keepS, bkUpd, Gv.bk, backS, wayA, maxI, minI, negI] at hc); (try simp only [Int.toNat_natCast, Int.toNat_zero, Int.toNat_one, Classical.not_not, boolOf_true, decide_eq_true_eq, decide_eq_false_iff_not, ne_eq, true_implies, not_true_eq_false, not_false_eq_true, Bool.not_eq_true, Prod.mk.injEq, and_true, true_and, forall_const, preA_f, selB_0, selB_1, boolOf_eq_false, rep1, rep2, rep3, List.length_set, List.length_append, List.length_map, List.length_cons, List.length_nil, List.length_replicate, Nat.zero_add, Nat.add_zero] at hc)))
    all_goals (try ((fail_if_success (with_reducible refine w_at ?_)); (fail_if_success refine Exists.intro (0 : Nat) (Exists.intro (_ : Alt _) ?_)); (try dsimp only [Dat, SDat, dflt, Ty.size, keepS, bkUpd, Gv.bk, backS, wayA, maxI, minI, negI]); (try simp only [Int.toNat_natCast, Int.toNat_zero, Int.toNat_one, Classical.not_not, boolOf_true, decide_eq_true_eq, decide_eq_false_iff_not, ne_eq, true_implies, not_true_eq_false, not_false_eq_true, Bool.not_eq_true, Prod.mk.injEq, and_true, true_and, forall_const, preA_f, selB_0, selB_1, boolOf_eq_false, rep1, rep2, rep3, List.length_set, List.length_append, List.length_map, List.length_cons, List.length_nil, List.length_replicate, Nat.zero_add, Nat.add_zero]); first | done | exact trivial | rfl | omega | exact boolOf_eq _ | (simp only [allP, lo, hi, room, true_and, and_true, implies_true]; done) | ((try simp only [allP, lo, hi, room, true_and, and_true, implies_true]); (repeat' (first | (with_reducible refine And.intro ?_ ?_) | ((with_reducible refine preA_t ?_ ?_); rotate_left; (focus (repeat (first | exact trivial | ((conv => whnf); refine And.intro (by rfl) ?_))))) | intro hv)) <;> (try omega))))
    all_goals (first
      | (have hX := hX (by omega); unfold okX at hX; omega)
      | (have hX := hX (by omega); unfold okX at hX; simp only [maxLen, List.length_cons, List.length_nil, List.length_append]; omega)
      | (refine ⟨j + 1, by omega, by omega, ?_⟩
         rw [fac_step (by omega)]
         (first | rw [if_pos (by omega : 0 < j)] | rw [if_neg (by omega : ¬ 0 < j)])
         (first | rw [if_pos hc] | rw [if_neg hc])
         simp only [List.append_assoc, List.append_nil, List.nil_append])
      | (refine ⟨n + 1, by omega, by omega, ?_⟩
         rw [List.take_of_length_le (by omega), join_step (d := ((0, [], ()) : Mo)) (by omega)]
         unfold baseT monT facT
         simp only [List.append_assoc])
      | skip)
set_option maxRecDepth 100000 in
theorem ok_ref15_Text : SpecOK SP glob fi_ref15_Text S_ref15_Text := mk_ok (c := c_ref15_Text) (tab_ok _) mix_ok wf_ref15_Text (by decide) (.cons ok_ref15_Valid (.cons ok_ref15_Decimal .nil)) (fun x hx => Nat.zero_lt_one) g_ref15_Text
end Go.Gv
