/- Chapter 15: values. -/
import Derived.Test.YtbidlahhpmdenaaDoorC15
set_option linter.all false
namespace Go.Gv
open Go Go.Proofs Go.Proofs.YtbidlahhpmdenaaDoor
noncomputable def findI {α : Type} (p : α → Bool) (l : List α) : Int := if l.any p = true then (l.findIdx p : Int) else -1
theorem findI_ge {α : Type} {p : α → Bool} {l : List α} : 0 ≤ findI p l ↔ l.any p = true := by
  unfold findI; split <;> simp_all <;> omega
theorem findI_miss {α : Type} {p : α → Bool} {l : List α} {k : Nat} (h : ∀ x ∈ l.take k, p x = false) (hk : l.length ≤ k) : findI p l = -1 := by
  have := all_end h hk
  unfold findI
  rw [if_neg]
  rw [List.any_eq_true]
  rintro ⟨x, hx, hp⟩
  rw [this x hx] at hp; cases hp
theorem findI_hit {α : Type} {p : α → Bool} {l : List α} {k : Nat} {d : α} (h : ∀ x ∈ l.take k, p x = false) (hk : k < l.length) (hp : p (List.getD l k d) = true) : findI p l = k := by
  have hm := getD_mem (d := d) hk
  unfold findI
  rw [if_pos (List.any_eq_true.2 ⟨_, hm, hp⟩)]
  congr 1
  rw [getD_ok d hk] at hp
  refine (List.findIdx_eq hk).2 ⟨hp, fun j hj => ?_⟩
  refine Bool.eq_false_iff.1 (h _ ?_) |> fun e => by simpa using e
  rw [List.mem_take_iff_getElem]
  exact ⟨j, by omega, rfl⟩

/-- A power's part of a value: numbers are at most 1000000001. -/
def powS (c v : Int) : Nat → Int
  | 0 => c
  | n + 1 => min (powS c v n * v) 1000000001
def prodS (vals : List Int) : Int → List Pw → Int
  | c, [] => c
  | c, x :: l => prodS vals (powS c (vals.getD x.1.toNat 0) x.2.1.toNat) l
def sumS (vals : List Int) (p : List Mo) : Int := p.foldl (fun s m => min (s + prodS vals m.1 m.2.1) 1000000001) 0

theorem powS_rg {c v : Int} (h0 : 0 ≤ c) (h1 : c ≤ 1000000001) (hv : 0 ≤ v) : ∀ n, 0 ≤ powS c v n ∧ powS c v n ≤ 1000000001
  | 0 => ⟨h0, h1⟩
  | n + 1 => by
    have ih := powS_rg h0 h1 hv n
    have := Int.mul_nonneg ih.1 hv
    unfold powS
    omega
theorem powS_zero {v : Int} : ∀ n, powS 0 v n = 0
  | 0 => rfl
  | n + 1 => by unfold powS; rw [powS_zero n]; omega
theorem powS_at0 {c : Int} {n : Nat} (h : 0 < n) : powS c 0 n = 0 := by
  obtain ⟨k, rfl⟩ : ∃ k, n = k + 1 := ⟨n - 1, by omega⟩
  unfold powS; omega
theorem prodS_zero {vals : List Int} : ∀ l, prodS vals 0 l = 0
  | [] => rfl
  | x :: l => by unfold prodS; rw [powS_zero]; exact prodS_zero l
theorem prodS_at0 {vals : List Int} : ∀ {l : List Pw} {c : Int} (x : Pw), x ∈ l → vals.getD x.1.toNat 0 = 0 → 1 ≤ x.2.1 → prodS vals c l = 0
  | y :: l, c, x, hx, h0, he => by
    unfold prodS
    rcases List.mem_cons.1 hx with rfl | hx
    · rw [h0, powS_at0 (by omega)]; exact prodS_zero l
    · exact prodS_at0 x hx h0 he
theorem prodS_rg {vals : List Int} (hv : ∀ v ∈ vals, 0 ≤ v) : ∀ {l : List Pw} {c : Int}, 0 ≤ c → c ≤ 1000000001 → 0 ≤ prodS vals c l ∧ prodS vals c l ≤ 1000000001
  | [], _, h0, h1 => ⟨h0, h1⟩
  | x :: l, c, h0, h1 => by
    unfold prodS
    have hx : 0 ≤ vals.getD x.1.toNat 0 := by
      rw [List.getD_eq_getElem?_getD]
      cases h : vals[x.1.toNat]? with
      | none => simp
      | some v => simpa using hv v (List.mem_of_getElem? h)
    have := powS_rg h0 h1 hx x.2.1.toNat
    exact prodS_rg hv this.1 this.2
theorem prodS_app {vals : List Int} : ∀ {l r : List Pw} {c : Int}, prodS vals c (l ++ r) = prodS vals (prodS vals c l) r
  | [], _, _ => rfl
  | x :: l, r, c => by simp only [List.cons_append, prodS]; exact prodS_app
theorem prodS_step {vals : List Int} {l : List Pw} {c : Int} {k : Nat} (h : k < l.length) : prodS vals c (l.take (k + 1)) = powS (prodS vals c (l.take k)) (vals.getD (l.getD k ((0, 0, ()) : Pw)).1.toNat 0) (l.getD k ((0, 0, ()) : Pw)).2.1.toNat := by
  rw [List.take_succ_eq_append_getElem h, prodS_app, getD_ok _ h]; rfl

theorem mul_rg {a b : Int} (h1 : 0 ≤ a) (h2 : a ≤ 1000000001) (h3 : 0 ≤ b) (h4 : b ≤ 1000000000) : 0 ≤ a * b ∧ a * b ≤ 1000000001000000000 :=
  ⟨Int.mul_nonneg h1 h3, Int.le_trans (Int.mul_le_mul h2 h4 h3 (by omega)) (by decide)⟩
/-- What a value's function may lean on. -/
def mvAt (vals : List Int) (x : Pw) : Prop := 0 ≤ x.1 ∧ x.1 < vals.length ∧ 1 ≤ x.2.1 ∧ x.2.1 ≤ 100
def mvOK (vals : List Int) (l : List Pw) : Prop := ∀ x ∈ l, mvAt vals x
def vsOK (vals : List Int) : Prop := ∀ v ∈ vals, 0 ≤ v ∧ v ≤ 1000000000

@[reducible] noncomputable def S_ref15_value : Spec := { ins := (.cons (.d tMo) (.cons (.d (.sl tInt)) .nil)), pre := (fun x => (fun m vals => 0 ≤ m.1 ∧ m.1 ≤ 1000000001 ∧ mvOK vals m.2.1 ∧ vsOK vals) x.1 x.2.1), alts := [{ outs := (.cons (.d tInt) .nil), res := (fun x => (fun m vals => (prodS vals m.1 m.2.1, ())) x.1 x.2.1) }] }
noncomputable def c_ref15_value : Cf := (cf_ref15_value (Fl []))
set_option maxRecDepth 100000 in
set_option maxHeartbeats 4000000 in
theorem g_ref15_value : ∀ x, S_ref15_value.pre x → shOK S_ref15_value.ins x → fnGoal c_ref15_value fn_ref15_value S_ref15_value x := by
  rintro ⟨⟨mc, ml, ⟨⟩⟩, vals, ⟨⟩⟩ hpre hok
  try dsimp only [Dat, SDat, dflt, Ty.size, keepS, bkUpd, Gv.bk, backS, wayA, maxI, minI, negI] at hpre
  have hln := shLn_of _ hok; replace hok := Hd.mk hok; try simp only [shLn, datLn, inRng, lo, hi, maxLen, true_and, and_true] at hln
  have hp1 : 0 ≤ mc := hpre.1
  have hp2 : mc ≤ 1000000001 := hpre.2.1
  have hp3 : mvOK vals ml := hpre.2.2.1
  have hp4 : vsOK vals := hpre.2.2.2
  first | refine fn_goal (w_head ?_) | refine w_fn (w_head ?_)
  intro K_ hK_; (conv => whnf); (try dsimp +instances only); refine hK_ _ ?_; clear hK_ K_; (conv => (arg 2; whnf))
  repeat' (first | (with_reducible refine And.intro ?_ ?_) | ((try (with_reducible refine gv_more ?_)); first | ((with_reducible show K_ _); (try dsimp +instances only); (with_reducible refine hK_ _ ?_); clear hK_ K_) | (with_reducible (first | refine w_seq ?_ | refine thenK_n ?_ | refine w_block ?_ | refine blockK_n ?_)) | ((with_reducible refine w_region ?_); intro K_ hK_; (conv => whnf)) | ((with_reducible refine w_cond ?_); (conv => (arg 2; whnf)); (with_reducible (first | refine condK_p ?_ ?_ | refine condK_t ?_ | refine condK_f ?_ | refine condK_b ?_ ?_))) | (with_reducible (first | refine w_skip ?_ | refine w_exit ?_ | refine w_ret ?_ | refine thenK_r ?_ | refine thenK_e ?_ | refine blockK_r ?_ | refine blockK_x ?_ | refine blockK_y (by rfl) ?_ | refine loopK_r ?_ | refine loopK_e ?_ | refine w_label ?_)) | ((with_reducible (first | refine loopK_at ?_ | refine retK_r ?_ | refine retK_n ?_)); (conv => whnf)) | ((with_reducible refine w_head ?_); intro K_ hK_; (conv => whnf))) | ((with_reducible refine gv_more ?_); (conv => whnf)) | (intro hc; (try dsimp +instances only [Dat, SDat, dflt, Ty.size, keepS, bkUpd, Gv.bk, backS, wayA, maxI, minI, negI] at hc); (try simp only [Int.toNat_natCast, Int.toNat_zero, Int.toNat_one, Classical.not_not, boolOf_true, decide_eq_true_eq, decide_eq_false_iff_not, ne_eq, true_implies, not_true_eq_false, not_false_eq_true, Bool.not_eq_true, Prod.mk.injEq, and_true, true_and, forall_const, preA_f, selB_0, selB_1, boolOf_eq_false, rep1, rep2, rep3, List.length_set, List.length_append, List.length_map, List.length_cons, List.length_nil, List.length_replicate, Nat.zero_add, Nat.add_zero] at hc)))
  all_goals (try ((fail_if_success (with_reducible refine w_at ?_)); (fail_if_success refine Exists.intro (0 : Nat) (Exists.intro (_ : Alt _) ?_)); (try dsimp only [Dat, SDat, dflt, Ty.size, keepS, bkUpd, Gv.bk, backS, wayA, maxI, minI, negI]); (try simp only [Int.toNat_natCast, Int.toNat_zero, Int.toNat_one, Classical.not_not, boolOf_true, decide_eq_true_eq, decide_eq_false_iff_not, ne_eq, true_implies, not_true_eq_false, not_false_eq_true, Bool.not_eq_true, Prod.mk.injEq, and_true, true_and, forall_const, preA_f, selB_0, selB_1, boolOf_eq_false, rep1, rep2, rep3, List.length_set, List.length_append, List.length_map, List.length_cons, List.length_nil, List.length_replicate, Nat.zero_add, Nat.add_zero]); first | done | exact trivial | rfl | omega | exact boolOf_eq _ | (simp only [allP, lo, hi, room, true_and, and_true, implies_true]; done) | ((try simp only [allP, lo, hi, room, true_and, and_true, implies_true]); (repeat' (first | (with_reducible refine And.intro ?_ ?_) | ((with_reducible refine preA_t ?_ ?_); rotate_left; (focus (repeat (first | exact trivial | ((conv => whnf); refine And.intro (by rfl) ?_))))) | intro hv)) <;> (try omega))))
  refine w_loop [(5, .d tInt)] [] (fun y => ∃ k : Nat, y.1.1 = (k : Int) ∧ k ≤ ml.length) (fun y => ml.length - y.1.1.toNat) ?_
  conv => whnf
  refine And.intro ?_ ?_
  · exact ⟨0, by simp⟩
  rintro ⟨⟨_, ⟨⟩⟩, ⟨⟩⟩ ⟨k, rfl, hk⟩
  have hx : k < ml.length → mvAt vals (ml.getD k ((0, 0, ()) : Pw)) := fun h => hp3 _ (getD_mem (d := ((0, 0, ()) : Pw)) h)
  repeat' (first | (with_reducible refine And.intro ?_ ?_) | ((try (with_reducible refine gv_more ?_)); first | ((with_reducible show K_ _); (try dsimp +instances only); (with_reducible refine hK_ _ ?_); clear hK_ K_) | (with_reducible (first | refine w_seq ?_ | refine thenK_n ?_ | refine w_block ?_ | refine blockK_n ?_)) | ((with_reducible refine w_region ?_); intro K_ hK_; (conv => whnf)) | ((with_reducible refine w_cond ?_); (conv => (arg 2; whnf)); (with_reducible (first | refine condK_p ?_ ?_ | refine condK_t ?_ | refine condK_f ?_ | refine condK_b ?_ ?_))) | (with_reducible (first | refine w_skip ?_ | refine w_exit ?_ | refine w_ret ?_ | refine thenK_r ?_ | refine thenK_e ?_ | refine blockK_r ?_ | refine blockK_x ?_ | refine blockK_y (by rfl) ?_ | refine loopK_r ?_ | refine loopK_e ?_ | refine w_label ?_)) | ((with_reducible (first | refine loopK_at ?_ | refine retK_r ?_ | refine retK_n ?_)); (conv => whnf)) | ((with_reducible refine w_head ?_); intro K_ hK_; (conv => whnf))) | ((with_reducible refine gv_more ?_); (conv => whnf)) | (intro hc; (try dsimp +instances only [Dat, SDat, dflt, Ty.size, keepS, bkUpd, Gv.bk, backS, wayA, maxI, minI, negI] at hc); (try simp only [Int.toNat_natCast, Int.toNat_zero, Int.toNat_one, Classical.not_not, boolOf_true, decide_eq_true_eq, decide_eq_false_iff_not, ne_eq, true_implies, not_true_eq_false, not_false_eq_true, Bool.not_eq_true, Prod.mk.injEq, and_true, true_and, forall_const, preA_f, selB_0, selB_1, boolOf_eq_false, rep1, rep2, rep3, List.length_set, List.length_append, List.length_map, List.length_cons, List.length_nil, List.length_replicate, Nat.zero_add, Nat.add_zero] at hc)))
  all_goals (try ((fail_if_success (with_reducible refine w_at ?_)); (fail_if_success refine Exists.intro (0 : Nat) (Exists.intro (_ : Alt _) ?_)); (try dsimp only [Dat, SDat, dflt, Ty.size, keepS, bkUpd, Gv.bk, backS, wayA, maxI, minI, negI]); (try simp only [Int.toNat_natCast, Int.toNat_zero, Int.toNat_one, Classical.not_not, boolOf_true, decide_eq_true_eq, decide_eq_false_iff_not, ne_eq, true_implies, not_true_eq_false, not_false_eq_true, Bool.not_eq_true, Prod.mk.injEq, and_true, true_and, forall_const, preA_f, selB_0, selB_1, boolOf_eq_false, rep1, rep2, rep3, List.length_set, List.length_append, List.length_map, List.length_cons, List.length_nil, List.length_replicate, Nat.zero_add, Nat.add_zero]); first | done | exact trivial | rfl | omega | exact boolOf_eq _ | (simp only [allP, lo, hi, room, true_and, and_true, implies_true]; done) | ((try simp only [allP, lo, hi, room, true_and, and_true, implies_true]); (repeat' (first | (with_reducible refine And.intro ?_ ?_) | ((with_reducible refine preA_t ?_ ?_); rotate_left; (focus (repeat (first | exact trivial | ((conv => whnf); refine And.intro (by rfl) ?_))))) | intro hv)) <;> (try omega))))
  · exact (hx (by omega)).1
  · exact (hx (by omega)).2.1
  · exact (prodS_at0 _ (getD_mem (d := ((0, 0, ()) : Pw)) (k := k) (by omega)) hc (hx (by omega)).2.2.1).symm
  · exact ⟨k + 1, by omega, by omega⟩
  clear hx
  refine w_loop [(6, .d tInt), (7, .d tInt)] [] (fun y => ∃ k : Nat, y.1.2.1 = (k : Int) ∧ k ≤ ml.length ∧ y.1.1 = prodS vals mc (ml.take k)) (fun y => ml.length - y.1.2.1.toNat) ?_
  conv => whnf
  refine And.intro ?_ ?_
  · exact ⟨0, by simp [prodS]⟩
  rintro ⟨⟨ou, _, ⟨⟩⟩, ⟨⟩⟩ ⟨n, rfl, hn, hou⟩
  have hou : @Eq Int ou (prodS vals mc (ml.take n)) := hou
  subst hou
  have hx : n < ml.length → mvAt vals (ml.getD n ((0, 0, ()) : Pw)) := fun h => hp3 _ (getD_mem (d := ((0, 0, ()) : Pw)) h)
  repeat' (first | (with_reducible refine And.intro ?_ ?_) | ((try (with_reducible refine gv_more ?_)); first | ((with_reducible show K_ _); (try dsimp +instances only); (with_reducible refine hK_ _ ?_); clear hK_ K_) | (with_reducible (first | refine w_seq ?_ | refine thenK_n ?_ | refine w_block ?_ | refine blockK_n ?_)) | ((with_reducible refine w_region ?_); intro K_ hK_; (conv => whnf)) | ((with_reducible refine w_cond ?_); (conv => (arg 2; whnf)); (with_reducible (first | refine condK_p ?_ ?_ | refine condK_t ?_ | refine condK_f ?_ | refine condK_b ?_ ?_))) | (with_reducible (first | refine w_skip ?_ | refine w_exit ?_ | refine w_ret ?_ | refine thenK_r ?_ | refine thenK_e ?_ | refine blockK_r ?_ | refine blockK_x ?_ | refine blockK_y (by rfl) ?_ | refine loopK_r ?_ | refine loopK_e ?_ | refine w_label ?_)) | ((with_reducible (first | refine loopK_at ?_ | refine retK_r ?_ | refine retK_n ?_)); (conv => whnf)) | ((with_reducible refine w_head ?_); intro K_ hK_; (conv => whnf))) | ((with_reducible refine gv_more ?_); (conv => whnf)) | (intro hc; (try dsimp +instances only [Dat, SDat, dflt, Ty.size, keepS, bkUpd, Gv.bk, backS, wayA, maxI, minI, negI] at hc); (try simp only [Int.toNat_natCast, Int.toNat_zero, Int.toNat_one, Classical.not_not, boolOf_true, decide_eq_true_eq, decide_eq_false_iff_not, ne_eq, true_implies, not_true_eq_false, not_false_eq_true, Bool.not_eq_true, Prod.mk.injEq, and_true, true_and, forall_const, preA_f, selB_0, selB_1, boolOf_eq_false, rep1, rep2, rep3, List.length_set, List.length_append, List.length_map, List.length_cons, List.length_nil, List.length_replicate, Nat.zero_add, Nat.add_zero] at hc)))
  all_goals (try ((fail_if_success (with_reducible refine w_at ?_)); (fail_if_success refine Exists.intro (0 : Nat) (Exists.intro (_ : Alt _) ?_)); (try dsimp only [Dat, SDat, dflt, Ty.size, keepS, bkUpd, Gv.bk, backS, wayA, maxI, minI, negI]); (try simp only [Int.toNat_natCast, Int.toNat_zero, Int.toNat_one, Classical.not_not, boolOf_true, decide_eq_true_eq, decide_eq_false_iff_not, ne_eq, true_implies, not_true_eq_false, not_false_eq_true, Bool.not_eq_true, Prod.mk.injEq, and_true, true_and, forall_const, preA_f, selB_0, selB_1, boolOf_eq_false, rep1, rep2, rep3, List.length_set, List.length_append, List.length_map, List.length_cons, List.length_nil, List.length_replicate, Nat.zero_add, Nat.add_zero]); first | done | exact trivial | rfl | omega | exact boolOf_eq _ | (simp only [allP, lo, hi, room, true_and, and_true, implies_true]; done) | ((try simp only [allP, lo, hi, room, true_and, and_true, implies_true]); (repeat' (first | (with_reducible refine And.intro ?_ ?_) | ((with_reducible refine preA_t ?_ ?_); rotate_left; (focus (repeat (first | exact trivial | ((conv => whnf); refine And.intro (by rfl) ?_))))) | intro hv)) <;> (try omega))))
  · have hx := hx (by omega)
    unfold mvAt at hx
    have hs := prodS_rg (vals := vals) (fun v hv => (hp4 v hv).1) (l := ml.take n) hp1 hp2
    have hv : 0 ≤ (List.getD vals (List.getD ml n ((0, 0, ()) : Pw)).1.toNat 0) ∧ (List.getD vals (List.getD ml n ((0, 0, ()) : Pw)).1.toNat 0) ≤ 1000000000 := hp4 _ (getD_mem (by omega))
    refine w_loop [(6, .d tInt), (8, .d tInt)] [] (fun y => ∃ j : Nat, y.1.2.1 = (j : Int) ∧ (j : Int) ≤ (List.getD ml n ((0, 0, ()) : Pw)).2.1 ∧ y.1.1 = powS (prodS vals mc (ml.take n)) (List.getD vals (List.getD ml n ((0, 0, ()) : Pw)).1.toNat 0) j) (fun y => (List.getD ml n ((0, 0, ()) : Pw)).2.1.toNat - y.1.2.1.toNat) ?_
    conv => whnf
    refine And.intro ?_ ?_
    · exact ⟨0, rfl, by omega, rfl⟩
    rintro ⟨⟨ou, _, ⟨⟩⟩, ⟨⟩⟩ ⟨j, rfl, hj, hou⟩
    have hou : @Eq Int ou (powS (prodS vals mc (ml.take n)) (List.getD vals (List.getD ml n ((0, 0, ()) : Pw)).1.toNat 0) j) := hou
    subst hou
    have hr := powS_rg hs.1 hs.2 hv.1 j
    have hm := mul_rg hr.1 hr.2 hv.1 hv.2
    repeat' (first | (with_reducible refine And.intro ?_ ?_) | ((try (with_reducible refine gv_more ?_)); first | ((with_reducible show K_ _); (try dsimp +instances only); (with_reducible refine hK_ _ ?_); clear hK_ K_) | (with_reducible (first | refine w_seq ?_ | refine thenK_n ?_ | refine w_block ?_ | refine blockK_n ?_)) | ((with_reducible refine w_region ?_); intro K_ hK_; (conv => whnf)) | ((with_reducible refine w_cond ?_); (conv => (arg 2; whnf)); (with_reducible (first | refine condK_p ?_ ?_ | refine condK_t ?_ | refine condK_f ?_ | refine condK_b ?_ ?_))) | (with_reducible (first | refine w_skip ?_ | refine w_exit ?_ | refine w_ret ?_ | refine thenK_r ?_ | refine thenK_e ?_ | refine blockK_r ?_ | refine blockK_x ?_ | refine blockK_y (by rfl) ?_ | refine loopK_r ?_ | refine loopK_e ?_ | refine w_label ?_)) | ((with_reducible (first | refine loopK_at ?_ | refine retK_r ?_ | refine retK_n ?_)); (conv => whnf)) | ((with_reducible refine w_head ?_); intro K_ hK_; (conv => whnf))) | ((with_reducible refine gv_more ?_); (conv => whnf)) | (intro hc; (try dsimp +instances only [Dat, SDat, dflt, Ty.size, keepS, bkUpd, Gv.bk, backS, wayA, maxI, minI, negI] at hc); (try simp only [Int.toNat_natCast, Int.toNat_zero, Int.toNat_one, Classical.not_not, boolOf_true, decide_eq_true_eq, decide_eq_false_iff_not, ne_eq, true_implies, not_true_eq_false, not_false_eq_true, Bool.not_eq_true, Prod.mk.injEq, and_true, true_and, forall_const, preA_f, selB_0, selB_1, boolOf_eq_false, rep1, rep2, rep3, List.length_set, List.length_append, List.length_map, List.length_cons, List.length_nil, List.length_replicate, Nat.zero_add, Nat.add_zero] at hc)))
    all_goals (try ((fail_if_success (with_reducible refine w_at ?_)); (fail_if_success refine Exists.intro (0 : Nat) (Exists.intro (_ : Alt _) ?_)); (try dsimp only [Dat, SDat, dflt, Ty.size, keepS, bkUpd, Gv.bk, backS, wayA, maxI, minI, negI]); (try simp only [Int.toNat_natCast, Int.toNat_zero, Int.toNat_one, Classical.not_not, boolOf_true, decide_eq_true_eq, decide_eq_false_iff_not, ne_eq, true_implies, not_true_eq_false, not_false_eq_true, Bool.not_eq_true, Prod.mk.injEq, and_true, true_and, forall_const, preA_f, selB_0, selB_1, boolOf_eq_false, rep1, rep2, rep3, List.length_set, List.length_append, List.length_map, List.length_cons, List.length_nil, List.length_replicate, Nat.zero_add, Nat.add_zero]); first | done | exact trivial | rfl | omega | exact boolOf_eq _ | (simp only [allP, lo, hi, room, true_and, and_true, implies_true]; done) | ((try simp only [allP, lo, hi, room, true_and, and_true, implies_true]); (repeat' (first | (with_reducible refine And.intro ?_ ?_) | ((with_reducible refine preA_t ?_ ?_); rotate_left; (focus (repeat (first | exact trivial | ((conv => whnf); refine And.intro (by rfl) ?_))))) | intro hv)) <;> (try omega))))
    · exact ⟨j + 1, by omega, by omega, rfl⟩
    · refine ⟨n + 1, by omega, by omega, ?_⟩
      rw [prodS_step (by omega)]
      congr 1
      omega
  · rw [List.take_of_length_le (by omega)]
set_option maxRecDepth 100000 in
theorem ok_ref15_value : SpecOK SP glob fi_ref15_value S_ref15_value := mk_ok (c := c_ref15_value) (tab_ok _) mix_ok wf_ref15_value (by decide) .nil (fun x hx => Nat.zero_lt_one) g_ref15_value
/-- What an evaluation wants. -/
def evOK (p : List Mo) (vals : List Int) : Prop := ValidP p ∧ vsOK vals ∧ ∀ m ∈ p, ∀ x ∈ m.2.1, x.1 < vals.length
noncomputable def evV (p : List Mo) (vals : List Int) : Int := if boolOf (evOK p vals) = true then (if 1000000000 < sumS vals p then 0 else sumS vals p) else 0
noncomputable def evE (p : List Mo) (vals : List Int) : Int := if boolOf (evOK p vals) = true then (if 1000000000 < sumS vals p then 2 else 0) else 1
theorem ev_no {p : List Mo} {vals : List Int} (h : ¬ evOK p vals) : evV p vals = 0 ∧ evE p vals = 1 := by
  unfold evV evE; rw [boolOf_false.2 h]; exact ⟨rfl, rfl⟩
theorem ev_yes {p : List Mo} {vals : List Int} (h : evOK p vals) : evV p vals = (if 1000000000 < sumS vals p then 0 else sumS vals p) ∧ evE p vals = (if 1000000000 < sumS vals p then 2 else 0) := by
  unfold evV evE; rw [boolOf_true.2 h]; exact ⟨rfl, rfl⟩
theorem sumS_rg {vals : List Int} (hv : ∀ v ∈ vals, 0 ≤ v) {p : List Mo} (hp : ∀ m ∈ p, 0 ≤ m.1 ∧ m.1 ≤ 1000000001) : 0 ≤ sumS vals p ∧ sumS vals p ≤ 1000000001 := by
  unfold sumS
  suffices ∀ (l : List Mo) (s : Int), (∀ m ∈ l, 0 ≤ m.1 ∧ m.1 ≤ 1000000001) → 0 ≤ s → s ≤ 1000000001 → 0 ≤ l.foldl (fun s m => min (s + prodS vals m.1 m.2.1) 1000000001) s ∧ l.foldl (fun s m => min (s + prodS vals m.1 m.2.1) 1000000001) s ≤ 1000000001 from this p 0 hp (by omega) (by omega)
  intro l
  induction l with
  | nil => intro s _ h0 h1; exact ⟨h0, h1⟩
  | cons m l ih =>
    intro s hl h0 h1
    have hm := hl m (by simp)
    have := prodS_rg hv (l := m.2.1) hm.1 hm.2
    exact ih (min (s + prodS vals m.1 m.2.1) 1000000001) (fun x hx => hl x (by simp [hx])) (by omega) (by omega)
theorem sumS_step {vals : List Int} {p : List Mo} {k : Nat} (h : k < p.length) : sumS vals (p.take (k + 1)) = min (sumS vals (p.take k) + prodS vals (p.getD k ((0, [], ()) : Mo)).1 (p.getD k ((0, [], ()) : Mo)).2.1) 1000000001 := by
  unfold sumS
  rw [List.take_succ_eq_append_getElem h, List.foldl_append, getD_ok _ h]; rfl
theorem valid_mem {p : List Mo} (h : ValidP p) {m : Mo} (hm : m ∈ p) : 1 ≤ m.1 ∧ m.1 ≤ 1000000000 ∧ okP m.2.1 := by
  obtain ⟨i, hi, rfl⟩ := List.getElem_of_mem hm
  have := h.2 i hi
  unfold okM at this
  rw [getD_ok ((0, [], ()) : Mo) hi] at this
  exact ⟨this.1, this.2.1, this.2.2.2⟩
theorem okP_mem {l : List Pw} (h : okP l) {x : Pw} (hx : x ∈ l) : 0 ≤ x.1 ∧ x.1 < 4000 ∧ 1 ≤ x.2.1 ∧ x.2.1 ≤ 100 := by
  obtain ⟨i, hi, rfl⟩ := List.getElem_of_mem hx
  have := h i hi
  unfold okAt at this
  rw [getD_ok ((0, 0, ()) : Pw) hi] at this
  exact ⟨this.1, this.2.1, this.2.2.1, this.2.2.2.1⟩
theorem ev_mv {p : List Mo} {vals : List Int} (h : evOK p vals) {m : Mo} (hm : m ∈ p) : 0 ≤ m.1 ∧ m.1 ≤ 1000000001 ∧ mvOK vals m.2.1 ∧ vsOK vals := by
  have hv := valid_mem h.1 hm
  refine ⟨by omega, by omega, fun x hx => ?_, h.2.1⟩
  have := okP_mem hv.2.2 hx
  exact ⟨this.1, h.2.2 m hm x hx, this.2.2⟩

@[reducible] noncomputable def S_ref15_Eval : Spec := { ins := (.cons (.d tPoly) (.cons (.d (.sl tInt)) .nil)), pre := fun _ => True, alts := [{ outs := (.cons (.d tInt) (.cons (.d tInt) .nil)), res := (fun x => (fun p vals => (evV p vals, evE p vals, ())) x.1 x.2.1) }] }
noncomputable def c_ref15_Eval : Cf := (cf_ref15_Eval (Fl [(fi_ref15_Valid, S_ref15_Valid), (fi_ref15_value, S_ref15_value)]))
set_option maxRecDepth 100000 in
set_option maxHeartbeats 4000000 in
theorem g_ref15_Eval : ∀ x, S_ref15_Eval.pre x → shOK S_ref15_Eval.ins x → fnGoal c_ref15_Eval fn_ref15_Eval S_ref15_Eval x := by
  rintro ⟨p, vals, ⟨⟩⟩ hpre hok
  clear hpre
  have hln := shLn_of _ hok; replace hok := Hd.mk hok; try simp only [shLn, datLn, inRng, lo, hi, maxLen, true_and, and_true] at hln
  first | refine fn_goal (w_head ?_) | refine w_fn (w_head ?_)
  intro K_ hK_; (conv => whnf); (try dsimp +instances only); refine hK_ _ ?_; clear hK_ K_; (conv => (arg 2; whnf))
  repeat' (first | (with_reducible refine And.intro ?_ ?_) | ((try (with_reducible refine gv_more ?_)); first | ((with_reducible show K_ _); (try dsimp +instances only); (with_reducible refine hK_ _ ?_); clear hK_ K_) | (with_reducible (first | refine w_seq ?_ | refine thenK_n ?_ | refine w_block ?_ | refine blockK_n ?_)) | ((with_reducible refine w_region ?_); intro K_ hK_; (conv => whnf)) | ((with_reducible refine w_cond ?_); (conv => (arg 2; whnf)); (with_reducible (first | refine condK_p ?_ ?_ | refine condK_t ?_ | refine condK_f ?_ | refine condK_b ?_ ?_))) | (with_reducible (first | refine w_skip ?_ | refine w_exit ?_ | refine w_ret ?_ | refine thenK_r ?_ | refine thenK_e ?_ | refine blockK_r ?_ | refine blockK_x ?_ | refine blockK_y (by rfl) ?_ | refine loopK_r ?_ | refine loopK_e ?_ | refine w_label ?_)) | ((with_reducible (first | refine loopK_at ?_ | refine retK_r ?_ | refine retK_n ?_)); (conv => whnf)) | ((with_reducible refine w_head ?_); intro K_ hK_; (conv => whnf))) | ((with_reducible refine gv_more ?_); (conv => whnf)) | (intro hc; (try dsimp +instances only [Dat, SDat, dflt, Ty.size, keepS, bkUpd, Gv.bk, backS, wayA, maxI, minI, negI] at hc); (try simp only [Int.toNat_natCast, Int.toNat_zero, Int.toNat_one, Classical.not_not, boolOf_true, decide_eq_true_eq, decide_eq_false_iff_not, ne_eq, true_implies, not_true_eq_false, not_false_eq_true, Bool.not_eq_true, Prod.mk.injEq, and_true, true_and, forall_const, preA_f, selB_0, selB_1, boolOf_eq_false, rep1, rep2, rep3, List.length_set, List.length_append, List.length_map, List.length_cons, List.length_nil, List.length_replicate, Nat.zero_add, Nat.add_zero] at hc)))
  all_goals (try ((fail_if_success (with_reducible refine w_at ?_)); (fail_if_success refine Exists.intro (0 : Nat) (Exists.intro (_ : Alt _) ?_)); (try dsimp only [Dat, SDat, dflt, Ty.size, keepS, bkUpd, Gv.bk, backS, wayA, maxI, minI, negI]); (try simp only [Int.toNat_natCast, Int.toNat_zero, Int.toNat_one, Classical.not_not, boolOf_true, decide_eq_true_eq, decide_eq_false_iff_not, ne_eq, true_implies, not_true_eq_false, not_false_eq_true, Bool.not_eq_true, Prod.mk.injEq, and_true, true_and, forall_const, preA_f, selB_0, selB_1, boolOf_eq_false, rep1, rep2, rep3, List.length_set, List.length_append, List.length_map, List.length_cons, List.length_nil, List.length_replicate, Nat.zero_add, Nat.add_zero]); first | done | exact trivial | rfl | omega | exact boolOf_eq _ | (simp only [allP, lo, hi, room, true_and, and_true, implies_true]; done) | ((try simp only [allP, lo, hi, room, true_and, and_true, implies_true]); (repeat' (first | (with_reducible refine And.intro ?_ ?_) | ((with_reducible refine preA_t ?_ ?_); rotate_left; (focus (repeat (first | exact trivial | ((conv => whnf); refine And.intro (by rfl) ?_))))) | intro hv)) <;> (try omega))))
  · exact (ev_no fun h => hc h.1).1.symm
  · exact (ev_no fun h => hc h.1).2.symm
  have hval : ValidP p := hc
  clear hc
  refine w_loop [(6, .d tInt)] [] (fun y => ∃ k : Nat, y.1.1 = (k : Int) ∧ k ≤ vals.length ∧ ∀ v ∈ vals.take k, 0 ≤ v ∧ v ≤ 1000000000) (fun y => vals.length - y.1.1.toNat) ?_
  conv => whnf
  refine And.intro ?_ ?_
  · exact ⟨0, by simp⟩
  rintro ⟨⟨_, ⟨⟩⟩, ⟨⟩⟩ ⟨k, rfl, hk, hj⟩
  have hno : k < vals.length → (List.getD vals k 0 < 0 ∨ 1000000000 < List.getD vals k 0) → ¬ evOK p vals := fun h1 h2 h => by
    have := h.2.1 _ (getD_mem (d := (0 : Int)) h1)
    exact h2.elim (fun a => absurd this.1 (Int.not_le.2 a)) (fun a => absurd this.2 (Int.not_le.2 a))
  repeat' (first | (with_reducible refine And.intro ?_ ?_) | ((try (with_reducible refine gv_more ?_)); first | ((with_reducible show K_ _); (try dsimp +instances only); (with_reducible refine hK_ _ ?_); clear hK_ K_) | (with_reducible (first | refine w_seq ?_ | refine thenK_n ?_ | refine w_block ?_ | refine blockK_n ?_)) | ((with_reducible refine w_region ?_); intro K_ hK_; (conv => whnf)) | ((with_reducible refine w_cond ?_); (conv => (arg 2; whnf)); (with_reducible (first | refine condK_p ?_ ?_ | refine condK_t ?_ | refine condK_f ?_ | refine condK_b ?_ ?_))) | (with_reducible (first | refine w_skip ?_ | refine w_exit ?_ | refine w_ret ?_ | refine thenK_r ?_ | refine thenK_e ?_ | refine blockK_r ?_ | refine blockK_x ?_ | refine blockK_y (by rfl) ?_ | refine loopK_r ?_ | refine loopK_e ?_ | refine w_label ?_)) | ((with_reducible (first | refine loopK_at ?_ | refine retK_r ?_ | refine retK_n ?_)); (conv => whnf)) | ((with_reducible refine w_head ?_); intro K_ hK_; (conv => whnf))) | ((with_reducible refine gv_more ?_); (conv => whnf)) | (intro hc; (try dsimp +instances only [Dat, SDat, dflt, Ty.size, keepS, bkUpd, Gv.bk, backS, wayA, maxI, minI, negI] at hc); (try simp only [Int.toNat_natCast, Int.toNat_zero, Int.toNat_one, Classical.not_not, boolOf_true, decide_eq_true_eq, decide_eq_false_iff_not, ne_eq, true_implies, not_true_eq_false, not_false_eq_true, Bool.not_eq_true, Prod.mk.injEq, and_true, true_and, forall_const, preA_f, selB_0, selB_1, boolOf_eq_false, rep1, rep2, rep3, List.length_set, List.length_append, List.length_map, List.length_cons, List.length_nil, List.length_replicate, Nat.zero_add, Nat.add_zero] at hc)))
  all_goals (try ((fail_if_success (with_reducible refine w_at ?_)); (fail_if_success refine Exists.intro (0 : Nat) (Exists.intro (_ : Alt _) ?_)); (try dsimp only [Dat, SDat, dflt, Ty.size, keepS, bkUpd, Gv.bk, backS, wayA, maxI, minI, negI]); (try simp only [Int.toNat_natCast, Int.toNat_zero, Int.toNat_one, Classical.not_not, boolOf_true, decide_eq_true_eq, decide_eq_false_iff_not, ne_eq, true_implies, not_true_eq_false, not_false_eq_true, Bool.not_eq_true, Prod.mk.injEq, and_true, true_and, forall_const, preA_f, selB_0, selB_1, boolOf_eq_false, rep1, rep2, rep3, List.length_set, List.length_append, List.length_map, List.length_cons, List.length_nil, List.length_replicate, Nat.zero_add, Nat.add_zero]); first | done | exact trivial | rfl | omega | exact boolOf_eq _ | (simp only [allP, lo, hi, room, true_and, and_true, implies_true]; done) | ((try simp only [allP, lo, hi, room, true_and, and_true, implies_true]); (repeat' (first | (with_reducible refine And.intro ?_ ?_) | ((with_reducible refine preA_t ?_ ?_); rotate_left; (focus (repeat (first | exact trivial | ((conv => whnf); refine And.intro (by rfl) ?_))))) | intro hv)) <;> (try omega))))
  · exact (ev_no (hno (by omega) hc)).1.symm
  · exact (ev_no (hno (by omega) hc)).2.symm
  · exact ⟨k + 1, by omega, by omega, all_step (d := (0 : Int)) hj (by omega) (by omega)⟩
  have hvs : vsOK vals := all_end hj (by omega)
  clear hno hj
  refine w_loop [(7, .d tInt)] [] (fun y => ∃ k : Nat, y.1.1 = (k : Int) ∧ k ≤ p.length ∧ ∀ m ∈ p.take k, ∀ x ∈ m.2.1, x.1 < vals.length) (fun y => p.length - y.1.1.toNat) ?_
  conv => whnf
  refine And.intro ?_ ?_
  · exact ⟨0, by simp⟩
  rintro ⟨⟨_, ⟨⟩⟩, ⟨⟩⟩ ⟨n, rfl, hn, hj⟩
  repeat' (first | (with_reducible refine And.intro ?_ ?_) | ((try (with_reducible refine gv_more ?_)); first | ((with_reducible show K_ _); (try dsimp +instances only); (with_reducible refine hK_ _ ?_); clear hK_ K_) | (with_reducible (first | refine w_seq ?_ | refine thenK_n ?_ | refine w_block ?_ | refine blockK_n ?_)) | ((with_reducible refine w_region ?_); intro K_ hK_; (conv => whnf)) | ((with_reducible refine w_cond ?_); (conv => (arg 2; whnf)); (with_reducible (first | refine condK_p ?_ ?_ | refine condK_t ?_ | refine condK_f ?_ | refine condK_b ?_ ?_))) | (with_reducible (first | refine w_skip ?_ | refine w_exit ?_ | refine w_ret ?_ | refine thenK_r ?_ | refine thenK_e ?_ | refine blockK_r ?_ | refine blockK_x ?_ | refine blockK_y (by rfl) ?_ | refine loopK_r ?_ | refine loopK_e ?_ | refine w_label ?_)) | ((with_reducible (first | refine loopK_at ?_ | refine retK_r ?_ | refine retK_n ?_)); (conv => whnf)) | ((with_reducible refine w_head ?_); intro K_ hK_; (conv => whnf))) | ((with_reducible refine gv_more ?_); (conv => whnf)) | (intro hc; (try dsimp +instances only [Dat, SDat, dflt, Ty.size, keepS, bkUpd, Gv.bk, backS, wayA, maxI, minI, negI] at hc); (try simp only [Int.toNat_natCast, Int.toNat_zero, Int.toNat_one, Classical.not_not, boolOf_true, decide_eq_true_eq, decide_eq_false_iff_not, ne_eq, true_implies, not_true_eq_false, not_false_eq_true, Bool.not_eq_true, Prod.mk.injEq, and_true, true_and, forall_const, preA_f, selB_0, selB_1, boolOf_eq_false, rep1, rep2, rep3, List.length_set, List.length_append, List.length_map, List.length_cons, List.length_nil, List.length_replicate, Nat.zero_add, Nat.add_zero] at hc)))
  all_goals (try ((fail_if_success (with_reducible refine w_at ?_)); (fail_if_success refine Exists.intro (0 : Nat) (Exists.intro (_ : Alt _) ?_)); (try dsimp only [Dat, SDat, dflt, Ty.size, keepS, bkUpd, Gv.bk, backS, wayA, maxI, minI, negI]); (try simp only [Int.toNat_natCast, Int.toNat_zero, Int.toNat_one, Classical.not_not, boolOf_true, decide_eq_true_eq, decide_eq_false_iff_not, ne_eq, true_implies, not_true_eq_false, not_false_eq_true, Bool.not_eq_true, Prod.mk.injEq, and_true, true_and, forall_const, preA_f, selB_0, selB_1, boolOf_eq_false, rep1, rep2, rep3, List.length_set, List.length_append, List.length_map, List.length_cons, List.length_nil, List.length_replicate, Nat.zero_add, Nat.add_zero]); first | done | exact trivial | rfl | omega | exact boolOf_eq _ | (simp only [allP, lo, hi, room, true_and, and_true, implies_true]; done) | ((try simp only [allP, lo, hi, room, true_and, and_true, implies_true]); (repeat' (first | (with_reducible refine And.intro ?_ ?_) | ((with_reducible refine preA_t ?_ ?_); rotate_left; (focus (repeat (first | exact trivial | ((conv => whnf); refine And.intro (by rfl) ?_))))) | intro hv)) <;> (try omega))))
  · have hgl : (List.getD p n ((0, [], ()) : Mo)).2.1.length ≤ 2 ^ 63 - 1 := (hok.out.1.2 _ (getD_mem (l := p) (d := ((0, [], ()) : Mo)) (k := n) (by omega))).2.1.1
    refine w_loop [(8, .d tInt)] [] (fun y => ∃ j : Nat, y.1.1 = (j : Int) ∧ j ≤ (List.getD p n ((0, [], ()) : Mo)).2.1.length ∧ ∀ x ∈ (List.getD p n ((0, [], ()) : Mo)).2.1.take j, x.1 < vals.length) (fun y => (List.getD p n ((0, [], ()) : Mo)).2.1.length - y.1.1.toNat) ?_
    conv => whnf
    refine And.intro ?_ ?_
    · exact ⟨0, by simp⟩
    rintro ⟨⟨_, ⟨⟩⟩, ⟨⟩⟩ ⟨j, rfl, hj2, hx⟩
    repeat' (first | (with_reducible refine And.intro ?_ ?_) | ((try (with_reducible refine gv_more ?_)); first | ((with_reducible show K_ _); (try dsimp +instances only); (with_reducible refine hK_ _ ?_); clear hK_ K_) | (with_reducible (first | refine w_seq ?_ | refine thenK_n ?_ | refine w_block ?_ | refine blockK_n ?_)) | ((with_reducible refine w_region ?_); intro K_ hK_; (conv => whnf)) | ((with_reducible refine w_cond ?_); (conv => (arg 2; whnf)); (with_reducible (first | refine condK_p ?_ ?_ | refine condK_t ?_ | refine condK_f ?_ | refine condK_b ?_ ?_))) | (with_reducible (first | refine w_skip ?_ | refine w_exit ?_ | refine w_ret ?_ | refine thenK_r ?_ | refine thenK_e ?_ | refine blockK_r ?_ | refine blockK_x ?_ | refine blockK_y (by rfl) ?_ | refine loopK_r ?_ | refine loopK_e ?_ | refine w_label ?_)) | ((with_reducible (first | refine loopK_at ?_ | refine retK_r ?_ | refine retK_n ?_)); (conv => whnf)) | ((with_reducible refine w_head ?_); intro K_ hK_; (conv => whnf))) | ((with_reducible refine gv_more ?_); (conv => whnf)) | (intro hc; (try dsimp +instances only [Dat, SDat, dflt, Ty.size, keepS, bkUpd, Gv.bk, backS, wayA, maxI, minI, negI] at hc); (try simp only [Int.toNat_natCast, Int.toNat_zero, Int.toNat_one, Classical.not_not, boolOf_true, decide_eq_true_eq, decide_eq_false_iff_not, ne_eq, true_implies, not_true_eq_false, not_false_eq_true, Bool.not_eq_true, Prod.mk.injEq, and_true, true_and, forall_const, preA_f, selB_0, selB_1, boolOf_eq_false, rep1, rep2, rep3, List.length_set, List.length_append, List.length_map, List.length_cons, List.length_nil, List.length_replicate, Nat.zero_add, Nat.add_zero] at hc)))
    all_goals (try ((fail_if_success (with_reducible refine w_at ?_)); (fail_if_success refine Exists.intro (0 : Nat) (Exists.intro (_ : Alt _) ?_)); (try dsimp only [Dat, SDat, dflt, Ty.size, keepS, bkUpd, Gv.bk, backS, wayA, maxI, minI, negI]); (try simp only [Int.toNat_natCast, Int.toNat_zero, Int.toNat_one, Classical.not_not, boolOf_true, decide_eq_true_eq, decide_eq_false_iff_not, ne_eq, true_implies, not_true_eq_false, not_false_eq_true, Bool.not_eq_true, Prod.mk.injEq, and_true, true_and, forall_const, preA_f, selB_0, selB_1, boolOf_eq_false, rep1, rep2, rep3, List.length_set, List.length_append, List.length_map, List.length_cons, List.length_nil, List.length_replicate, Nat.zero_add, Nat.add_zero]); first | done | exact trivial | rfl | omega | exact boolOf_eq _ | (simp only [allP, lo, hi, room, true_and, and_true, implies_true]; done) | ((try simp only [allP, lo, hi, room, true_and, and_true, implies_true]); (repeat' (first | (with_reducible refine And.intro ?_ ?_) | ((with_reducible refine preA_t ?_ ?_); rotate_left; (focus (repeat (first | exact trivial | ((conv => whnf); refine And.intro (by rfl) ?_))))) | intro hv)) <;> (try omega))))
    · exact (ev_no fun h => absurd (h.2.2 _ (getD_mem (l := p) (d := ((0, [], ()) : Mo)) (k := n) (by omega)) _ (getD_mem (l := (List.getD p n ((0, [], ()) : Mo)).2.1) (d := ((0, 0, ()) : Pw)) (k := j) (by omega))) (Int.not_lt.2 hc)).1.symm
    · exact (ev_no fun h => absurd (h.2.2 _ (getD_mem (l := p) (d := ((0, [], ()) : Mo)) (k := n) (by omega)) _ (getD_mem (l := (List.getD p n ((0, [], ()) : Mo)).2.1) (d := ((0, 0, ()) : Pw)) (k := j) (by omega))) (Int.not_lt.2 hc)).2.symm
    · exact ⟨j + 1, by omega, by omega, all_step (d := ((0, 0, ()) : Pw)) hx (by omega) (Int.not_le.1 hc)⟩
    · exact ⟨n + 1, by omega, by omega, all_step (d := ((0, [], ()) : Mo)) hj (by omega) (all_end hx (by omega))⟩
  have hev : evOK p vals := ⟨hval, hvs, all_end hj (by omega)⟩
  have hmv := fun m hm => ev_mv hev (m := m) hm
  refine w_loop [(9, .d tInt), (10, .d tInt)] [] (fun y => ∃ k : Nat, y.1.2.1 = (k : Int) ∧ k ≤ p.length ∧ y.1.1 = sumS vals (p.take k)) (fun y => p.length - y.1.2.1.toNat) ?_
  conv => whnf
  refine And.intro ?_ ?_
  · exact ⟨0, by simp [sumS]⟩
  rintro ⟨⟨su, _, ⟨⟩⟩, ⟨⟩⟩ ⟨n, rfl, hn, hsu⟩
  have hsu : @Eq Int su (sumS vals (p.take n)) := hsu
  subst hsu
  have hsr := sumS_rg (fun v hv => (hvs v hv).1) (p := p.take n) fun m hm => ⟨(hmv m (List.mem_of_mem_take hm)).1, (hmv m (List.mem_of_mem_take hm)).2.1⟩
  have hpr : n < p.length → (0 ≤ (p.getD n ((0, [], ()) : Mo)).1 ∧ (p.getD n ((0, [], ()) : Mo)).1 ≤ 1000000001 ∧ mvOK vals (p.getD n ((0, [], ()) : Mo)).2.1 ∧ vsOK vals) ∧ 0 ≤ prodS vals (p.getD n ((0, [], ()) : Mo)).1 (p.getD n ((0, [], ()) : Mo)).2.1 ∧ prodS vals (p.getD n ((0, [], ()) : Mo)).1 (p.getD n ((0, [], ()) : Mo)).2.1 ≤ 1000000001 := fun h => by
    have h1 := hmv _ (getD_mem (d := ((0, [], ()) : Mo)) h)
    exact ⟨h1, prodS_rg (fun v hv => (hvs v hv).1) h1.1 h1.2.1⟩
  repeat' (first | (with_reducible refine And.intro ?_ ?_) | ((try (with_reducible refine gv_more ?_)); first | ((with_reducible show K_ _); (try dsimp +instances only); (with_reducible refine hK_ _ ?_); clear hK_ K_) | (with_reducible (first | refine w_seq ?_ | refine thenK_n ?_ | refine w_block ?_ | refine blockK_n ?_)) | ((with_reducible refine w_region ?_); intro K_ hK_; (conv => whnf)) | ((with_reducible refine w_cond ?_); (conv => (arg 2; whnf)); (with_reducible (first | refine condK_p ?_ ?_ | refine condK_t ?_ | refine condK_f ?_ | refine condK_b ?_ ?_))) | (with_reducible (first | refine w_skip ?_ | refine w_exit ?_ | refine w_ret ?_ | refine thenK_r ?_ | refine thenK_e ?_ | refine blockK_r ?_ | refine blockK_x ?_ | refine blockK_y (by rfl) ?_ | refine loopK_r ?_ | refine loopK_e ?_ | refine w_label ?_)) | ((with_reducible (first | refine loopK_at ?_ | refine retK_r ?_ | refine retK_n ?_)); (conv => whnf)) | ((with_reducible refine w_head ?_); intro K_ hK_; (conv => whnf))) | ((with_reducible refine gv_more ?_); (conv => whnf)) | (intro hc; (try dsimp +instances only [Dat, SDat, dflt, Ty.size, keepS, bkUpd, Gv.bk, backS, wayA, maxI, minI, negI] at hc); (try simp only [Int.toNat_natCast, Int.toNat_zero, Int.toNat_one, Classical.not_not, boolOf_true, decide_eq_true_eq, decide_eq_false_iff_not, ne_eq, true_implies, not_true_eq_false, not_false_eq_true, Bool.not_eq_true, Prod.mk.injEq, and_true, true_and, forall_const, preA_f, selB_0, selB_1, boolOf_eq_false, rep1, rep2, rep3, List.length_set, List.length_append, List.length_map, List.length_cons, List.length_nil, List.length_replicate, Nat.zero_add, Nat.add_zero] at hc)))
  all_goals (try ((fail_if_success (with_reducible refine w_at ?_)); (fail_if_success refine Exists.intro (0 : Nat) (Exists.intro (_ : Alt _) ?_)); (try dsimp only [Dat, SDat, dflt, Ty.size, keepS, bkUpd, Gv.bk, backS, wayA, maxI, minI, negI]); (try simp only [Int.toNat_natCast, Int.toNat_zero, Int.toNat_one, Classical.not_not, boolOf_true, decide_eq_true_eq, decide_eq_false_iff_not, ne_eq, true_implies, not_true_eq_false, not_false_eq_true, Bool.not_eq_true, Prod.mk.injEq, and_true, true_and, forall_const, preA_f, selB_0, selB_1, boolOf_eq_false, rep1, rep2, rep3, List.length_set, List.length_append, List.length_map, List.length_cons, List.length_nil, List.length_replicate, Nat.zero_add, Nat.add_zero]); first | done | exact trivial | rfl | omega | exact boolOf_eq _ | (simp only [allP, lo, hi, room, true_and, and_true, implies_true]; done) | ((try simp only [allP, lo, hi, room, true_and, and_true, implies_true]); (repeat' (first | (with_reducible refine And.intro ?_ ?_) | ((with_reducible refine preA_t ?_ ?_); rotate_left; (focus (repeat (first | exact trivial | ((conv => whnf); refine And.intro (by rfl) ?_))))) | intro hv)) <;> (try omega))))
  all_goals (first
    | exact (hpr (by omega)).1.1 | exact (hpr (by omega)).1.2.1 | exact (hpr (by omega)).1.2.2.1 _ (by assumption) | exact (hvs _ (by assumption)).1 | exact (hvs _ (by assumption)).2
    | (have h1 := (hpr (by omega)).2; omega)
    | exact ⟨n + 1, by omega, by omega, (sumS_step (by omega)).symm⟩
    | (have hT : p.take n = p := List.take_of_length_le (by omega)
       rw [hT] at hc
       first | rw [(ev_yes hev).1, if_pos hc] | rw [(ev_yes hev).2, if_pos hc] | rw [(ev_yes hev).2, if_neg hc] | rw [hT, (ev_yes hev).1, if_neg hc]))
set_option maxRecDepth 100000 in
theorem ok_ref15_Eval : SpecOK SP glob fi_ref15_Eval S_ref15_Eval := mk_ok (c := c_ref15_Eval) (tab_ok _) mix_ok wf_ref15_Eval (by decide) (.cons ok_ref15_Valid (.cons ok_ref15_value .nil)) (fun x hx => Nat.zero_lt_one) g_ref15_Eval
end Go.Gv
