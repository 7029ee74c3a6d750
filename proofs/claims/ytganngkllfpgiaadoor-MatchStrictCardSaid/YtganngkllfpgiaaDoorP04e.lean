/- The plain law of Jaro: symmetric; one for equal texts alone; from 0 to 1. -/
import Derived.Test.YtganngkllfpgiaaDoorP04d
set_option linter.all false
namespace Go.Gv
open Go

theorem mar_mem_le {a b : Bs} {w : Nat} {p : Nat × Nat} : ∀ {i n : Nat}, i ≤ n → p ∈ marJ a b w i → p ∈ marJ a b w n
  | i, 0, h, hp => by
    have : i = 0 := by omega
    subst this; exact hp
  | i, n + 1, h, hp => by
    rcases Nat.lt_or_ge i (n + 1) with h1 | h1
    · have := mar_mem_le (n := n) (by omega) hp
      unfold marJ stJ
      split
      · exact List.mem_append_left _ this
      · exact this
    · have : i = n + 1 := by omega
      subst this; exact hp
/-- What is matched is stable: nobody would have a smaller partner. -/
theorem mar_stable {a b : Bs} {w n i j : Nat} (hi : i < n) (h : elJ a b w i j) : (∃ j', j' ≤ j ∧ (i, j') ∈ marJ a b w n) ∨ ∃ i', i' < i ∧ (i', j) ∈ marJ a b w n := by
  by_cases ht : j ∈ tkJ (marJ a b w i)
  · right
    unfold tkJ at ht
    obtain ⟨p, hp, e⟩ := List.mem_map.1 ht
    refine ⟨p.1, ((mar_inv a b w i).2.2.2 p hp).1, ?_⟩
    have : (p.1, j) = p := by rw [← e]
    rw [this]
    exact mar_mem_le (by omega) hp
  · left
    rcases fin_spec (a := a) (b := b) (w := w) (i := i) (T := tkJ (marJ a b w i)) with ⟨k, e, e1, e2, e3⟩ | ⟨e, e1⟩
    · refine ⟨k, ?_, mar_mem_le (i := i + 1) (by omega) ?_⟩
      · rcases Nat.lt_or_ge j k with h1 | h1
        · exact (e3 j h1 ⟨h, ht⟩).elim
        · exact h1
      · rw [mar_some ⟨e1, e2⟩ e3]; simp
    · exact (e1 j ⟨h, ht⟩).elim
theorem mar_fst (a b : Bs) (w : Nat) : ∀ n, ((marJ a b w n).map Prod.fst).Pairwise (· < ·)
  | 0 => List.Pairwise.nil
  | n + 1 => by
    have ih := mar_fst a b w n
    have hl := (mar_inv a b w n).2.2.2
    unfold marJ stJ
    split
    · rw [List.map_append, List.pairwise_append]
      refine ⟨ih, List.pairwise_singleton _ _, fun x hx y hy => ?_⟩
      obtain ⟨p, hp, rfl⟩ := List.mem_map.1 hx
      simp only [List.map_cons, List.map_nil, List.mem_singleton] at hy
      subst hy
      exact (hl p hp).1
    · exact ih
theorem fst_fun {M : List (Nat × Nat)} (h : (M.map Prod.fst).Nodup) {i j j' : Nat} (h1 : (i, j) ∈ M) (h2 : (i, j') ∈ M) : j = j' := by
  induction M with
  | nil => cases h1
  | cons p M ih =>
    obtain ⟨n1, n2⟩ := List.nodup_cons.1 h
    rcases List.mem_cons.1 h1 with e1 | e1 <;> rcases List.mem_cons.1 h2 with e2 | e2
    · rw [← e1] at e2; cases e2; rfl
    · subst e1; exact (n1 (List.mem_map.2 ⟨_, e2, rfl⟩)).elim
    · subst e2; exact (n1 (List.mem_map.2 ⟨_, e1, rfl⟩)).elim
    · exact ih n2 e1 e2
theorem snd_fun {M : List (Nat × Nat)} (h : (M.map Prod.snd).Nodup) {i i' j : Nat} (h1 : (i, j) ∈ M) (h2 : (i', j) ∈ M) : i = i' := by
  induction M with
  | nil => cases h1
  | cons p M ih =>
    obtain ⟨n1, n2⟩ := List.nodup_cons.1 h
    rcases List.mem_cons.1 h1 with e1 | e1 <;> rcases List.mem_cons.1 h2 with e2 | e2
    · rw [← e1] at e2; cases e2; rfl
    · subst e1; exact (n1 (List.mem_map.2 ⟨_, e2, rfl⟩)).elim
    · subst e2; exact (n1 (List.mem_map.2 ⟨_, e1, rfl⟩)).elim
    · exact ih n2 e1 e2
theorem nat_nodup {l : List Nat} (h : l.Pairwise (· < ·)) : l.Nodup := h.imp fun h => Nat.ne_of_lt h
theorem el_symm {a b : Bs} {w i j : Nat} (hi : i < a.length) (h : elJ a b w i j) : elJ b a w j i := ⟨hi, h.2.2.1, h.2.1, h.2.2.2.symm⟩
theorem w_symm (a b : Bs) : wJ a b = wJ b a := by unfold wJ; rw [Nat.max_comm]
theorem m_fst (a b : Bs) : ((mJ a b).map Prod.fst).Nodup := nat_nodup (mar_fst a b _ _)
theorem m_el {a b : Bs} {i j : Nat} (h : (i, j) ∈ mJ a b) : i < a.length ∧ elJ a b (wJ a b) i j := (mar_inv a b (wJ a b) a.length).2.2.2 (i, j) h
theorem m_mirror (a b : Bs) : ∀ (n i j : Nat), i + j ≤ n → ((i, j) ∈ mJ a b ↔ (j, i) ∈ mJ b a) := fun n => by
  induction n with
  | zero =>
    intro i j hn
    have e1 : i = 0 := by omega
    have e2 : j = 0 := by omega
    subst e1; subst e2
    constructor
    · intro h
      obtain ⟨h1, h2⟩ := m_el h
      have h3 := el_symm h1 h2
      rw [w_symm] at h3
      rcases mar_stable h2.1 h3 with ⟨k, hk, hm⟩ | ⟨k, hk, _⟩
      · have : k = 0 := by omega
        subst this; exact hm
      · omega
    · intro h
      obtain ⟨h1, h2⟩ := m_el h
      have h3 := el_symm h1 h2
      rw [w_symm] at h3
      rcases mar_stable h2.1 h3 with ⟨k, hk, hm⟩ | ⟨k, hk, _⟩
      · have : k = 0 := by omega
        subst this; exact hm
      · omega
  | succ n ih =>
    intro i j hn
    constructor
    · intro h
      obtain ⟨h1, h2⟩ := m_el h
      have h3 := el_symm h1 h2
      rw [w_symm] at h3
      rcases mar_stable h2.1 h3 with ⟨k, hk, hm⟩ | ⟨k, hk, hm⟩
      · rcases Nat.lt_or_ge k i with h4 | h4
        · have h5 := (ih k j (by omega)).2 hm
          have := snd_fun (mar_inv a b (wJ a b) a.length).2.1 h h5
          omega
        · have : k = i := by omega
          subst this; exact hm
      · have h5 := (ih i k (by omega)).2 hm
        have := fst_fun (m_fst a b) h h5
        omega
    · intro h
      obtain ⟨h1, h2⟩ := m_el h
      have h3 := el_symm h1 h2
      rw [w_symm] at h3
      rcases mar_stable h2.1 h3 with ⟨k, hk, hm⟩ | ⟨k, hk, hm⟩
      · rcases Nat.lt_or_ge k j with h4 | h4
        · have h5 := (ih i k (by omega)).1 hm
          have := snd_fun (mar_inv b a (wJ b a) b.length).2.1 h h5
          omega
        · have : k = j := by omega
          subst this; exact hm
      · have h5 := (ih k j (by omega)).1 hm
        have := fst_fun (m_fst b a) h h5
        omega
theorem m_swap (a b : Bs) (i j : Nat) : (i, j) ∈ mJ a b ↔ (j, i) ∈ mJ b a := m_mirror a b (i + j) i j (Nat.le_refl _)

/-- The matched places, in order. -/
def plJ (T : List Nat) (n : Nat) : List Nat := (List.range n).filter fun j => decide (j ∈ T)
theorem pl_congr {T S : List Nat} {n : Nat} (h : ∀ z, z ∈ T ↔ z ∈ S) : plJ T n = plJ S n := by
  unfold plJ
  exact List.filter_congr fun z _ => by simp [h z]
theorem pl_self {T : List Nat} {n : Nat} (h : T.Pairwise (· < ·)) (hn : ∀ z ∈ T, z < n) : plJ T n = T := by
  have h1 : (plJ T n).Pairwise (· < ·) := List.pairwise_lt_range.filter _
  refine List.Perm.eq_of_pairwise (le := (· < ·)) (fun a b _ _ h1 h2 => by omega) h1 h ?_
  rw [List.perm_ext_iff_of_nodup (nat_nodup h1) (nat_nodup h)]
  intro z
  unfold plJ
  rw [List.mem_filter, List.mem_range]
  constructor
  · rintro ⟨_, h⟩; simpa using h
  · intro hz; exact ⟨hn z hz, by simpa using hz⟩
theorem tk_swap (a b : Bs) (z : Nat) : z ∈ tkJ (mJ a b) ↔ z ∈ (mJ b a).map Prod.fst := by
  unfold tkJ
  rw [List.mem_map, List.mem_map]
  constructor
  · rintro ⟨⟨i, j⟩, h, rfl⟩
    exact ⟨(j, i), (m_swap a b i j).1 h, rfl⟩
  · rintro ⟨⟨j, i⟩, h, rfl⟩
    exact ⟨(i, j), (m_swap a b i j).2 h, rfl⟩
theorem pl_tk (a b : Bs) : plJ (tkJ (mJ a b)) b.length = (mJ b a).map Prod.fst := by
  rw [pl_congr (tk_swap a b)]
  exact pl_self (mar_fst b a _ _) fun z hz => by
    obtain ⟨p, hp, rfl⟩ := List.mem_map.1 hz
    exact (m_el (i := p.1) (j := p.2) hp).1
theorem m_len (a b : Bs) : (mJ a b).length = (mJ b a).length := by
  have h : (tkJ (mJ a b)).length = ((mJ b a).map Prod.fst).length := by
    refine Nat.le_antisymm ?_ ?_
    · exact List.Nodup.length_le_of_subset (mar_inv a b (wJ a b) a.length).2.1 fun z hz => (tk_swap a b z).1 hz
    · exact List.Nodup.length_le_of_subset (m_fst b a) fun z hz => (tk_swap a b z).2 hz
  unfold tkJ at h
  rw [List.length_map, List.length_map] at h
  exact h
/-- Places where two texts differ. -/
def misJ : Bs → Bs → Nat
  | x :: l, y :: m => misJ l m + (if x = y then 0 else 1)
  | _, _ => 0
theorem mis_snoc : ∀ (l X : Bs) (y : UInt8), X.length < l.length → misJ l (X ++ [y]) = misJ l X + (if l.getD X.length 0 = y then 0 else 1)
  | [], _, _, h => by simp at h
  | x :: l, [], y, _ => by
    cases l <;> simp [misJ]
  | x :: l, z :: X, y, h => by
    rw [List.cons_append, misJ, misJ, mis_snoc l X y (by simpa using h)]
    simp only [List.length_cons, List.getD_cons_succ]
    omega
theorem mis_symm : ∀ (l m : Bs), misJ l m = misJ m l
  | [], [] => rfl
  | [], _ :: _ => rfl
  | _ :: _, [] => rfl
  | x :: l, y :: m => by
    rw [misJ, misJ, mis_symm l m]
    by_cases h : x = y
    · rw [if_pos h, if_pos h.symm]
    · rw [if_neg h, if_neg fun e => h e.symm]
theorem mis_zero : ∀ {l m : Bs}, l.length = m.length → misJ l m = 0 → l = m
  | [], [], _, _ => rfl
  | [], _ :: _, h, _ => by simp at h
  | _ :: _, [], h, _ => by simp at h
  | x :: l, y :: m, h, h2 => by
    rw [misJ] at h2
    by_cases e : x = y
    · rw [if_pos e] at h2
      have ih := mis_zero (l := l) (m := m) (by simpa using h) (by omega)
      rw [e, ih]
    · rw [if_neg e] at h2; omega
theorem un_mis {l b : Bs} {T : List Nat} (hT : l.length = T.length) : ∀ n, n ≤ b.length → (unJ l b T n).2 = misJ l ((plJ T n).map fun j => b.getD j 0) ∧ (unJ l b T n).1 = (plJ T n).length
  | 0, _ => by
    refine ⟨?_, rfl⟩
    show 0 = misJ l _
    cases l <;> rfl
  | n + 1, hn => by
    obtain ⟨h1, h2⟩ := un_mis (b := b) hT n (by omega)
    have hp : plJ T (n + 1) = if n ∈ T then plJ T n ++ [n] else plJ T n := by
      unfold plJ
      rw [List.range_succ, List.filter_append]
      by_cases h : n ∈ T
      · rw [if_pos h, List.filter_cons_of_pos (by simpa using h)]; rfl
      · rw [if_neg h, List.filter_cons_of_neg (by simpa using h), List.filter_nil, List.append_nil]
    rw [hp]
    unfold unJ
    by_cases h : n ∈ T
    · rw [if_pos h, if_pos h]
      have hr := un_room (l := l) (b := b) h
      refine ⟨?_, by rw [List.length_append, h2]; rfl⟩
      dsimp only
      rw [List.map_append, List.map_cons, List.map_nil, mis_snoc _ _ _ (by rw [List.length_map, ← h2]; omega), h1, List.length_map, h2]
    · rw [if_neg h, if_neg h]
      exact ⟨h1, h2⟩
theorem lef_tk (a : Bs) (M : List (Nat × Nat)) : (lefJ a M).length = (tkJ M).length := by unfold lefJ tkJ; rw [List.length_map, List.length_map]
theorem lef_fst (a : Bs) (M : List (Nat × Nat)) : lefJ a M = (M.map Prod.fst).map fun i => a.getD i 0 := by unfold lefJ; rw [List.map_map]; rfl
theorem u_mis (a b : Bs) : uJ a b = misJ (lefJ a (mJ a b)) (lefJ b (mJ b a)) := by
  unfold uJ
  rw [(un_mis (lef_tk a (mJ a b)) b.length (Nat.le_refl _)).1, pl_tk, lef_fst b]
theorem u_symm (a b : Bs) : uJ a b = uJ b a := by rw [u_mis, u_mis, mis_symm]
theorem u_le (a b : Bs) : uJ a b ≤ (mJ a b).length := by
  have h1 := un_le (lefJ a (mJ a b)) b (tkJ (mJ a b)) b.length
  have h2 := un_max (lefJ a (mJ a b)) b (tkJ (mJ a b)) b.length
  unfold tkJ at h2
  rw [List.length_map] at h2
  unfold uJ
  exact Nat.le_trans h1 h2
theorem m_le (a b : Bs) : (mJ a b).length ≤ a.length ∧ (mJ a b).length ≤ b.length := ⟨(mar_inv a b _ _).1, by rw [m_len]; exact (mar_inv b a _ _).1⟩
theorem jr_symm (a b : Bs) : jrV a b = jrV b a := by
  unfold jrV
  rw [m_len a b, u_symm a b]
  have e1 : (200 < a.length ∨ 200 < b.length) ↔ (200 < b.length ∨ 200 < a.length) := Or.comm
  have e2 : (a = [] ∧ b = []) ↔ (b = [] ∧ a = []) := And.comm
  simp only [e1, e2]
  have h1 : ∀ A X la lb : Int, A * lb + A * la + X * la * lb = A * la + A * lb + X * lb * la := fun A X la lb => by rw [Int.add_comm (A * lb), Int.mul_right_comm X]
  have h2 : ∀ m la lb : Int, 6 * la * lb * m = 6 * lb * la * m := fun m la lb => by rw [Int.mul_right_comm 6]
  rw [h1, h2]

/-! From 0 to 1. -/
theorem jr_bounds {m u la lb : Int} (hm : 0 ≤ m) (h1 : m ≤ la) (h2 : m ≤ lb) (hu0 : 0 ≤ u) (hu : u ≤ m) : 0 ≤ 2 * m * m * lb + 2 * m * m * la + (2 * m - u) * la * lb ∧ 2 * m * m * lb + 2 * m * m * la + (2 * m - u) * la * lb ≤ 6 * la * lb * m := by
  have hla : 0 ≤ la := by omega
  have hlb : 0 ≤ lb := by omega
  have p1 : m * m * lb ≤ m * la * lb := Int.mul_le_mul_of_nonneg_right (Int.mul_le_mul_of_nonneg_left h1 hm) hlb
  have p2 : m * m * la ≤ m * lb * la := Int.mul_le_mul_of_nonneg_right (Int.mul_le_mul_of_nonneg_left h2 hm) hla
  have p3 : 0 ≤ u * la * lb := Int.mul_nonneg (Int.mul_nonneg hu0 hla) hlb
  have p4 : 0 ≤ m * m * lb := Int.mul_nonneg (Int.mul_nonneg hm hm) hlb
  have p5 : 0 ≤ m * m * la := Int.mul_nonneg (Int.mul_nonneg hm hm) hla
  have p6 : u * la * lb ≤ m * la * lb := Int.mul_le_mul_of_nonneg_right (Int.mul_le_mul_of_nonneg_right hu hla) hlb
  have p7 : 0 ≤ m * la * lb := Int.mul_nonneg (Int.mul_nonneg hm hla) hlb
  have q1 : 2 * m * m * lb = 2 * (m * m * lb) := by rw [Int.mul_assoc 2, Int.mul_assoc 2]
  have q2 : 2 * m * m * la = 2 * (m * m * la) := by rw [Int.mul_assoc 2, Int.mul_assoc 2]
  have q3 : (2 * m - u) * la * lb = 2 * (m * la * lb) - u * la * lb := by rw [Int.sub_mul, Int.sub_mul, Int.mul_assoc 2, Int.mul_assoc 2]
  have q4 : 6 * la * lb * m = 6 * (m * la * lb) := by rw [Int.mul_assoc 6, Int.mul_assoc 6, Int.mul_comm (la * lb) m, ← Int.mul_assoc m]
  have q5 : m * lb * la = m * la * lb := Int.mul_right_comm m lb la
  omega
theorem jr_full {m u la lb : Int} (hm : 0 < m) (h1 : m ≤ la) (h2 : m ≤ lb) (hu0 : 0 ≤ u) (hu : u ≤ m) (h : 2 * m * m * lb + 2 * m * m * la + (2 * m - u) * la * lb = 6 * la * lb * m) : m = la ∧ m = lb ∧ u = 0 := by
  have hla : 0 < la := by omega
  have hlb : 0 < lb := by omega
  have p1 : m * m * lb ≤ m * la * lb := Int.mul_le_mul_of_nonneg_right (Int.mul_le_mul_of_nonneg_left h1 (by omega)) (by omega)
  have p2 : m * m * la ≤ m * lb * la := Int.mul_le_mul_of_nonneg_right (Int.mul_le_mul_of_nonneg_left h2 (by omega)) (by omega)
  have p3 : 0 ≤ u * la * lb := Int.mul_nonneg (Int.mul_nonneg hu0 (by omega)) (by omega)
  have q1 : 2 * m * m * lb = 2 * (m * m * lb) := by rw [Int.mul_assoc 2, Int.mul_assoc 2]
  have q2 : 2 * m * m * la = 2 * (m * m * la) := by rw [Int.mul_assoc 2, Int.mul_assoc 2]
  have q3 : (2 * m - u) * la * lb = 2 * (m * la * lb) - u * la * lb := by rw [Int.sub_mul, Int.sub_mul, Int.mul_assoc 2, Int.mul_assoc 2]
  have q4 : 6 * la * lb * m = 6 * (m * la * lb) := by rw [Int.mul_assoc 6, Int.mul_assoc 6, Int.mul_comm (la * lb) m, ← Int.mul_assoc m]
  have q5 : m * lb * la = m * la * lb := Int.mul_right_comm m lb la
  have e1 : m * m * lb = m * la * lb := by omega
  have e2 : m * m * la = m * lb * la := by omega
  have e3 : u * la * lb = 0 := by omega
  refine ⟨?_, ?_, ?_⟩
  · exact Int.eq_of_mul_eq_mul_left (by omega) (Int.eq_of_mul_eq_mul_right (by omega) e1)
  · exact Int.eq_of_mul_eq_mul_left (by omega) (Int.eq_of_mul_eq_mul_right (by omega) e2)
  · rcases Int.mul_eq_zero.1 e3 with h | h
    · rcases Int.mul_eq_zero.1 h with h | h
      · exact h
      · omega
    · omega
theorem jr_den {m la lb : Int} (hm : 0 < m) (h1 : m ≤ la) (h2 : m ≤ lb) (h3 : la ≤ 200) (h4 : lb ≤ 200) : 0 < 6 * la * lb * m ∧ 6 * la * lb * m ≤ 1000000000 := by
  have hla : 0 < la := by omega
  have hlb : 0 < lb := by omega
  have p1 : 0 < la * lb := Int.mul_pos hla hlb
  have p2 : la * lb ≤ 200 * 200 := Int.le_trans (Int.mul_le_mul_of_nonneg_right h3 (by omega)) (Int.mul_le_mul_of_nonneg_left h4 (by omega))
  have p3 : 0 < la * lb * m := Int.mul_pos p1 hm
  have p4 : la * lb * m ≤ 200 * 200 * 200 := Int.le_trans (Int.mul_le_mul_of_nonneg_right p2 (by omega)) (Int.mul_le_mul_of_nonneg_left (by omega) (by omega))
  have q : 6 * la * lb * m = 6 * (la * lb * m) := by rw [Int.mul_assoc 6, Int.mul_assoc 6]
  omega
theorem unit_none : unitR (rt 0 1) := by unfold unitR validR rt gcdI absI; decide
theorem unit_one : unitR (rt 1 1) := by unfold unitR validR rt gcdI absI; decide
theorem jr_unit (a b : Bs) : unitR (jrV a b) := by
  unfold jrV
  split
  · exact unit_none
  · split
    · exact unit_one
    · split
      · exact unit_none
      · rename_i h1 h2 h3
        obtain ⟨m1, m2⟩ := m_le a b
        have hu := u_le a b
        obtain ⟨b1, b2⟩ := jr_bounds (m := (mJ a b).length) (u := uJ a b) (la := a.length) (lb := b.length) (by omega) (by omega) (by omega) (by omega) (by omega)
        obtain ⟨d1, d2⟩ := jr_den (m := (mJ a b).length) (la := a.length) (lb := b.length) (by omega) (by omega) (by omega) (by omega) (by omega)
        exact sh_unit b1 b2 d1 d2
theorem m_self (a : Bs) (w : Nat) : ∀ i, i ≤ a.length → marJ a a w i = (List.range i).map fun k => (k, k)
  | 0, _ => rfl
  | i + 1, h => by
    have ih := m_self a w i (by omega)
    have ht : ∀ z, z ∈ tkJ (marJ a a w i) ↔ z < i := fun z => by rw [ih, tkJ, List.map_map]; simp
    rw [mar_some (j := i) ⟨⟨by omega, by omega, by omega, rfl⟩, fun h => by rw [ht] at h; omega⟩ (fun k hk hc => hc.2 ((ht k).2 hk)), ih, List.range_succ, List.map_append]
    rfl
theorem lef_self (a : Bs) : lefJ a (mJ a a) = a := by
  unfold mJ
  rw [m_self a _ _ (Nat.le_refl _), lef_fst, List.map_map, List.map_map]
  apply List.ext_getElem
  · simp
  · intro i h1 h2
    simp [List.getD_eq_getElem?_getD, List.getElem?_eq_getElem h2]
theorem mis_self : ∀ (l : Bs), misJ l l = 0
  | [] => rfl
  | x :: l => by rw [misJ, mis_self l, if_pos rfl]
theorem jr_self {a : Bs} (h : a.length ≤ 200) : jrV a a = rt 1 1 := by
  unfold jrV
  rw [if_neg (by omega)]
  split
  · rfl
  · rename_i h1
    have hne : a ≠ [] := fun e => h1 ⟨e, e⟩
    have hp := List.length_pos_iff.2 hne
    have hm : (mJ a a).length = a.length := by unfold mJ; rw [m_self a _ _ (Nat.le_refl _)]; simp
    have hu : uJ a a = 0 := by rw [u_mis, lef_self, mis_self]
    rw [if_neg (by omega), hm, hu]
    obtain ⟨d1, d2⟩ := jr_den (m := a.length) (la := a.length) (lb := a.length) (by omega) (by omega) (by omega) (by omega) (by omega)
    have e : 2 * (a.length : Int) * a.length * a.length + 2 * (a.length : Int) * a.length * a.length + (2 * (a.length : Int) - ((0 : Nat) : Int)) * a.length * a.length = 6 * (a.length : Int) * a.length * a.length := by
      have q : ∀ c x : Int, c * x * x * x = c * (x * x * x) := fun c x => by rw [Int.mul_assoc, Int.mul_assoc, Int.mul_assoc x]
      rw [show (2 * (a.length : Int) - ((0 : Nat) : Int)) = 2 * (a.length : Int) by omega, q, q]
      omega
    rw [e]
    exact sh_one d1 d2
theorem jr_one {a b : Bs} (h : a.length ≤ 200) (hb : b.length ≤ 200) : jrV a b = rt 1 1 ↔ a = b := by
  constructor
  · intro he
    unfold jrV at he
    rw [if_neg (by omega)] at he
    split at he
    · rename_i h1; rw [h1.1, h1.2]
    · split at he
      · exact absurd he (by decide)
      · rename_i h1 h2
        obtain ⟨m1, m2⟩ := m_le a b
        have hu := u_le a b
        obtain ⟨b1, b2⟩ := jr_bounds (m := (mJ a b).length) (u := uJ a b) (la := a.length) (lb := b.length) (by omega) (by omega) (by omega) (by omega) (by omega)
        obtain ⟨d1, d2⟩ := jr_den (m := (mJ a b).length) (la := a.length) (lb := b.length) (by omega) (by omega) (by omega) (by omega) (by omega)
        have hf := (sh_is_one b1 b2 d1 d2).1 he
        obtain ⟨f1, f2, f3⟩ := jr_full (by omega) (by omega) (by omega) (by omega) (by omega) hf
        have all : ∀ (x y : Bs), (mJ x y).length = x.length → lefJ x (mJ x y) = x := fun x y hl => by
          have hr : (mJ x y).map Prod.fst = List.range x.length := by
            have h1 : (mJ x y).map Prod.fst = plJ ((mJ x y).map Prod.fst) x.length := (pl_self (mar_fst x y _ _) fun z hz => by
              obtain ⟨p, hp, rfl⟩ := List.mem_map.1 hz
              exact (m_el (i := p.1) (j := p.2) hp).1).symm
            have h2 : (plJ ((mJ x y).map Prod.fst) x.length).length = (List.range x.length).length := by rw [← h1, List.length_map, hl, List.length_range]
            rw [h1]
            exact (List.filter_sublist).eq_of_length h2
          rw [lef_fst, hr]
          apply List.ext_getElem
          · simp
          · intro i h1 h2
            simp [List.getD_eq_getElem?_getD, List.getElem?_eq_getElem h2]
        have e1 := all a b (by omega)
        have e2 := all b a (by rw [← m_len]; omega)
        have hz : misJ a b = 0 := by
          have := u_mis a b
          rw [e1, e2] at this
          omega
        exact mis_zero (by omega) hz
  · rintro rfl
    exact jr_self h
theorem jr_none {a b : Bs} (h : ∀ i j, i < a.length → j < b.length → ¬ a.getD i 0 = b.getD j 0) (hne : ¬ (a = [] ∧ b = [])) : jrV a b = rt 0 1 := by
  unfold jrV
  split
  · rfl
  · try rw [if_neg hne]
    have hm : mJ a b = [] := by
      cases hm : mJ a b with
      | nil => rfl
      | cons p M =>
        have hp : (p.1, p.2) ∈ mJ a b := by rw [hm]; exact List.mem_cons_self
        obtain ⟨h1, h2⟩ := m_el hp
        exact (h p.1 p.2 h1 h2.1 h2.2.2.2).elim
    rw [hm]; rfl
end Go.Gv
