/- The plain law of similarities: symmetric, from 0 to 1, one for equal arguments; near numbers. -/
import Derived.Test.YtganngkllfpgiaaDoorP04e
import Derived.Test.YtganngkllfpgiaaDoorC04c
set_option linter.all false
namespace Go.Gv
open Go

theorem al_symm (a b : Bs) : alV a b = alV b a := by unfold alV; rw [Nat.max_comm, ed_symm]
theorem al_unit {a b : Bs} (ha : a.length ≤ 1000000) (hb : b.length ≤ 1000000) : unitR (alV a b) := by
  unfold alV
  split
  · exact unit_one
  · have := ed_upper a b
    exact sh_unit (by omega) (by omega) (by omega) (by omega)
theorem al_self {a : Bs} (ha : a.length ≤ 1000000) : alV a a = rt 1 1 := by
  unfold alV
  split
  · rfl
  · rw [ed_self]
    have e : ((max a.length a.length : Nat) : Int) - ((0 : Nat) : Int) = ((max a.length a.length : Nat) : Int) := by omega
    rw [e]
    exact sh_one (by omega) (by omega)
theorem abs_symm (a b : Int) : absI (a - b) = absI (b - a) := by unfold absI; omega
theorem nr_symm (a b t : Int) : nrV a b t = nrV b a t := by unfold nrV; rw [abs_symm]
theorem nr_unit (a b t : Int) : unitR (nrV a b t) := by
  unfold nrV
  split
  · exact unit_none
  · split
    · have := absI_nonneg (a - b)
      exact sh_unit (by omega) (by omega) (by omega) (by omega)
    · exact unit_none
theorem nr_self (a t : Int) : nrV a a t = rt 1 1 ↔ 0 ≤ t ∧ t < 1000000000 := by
  unfold nrV
  have h0 : absI (a - a) = 0 := by unfold absI; omega
  constructor
  · intro h
    split at h
    · exact absurd h (by decide)
    · omega
  · intro h
    rw [if_neg (by omega), if_pos (by omega), h0, Int.sub_zero]
    exact sh_one (by omega) (by omega)
theorem both_symm (a b : List Bs) : bothS a b = bothS b a := by
  unfold bothS cntS
  have n1 := (inc_nodup (sorS_inc b)).filter (fun z => decide (z ∈ a))
  have n2 := (inc_nodup (sorS_inc a)).filter (fun z => decide (z ∈ b))
  refine ((List.perm_ext_iff_of_nodup n1 n2).2 fun z => ?_).length_eq
  simp only [List.mem_filter, decide_eq_true_eq, sorS_mem]
  exact And.comm
theorem card_comm (a b : List Bs) : cardS (a ++ b) = cardS (b ++ a) := by
  unfold cardS
  rw [sorS_eq (a := a ++ b) (b := b ++ a) fun z => by rw [List.mem_append, List.mem_append]; exact Or.comm]
theorem both_le (a b : List Bs) : bothS a b ≤ cardS (a ++ b) := by
  unfold bothS cntS cardS
  refine List.Nodup.length_le_of_subset ((inc_nodup (sorS_inc b)).filter _) fun z hz => ?_
  rw [List.mem_filter] at hz
  rw [sorS_mem, List.mem_append]
  exact .inr (sorS_mem.1 hz.1)
theorem jc_symm (a b : List Bs) : jcV a b = jcV b a := by unfold jcV; rw [card_comm, both_symm]
theorem jc_unit {a b : List Bs} (ha : a.length ≤ 1000000) (hb : b.length ≤ 1000000) : unitR (jcV a b) := by
  unfold jcV
  split
  · exact unit_one
  · have h1 := both_le a b
    have h2 := card_le (a ++ b)
    rw [List.length_append] at h2
    exact sh_unit (by omega) (by omega) (by omega) (by omega)
theorem jc_self {a : List Bs} (ha : a.length ≤ 1000000) : jcV a a = rt 1 1 := by
  unfold jcV
  split
  · rfl
  · have h2 := card_le (a ++ a)
    rw [List.length_append] at h2
    have e : bothS a a = cardS (a ++ a) := by
      unfold bothS cntS cardS
      rw [List.filter_eq_self.2 fun z hz => by simpa using sorS_mem.1 hz]
      rw [sorS_eq (a := a ++ a) (b := a) fun z => by rw [List.mem_append]; exact or_self_iff]
    rw [e]
    exact sh_one (by omega) (by omega)

/-! Comparisons of shares. -/
def cmpR (a b : Rt) : Int := if validR a ∧ validR b then (if a.1 * b.2.1 - b.1 * a.2.1 < 0 then -1 else if 0 < a.1 * b.2.1 - b.1 * a.2.1 then 1 else 0) else 0
theorem cmp_ge {a b : Rt} (h : b.1 * a.2.1 ≤ a.1 * b.2.1) : ¬ cmpR a b < 0 := by
  unfold cmpR
  split
  · rw [if_neg (by omega)]
    split <;> omega
  · omega
theorem cross_le {n1 d1 n2 d2 a b c d g h : Int} (hg : 0 < g) (hh : 0 < h) (e1 : n1 = g * a) (e2 : d1 = g * b) (e3 : n2 = h * c) (e4 : d2 = h * d) (k : n2 * d1 ≤ n1 * d2) : c * b ≤ a * d := by
  subst e1; subst e2; subst e3; subst e4
  have k2 : (h * g) * (c * b) ≤ (h * g) * (a * d) := by
    have l1 : h * c * (g * b) = (h * g) * (c * b) := by rw [Int.mul_assoc, Int.mul_assoc, ← Int.mul_assoc c g b, Int.mul_comm c g, Int.mul_assoc g c b]
    have l2 : g * a * (h * d) = (h * g) * (a * d) := by rw [Int.mul_assoc, ← Int.mul_assoc a h d, Int.mul_comm a h, Int.mul_assoc h a d, ← Int.mul_assoc g h, Int.mul_comm g h]
    rw [l1, l2] at k
    exact k
  exact Int.le_of_mul_le_mul_left k2 (Int.mul_pos hh hg)
theorem sh_ge {n1 d1 n2 d2 : Int} (a0 : 0 ≤ n1) (a1 : n1 ≤ d1) (a2 : 0 < d1) (a3 : d1 ≤ 1000000000) (b0 : 0 ≤ n2) (b1 : n2 ≤ d2) (b2 : 0 < d2) (b3 : d2 ≤ 1000000000) (k : n2 * d1 ≤ n1 * d2) : ¬ cmpR (shV n1 d1) (shV n2 d2) < 0 := by
  obtain ⟨g, hg, e1, e2⟩ := sh_cross a0 a1 a2 a3
  obtain ⟨h, hh, e3, e4⟩ := sh_cross b0 b1 b2 b3
  exact cmp_ge (cross_le hg hh e1 e2 e3 e4 k)
theorem none_ge {a : Rt} (h : 0 ≤ a.1) : ¬ cmpR a (rt 0 1) < 0 := cmp_ge (by show 0 * a.2.1 ≤ a.1 * 1; omega)
theorem nr_near {x y z t : Int} (h : absI (x - y) ≤ absI (x - z)) : ¬ cmpR (nrV x y t) (nrV x z t) < 0 := by
  have hu := nr_unit x y t
  by_cases ht : t < 0 ∨ 1000000000 ≤ t
  · have e : nrV x z t = rt 0 1 := by unfold nrV; rw [if_pos ht]
    rw [e]; exact none_ge hu.2.1
  · by_cases hz : absI (x - z) ≤ t
    · have e1 : nrV x z t = shV (t + 1 - absI (x - z)) (t + 1) := by unfold nrV; rw [if_neg ht, if_pos hz]
      have e2 : nrV x y t = shV (t + 1 - absI (x - y)) (t + 1) := by unfold nrV; rw [if_neg ht, if_pos (by omega)]
      rw [e1, e2]
      have q1 := absI_nonneg (x - y)
      have q2 := absI_nonneg (x - z)
      exact sh_ge (by omega) (by omega) (by omega) (by omega) (by omega) (by omega) (by omega) (by omega) (Int.mul_le_mul_of_nonneg_right (by omega) (by omega))
    · have e : nrV x z t = rt 0 1 := by unfold nrV; rw [if_neg ht, if_neg hz]
      rw [e]; exact none_ge hu.2.1
theorem nr_more {x y t u : Int} (h0 : 0 ≤ t) (h1 : t ≤ u) (h2 : u < 1000000000) : ¬ cmpR (nrV x y u) (nrV x y t) < 0 := by
  have hu := nr_unit x y u
  have ht : ¬ (t < 0 ∨ 1000000000 ≤ t) := by omega
  by_cases hz : absI (x - y) ≤ t
  · have e1 : nrV x y t = shV (t + 1 - absI (x - y)) (t + 1) := by unfold nrV; rw [if_neg ht, if_pos hz]
    have e2 : nrV x y u = shV (u + 1 - absI (x - y)) (u + 1) := by unfold nrV; rw [if_neg (by omega), if_pos (by omega)]
    rw [e1, e2]
    have q1 := absI_nonneg (x - y)
    refine sh_ge (by omega) (by omega) (by omega) (by omega) (by omega) (by omega) (by omega) (by omega) ?_
    generalize absI (x - y) = d at *
    have p : d * (t + 1) ≤ d * (u + 1) := Int.mul_le_mul_of_nonneg_left (by omega) q1
    have r1 : (t + 1 - d) * (u + 1) = (t + 1) * (u + 1) - d * (u + 1) := Int.sub_mul _ _ _
    have r2 : (u + 1 - d) * (t + 1) = (u + 1) * (t + 1) - d * (t + 1) := Int.sub_mul _ _ _
    have r3 : (t + 1) * (u + 1) = (u + 1) * (t + 1) := Int.mul_comm _ _
    omega
  · have e : nrV x y t = rt 0 1 := by unfold nrV; rw [if_neg ht, if_neg hz]
    rw [e]; exact none_ge hu.2.1
theorem nr_zero {x y t : Int} (h0 : 0 ≤ t) (h1 : t < 1000000000) : ¬ nrV x y t = rt 0 1 ↔ absI (x - y) ≤ t := by
  have ht : ¬ (t < 0 ∨ 1000000000 ≤ t) := by omega
  have q1 := absI_nonneg (x - y)
  constructor
  · intro h
    refine Classical.byContradiction fun hz => h ?_
    unfold nrV; rw [if_neg ht, if_neg hz]
  · intro hz
    unfold nrV
    rw [if_neg ht, if_pos hz, sh_is_none (by omega) (by omega) (by omega) (by omega)]
    omega
end Go.Gv
