/- The plain law of Jaccard's triangle, with sums of shares. -/
import Derived.Test.YtjlighbppoffhaaDoorP04h
set_option linter.all false
namespace Go.Gv
open Go

theorem mk_fits {n d : Int} (h0 : 0 ≤ n) (h1 : n ≤ 1000000000) (h2 : 0 < d) (h3 : d ≤ 1000000000) : mkE n d = 0 ∧ ∃ g : Int, 0 < g ∧ n = g * (mkV n d).1 ∧ d = g * (mkV n d).2.1 := by
  have hg := gcdI_pos (n := n) (d := d) (by omega)
  have hb : ¬ bigR n d := by
    unfold bigR
    rw [absI_of h0, absI_of (by omega : 0 ≤ d)]
    have a1 := div_le_self' h0 hg
    have a2 := div_le_self' (by omega : 0 ≤ d) hg
    omega
  have he : mkE n d = 0 := by unfold mkE; rw [if_neg (by omega), if_neg hb]
  refine ⟨he, gcdI n d, hg, ?_⟩
  unfold mkV
  rw [if_pos he, if_pos ⟨fun _ => by omega, fun _ => by omega⟩, absI_of h0, absI_of (by omega : 0 ≤ d)]
  obtain ⟨d1, d2⟩ := gcdI_dvd n d
  exact ⟨(Int.mul_ediv_cancel' d1).symm, (Int.mul_ediv_cancel' d2).symm⟩
/-- Three fractions with their common divisors. -/
theorem tri_scale {gA gB gC aN aD bN bD cN cD : Int} (hA : 0 < gA) (hB : 0 < gB) (hC : 0 < gC)
    (k : (gB * bN * (gC * cD) + gC * cN * (gB * bD)) * (gA * aD) ≤ (gA * aD + gA * aN) * (gB * bD * (gC * cD))) : (bN * cD + cN * bD) * aD ≤ (aD + aN) * (bD * cD) := by
  have e1 : (gB * bN * (gC * cD) + gC * cN * (gB * bD)) * (gA * aD) = (gA * (gB * gC)) * ((bN * cD + cN * bD) * aD) := by
    have q1 : gB * bN * (gC * cD) = gB * gC * (bN * cD) := by rw [Int.mul_assoc, ← Int.mul_assoc bN, Int.mul_comm bN gC, Int.mul_assoc gC, ← Int.mul_assoc gB]
    have q2 : gC * cN * (gB * bD) = gB * gC * (cN * bD) := by rw [Int.mul_assoc, ← Int.mul_assoc cN, Int.mul_comm cN gB, Int.mul_assoc gB, ← Int.mul_assoc gC, Int.mul_comm gC gB]
    rw [q1, q2, ← Int.mul_add, Int.mul_assoc (gB * gC), ← Int.mul_assoc _ gA aD, Int.mul_comm _ gA, Int.mul_assoc gA, ← Int.mul_assoc (gB * gC) gA, Int.mul_comm (gB * gC) gA]
  have e2 : (gA * aD + gA * aN) * (gB * bD * (gC * cD)) = (gA * (gB * gC)) * ((aD + aN) * (bD * cD)) := by
    have q1 : gB * bD * (gC * cD) = gB * gC * (bD * cD) := by rw [Int.mul_assoc, ← Int.mul_assoc bD, Int.mul_comm bD gC, Int.mul_assoc gC, ← Int.mul_assoc gB]
    rw [q1, ← Int.mul_add, Int.mul_assoc gA, ← Int.mul_assoc (aD + aN), Int.mul_comm (aD + aN) (gB * gC), Int.mul_assoc (gB * gC), ← Int.mul_assoc gA]
  rw [e1, e2] at k
  exact Int.le_of_mul_le_mul_left k (Int.mul_pos hA (Int.mul_pos hB hC))
theorem jc_small {a b : List Bs} (ha : a.length ≤ 40) (hb : b.length ≤ 40) : 0 ≤ (jcV a b).1 ∧ (jcV a b).1 ≤ (jcV a b).2.1 ∧ 0 < (jcV a b).2.1 ∧ (jcV a b).2.1 ≤ 80 := by
  have hu := jc_unit (a := a) (b := b) (by omega) (by omega)
  refine ⟨hu.2.1, hu.2.2, hu.1.1, ?_⟩
  unfold jcV
  have h1 := both_le a b
  have h2 := card_le (a ++ b)
  rw [List.length_append] at h2
  split
  · show (1 : Int) ≤ 80; omega
  · obtain ⟨g, hg, e1, e2⟩ := sh_cross (n := (bothS a b : Int)) (d := (cardS (a ++ b) : Int)) (by omega) (by omega) (by omega) (by omega)
    have hp : 0 < (shV (bothS a b : Int) (cardS (a ++ b) : Int)).2.1 := (sh_unit (n := (bothS a b : Int)) (d := (cardS (a ++ b) : Int)) (by omega) (by omega) (by omega) (by omega)).1.1
    have hm : 1 * (shV (bothS a b : Int) (cardS (a ++ b) : Int)).2.1 ≤ g * (shV (bothS a b : Int) (cardS (a ++ b) : Int)).2.1 := Int.mul_le_mul_of_nonneg_right (by omega) (by omega)
    omega
theorem jc_tri_raw {l m n : List Bs} (hl : l.length ≤ 40) (hm : m.length ≤ 40) (hn : n.length ≤ 40) : ((jcV l n).1 * (jcV n m).2.1 + (jcV n m).1 * (jcV l n).2.1) * (jcV l m).2.1 ≤ ((jcV l m).2.1 + (jcV l m).1) * ((jcV l n).2.1 * (jcV n m).2.1) := by
  obtain ⟨a1, a2, a3, _⟩ := jc_small hl hm
  obtain ⟨b1, b2, b3, _⟩ := jc_small hl hn
  obtain ⟨c1, c2, c3, _⟩ := jc_small hn hm
  by_cases hA : cardS (l ++ m) = 0
  · have e : jcV l m = rt 1 1 := by unfold jcV; rw [if_pos hA]
    rw [e]
    show (_ + _) * 1 ≤ (1 + 1) * _
    have p1 : (jcV l n).1 * (jcV n m).2.1 ≤ (jcV l n).2.1 * (jcV n m).2.1 := Int.mul_le_mul_of_nonneg_right b2 (by omega)
    have p2 : (jcV n m).1 * (jcV l n).2.1 ≤ (jcV n m).2.1 * (jcV l n).2.1 := Int.mul_le_mul_of_nonneg_right c2 (by omega)
    rw [Int.mul_comm (jcV n m).2.1] at p2
    omega
  · by_cases hB : cardS (l ++ n) = 0
    · rw [card_zero, List.append_eq_nil_iff] at hB
      rw [hB.1, hB.2]
      have e : jcV [] [] = rt 1 1 := by unfold jcV; rw [if_pos (card_zero.2 (List.append_nil _))]
      rw [e]
      show (1 * _ + _ * 1) * _ ≤ _ * (1 * _)
      rw [Int.one_mul, Int.mul_one]
      try rw [Int.one_mul]
      try exact Int.le_refl _
    · by_cases hC : cardS (n ++ m) = 0
      · rw [card_zero, List.append_eq_nil_iff] at hC
        rw [hC.1, hC.2]
        have e : jcV [] [] = rt 1 1 := by unfold jcV; rw [if_pos (card_zero.2 (List.append_nil _))]
        rw [e]
        show (_ * 1 + 1 * _) * _ ≤ _ * (_ * 1)
        rw [Int.one_mul, Int.mul_one, Int.mul_one, Int.add_comm (jcV l []).1]
        exact Int.le_refl _
      · have wn := inc_nodup (sorS_inc (l ++ m ++ n))
        have wl : ∀ z, z ∈ l → z ∈ sorS (l ++ m ++ n) := fun z h => sorS_mem.2 (by simp [h])
        have wm : ∀ z, z ∈ m → z ∈ sorS (l ++ m ++ n) := fun z h => sorS_mem.2 (by simp [h])
        have wc : ∀ z, z ∈ n → z ∈ sorS (l ++ m ++ n) := fun z h => sorS_mem.2 (by simp [h])
        have t := tri_W (fun z => decide (z ∈ l)) (fun z => decide (z ∈ m)) (fun z => decide (z ∈ n)) (sorS (l ++ m ++ n)) fun z hz => by
          rw [sorS_mem, List.mem_append, List.mem_append] at hz
          rcases hz with (h | h) | h
          · exact .inl (by simpa using h)
          · exact .inr (.inl (by simpa using h))
          · exact .inr (.inr (by simpa using h))
        rw [← both_cW wn wc, ← both_cW wn wm, ← card_cW wn wl wm, ← both_cW wn wm, ← card_cW wn wl wc, ← card_cW wn wc wm] at t
        have u1 : cardS (l ++ n) ≤ (sorS (l ++ m ++ n)).length := by rw [card_cW wn wl wc]; exact cW_le _ _
        have u2 : cardS (n ++ m) ≤ (sorS (l ++ m ++ n)).length := by rw [card_cW wn wc wm]; exact cW_le _ _
        have u3 : cardS (l ++ m) ≤ (sorS (l ++ m ++ n)).length := by rw [card_cW wn wl wm]; exact cW_le _ _
        have v1 := both_le l n
        have v2 := both_le n m
        have v3 := both_le l m
        have k1 := card_le (l ++ n)
        have k2 := card_le (n ++ m)
        have k3 := card_le (l ++ m)
        simp only [List.length_append] at k1 k2 k3
        have fr := tri_frac (iAB := bothS l m) (uAB := cardS (l ++ m)) (iAC := bothS l n) (uAC := cardS (l ++ n)) (iCB := bothS n m) (uCB := cardS (n ++ m)) (U := (sorS (l ++ m ++ n)).length) (by omega) (by omega) (by omega) (by omega) (by omega) (by omega) (by omega) (by omega) (by omega) (by omega) (by omega)
        have eA : jcV l m = shV (bothS l m) (cardS (l ++ m)) := by unfold jcV; rw [if_neg hA]
        have eB : jcV l n = shV (bothS l n) (cardS (l ++ n)) := by unfold jcV; rw [if_neg hB]
        have eC : jcV n m = shV (bothS n m) (cardS (n ++ m)) := by unfold jcV; rw [if_neg hC]
        obtain ⟨gA, pA, xA, yA⟩ := sh_cross (n := (bothS l m : Int)) (d := (cardS (l ++ m) : Int)) (by omega) (by omega) (by omega) (by omega)
        obtain ⟨gB, pB, xB, yB⟩ := sh_cross (n := (bothS l n : Int)) (d := (cardS (l ++ n) : Int)) (by omega) (by omega) (by omega) (by omega)
        obtain ⟨gC, pC, xC, yC⟩ := sh_cross (n := (bothS n m : Int)) (d := (cardS (n ++ m) : Int)) (by omega) (by omega) (by omega) (by omega)
        rw [← eA] at xA yA
        rw [← eB] at xB yB
        rw [← eC] at xC yC
        rw [xA, yA, xB, yB, xC, yC] at fr
        exact tri_scale pA pB pC fr
/-- The sums and their comparison. -/
theorem jc_tri {l m n : List Bs} (hl : l.length ≤ 40) (hm : m.length ≤ 40) (hn : n.length ≤ 40) :
    mkE (1 * (jcV l m).2.1 + (jcV l m).1 * 1) (1 * (jcV l m).2.1) = 0 ∧ mkE ((jcV l n).1 * (jcV n m).2.1 + (jcV n m).1 * (jcV l n).2.1) ((jcV l n).2.1 * (jcV n m).2.1) = 0 ∧
    ¬ cmpR (mkV (1 * (jcV l m).2.1 + (jcV l m).1 * 1) (1 * (jcV l m).2.1)) (mkV ((jcV l n).1 * (jcV n m).2.1 + (jcV n m).1 * (jcV l n).2.1) ((jcV l n).2.1 * (jcV n m).2.1)) < 0 := by
  have raw := jc_tri_raw hl hm hn
  obtain ⟨a1, a2, a3, a4⟩ := jc_small hl hm
  obtain ⟨b1, b2, b3, b4⟩ := jc_small hl hn
  obtain ⟨c1, c2, c3, c4⟩ := jc_small hn hm
  rw [Int.one_mul, Int.mul_one]
  have q1 : 0 ≤ (jcV l n).1 * (jcV n m).2.1 := Int.mul_nonneg b1 (by omega)
  have q2 : 0 ≤ (jcV n m).1 * (jcV l n).2.1 := Int.mul_nonneg c1 (by omega)
  have q3 : 0 < (jcV l n).2.1 * (jcV n m).2.1 := Int.mul_pos b3 c3
  have q4 : (jcV l n).2.1 * (jcV n m).2.1 ≤ 80 * 80 := Int.le_trans (Int.mul_le_mul_of_nonneg_right b4 (by omega)) (Int.mul_le_mul_of_nonneg_left c4 (by omega))
  have q5 : (jcV l n).1 * (jcV n m).2.1 ≤ (jcV l n).2.1 * (jcV n m).2.1 := Int.mul_le_mul_of_nonneg_right b2 (by omega)
  have q6 : (jcV n m).1 * (jcV l n).2.1 ≤ (jcV n m).2.1 * (jcV l n).2.1 := Int.mul_le_mul_of_nonneg_right c2 (by omega)
  rw [Int.mul_comm (jcV n m).2.1] at q6
  obtain ⟨e1, g, hg, x1, x2⟩ := mk_fits (n := (jcV l m).2.1 + (jcV l m).1) (d := (jcV l m).2.1) (by omega) (by omega) a3 (by omega)
  obtain ⟨e2, h, hh, y1, y2⟩ := mk_fits (n := (jcV l n).1 * (jcV n m).2.1 + (jcV n m).1 * (jcV l n).2.1) (d := (jcV l n).2.1 * (jcV n m).2.1) (by omega) (by omega) q3 (by omega)
  exact ⟨e1, e2, cmp_ge (cross_le hg hh x1 x2 y1 y2 raw)⟩
end Go.Gv
