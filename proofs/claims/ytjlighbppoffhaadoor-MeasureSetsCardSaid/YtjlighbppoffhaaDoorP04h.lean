/- The plain law of Jaccard: one for equal sets, none for sets apart, and the triangle. -/
import Derived.Test.YtjlighbppoffhaaDoorP04f
set_option linter.all false
namespace Go.Gv
open Go

theorem card_zero {l : List Bs} : cardS l = 0 ↔ l = [] := by
  constructor
  · intro h
    cases l with
    | nil => rfl
    | cons x l =>
      have hm : x ∈ sorS (x :: l) := sorS_mem.2 List.mem_cons_self
      unfold cardS at h
      rw [List.eq_nil_of_length_eq_zero h] at hm
      cases hm
  · rintro rfl; rfl
theorem jc_one {a b : List Bs} (ha : a.length ≤ 1000000) (hb : b.length ≤ 1000000) : jcV a b = rt 1 1 ↔ ((∀ z, z ∈ a → z ∈ b) ∧ ∀ z, z ∈ b → z ∈ a) := by
  have h1 := both_le a b
  have h2 := card_le (a ++ b)
  rw [List.length_append] at h2
  have key : bothS a b = cardS (a ++ b) ↔ ((∀ z, z ∈ a → z ∈ b) ∧ ∀ z, z ∈ b → z ∈ a) := by
    constructor
    · intro he
      unfold bothS cntS cardS at he
      have hsub : ((sorS b).filter fun z => decide (z ∈ a)) ⊆ sorS (a ++ b) := fun z hz => by
        rw [List.mem_filter] at hz
        rw [sorS_mem, List.mem_append]
        exact .inr (sorS_mem.1 hz.1)
      have hall : ∀ z, z ∈ sorS (a ++ b) → z ∈ ((sorS b).filter fun z => decide (z ∈ a)) := fun z hz => Classical.byContradiction fun hn => by
        have hn2 : (z :: ((sorS b).filter fun z => decide (z ∈ a))).Nodup := List.nodup_cons.2 ⟨hn, (inc_nodup (sorS_inc b)).filter _⟩
        have := List.Nodup.length_le_of_subset hn2 (l₂ := sorS (a ++ b)) fun w hw => by
          rcases List.mem_cons.1 hw with rfl | hw
          · exact hz
          · exact hsub hw
        rw [List.length_cons] at this
        omega
      have hz : ∀ z, z ∈ a ++ b → z ∈ b ∧ z ∈ a := fun z hz => by
        have := hall z (sorS_mem.2 hz)
        rw [List.mem_filter, sorS_mem] at this
        exact ⟨this.1, by simpa using this.2⟩
      exact ⟨fun z h => (hz z (List.mem_append_left _ h)).1, fun z h => (hz z (List.mem_append_right _ h)).2⟩
    · rintro ⟨k1, k2⟩
      unfold bothS cntS cardS
      rw [List.filter_eq_self.2 fun z hz => by simpa using k2 z (sorS_mem.1 hz)]
      rw [sorS_eq (a := a ++ b) (b := b) fun z => by
        rw [List.mem_append]
        exact ⟨fun h => h.elim (k1 z) id, .inr⟩]
  rw [← key]
  unfold jcV
  by_cases h0 : cardS (a ++ b) = 0
  · rw [if_pos h0]
    exact ⟨fun _ => by omega, fun _ => rfl⟩
  · rw [if_neg h0, sh_is_one (by omega) (by omega) (by omega) (by omega)]
    omega
theorem jc_none {a b : List Bs} (ha : a.length ≤ 1000000) (hb : b.length ≤ 1000000) : jcV a b = rt 0 1 ↔ ((∀ z, z ∈ a → z ∉ b) ∧ ¬ (a = [] ∧ b = [])) := by
  have h1 := both_le a b
  have h2 := card_le (a ++ b)
  rw [List.length_append] at h2
  have key : bothS a b = 0 ↔ ∀ z, z ∈ a → z ∉ b := by
    unfold bothS cntS
    constructor
    · intro he z hz hzb
      have hm : z ∈ (sorS b).filter fun z => decide (z ∈ a) := by
        rw [List.mem_filter, sorS_mem]; exact ⟨hzb, by simpa using hz⟩
      rw [List.eq_nil_of_length_eq_zero he] at hm
      cases hm
    · intro h
      rw [List.filter_eq_nil_iff.2 fun z hz => by
        have := h z
        simp only [decide_eq_true_eq]
        exact fun hza => this hza (sorS_mem.1 hz)]
      rfl
  have hnil : cardS (a ++ b) = 0 ↔ (a = [] ∧ b = []) := by rw [card_zero, List.append_eq_nil_iff]
  rw [← hnil, ← key]
  unfold jcV
  by_cases h0 : cardS (a ++ b) = 0
  · rw [if_pos h0]
    exact ⟨fun h => absurd h (by decide), fun h => (h.2 h0).elim⟩
  · rw [if_neg h0, sh_is_none (by omega) (by omega) (by omega) (by omega)]
    omega

/-! The triangle: sizes, counted over all elements. -/
def cW (p : Bs → Bool) (W : List Bs) : Nat := (W.filter p).length
theorem both_cW {a b W : List Bs} (hW : W.Nodup) (h : ∀ z, z ∈ b → z ∈ W) : bothS a b = cW (fun z => decide (z ∈ a) && decide (z ∈ b)) W := by
  unfold bothS cntS cW
  refine ((List.perm_ext_iff_of_nodup ((inc_nodup (sorS_inc b)).filter _) (hW.filter _)).2 fun z => ?_).length_eq
  simp only [List.mem_filter, sorS_mem, decide_eq_true_eq, Bool.and_eq_true]
  exact ⟨fun k => ⟨h z k.1, k.2, k.1⟩, fun k => ⟨k.2.2, k.2.1⟩⟩
theorem card_cW {a b W : List Bs} (hW : W.Nodup) (ha : ∀ z, z ∈ a → z ∈ W) (hb : ∀ z, z ∈ b → z ∈ W) : cardS (a ++ b) = cW (fun z => decide (z ∈ a) || decide (z ∈ b)) W := by
  unfold cardS cW
  refine ((List.perm_ext_iff_of_nodup (inc_nodup (sorS_inc _)) (hW.filter _)).2 fun z => ?_).length_eq
  simp only [List.mem_filter, sorS_mem, List.mem_append, decide_eq_true_eq, Bool.or_eq_true]
  exact ⟨fun k => ⟨k.elim (ha z) (hb z), k⟩, fun k => k.2⟩
theorem cW_cons (p : Bs → Bool) (z : Bs) (W : List Bs) : cW p (z :: W) = cW p W + (if p z = true then 1 else 0) := by
  unfold cW
  cases h : p z
  · rw [List.filter_cons_of_neg (by simp [h])]; simp
  · rw [List.filter_cons_of_pos (by simp [h]), List.length_cons]; simp
theorem tri_W (A B C : Bs → Bool) : ∀ (W : List Bs), (∀ z ∈ W, A z = true ∨ B z = true ∨ C z = true) → cW (fun z => A z && C z) W + cW (fun z => C z && B z) W + 2 * W.length ≤ cW (fun z => A z || B z) W + cW (fun z => A z && B z) W + cW (fun z => A z || C z) W + cW (fun z => C z || B z) W
  | [], _ => by simp [cW]
  | z :: W, h => by
    have ih := tri_W A B C W fun w hw => h w (List.mem_cons_of_mem _ hw)
    have hz := h z List.mem_cons_self
    simp only [cW_cons, List.length_cons]
    cases hA : A z <;> cases hB : B z <;> cases hC : C z <;> simp [hA, hB, hC] at hz ⊢ <;> omega
theorem cW_le (p : Bs → Bool) (W : List Bs) : cW p W ≤ W.length := List.length_filter_le _ _

/-- A fraction that gets more above and below. -/
theorem frac_up {i u x D : Int} (h1 : 0 ≤ i) (h2 : i ≤ u) (hx : 0 ≤ x) (hD : D ≤ u + x) (hD0 : 0 ≤ D) (hu : 0 < u) : i * D ≤ (i + x) * u := by
  have p1 : i * D ≤ i * (u + x) := Int.mul_le_mul_of_nonneg_left hD h1
  have p2 : i * x ≤ u * x := Int.mul_le_mul_of_nonneg_right h2 hx
  have e1 : i * (u + x) = i * u + i * x := Int.mul_add _ _ _
  have e2 : (i + x) * u = i * u + x * u := Int.add_mul _ _ _
  have e3 : x * u = u * x := Int.mul_comm _ _
  omega
/-- J(A, C) + J(C, B) ≤ 1 + J(A, B), with the fractions laid out. -/
theorem tri_frac {iAB uAB iAC uAC iCB uCB U : Int} (h0 : 0 < uAB) (hAC : 0 < uAC) (hCB : 0 < uCB) (a1 : 0 ≤ iAC) (a2 : iAC ≤ uAC) (b1 : 0 ≤ iCB) (b2 : iCB ≤ uCB) (c1 : uAC ≤ U) (c2 : uCB ≤ U) (c3 : uAB ≤ U)
    (k : iAC + iCB + 2 * U ≤ uAB + iAB + uAC + uCB) : (iAC * uCB + iCB * uAC) * uAB ≤ (uAB + iAB) * (uAC * uCB) := by
  have f1 := frac_up (x := U - uAC) a1 a2 (by omega) (show uAB ≤ uAC + (U - uAC) by omega) (by omega) hAC
  have f2 := frac_up (x := U - uCB) b1 b2 (by omega) (show uAB ≤ uCB + (U - uCB) by omega) (by omega) hCB
  have g1 : iAC * uAB * uCB ≤ (iAC + (U - uAC)) * uAC * uCB := Int.mul_le_mul_of_nonneg_right f1 (by omega)
  have g2 : iCB * uAB * uAC ≤ (iCB + (U - uCB)) * uCB * uAC := Int.mul_le_mul_of_nonneg_right f2 (by omega)
  have hp : 0 ≤ uAC * uCB := Int.mul_nonneg (by omega) (by omega)
  have g3 : (iAC + (U - uAC) + (iCB + (U - uCB))) * (uAC * uCB) ≤ (uAB + iAB) * (uAC * uCB) := Int.mul_le_mul_of_nonneg_right (by omega) hp
  have e1 : (iAC * uCB + iCB * uAC) * uAB = iAC * uAB * uCB + iCB * uAB * uAC := by
    rw [Int.add_mul, Int.mul_right_comm, Int.mul_right_comm iCB]
  have e2 : (iAC + (U - uAC) + (iCB + (U - uCB))) * (uAC * uCB) = (iAC + (U - uAC)) * uAC * uCB + (iCB + (U - uCB)) * uCB * uAC := by
    rw [Int.add_mul, Int.mul_assoc, Int.mul_assoc (iCB + (U - uCB)), Int.mul_comm uCB uAC]
  omega
end Go.Gv
