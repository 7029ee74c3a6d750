/- The plain law of matched bytes: what Jaro matches. -/
import Derived.Test.YtganngkllfpgiaaGreatDoorP04c
set_option linter.all false
namespace Go.Gv
open Go

/-- Bytes that may be matched. -/
def elJ (a b : Bs) (w i j : Nat) : Prop := j < b.length ∧ i ≤ j + w ∧ j ≤ i + w ∧ a.getD i 0 = b.getD j 0
instance {a b : Bs} {w i j : Nat} : Decidable (elJ a b w i j) := by unfold elJ; infer_instance
def finJ (a b : Bs) (w : Nat) (T : List Nat) (i : Nat) : Option Nat := (List.range b.length).find? fun j => decide (elJ a b w i j ∧ j ∉ T)
def tkJ (M : List (Nat × Nat)) : List Nat := M.map Prod.snd
def stJ (a b : Bs) (w : Nat) (M : List (Nat × Nat)) (i : Nat) : List (Nat × Nat) := match finJ a b w (tkJ M) i with
  | some j => M ++ [(i, j)]
  | none => M
def marJ (a b : Bs) (w : Nat) : Nat → List (Nat × Nat)
  | 0 => []
  | i + 1 => stJ a b w (marJ a b w i) i
def lefJ (a : Bs) (M : List (Nat × Nat)) : Bs := M.map fun p => a.getD p.1 0

theorem find_range {p : Nat → Bool} : ∀ {n j : Nat}, j < n → p j = true → (∀ k, k < j → p k = false) → (List.range n).find? p = some j := fun {n} {j} hj hp hk => by
  rw [List.find?_eq_some_iff_append]
  refine ⟨hp, List.range j, (List.range (n - j - 1)).map (· + (j + 1)), ?_, fun k hk2 => ?_⟩
  · apply List.ext_getElem
    · simp; omega
    · intro i h1 h2
      rw [List.getElem_range, List.getElem_append]
      simp only [List.length_range, List.getElem_range, List.getElem_cons, List.getElem_map]
      split
      · rfl
      · split <;> omega
  · rw [List.mem_range] at hk2
    rw [hk k hk2]; rfl
theorem fin_some {a b : Bs} {w i j : Nat} {T : List Nat} (h : elJ a b w i j ∧ j ∉ T) (hk : ∀ k, k < j → ¬ (elJ a b w i k ∧ k ∉ T)) : finJ a b w T i = some j :=
  find_range h.1.1 (by simpa using h) (fun k hk2 => by simpa using hk k hk2)
theorem fin_none {a b : Bs} {w i : Nat} {T : List Nat} (h : ∀ j, ¬ (elJ a b w i j ∧ j ∉ T)) : finJ a b w T i = none := by
  unfold finJ
  rw [List.find?_eq_none]
  intro j _
  simpa using h j
theorem fin_spec {a b : Bs} {w i : Nat} {T : List Nat} : (∃ j, finJ a b w T i = some j ∧ elJ a b w i j ∧ j ∉ T ∧ ∀ k, k < j → ¬ (elJ a b w i k ∧ k ∉ T)) ∨ (finJ a b w T i = none ∧ ∀ j, ¬ (elJ a b w i j ∧ j ∉ T)) := by
  cases h : finJ a b w T i with
  | none =>
    refine .inr ⟨rfl, fun j hj => ?_⟩
    unfold finJ at h
    rw [List.find?_eq_none] at h
    exact h j (List.mem_range.2 hj.1.1) (by simpa using hj)
  | some j =>
    left
    have h2 := h
    unfold finJ at h2
    have hp := List.find?_some h2
    have hp : elJ a b w i j ∧ j ∉ T := by simpa using hp
    refine ⟨j, rfl, hp.1, hp.2, fun k hk hc => ?_⟩
    -- the first one: strong induction
    have : ∀ n k, k ≤ n → k < j → ¬ (elJ a b w i k ∧ k ∉ T) := fun n => by
      induction n with
      | zero =>
        intro k hk0 hkj hc
        have : finJ a b w T i = some k := fin_some hc (fun q hq => by omega)
        rw [h] at this
        cases this
        omega
      | succ n ih =>
        intro k hkn hkj hc
        have : finJ a b w T i = some k := fin_some hc (fun q hq => ih q (by omega) (by omega))
        rw [h] at this
        cases this
        omega
    exact this k k (Nat.le_refl _) hk hc
theorem mar_inv (a b : Bs) (w : Nat) : ∀ i, (marJ a b w i).length ≤ i ∧ (tkJ (marJ a b w i)).Nodup ∧ (∀ j ∈ tkJ (marJ a b w i), j < b.length) ∧ ∀ p ∈ marJ a b w i, p.1 < i ∧ elJ a b w p.1 p.2
  | 0 => ⟨Nat.le_refl _, List.nodup_nil, by simp [marJ, tkJ], by simp [marJ]⟩
  | i + 1 => by
    obtain ⟨h1, h2, h3, h4⟩ := mar_inv a b w i
    unfold marJ stJ
    rcases fin_spec (a := a) (b := b) (w := w) (i := i) (T := tkJ (marJ a b w i)) with ⟨j, e, e1, e2, e3⟩ | ⟨e, e1⟩
    · rw [e]
      refine ⟨by rw [List.length_append, List.length_singleton]; omega, ?_, fun k hk => ?_, fun p hp => ?_⟩
      · unfold tkJ at h2 e2 ⊢
        rw [List.map_append, List.nodup_append]
        refine ⟨h2, by simp, fun x hx y hy exy => ?_⟩
        simp only [List.map_cons, List.map_nil, List.mem_singleton] at hy
        subst hy; subst exy
        exact e2 hx
      · unfold tkJ at hk h3
        rw [List.map_append, List.mem_append] at hk
        rcases hk with hk | hk
        · exact h3 k hk
        · simp only [List.map_cons, List.map_nil, List.mem_singleton] at hk
          subst hk; exact e1.1
      · rcases List.mem_append.1 hp with hp | hp
        · have := h4 p hp; exact ⟨by omega, this.2⟩
        · rw [List.mem_singleton] at hp; subst hp
          exact ⟨Nat.lt_succ_self _, e1⟩
    · rw [e]
      dsimp only
      exact ⟨by omega, h2, h3, fun p hp => ⟨by have := (h4 p hp).1; omega, (h4 p hp).2⟩⟩

theorem fl_le : ∀ (T : List Nat) (n : Nat), ((List.range n).filter fun j => decide (j ∈ T)).length ≤ T.length
  | [], n => by
    rw [List.filter_eq_nil_iff.2 (by simp)]; simp
  | x :: T, n => by
    have h := fl_le T n
    have h1 : ∀ (l : List Nat), l.Nodup → (l.filter fun j => decide (j ∈ x :: T)).length ≤ (l.filter fun j => decide (j ∈ T)).length + (if x ∈ l then 1 else 0) := fun l hl => by
      induction l with
      | nil => simp
      | cons y l ih =>
        obtain ⟨hy, hl⟩ := List.nodup_cons.1 hl
        have ih := ih hl
        by_cases e : y = x
        · subst e
          rw [List.filter_cons_of_pos (by simp), if_pos List.mem_cons_self, List.length_cons]
          rw [if_neg hy] at ih
          by_cases h2 : y ∈ T
          · rw [List.filter_cons_of_pos (by simpa using h2), List.length_cons]; omega
          · rw [List.filter_cons_of_neg (by simpa using h2)]; omega
        · have e' : (x ∈ y :: l) ↔ x ∈ l := by
            rw [List.mem_cons]
            exact ⟨fun h => h.elim (fun h => (e h.symm).elim) id, .inr⟩
          have e2 : (if x ∈ y :: l then 1 else 0) = (if x ∈ l then 1 else 0) := by simp only [e']
          rw [e2]
          by_cases h2 : y ∈ T
          · rw [List.filter_cons_of_pos (by simp [h2]), List.filter_cons_of_pos (by simpa using h2), List.length_cons, List.length_cons]; omega
          · rw [List.filter_cons_of_neg (by simp [h2, e]), List.filter_cons_of_neg (by simpa using h2)]; exact ih
    have := h1 (List.range n) List.nodup_range
    rw [List.length_cons]
    split at this <;> omega

/-- How many of the taken bytes are behind one another in another order. -/
def unJ (l b : Bs) (T : List Nat) : Nat → Nat × Nat
  | 0 => (0, 0)
  | j + 1 => if j ∈ T then ((unJ l b T j).1 + 1, (unJ l b T j).2 + (if l.getD (unJ l b T j).1 0 = b.getD j 0 then 0 else 1)) else unJ l b T j
theorem un_fst (l b : Bs) (T : List Nat) : ∀ j, (unJ l b T j).1 = ((List.range j).filter fun j => decide (j ∈ T)).length
  | 0 => rfl
  | j + 1 => by
    unfold unJ
    rw [List.range_succ, List.filter_append, List.length_append, ← un_fst l b T j]
    by_cases h : j ∈ T
    · rw [if_pos h, List.filter_cons_of_pos (by simpa using h)]; rfl
    · rw [if_neg h, List.filter_cons_of_neg (by simpa using h)]; rfl
theorem un_le (l b : Bs) (T : List Nat) : ∀ j, (unJ l b T j).2 ≤ (unJ l b T j).1
  | 0 => Nat.le_refl _
  | j + 1 => by
    have := un_le l b T j
    unfold unJ
    split
    · dsimp only; split <;> omega
    · exact this
theorem un_room {l b : Bs} {T : List Nat} {j : Nat} (h : j ∈ T) : (unJ l b T j).1 < T.length := by
  have h1 := fl_le T (j + 1)
  rw [← un_fst l b T (j + 1)] at h1
  unfold unJ at h1
  rw [if_pos h] at h1
  exact h1
theorem un_max (l b : Bs) (T : List Nat) (j : Nat) : (unJ l b T j).1 ≤ T.length := by rw [un_fst]; exact fl_le T j

def wJ (a b : Bs) : Nat := max a.length b.length / 2 - 1
def mJ (a b : Bs) : List (Nat × Nat) := marJ a b (wJ a b) a.length
def uJ (a b : Bs) : Nat := (unJ (lefJ a (mJ a b)) b (tkJ (mJ a b)) b.length).2
def jrV (a b : Bs) : Rt := if 200 < a.length ∨ 200 < b.length then rt 0 1 else if a = [] ∧ b = [] then rt 1 1 else if (mJ a b).length = 0 then rt 0 1 else
  shV (2 * (mJ a b).length * (mJ a b).length * b.length + 2 * (mJ a b).length * (mJ a b).length * a.length + (2 * (mJ a b).length - uJ a b : Int) * a.length * b.length) (6 * a.length * b.length * (mJ a b).length)
theorem mar_some {a b : Bs} {w i j : Nat} (h : elJ a b w i j ∧ j ∉ tkJ (marJ a b w i)) (hk : ∀ k, k < j → ¬ (elJ a b w i k ∧ k ∉ tkJ (marJ a b w i))) : marJ a b w (i + 1) = marJ a b w i ++ [(i, j)] := by
  rw [marJ, stJ, fin_some h hk]
theorem mar_none {a b : Bs} {w i : Nat} (h : ∀ j, ¬ (elJ a b w i j ∧ j ∉ tkJ (marJ a b w i))) : marJ a b w (i + 1) = marJ a b w i := by
  rw [marJ, stJ, fin_none h]
theorem tk_snoc (M : List (Nat × Nat)) (i j : Nat) : tkJ (M ++ [(i, j)]) = tkJ M ++ [j] := by unfold tkJ; rw [List.map_append]; rfl
theorem lef_snoc (a : Bs) (M : List (Nat × Nat)) (i j : Nat) : lefJ a (M ++ [(i, j)]) = lefJ a M ++ [a.getD i 0] := by unfold lefJ; rw [List.map_append]; rfl
/-- Bytes as numbers. -/
def nmJ (l : Bs) : List Int := l.map fun c => (c.toNat : Int)
theorem nm_len (l : Bs) : (nmJ l).length = l.length := by unfold nmJ; rw [List.length_map]
theorem nm_at (l : Bs) (k : Nat) : (nmJ l).getD k 0 = ((l.getD k 0).toNat : Int) := by
  unfold nmJ
  rw [List.getD_eq_getElem?_getD, List.getElem?_map, List.getD_eq_getElem?_getD]
  cases l[k]? <;> rfl
theorem nm_snoc (l : Bs) (c : UInt8) : nmJ (l ++ [c]) = nmJ l ++ [(c.toNat : Int)] := by unfold nmJ; rw [List.map_append]; rfl
end Go.Gv
