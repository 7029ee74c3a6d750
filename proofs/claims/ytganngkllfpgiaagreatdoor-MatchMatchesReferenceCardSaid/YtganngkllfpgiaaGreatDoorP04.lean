/- The plain law of edit distances. -/
import Derived.Test.YtganngkllfpgiaaGreatDoorP03
set_option linter.all false
namespace Go.Gv
open Go

/-- The least number of insertions, deletions and replacements. -/
def edD : Bs → Bs → Nat
  | [], b => b.length
  | a, [] => a.length
  | x :: a, y :: b => min (min (edD a b + (if x = y then 0 else 1)) (edD a (y :: b) + 1)) (edD (x :: a) b + 1)
termination_by a b => a.length + b.length
theorem ed_nil (b : Bs) : edD [] b = b.length := by unfold edD; rfl
theorem ed_nilr (a : Bs) : edD a [] = a.length := by cases a <;> simp [edD]
theorem ed_cons (x y : UInt8) (a b : Bs) : edD (x :: a) (y :: b) = min (min (edD a b + (if x = y then 0 else 1)) (edD a (y :: b) + 1)) (edD (x :: a) b + 1) := by rw [edD]
theorem ed_le1 (x y : UInt8) (a b : Bs) : edD (x :: a) (y :: b) ≤ edD a b + (if x = y then 0 else 1) := by rw [ed_cons]; omega
theorem ed_del (x : UInt8) (a b : Bs) : edD (x :: a) b ≤ edD a b + 1 := by
  cases b with
  | nil => rw [ed_nilr, ed_nilr, List.length_cons]; exact Nat.le_refl _
  | cons y b => rw [ed_cons]; omega
theorem ed_ins (y : UInt8) (a b : Bs) : edD a (y :: b) ≤ edD a b + 1 := by
  cases a with
  | nil => rw [ed_nil, ed_nil, List.length_cons]; exact Nat.le_refl _
  | cons x a => rw [ed_cons]; omega
theorem ed_upper : ∀ (a b : Bs), edD a b ≤ max a.length b.length
  | [], b => by rw [ed_nil]; omega
  | a, [] => by rw [ed_nilr]; omega
  | x :: a, y :: b => by
    have h := ed_upper a b
    have h1 := ed_le1 x y a b
    simp only [List.length_cons]
    split at h1 <;> omega
theorem ed_symm : ∀ (a b : Bs), edD a b = edD b a
  | [], b => by rw [ed_nil, ed_nilr]
  | a, [] => by rw [ed_nil, ed_nilr]
  | x :: a, y :: b => by
    rw [ed_cons, ed_cons, ed_symm a b, ed_symm a (y :: b), ed_symm (x :: a) b]
    have : (if x = y then 0 else 1) = (if y = x then 0 else 1) := by
      by_cases h : x = y
      · rw [if_pos h, if_pos h.symm]
      · rw [if_neg h, if_neg fun e => h e.symm]
    rw [this]
    omega
termination_by a b => a.length + b.length
theorem ed_self : ∀ (a : Bs), edD a a = 0
  | [] => by rw [ed_nil]; rfl
  | x :: a => by
    have h := ed_le1 x x a a
    rw [ed_self a, if_pos rfl] at h
    omega
/-- Alignments. -/
inductive Al : Bs → Bs → Nat → Prop where
  | nil : Al [] [] 0
  | sub (x y : UInt8) {a b : Bs} {n : Nat} : Al a b n → Al (x :: a) (y :: b) (n + (if x = y then 0 else 1))
  | del (x : UInt8) {a b : Bs} {n : Nat} : Al a b n → Al (x :: a) b (n + 1)
  | ins (y : UInt8) {a b : Bs} {n : Nat} : Al a b n → Al a (y :: b) (n + 1)
theorem Al.min {a b : Bs} {n : Nat} (h : Al a b n) : edD a b ≤ n := by
  induction h with
  | nil => rw [ed_nil]; exact Nat.le_refl _
  | @sub x y a b n _ ih => have := ed_le1 x y a b; omega
  | @del x a b n _ ih => have := ed_del x a b; omega
  | @ins y a b n _ ih => have := ed_ins y a b; omega
theorem al_nil : ∀ (b : Bs), Al [] b b.length
  | [] => .nil
  | y :: b => .ins y (al_nil b)
theorem al_nilr : ∀ (a : Bs), Al a [] a.length
  | [] => .nil
  | x :: a => .del x (al_nilr a)
theorem al_ed : ∀ (a b : Bs), Al a b (edD a b)
  | [], b => by rw [ed_nil]; exact al_nil b
  | a, [] => by rw [ed_nilr]; exact al_nilr a
  | x :: a, y :: b => by
    have h1 := Al.sub x y (al_ed a b)
    have h2 := Al.del x (al_ed a (y :: b))
    have h3 := Al.ins y (al_ed (x :: a) b)
    rw [ed_cons]
    rcases Nat.le_total (edD a b + (if x = y then 0 else 1)) (edD a (y :: b) + 1) with k1 | k1
    · rw [Nat.min_eq_left k1]
      rcases Nat.le_total (edD a b + (if x = y then 0 else 1)) (edD (x :: a) b + 1) with k2 | k2
      · rw [Nat.min_eq_left k2]; exact h1
      · rw [Nat.min_eq_right k2]; exact h3
    · rw [Nat.min_eq_right k1]
      rcases Nat.le_total (edD a (y :: b) + 1) (edD (x :: a) b + 1) with k2 | k2
      · rw [Nat.min_eq_left k2]; exact h2
      · rw [Nat.min_eq_right k2]; exact h3
termination_by a b => a.length + b.length
theorem Al.cast {a b : Bs} {n m : Nat} (h : Al a b n) (e : n = m) : Al a b m := e ▸ h
theorem Al.append {a b a' b' : Bs} {n m : Nat} (h : Al a b n) (k : Al a' b' m) : Al (a ++ a') (b ++ b') (n + m) := by
  induction h with
  | nil => exact k.cast (by omega)
  | sub x y _ ih => exact (Al.sub x y ih).cast (by omega)
  | del x _ ih => exact (Al.del x ih).cast (by omega)
  | ins y _ ih => exact (Al.ins y ih).cast (by omega)
theorem Al.reverse {a b : Bs} {n : Nat} (h : Al a b n) : Al a.reverse b.reverse n := by
  induction h with
  | nil => exact .nil
  | sub x y _ ih => rw [List.reverse_cons, List.reverse_cons]; exact (ih.append (.sub x y .nil)).cast (by omega)
  | @del x a b n _ ih => rw [List.reverse_cons, ← List.append_nil b.reverse]; exact ih.append (.del x .nil)
  | @ins y a b n _ ih => rw [List.reverse_cons, ← List.append_nil a.reverse]; exact ih.append (.ins y .nil)
theorem ed_rev (a b : Bs) : edD a.reverse b.reverse = edD a b := by
  refine Nat.le_antisymm (al_ed a b).reverse.min ?_
  have := (al_ed a.reverse b.reverse).reverse.min
  rwa [List.reverse_reverse, List.reverse_reverse] at this
/-- The distance of beginnings: a row of the table. -/
def edP (a b : Bs) (i j : Nat) : Nat := edD (a.take i) (b.take j)
theorem edP_zero (a b : Bs) (j : Nat) (h : j ≤ b.length) : edP a b 0 j = j := by unfold edP; rw [List.take_zero, ed_nil, List.length_take]; omega
theorem edP_zeror (a b : Bs) (i : Nat) (h : i ≤ a.length) : edP a b i 0 = i := by unfold edP; rw [List.take_zero, ed_nilr, List.length_take]; omega
theorem edP_step (a b : Bs) (i j : Nat) (hi : i < a.length) (hj : j < b.length) : edP a b (i + 1) (j + 1) = min (min (edP a b i j + (if a.getD i 0 = b.getD j 0 then 0 else 1)) (edP a b i (j + 1) + 1)) (edP a b (i + 1) j + 1) := by
  have e : ∀ (l m : Bs), edD l m = edD l.reverse m.reverse := fun l m => (ed_rev l m).symm
  unfold edP
  rw [e (a.take (i + 1)) (b.take (j + 1)), e (a.take i) (b.take j), e (a.take i) (b.take (j + 1)), e (a.take (i + 1)) (b.take j)]
  rw [List.take_succ_eq_append_getElem hi, List.take_succ_eq_append_getElem hj, List.reverse_append, List.reverse_append]
  simp only [List.reverse_cons, List.reverse_nil, List.nil_append, List.singleton_append]
  rw [ed_cons]
  have e1 : a.getD i 0 = a[i] := by rw [List.getD_eq_getElem?_getD, List.getElem?_eq_getElem hi]; rfl
  have e2 : b.getD j 0 = b[j] := by rw [List.getD_eq_getElem?_getD, List.getElem?_eq_getElem hj]; rfl
  rw [e1, e2]
theorem edP_all (a b : Bs) : edP a b a.length b.length = edD a b := by unfold edP; rw [List.take_length, List.take_length]
end Go.Gv
