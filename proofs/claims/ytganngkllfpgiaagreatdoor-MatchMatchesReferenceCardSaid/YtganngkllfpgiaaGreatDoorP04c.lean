/- The plain law of counted sets. -/
import Derived.Test.YtganngkllfpgiaaGreatDoorP04b
import Derived.Test.YtganngkllfpgiaaGreatDoorC03d
set_option linter.all false
namespace Go.Gv
open Go

theorem insS_out : ∀ {l : List Bs} {x : Bs} (p : Bs → Bool), x ∉ l → ((insS l x).filter p).length = (l.filter p).length + (if p x = true then 1 else 0)
  | [], x, p, _ => by
    unfold insS
    cases h : p x
    · rw [List.filter_cons_of_neg (by simp [h])]; simp
    · rw [List.filter_cons_of_pos (by simp [h])]; simp
  | y :: l, x, p, hx => by
    have hy : ¬ y = x := fun e => hx (by rw [e]; exact List.mem_cons_self)
    have hl : x ∉ l := fun h => hx (List.mem_cons_of_mem _ h)
    unfold insS
    split
    · have ih := insS_out p hl
      cases h : p y
      · rw [List.filter_cons_of_neg (by simp [h]), List.filter_cons_of_neg (by simp [h])]; exact ih
      · rw [List.filter_cons_of_pos (by simp [h]), List.filter_cons_of_pos (by simp [h]), List.length_cons, List.length_cons]; omega
    · try rw [if_neg hy]
      cases h : p x
      · rw [List.filter_cons_of_neg (by simp [h])]; simp
      · rw [List.filter_cons_of_pos (by simp [h]), List.length_cons]; simp
def cntS (p : Bs → Bool) (l : List Bs) : Nat := ((sorS l).filter p).length
def cardS (l : List Bs) : Nat := (sorS l).length
theorem cnt_in {p : Bs → Bool} {l : List Bs} {x : Bs} (h : x ∈ l) : cntS p (l ++ [x]) = cntS p l := by
  unfold cntS
  rw [sorS_eq (a := l ++ [x]) (b := l) fun z => by
    rw [List.mem_append, List.mem_singleton]
    exact ⟨fun e => e.elim id (fun e => e ▸ h), .inl⟩]
theorem cnt_out {p : Bs → Bool} {l : List Bs} {x : Bs} (h : x ∉ l) : cntS p (l ++ [x]) = cntS p l + (if p x = true then 1 else 0) := by
  unfold cntS
  rw [sorS_snoc, insS_out p fun e => h (sorS_mem.1 e)]
theorem card_cnt (l : List Bs) : cardS l = cntS (fun _ => true) l := by
  unfold cardS cntS
  rw [List.filter_eq_self.2 fun _ _ => rfl]
theorem card_in {l : List Bs} {x : Bs} (h : x ∈ l) : cardS (l ++ [x]) = cardS l := by rw [card_cnt, card_cnt, cnt_in h]
theorem card_out {l : List Bs} {x : Bs} (h : x ∉ l) : cardS (l ++ [x]) = cardS l + 1 := by rw [card_cnt, card_cnt, cnt_out h]; rfl
theorem card_le (l : List Bs) : cardS l ≤ l.length := by
  have := sorS_len l []
  simp only [List.length_nil] at this
  exact this
theorem cnt_le (p : Bs → Bool) (l : List Bs) : cntS p l ≤ l.length := Nat.le_trans (List.length_filter_le _ _) (card_le l)
theorem card_nodup {l m : List Bs} (hn : l.Nodup) (h : ∀ z, z ∈ l ↔ z ∈ m) : l.length = cardS m := by
  unfold cardS
  rw [← sorS_eq h, ← merge_sorS hn]
  exact (List.mergeSort_perm l _).length_eq.symm

/-! Maps of texts to booleans. -/
abbrev MB := List (Bs × Bool)
def gtS (m : MB) (z : Bs) : Bool := (@mget (List UInt8) Bool (instDecidableEqDat .str) m z).getD false
theorem mdel_keys (m : MB) (k : Bs) (hn : (keyS m).Nodup) : (keyS (@mdel (List UInt8) Bool (instDecidableEqDat .str) m k)).Nodup ∧ (∀ z, z ∈ keyS (@mdel (List UInt8) Bool (instDecidableEqDat .str) m k) → z ∈ keyS m) ∧ ∀ z, @mget (List UInt8) Bool (instDecidableEqDat .str) (@mdel (List UInt8) Bool (instDecidableEqDat .str) m k) z = if z = k then none else @mget (List UInt8) Bool (instDecidableEqDat .str) m z := by
  induction m with
  | nil => exact ⟨hn, fun _ h => h, fun z => by simp [mdel, mget]⟩
  | cons e m ih =>
    obtain ⟨h1, h2⟩ := List.nodup_cons.1 hn
    have hno : ∀ (m : MB) (z : Bs), z ∉ keyS m → @mget (List UInt8) Bool (instDecidableEqDat .str) m z = none := fun m => by
      induction m with
      | nil => exact fun _ _ => rfl
      | cons e m ih =>
        intro z hz
        unfold mget
        rw [if_neg fun h => hz (by rw [← h]; exact List.mem_cons_self)]
        exact ih z fun h => hz (List.mem_cons_of_mem _ h)
    unfold mdel
    by_cases hk : e.1 = k
    · rw [if_pos hk]
      refine ⟨h2, fun z h => List.mem_cons_of_mem _ h, fun z => ?_⟩
      by_cases h : z = k
      · rw [if_pos h]
        exact hno m z (by rw [h, ← hk]; exact h1)
      · rw [if_neg h]
        conv => rhs; unfold mget
        rw [if_neg fun h3 => h (h3.symm.trans hk)]
    · rw [if_neg hk]
      obtain ⟨i1, i2, i3⟩ := ih h2
      refine ⟨List.nodup_cons.2 ⟨fun h => h1 (i2 _ h), i1⟩, fun z h => ?_, fun z => ?_⟩
      · rcases List.mem_cons.1 h with h | h
        · rw [h]; exact List.mem_cons_self
        · exact List.mem_cons_of_mem _ (i2 z h)
      · conv => lhs; unfold mget
        conv => rhs; unfold mget
        by_cases h : e.1 = z
        · rw [if_pos h, if_pos h, if_neg fun h3 => hk (h.trans h3)]
        · rw [if_neg h, if_neg h]; exact i3 z
theorem gt_mput (m : MB) (k z : Bs) : gtS (@mput (List UInt8) Bool (instDecidableEqDat .str) m k true) z = true ↔ z = k ∨ gtS m z = true := by
  unfold gtS
  rw [mget_mput]
  by_cases h : z = k
  · rw [if_pos h.symm]; simp [h]
  · rw [if_neg fun e => h e.symm]; simp [h]
theorem gt_mdel (m : MB) (k z : Bs) (hn : (keyS m).Nodup) : gtS (@mdel (List UInt8) Bool (instDecidableEqDat .str) m k) z = true ↔ z ≠ k ∧ gtS m z = true := by
  unfold gtS
  rw [(mdel_keys m k hn).2.2]
  by_cases h : z = k
  · rw [if_pos h]; simp [h]
  · rw [if_neg h]; simp [h]
/-- Common elements, all elements, and their share. -/
def bothS (a b : List Bs) : Nat := cntS (fun z => decide (z ∈ a)) b
def jcV (a b : List Bs) : Rt := if cardS (a ++ b) = 0 then rt 1 1 else shV (bothS a b) (cardS (a ++ b))
theorem both_step {a b : List Bs} {k : Nat} (h : k < b.length) : bothS a (b.take (k + 1)) = (if b.getD k [] ∈ b.take k then bothS a (b.take k) else bothS a (b.take k) + (if b.getD k [] ∈ a then 1 else 0)) ∧ cardS (a ++ b.take (k + 1)) = (if b.getD k [] ∈ b.take k ∨ b.getD k [] ∈ a then cardS (a ++ b.take k) else cardS (a ++ b.take k) + 1) := by
  have e : b.take (k + 1) = b.take k ++ [b.getD k []] := by rw [List.take_succ_eq_append_getElem h, getD_ok _ h]
  unfold bothS
  rw [e, ← List.append_assoc]
  constructor
  · split
    · rename_i h1; exact cnt_in h1
    · rename_i h1; rw [cnt_out h1]; simp
  · split
    · rename_i h1
      exact card_in (List.mem_append.2 h1.symm)
    · rename_i h1
      exact card_out fun h2 => h1 (List.mem_append.1 h2).symm
end Go.Gv
