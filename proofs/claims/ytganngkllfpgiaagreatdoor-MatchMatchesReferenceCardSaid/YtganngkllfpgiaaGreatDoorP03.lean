/- The plain law of chapter 3: words, folded texts, sorted lists. -/
import Derived.Test.YtganngkllfpgiaaGreatDoorC03
import Derived.Lib.Join
set_option linter.all false
namespace Go.Gv
open Go
abbrev Bs := List UInt8
/-- A letter in lower case, a digit, or 0. -/
def lowU (c : UInt8) : UInt8 := byteOf (lowB (c.toNat : Int))
theorem u8_all {p : UInt8 → Prop} (h : ∀ n : Fin 256, p (UInt8.ofNat n.1)) (c : UInt8) : p c := by
  have := h ⟨c.toNat, c.toNat_lt⟩
  simpa using this
set_option maxRecDepth 100000 in
theorem lowU_zero : ∀ c : UInt8, lowB (c.toNat : Int) = 0 ↔ lowU c = 0 := by
  refine u8_all ?_
  decide
/-- The byte of a word. -/
def wdC (c : UInt8) : Prop := lowU c = c ∧ c ≠ 0
instance (c : UInt8) : Decidable (wdC c) := by unfold wdC; infer_instance
/-- The words of a text, behind what is read of a word already. -/
def wordsU : Bs → Bs → List Bs
  | w, [] => if w = [] then [] else [w]
  | w, c :: r => if lowU c = 0 then (if w = [] then wordsU [] r else w :: wordsU [] r) else wordsU (w ++ [lowU c]) r
def Ws (t : Bs) : List Bs := wordsU [] t
theorem words_U : ∀ (t : Bs) (w : List Int), (wordsI w t).map Prod.fst = wordsU (w.map byteOf) t
  | [], w => by
    unfold wordsI wordsU
    cases w <;> simp
  | c :: r, w => by
    unfold wordsI wordsU
    by_cases h : lowU c = 0
    · rw [if_pos h, if_pos ((lowU_zero c).2 h)]
      cases w with
      | nil => simpa using words_U r []
      | cons a w => simpa using words_U r []
    · rw [if_neg h, if_neg (fun e => h ((lowU_zero c).1 e)), words_U r]
      simp [lowU]
theorem words_Ws (t : Bs) : (wordsI [] t).map Prod.fst = Ws t := words_U t []

/-- A word: not empty, of bytes of words. -/
def Wd (x : Bs) : Prop := x ≠ [] ∧ ∀ c ∈ x, wdC c
theorem wordsU_sep {c : UInt8} (hc : lowU c = 0) (b : Bs) : ∀ (a w : Bs), wordsU w (a ++ c :: b) = wordsU w a ++ Ws b
  | [], w => by
    show wordsU w (c :: b) = wordsU w [] ++ Ws b
    simp only [wordsU]
    rw [if_pos hc]
    split <;> simp [Ws]
  | d :: a, w => by
    rw [List.cons_append, wordsU, wordsU]
    split
    · split
      · exact wordsU_sep hc b a []
      · rw [wordsU_sep hc b a []]; rfl
    · exact wordsU_sep hc b a _
theorem join_two (x y : Bs) (r : List Bs) (sep : Bs) : Lib.join (x :: y :: r) sep = x ++ sep ++ Lib.join (y :: r) sep := by
  rw [Lib.join_cons, Lib.join_cons]
  simp [Lib.joinTail]
/-- The folded text. -/
def foldT (t : Bs) : Bs := Lib.join (Ws t) [32]
theorem fold_len' : ∀ (t w : Bs), (Lib.join (wordsU w t) [32]).length ≤ w.length + t.length
  | [], w => by
    unfold wordsU
    split
    · simp [Lib.join_nil]
    · simp [Lib.join_one]
  | c :: r, w => by
    unfold wordsU
    split
    · have h := fold_len' r []
      split
      · simp only [List.length_cons, List.length_nil] at h ⊢; omega
      · cases hr : wordsU [] r with
        | nil => rw [Lib.join_one]; simp only [List.length_cons]; omega
        | cons y l =>
          rw [hr] at h
          rw [join_two]
          simp only [List.length_append, List.length_cons, List.length_nil] at h ⊢
          omega
    · have h := fold_len' r (w ++ [lowU c])
      simp only [List.length_append, List.length_cons, List.length_nil] at h ⊢
      omega
theorem fold_len (t : Bs) : (foldT t).length ≤ t.length := by
  have := fold_len' t []
  rw [List.length_nil, Nat.zero_add] at this
  exact this
/-! Sorted lists. -/
def incS (l : List Bs) : Prop := l.Pairwise fun a b => a < b
def insS : List Bs → Bs → List Bs
  | [], x => [x]
  | y :: l, x => if y < x then y :: insS l x else if y = x then y :: l else x :: y :: l
def sorS (l : List Bs) : List Bs := l.foldl insS []
theorem bs_irr (a : Bs) : ¬ a < a := List.lt_irrefl a
theorem bs_trans {a b c : Bs} (h : a < b) (k : b < c) : a < c := List.lt_trans h k
theorem bs_tri {a b : Bs} (h : ¬ a < b) (k : a ≠ b) : b < a := by
  rcases Classical.em (b < a) with h1 | h1
  · exact h1
  · exact (k (List.le_antisymm (List.not_lt.1 h1) (List.not_lt.1 h))).elim
theorem insS_mem : ∀ {l : List Bs} {x z : Bs}, z ∈ insS l x ↔ z = x ∨ z ∈ l
  | [], x, z => by simp [insS]
  | y :: l, x, z => by
    unfold insS
    split
    · rw [List.mem_cons, insS_mem, List.mem_cons]
      constructor
      · rintro (h | h | h)
        · exact .inr (.inl h)
        · exact .inl h
        · exact .inr (.inr h)
      · rintro (h | h | h)
        · exact .inr (.inl h)
        · exact .inl h
        · exact .inr (.inr h)
    · split
      · rename_i e; subst e
        simp
      · rw [List.mem_cons]
theorem insS_inc : ∀ {l : List Bs} {x : Bs}, incS l → incS (insS l x)
  | [], x, _ => List.pairwise_singleton _ _
  | y :: l, x, h => by
    obtain ⟨h1, h2⟩ := List.pairwise_cons.1 h
    unfold insS
    split
    · rename_i hc
      refine List.pairwise_cons.2 ⟨fun z hz => ?_, insS_inc h2⟩
      rcases insS_mem.1 hz with rfl | hz
      · exact hc
      · exact h1 z hz
    · split
      · exact h
      · rename_i hc hc2
        have h3 : x < y := bs_tri hc hc2
        refine List.pairwise_cons.2 ⟨fun z hz => ?_, h⟩
        rcases List.mem_cons.1 hz with rfl | hz
        · exact h3
        · exact bs_trans h3 (h1 z hz)
theorem sorS_snoc (l : List Bs) (x : Bs) : sorS (l ++ [x]) = insS (sorS l) x := by unfold sorS; rw [List.foldl_append]; rfl
theorem foldS_inc : ∀ (l : List Bs) {a : List Bs}, incS a → incS (l.foldl insS a)
  | [], _, h => h
  | _ :: l, _, h => foldS_inc l (insS_inc h)
theorem foldS_mem : ∀ (l : List Bs) {a : List Bs} {z : Bs}, z ∈ l.foldl insS a ↔ z ∈ l ∨ z ∈ a
  | [], _, _ => by simp
  | x :: l, a, z => by
    rw [List.foldl_cons, foldS_mem l, insS_mem, List.mem_cons]
    constructor
    · rintro (h | h | h)
      · exact .inl (.inr h)
      · exact .inl (.inl h)
      · exact .inr h
    · rintro ((h | h) | h)
      · exact .inr (.inl h)
      · exact .inl h
      · exact .inr (.inr h)
theorem sorS_inc (l : List Bs) : incS (sorS l) := foldS_inc l List.Pairwise.nil
theorem sorS_mem {l : List Bs} {z : Bs} : z ∈ sorS l ↔ z ∈ l := by
  unfold sorS
  rw [foldS_mem]; simp
theorem inc_uniq : ∀ {a b : List Bs}, incS a → incS b → (∀ z, z ∈ a ↔ z ∈ b) → a = b
  | [], [], _, _, _ => rfl
  | [], y :: b, _, _, h => by have := (h y).2 List.mem_cons_self; cases this
  | x :: a, [], _, _, h => by have := (h x).1 List.mem_cons_self; cases this
  | x :: a, y :: b, ha, hb, h => by
    obtain ⟨a1, a2⟩ := List.pairwise_cons.1 ha
    obtain ⟨b1, b2⟩ := List.pairwise_cons.1 hb
    have e : x = y := by
      rcases List.mem_cons.1 ((h x).1 List.mem_cons_self) with e | e
      · exact e
      · rcases List.mem_cons.1 ((h y).2 List.mem_cons_self) with f | f
        · exact f.symm
        · exact absurd (bs_trans (b1 x e) (a1 y f)) (bs_irr y)
    subst e
    congr 1
    refine inc_uniq a2 b2 fun z => ?_
    constructor
    · intro hz
      rcases List.mem_cons.1 ((h z).1 (List.mem_cons_of_mem _ hz)) with e | e
      · subst e; exact absurd (a1 z hz) (bs_irr z)
      · exact e
    · intro hz
      rcases List.mem_cons.1 ((h z).2 (List.mem_cons_of_mem _ hz)) with e | e
      · subst e; exact absurd (b1 z hz) (bs_irr z)
      · exact e
theorem sorS_eq {a b : List Bs} (h : ∀ z, z ∈ a ↔ z ∈ b) : sorS a = sorS b := inc_uniq (sorS_inc a) (sorS_inc b) fun z => by rw [sorS_mem, sorS_mem, h z]
theorem inc_nodup {l : List Bs} (h : incS l) : l.Nodup := h.imp fun h e => by subst e; exact bs_irr _ h
/-- Sorting a list of different texts. -/
theorem merge_sorS {l : List Bs} (h : l.Nodup) : List.mergeSort l (fun (x y : List UInt8) => decide (x ≤ y)) = sorS l := by
  have hp := List.mergeSort_perm l (fun (x y : List UInt8) => decide (x ≤ y))
  have hs := List.pairwise_mergeSort (le := fun (x y : List UInt8) => decide (x ≤ y)) (fun a b c h1 h2 => by
    simp only [decide_eq_true_eq] at *
    exact List.le_trans h1 h2) (fun a b => by
    simp only [Bool.or_eq_true, decide_eq_true_eq]
    exact List.le_total a b) l
  refine inc_uniq ?_ (sorS_inc l) fun z => by rw [sorS_mem, hp.mem_iff]
  have hn : (List.mergeSort l (fun (x y : List UInt8) => decide (x ≤ y))).Nodup := hp.nodup_iff.2 h
  unfold incS
  refine (List.Pairwise.and hs hn).imp fun {a b} h => ?_
  simp only [decide_eq_true_eq] at h
  refine Classical.byContradiction fun hn => ?_
  exact h.2 (List.le_antisymm h.1 (List.not_lt.1 hn))

/-! Keys of a map. -/
def keyS (m : List (Bs × Bool)) : List Bs := m.map Prod.fst
theorem mput_mem (m : List (Bs × Bool)) (k z : Bs) : z ∈ keyS (@mput (List UInt8) Bool (instDecidableEqDat .str) m k true) ↔ z = k ∨ z ∈ keyS m := by
  induction m with
  | nil => simp [keyS, mput]
  | cons e m ih =>
    unfold mput
    split
    · rename_i h; subst h; simp [keyS]
    · simp only [keyS, List.map_cons, List.mem_cons] at ih ⊢
      rw [ih]
      constructor
      · rintro (h | h | h)
        · exact .inr (.inl h)
        · exact .inl h
        · exact .inr (.inr h)
      · rintro (h | h | h)
        · exact .inr (.inl h)
        · exact .inl h
        · exact .inr (.inr h)
theorem mput_key (m : List (Bs × Bool)) (k : Bs) : (∀ z, z ∈ keyS (@mput (List UInt8) Bool (instDecidableEqDat .str) m k true) ↔ z = k ∨ z ∈ keyS m) ∧ ((keyS m).Nodup → (keyS (@mput (List UInt8) Bool (instDecidableEqDat .str) m k true)).Nodup) := by
  refine ⟨mput_mem m k, ?_⟩
  · intro hn
    induction m with
    | nil => simp [keyS, mput]
    | cons e m ih =>
      obtain ⟨h1, h2⟩ := List.nodup_cons.1 hn
      unfold mput
      split
      · exact hn
      · rename_i h
        refine List.nodup_cons.2 ⟨fun hm => ?_, ih h2⟩
        rcases (mput_mem m k _).1 hm with e1 | e1
        · exact h e1
        · exact h1 e1

/-! Elements in common. -/
def comS (a b : List Bs) : Nat := (a.filter fun x => decide (x ∈ b)).length
end Go.Gv
