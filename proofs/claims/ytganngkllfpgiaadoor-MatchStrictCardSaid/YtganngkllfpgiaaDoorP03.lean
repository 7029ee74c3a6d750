/- The plain law of chapter 3: words, folded texts, sorted lists. -/
import Derived.Test.YtganngkllfpgiaaDoorC03
import Derived.Lib.Join
set_option linter.all false
namespace Go.Gv
open Go
abbrev Bs := List UInt8
/-- A letter in lower case, a digit, or 0. -/
def lowU (c : UInt8) : UInt8 := byteOf (lowB (c.toNat : Int))
theorem u8_all {p : UInt8 → Prop} (h : ∀ n : Fin 256, p (UInt8.ofNat n.1)) (c : UInt8) : p c := by
  have := h ⟨c.toNat, c.toNat_lt⟩
  simpa using this
set_option maxRecDepth 100000 in
theorem lowU_zero : ∀ c : UInt8, lowB (c.toNat : Int) = 0 ↔ lowU c = 0 := by
  refine u8_all ?_
  decide
set_option maxRecDepth 100000 in
theorem lowU_lowU : ∀ c : UInt8, lowU (lowU c) = lowU c := by
  refine u8_all ?_
  decide
/-- The byte of a word. -/
def wdC (c : UInt8) : Prop := lowU c = c ∧ c ≠ 0
instance (c : UInt8) : Decidable (wdC c) := by unfold wdC; infer_instance
set_option maxRecDepth 100000 in
theorem wdC_iff : ∀ c : UInt8, wdC c ↔ ((97 ≤ c.toNat ∧ c.toNat ≤ 122) ∨ (48 ≤ c.toNat ∧ c.toNat ≤ 57)) := by
  refine u8_all ?_
  decide
theorem lowU_wd {c : UInt8} (h : lowU c ≠ 0) : wdC (lowU c) := ⟨lowU_lowU c, h⟩

/-- The words of a text, behind what is read of a word already. -/
def wordsU : Bs → Bs → List Bs
  | w, [] => if w = [] then [] else [w]
  | w, c :: r => if lowU c = 0 then (if w = [] then wordsU [] r else w :: wordsU [] r) else wordsU (w ++ [lowU c]) r
def Ws (t : Bs) : List Bs := wordsU [] t
theorem words_U : ∀ (t : Bs) (w : List Int), (wordsI w t).map Prod.fst = wordsU (w.map byteOf) t
  | [], w => by
    unfold wordsI wordsU
    cases w <;> simp
  | c :: r, w => by
    unfold wordsI wordsU
    by_cases h : lowU c = 0
    · rw [if_pos h, if_pos ((lowU_zero c).2 h)]
      cases w with
      | nil => simpa using words_U r []
      | cons a w => simpa using words_U r []
    · rw [if_neg h, if_neg (fun e => h ((lowU_zero c).1 e)), words_U r]
      simp [lowU]
theorem words_Ws (t : Bs) : (wordsI [] t).map Prod.fst = Ws t := words_U t []

/-- A word: not empty, of bytes of words. -/
def Wd (x : Bs) : Prop := x ≠ [] ∧ ∀ c ∈ x, wdC c
theorem wordsU_wd : ∀ (t w : Bs), (∀ c ∈ w, wdC c) → ∀ x ∈ wordsU w t, Wd x
  | [], w, h, x, hx => by
    unfold wordsU at hx
    split at hx
    · cases hx
    · rw [List.mem_singleton] at hx; subst hx; exact ⟨by assumption, h⟩
  | c :: r, w, h, x, hx => by
    unfold wordsU at hx
    split at hx
    · split at hx
      · exact wordsU_wd r [] (by simp) x hx
      · rcases List.mem_cons.1 hx with rfl | hx
        · exact ⟨by assumption, h⟩
        · exact wordsU_wd r [] (by simp) x hx
    · rename_i hc
      refine wordsU_wd r _ (fun d hd => ?_) x hx
      rcases List.mem_append.1 hd with hd | hd
      · exact h d hd
      · rw [List.mem_singleton] at hd; subst hd; exact lowU_wd hc
theorem Ws_wd {t x : Bs} (h : x ∈ Ws t) : Wd x := wordsU_wd t [] (by simp) x h
theorem wordsU_sep {c : UInt8} (hc : lowU c = 0) (b : Bs) : ∀ (a w : Bs), wordsU w (a ++ c :: b) = wordsU w a ++ Ws b
  | [], w => by
    show wordsU w (c :: b) = wordsU w [] ++ Ws b
    simp only [wordsU]
    rw [if_pos hc]
    split <;> simp [Ws]
  | d :: a, w => by
    rw [List.cons_append, wordsU, wordsU]
    split
    · split
      · exact wordsU_sep hc b a []
      · rw [wordsU_sep hc b a []]; rfl
    · exact wordsU_sep hc b a _
theorem Ws_sep {c : UInt8} (hc : lowU c = 0) (a b : Bs) : Ws (a ++ c :: b) = Ws a ++ Ws b := wordsU_sep hc b a []
theorem wordsU_one : ∀ (x w : Bs), (∀ c ∈ x, wdC c) → wordsU w x = if w ++ x = [] then [] else [w ++ x]
  | [], w, _ => by rw [wordsU, List.append_nil]
  | c :: x, w, h => by
    have hc := h c List.mem_cons_self
    rw [wordsU, if_neg (by rw [hc.1]; exact hc.2), hc.1, wordsU_one x _ (fun d hd => h d (List.mem_cons_of_mem _ hd))]
    simp
theorem Ws_one {x : Bs} (h : Wd x) : Ws x = [x] := by
  unfold Ws
  rw [wordsU_one x [] h.2, List.nil_append, if_neg h.1]
theorem Ws_nil : Ws [] = [] := rfl
theorem join_two (x y : Bs) (r : List Bs) (sep : Bs) : Lib.join (x :: y :: r) sep = x ++ sep ++ Lib.join (y :: r) sep := by
  rw [Lib.join_cons, Lib.join_cons]
  simp [Lib.joinTail]
theorem Ws_join {c : UInt8} (hc : lowU c = 0) : ∀ (l : List Bs), (∀ x ∈ l, Wd x) → Ws (Lib.join l [c]) = l
  | [], _ => rfl
  | [x], h => by rw [Lib.join_one, Ws_one (h x List.mem_cons_self)]
  | x :: y :: r, h => by
    rw [join_two, List.append_assoc, List.singleton_append, Ws_sep hc, Ws_one (h x List.mem_cons_self), Ws_join hc (y :: r) fun z hz => h z (List.mem_cons_of_mem _ hz)]
    rfl
/-- The folded text. -/
def foldT (t : Bs) : Bs := Lib.join (Ws t) [32]
theorem low32 : lowU 32 = 0 := by decide
theorem Ws_fold (t : Bs) : Ws (foldT t) = Ws t := Ws_join low32 _ fun _ h => Ws_wd h
theorem fold_fold (t : Bs) : foldT (foldT t) = foldT t := by
  show Lib.join (Ws (foldT t)) [32] = _
  rw [Ws_fold]; rfl
theorem fold_len' : ∀ (t w : Bs), (Lib.join (wordsU w t) [32]).length ≤ w.length + t.length
  | [], w => by
    unfold wordsU
    split
    · simp [Lib.join_nil]
    · simp [Lib.join_one]
  | c :: r, w => by
    unfold wordsU
    split
    · have h := fold_len' r []
      split
      · simp only [List.length_cons, List.length_nil] at h ⊢; omega
      · cases hr : wordsU [] r with
        | nil => rw [Lib.join_one]; simp only [List.length_cons]; omega
        | cons y l =>
          rw [hr] at h
          rw [join_two]
          simp only [List.length_append, List.length_cons, List.length_nil] at h ⊢
          omega
    · have h := fold_len' r (w ++ [lowU c])
      simp only [List.length_append, List.length_cons, List.length_nil] at h ⊢
      omega
theorem fold_len (t : Bs) : (foldT t).length ≤ t.length := by
  have := fold_len' t []
  rw [List.length_nil, Nat.zero_add] at this
  exact this
theorem join_ne : ∀ {l : List Bs}, (∀ x ∈ l, Wd x) → l ≠ [] → ∃ c r, Lib.join l [32] = c :: r ∧ wdC c
  | [], _, h => (h rfl).elim
  | x :: l, h, _ => by
    have hx := h x List.mem_cons_self
    rw [Lib.join_cons]
    cases x with
    | nil => exact (hx.1 rfl).elim
    | cons c x => exact ⟨c, _, rfl, hx.2 c List.mem_cons_self⟩
theorem fold_nil {t : Bs} : foldT t = [] ↔ Ws t = [] := by
  constructor
  · intro h
    refine Classical.byContradiction fun hn => ?_
    obtain ⟨c, r, e, _⟩ := join_ne (fun x hx => Ws_wd (t := t) hx) hn
    rw [foldT, e] at h; cases h
  · intro h; rw [foldT, h]; rfl
theorem wd_not32 {c : UInt8} (h : wdC c) : c ≠ 32 := fun e => by subst e; exact absurd h.1 (by decide)
/-- What stands in a folded text. -/
theorem join_chars : ∀ {l : List Bs}, (∀ x ∈ l, Wd x) → ∀ i, i < (Lib.join l [32]).length → wdC ((Lib.join l [32]).getD i 0) ∨ ((Lib.join l [32]).getD i 0 = 32 ∧ 0 < i ∧ i + 1 < (Lib.join l [32]).length ∧ (Lib.join l [32]).getD (i + 1) 0 ≠ 32)
  | [], _, i, hi => by simp [Lib.join_nil] at hi
  | [x], h, i, hi => by
    rw [Lib.join_one] at hi ⊢
    left
    rw [List.getD_eq_getElem?_getD, List.getElem?_eq_getElem hi]
    exact (h x List.mem_cons_self).2 _ (List.getElem_mem hi)
  | x :: y :: r, h, i, hi => by
    have hx := h x List.mem_cons_self
    have hr : ∀ z ∈ y :: r, Wd z := fun z hz => h z (List.mem_cons_of_mem _ hz)
    obtain ⟨c, q, hq, hc⟩ := join_ne hr (by simp)
    have ih := join_chars hr
    rw [join_two, List.append_assoc, List.singleton_append] at hi ⊢
    have hxl : 0 < x.length := List.length_pos_iff.2 hx.1
    rw [List.length_append, List.length_cons] at hi ⊢
    by_cases h1 : i < x.length
    · left
      rw [List.getD_eq_getElem?_getD, List.getElem?_append_left h1, List.getElem?_eq_getElem h1]
      exact hx.2 _ (List.getElem_mem h1)
    · by_cases h2 : i = x.length
      · right
        subst h2
        refine ⟨?_, hxl, by rw [hq, List.length_cons]; omega, ?_⟩
        · rw [List.getD_eq_getElem?_getD, List.getElem?_append_right (Nat.le_refl _), Nat.sub_self]; rfl
        · rw [List.getD_eq_getElem?_getD, List.getElem?_append_right (by omega), show x.length + 1 - x.length = 1 by omega, List.getElem?_cons_succ, hq]
          exact wd_not32 hc
      · obtain ⟨j, rfl⟩ : ∃ j, i = x.length + 1 + j := ⟨i - x.length - 1, by omega⟩
        have e : ∀ k, (x ++ 32 :: Lib.join (y :: r) [32]).getD (x.length + 1 + k) 0 = (Lib.join (y :: r) [32]).getD k 0 := fun k => by
          rw [List.getD_eq_getElem?_getD, List.getElem?_append_right (by omega), show x.length + 1 + k - x.length = k + 1 by omega, List.getElem?_cons_succ, List.getD_eq_getElem?_getD]
        rcases ih j (by omega) with h3 | ⟨h3, h4, h5, h6⟩
        · left; rw [e]; exact h3
        · right
          exact ⟨by rw [e]; exact h3, by omega, by omega, by rw [Nat.add_assoc, e]; exact h6⟩
/-- The words depend on the letters in lower case only. -/
theorem wordsU_map : ∀ (a b w : Bs), a.map lowU = b.map lowU → wordsU w a = wordsU w b
  | [], [], _, _ => rfl
  | [], _ :: _, _, h => by simp at h
  | _ :: _, [], _, h => by simp at h
  | c :: a, d :: b, w, h => by
    rw [List.map_cons, List.map_cons, List.cons.injEq] at h
    rw [wordsU, wordsU, h.1, wordsU_map a b [] h.2, wordsU_map a b _ h.2]

/-! Sorted lists. -/
def incS (l : List Bs) : Prop := l.Pairwise fun a b => a < b
def insS : List Bs → Bs → List Bs
  | [], x => [x]
  | y :: l, x => if y < x then y :: insS l x else if y = x then y :: l else x :: y :: l
def sorS (l : List Bs) : List Bs := l.foldl insS []
theorem bs_irr (a : Bs) : ¬ a < a := List.lt_irrefl a
theorem bs_trans {a b c : Bs} (h : a < b) (k : b < c) : a < c := List.lt_trans h k
theorem bs_tri {a b : Bs} (h : ¬ a < b) (k : a ≠ b) : b < a := by
  rcases Classical.em (b < a) with h1 | h1
  · exact h1
  · exact (k (List.le_antisymm (List.not_lt.1 h1) (List.not_lt.1 h))).elim
theorem insS_mem : ∀ {l : List Bs} {x z : Bs}, z ∈ insS l x ↔ z = x ∨ z ∈ l
  | [], x, z => by simp [insS]
  | y :: l, x, z => by
    unfold insS
    split
    · rw [List.mem_cons, insS_mem, List.mem_cons]
      constructor
      · rintro (h | h | h)
        · exact .inr (.inl h)
        · exact .inl h
        · exact .inr (.inr h)
      · rintro (h | h | h)
        · exact .inr (.inl h)
        · exact .inl h
        · exact .inr (.inr h)
    · split
      · rename_i e; subst e
        simp
      · rw [List.mem_cons]
theorem insS_inc : ∀ {l : List Bs} {x : Bs}, incS l → incS (insS l x)
  | [], x, _ => List.pairwise_singleton _ _
  | y :: l, x, h => by
    obtain ⟨h1, h2⟩ := List.pairwise_cons.1 h
    unfold insS
    split
    · rename_i hc
      refine List.pairwise_cons.2 ⟨fun z hz => ?_, insS_inc h2⟩
      rcases insS_mem.1 hz with rfl | hz
      · exact hc
      · exact h1 z hz
    · split
      · exact h
      · rename_i hc hc2
        have h3 : x < y := bs_tri hc hc2
        refine List.pairwise_cons.2 ⟨fun z hz => ?_, h⟩
        rcases List.mem_cons.1 hz with rfl | hz
        · exact h3
        · exact bs_trans h3 (h1 z hz)
theorem sorS_snoc (l : List Bs) (x : Bs) : sorS (l ++ [x]) = insS (sorS l) x := by unfold sorS; rw [List.foldl_append]; rfl
theorem foldS_inc : ∀ (l : List Bs) {a : List Bs}, incS a → incS (l.foldl insS a)
  | [], _, h => h
  | _ :: l, _, h => foldS_inc l (insS_inc h)
theorem foldS_mem : ∀ (l : List Bs) {a : List Bs} {z : Bs}, z ∈ l.foldl insS a ↔ z ∈ l ∨ z ∈ a
  | [], _, _ => by simp
  | x :: l, a, z => by
    rw [List.foldl_cons, foldS_mem l, insS_mem, List.mem_cons]
    constructor
    · rintro (h | h | h)
      · exact .inl (.inr h)
      · exact .inl (.inl h)
      · exact .inr h
    · rintro ((h | h) | h)
      · exact .inr (.inl h)
      · exact .inl h
      · exact .inr (.inr h)
theorem sorS_inc (l : List Bs) : incS (sorS l) := foldS_inc l List.Pairwise.nil
theorem sorS_mem {l : List Bs} {z : Bs} : z ∈ sorS l ↔ z ∈ l := by
  unfold sorS
  rw [foldS_mem]; simp
theorem inc_uniq : ∀ {a b : List Bs}, incS a → incS b → (∀ z, z ∈ a ↔ z ∈ b) → a = b
  | [], [], _, _, _ => rfl
  | [], y :: b, _, _, h => by have := (h y).2 List.mem_cons_self; cases this
  | x :: a, [], _, _, h => by have := (h x).1 List.mem_cons_self; cases this
  | x :: a, y :: b, ha, hb, h => by
    obtain ⟨a1, a2⟩ := List.pairwise_cons.1 ha
    obtain ⟨b1, b2⟩ := List.pairwise_cons.1 hb
    have e : x = y := by
      rcases List.mem_cons.1 ((h x).1 List.mem_cons_self) with e | e
      · exact e
      · rcases List.mem_cons.1 ((h y).2 List.mem_cons_self) with f | f
        · exact f.symm
        · exact absurd (bs_trans (b1 x e) (a1 y f)) (bs_irr y)
    subst e
    congr 1
    refine inc_uniq a2 b2 fun z => ?_
    constructor
    · intro hz
      rcases List.mem_cons.1 ((h z).1 (List.mem_cons_of_mem _ hz)) with e | e
      · subst e; exact absurd (a1 z hz) (bs_irr z)
      · exact e
    · intro hz
      rcases List.mem_cons.1 ((h z).2 (List.mem_cons_of_mem _ hz)) with e | e
      · subst e; exact absurd (b1 z hz) (bs_irr z)
      · exact e
theorem sorS_self {l : List Bs} (h : incS l) : sorS l = l := inc_uniq (sorS_inc l) h fun _ => sorS_mem
theorem sorS_eq {a b : List Bs} (h : ∀ z, z ∈ a ↔ z ∈ b) : sorS a = sorS b := inc_uniq (sorS_inc a) (sorS_inc b) fun z => by rw [sorS_mem, sorS_mem, h z]
theorem inc_nodup {l : List Bs} (h : incS l) : l.Nodup := h.imp fun h e => by subst e; exact bs_irr _ h
/-- Sorting a list of different texts. -/
theorem merge_sorS {l : List Bs} (h : l.Nodup) : List.mergeSort l (fun (x y : List UInt8) => decide (x ≤ y)) = sorS l := by
  have hp := List.mergeSort_perm l (fun (x y : List UInt8) => decide (x ≤ y))
  have hs := List.pairwise_mergeSort (le := fun (x y : List UInt8) => decide (x ≤ y)) (fun a b c h1 h2 => by
    simp only [decide_eq_true_eq] at *
    exact List.le_trans h1 h2) (fun a b => by
    simp only [Bool.or_eq_true, decide_eq_true_eq]
    exact List.le_total a b) l
  refine inc_uniq ?_ (sorS_inc l) fun z => by rw [sorS_mem, hp.mem_iff]
  have hn : (List.mergeSort l (fun (x y : List UInt8) => decide (x ≤ y))).Nodup := hp.nodup_iff.2 h
  unfold incS
  refine (List.Pairwise.and hs hn).imp fun {a b} h => ?_
  simp only [decide_eq_true_eq] at h
  refine Classical.byContradiction fun hn => ?_
  exact h.2 (List.le_antisymm h.1 (List.not_lt.1 hn))

/-! Keys of a map. -/
def keyS (m : List (Bs × Bool)) : List Bs := m.map Prod.fst
theorem mput_mem (m : List (Bs × Bool)) (k z : Bs) : z ∈ keyS (@mput (List UInt8) Bool (instDecidableEqDat .str) m k true) ↔ z = k ∨ z ∈ keyS m := by
  induction m with
  | nil => simp [keyS, mput]
  | cons e m ih =>
    unfold mput
    split
    · rename_i h; subst h; simp [keyS]
    · simp only [keyS, List.map_cons, List.mem_cons] at ih ⊢
      rw [ih]
      constructor
      · rintro (h | h | h)
        · exact .inr (.inl h)
        · exact .inl h
        · exact .inr (.inr h)
      · rintro (h | h | h)
        · exact .inr (.inl h)
        · exact .inl h
        · exact .inr (.inr h)
theorem mput_key (m : List (Bs × Bool)) (k : Bs) : (∀ z, z ∈ keyS (@mput (List UInt8) Bool (instDecidableEqDat .str) m k true) ↔ z = k ∨ z ∈ keyS m) ∧ ((keyS m).Nodup → (keyS (@mput (List UInt8) Bool (instDecidableEqDat .str) m k true)).Nodup) := by
  refine ⟨mput_mem m k, ?_⟩
  · intro hn
    induction m with
    | nil => simp [keyS, mput]
    | cons e m ih =>
      obtain ⟨h1, h2⟩ := List.nodup_cons.1 hn
      unfold mput
      split
      · exact hn
      · rename_i h
        refine List.nodup_cons.2 ⟨fun hm => ?_, ih h2⟩
        rcases (mput_mem m k _).1 hm with e1 | e1
        · exact h e1
        · exact h1 e1

/-! Elements in common. -/
def comS (a b : List Bs) : Nat := (a.filter fun x => decide (x ∈ b)).length
end Go.Gv
