/- The plain law of pairs: sorted, each once; merged. -/
import Derived.Test.YtganngkllfpgiaaGreatDoorP20
set_option linter.all false
namespace Go.Gv
open Go

def prR (p : Pi2) : Pi2 := [p.getD 0 0, p.getD 1 0]
def ltR (a b : Pi2) : Prop := a.getD 0 0 < b.getD 0 0 ∨ (a.getD 0 0 = b.getD 0 0 ∧ a.getD 1 0 < b.getD 1 0)
instance (a b : Pi2) : Decidable (ltR a b) := inferInstanceAs (Decidable (a.getD 0 0 < b.getD 0 0 ∨ (a.getD 0 0 = b.getD 0 0 ∧ a.getD 1 0 < b.getD 1 0)))
def incR (l : List Pi2) : Prop := l.Pairwise ltR
def twoR (l : List Pi2) : Prop := ∀ p ∈ l, p = prR p
theorem ltR_irr {a : Pi2} : ¬ ltR a a := by unfold ltR; omega
theorem ltR_trans {a b c : Pi2} (h : ltR a b) (k : ltR b c) : ltR a c := by unfold ltR at *; omega
theorem ltR_eq {a b : Pi2} (ha : a = prR a) (hb : b = prR b) (h : ¬ ltR a b) (k : ¬ ltR b a) : a = b := by
  unfold ltR at h k
  rw [ha, hb]
  unfold prR
  rw [show a.getD 0 0 = b.getD 0 0 by omega, show a.getD 1 0 = b.getD 1 0 by omega]
theorem incR_ext : ∀ {l m : List Pi2}, incR l → incR m → (∀ e, e ∈ l ↔ e ∈ m) → l = m
  | [], [], _, _, _ => rfl
  | [], y :: m, _, _, h => absurd ((h y).2 List.mem_cons_self) (by simp)
  | x :: l, [], _, _, h => absurd ((h x).1 List.mem_cons_self) (by simp)
  | x :: l, y :: m, hl, hm, h => by
    obtain ⟨a1, a2⟩ := List.pairwise_cons.1 hl
    obtain ⟨b1, b2⟩ := List.pairwise_cons.1 hm
    have e : x = y := by
      rcases List.mem_cons.1 ((h x).1 List.mem_cons_self) with e | e
      · exact e
      · rcases List.mem_cons.1 ((h y).2 List.mem_cons_self) with e' | e'
        · exact e'.symm
        · exact absurd (ltR_trans (b1 x e) (a1 y e')) ltR_irr
    subst e
    rw [incR_ext a2 b2 fun z => ?_]
    constructor
    · intro hz
      rcases List.mem_cons.1 ((h z).1 (List.mem_cons_of_mem _ hz)) with e | e
      · subst e; exact absurd (a1 z hz) ltR_irr
      · exact e
    · intro hz
      rcases List.mem_cons.1 ((h z).2 (List.mem_cons_of_mem _ hz)) with e | e
      · subst e; exact absurd (b1 z hz) ltR_irr
      · exact e
def insR (p : Pi2) : List Pi2 → List Pi2
  | [] => [p]
  | x :: l => if ltR p x then p :: x :: l else if ltR x p then x :: insR p l else x :: l
theorem insR_mem {p : Pi2} (hp : p = prR p) : ∀ {l : List Pi2}, twoR l → ∀ y, y ∈ insR p l ↔ y = p ∨ y ∈ l
  | [], _, y => by simp [insR]
  | x :: l, h, y => by
    unfold insR
    split
    · exact List.mem_cons
    · rename_i h1
      split
      · rw [List.mem_cons, insR_mem hp (fun q hq => h q (List.mem_cons_of_mem _ hq)), List.mem_cons]
        exact ⟨fun k => k.elim (fun k => .inr (.inl k)) fun k => k.elim .inl fun k => .inr (.inr k), fun k => k.elim (fun k => .inr (.inl k)) fun k => k.elim .inl fun k => .inr (.inr k)⟩
      · rename_i h2
        have e : p = x := ltR_eq hp (h x List.mem_cons_self) h1 h2
        rw [List.mem_cons, e]
        exact ⟨.inr, fun k => k.elim .inl id⟩
theorem insR_inc {p : Pi2} (hp : p = prR p) : ∀ {l : List Pi2}, twoR l → incR l → incR (insR p l)
  | [], _, _ => by simp [insR, incR]
  | x :: l, ht, h => by
    obtain ⟨h1, h2⟩ := List.pairwise_cons.1 h
    have ht2 : twoR l := fun q hq => ht q (List.mem_cons_of_mem _ hq)
    unfold insR
    split
    · rename_i k
      exact List.pairwise_cons.2 ⟨fun y hy => (List.mem_cons.1 hy).elim (fun e => e ▸ k) fun hy => ltR_trans k (h1 y hy), h⟩
    · split
      · rename_i k
        refine List.pairwise_cons.2 ⟨fun y hy => ?_, insR_inc hp ht2 h2⟩
        rcases (insR_mem hp ht2 y).1 hy with rfl | hy
        · exact k
        · exact h1 y hy
      · exact h
def srR (ps : List Pi2) : List Pi2 := ps.foldr insR []
theorem srR_spec : ∀ {ps : List Pi2}, twoR ps → incR (srR ps) ∧ ∀ y, y ∈ srR ps ↔ y ∈ ps
  | [], _ => ⟨List.Pairwise.nil, fun _ => Iff.rfl⟩
  | p :: ps, h => by
    obtain ⟨i1, i2⟩ := srR_spec (ps := ps) fun q hq => h q (List.mem_cons_of_mem _ hq)
    have ht : twoR (srR ps) := fun q hq => h q (List.mem_cons_of_mem _ ((i2 q).1 hq))
    have hp := h p List.mem_cons_self
    exact ⟨insR_inc hp ht i1, fun y => by
      show y ∈ insR p (srR ps) ↔ _
      rw [insR_mem hp ht, i2, List.mem_cons]⟩
theorem srR_two {ps : List Pi2} (h : twoR ps) : twoR (srR ps) := fun q hq => h q (((srR_spec h).2 q).1 hq)
theorem srR_is {ps l : List Pi2} (h : twoR ps) (hl : incR l) (hm : ∀ y, y ∈ l ↔ y ∈ ps) : l = srR ps := incR_ext hl (srR_spec h).1 fun e => by rw [hm, (srR_spec h).2]
theorem srR_short {ps : List Pi2} (h : ps.length < 2) : ps = srR ps := by
  match ps, h with
  | [], _ => rfl
  | [p], _ => rfl
theorem srR_halves {ps : List Pi2} (h : twoR ps) (k : Nat) : srR (srR (ps.take k) ++ srR (ps.drop k)) = srR ps := by
  have h1 : twoR (ps.take k) := fun q hq => h q (List.mem_of_mem_take hq)
  have h2 : twoR (ps.drop k) := fun q hq => h q (List.mem_of_mem_drop hq)
  have h3 : twoR (srR (ps.take k) ++ srR (ps.drop k)) := fun q hq => (List.mem_append.1 hq).elim (srR_two h1 q) (srR_two h2 q)
  refine srR_is h (srR_spec h3).1 fun y => ?_
  rw [(srR_spec h3).2, List.mem_append, (srR_spec h1).2, (srR_spec h2).2, ← List.mem_append, List.take_append_drop]
theorem srR_len {ps : List Pi2} : (srR ps).length ≤ ps.length := by
  have hi : ∀ (p : Pi2) (l : List Pi2), (insR p l).length ≤ l.length + 1 := fun p l => by
    induction l with
    | nil => simp [insR]
    | cons x l ih =>
      unfold insR
      split
      · simp
      · split
        · simp; omega
        · simp
  induction ps with
  | nil => exact Nat.le_refl _
  | cons p ps ih =>
    have := hi p (srR ps)
    show (insR p (srR ps)).length ≤ _
    rw [List.length_cons]; omega
/-- Two lists in the midst of being merged. -/
structure BInv (a0 b0 a b o : List Pi2) : Prop where
  ia : incR a
  ib : incR b
  ta : twoR a
  tb : twoR b
  io : incR o
  lt : ∀ x ∈ o, ∀ y, y ∈ a ∨ y ∈ b → ltR x y
  mem : ∀ y, (y ∈ o ∨ y ∈ a ∨ y ∈ b) ↔ (y ∈ a0 ∨ y ∈ b0)
  len : o.length + a.length + b.length ≤ a0.length + b0.length
theorem BInv.start {a b : List Pi2} (ha : incR a) (hb : incR b) (ta : twoR a) (tb : twoR b) : BInv a b a b [] := ⟨ha, hb, ta, tb, List.Pairwise.nil, fun _ h => (by cases h), fun y => ⟨fun h => h.elim (fun h => (by cases h)) id, .inr⟩, by simp⟩
theorem BInv.done {a0 b0 o : List Pi2} (h : BInv a0 b0 [] [] o) (ta : twoR a0) (tb : twoR b0) : o = srR (a0 ++ b0) := by
  refine srR_is (fun q hq => (List.mem_append.1 hq).elim (ta q) (tb q)) h.io fun y => ?_
  rw [List.mem_append, ← h.mem]
  simp
theorem incR_snoc {o : List Pi2} {x : Pi2} (h : incR o) (hx : ∀ y ∈ o, ltR y x) : incR (o ++ [x]) := List.pairwise_append.2 ⟨h, List.pairwise_singleton _ _, fun y hy z hz => by rw [List.mem_singleton.1 hz]; exact hx y hy⟩
theorem consR_of {a : List Pi2} (h : 0 < a.length) : a = a.getD 0 (List.replicate 2 (0 : Int)) :: a.drop 1 := by
  cases a with
  | nil => simp at h
  | cons x a => rfl
theorem BInv.left {a0 b0 a b o : List Pi2} (h : BInv a0 b0 a b o) (ha : 0 < a.length) (hb : 0 < b.length → ltR (a.getD 0 (List.replicate 2 (0 : Int))) (b.getD 0 (List.replicate 2 (0 : Int)))) : BInv a0 b0 (a.drop 1) b (o ++ [a.getD 0 (List.replicate 2 (0 : Int))]) := by
  have e := consR_of ha
  have hia := h.ia
  have hta := h.ta
  have hm := h.mem
  have hlt := h.lt
  have hl := h.len
  rw [e] at hia hta hm hlt
  obtain ⟨p1, p2⟩ := List.pairwise_cons.1 hia
  refine ⟨p2, h.ib, fun q hq => hta q (List.mem_cons_of_mem _ hq), h.tb, incR_snoc h.io fun y hy => hlt y hy _ (.inl List.mem_cons_self), fun x hx y hy => ?_, fun y => ?_, by rw [List.length_append, List.length_drop]; simp; omega⟩
  · rcases List.mem_append.1 hx with hx | hx
    · exact hlt x hx y (hy.imp (List.mem_cons_of_mem _) id)
    · rw [List.mem_singleton.1 hx]
      rcases hy with hy | hy
      · exact p1 y hy
      · have hbl : 0 < b.length := List.length_pos_of_mem hy
        have hib := h.ib
        have hlt := hb hbl
        have eb := consR_of hbl
        rw [eb] at hib hy
        rcases List.mem_cons.1 hy with hy | hy
        · rw [hy]; exact hlt
        · exact ltR_trans hlt ((List.pairwise_cons.1 hib).1 y hy)
  · rw [← hm y, List.mem_append, List.mem_singleton, List.mem_cons]
    constructor
    · rintro ((k | k) | k | k)
      · exact .inl k
      · exact .inr (.inl (.inl k))
      · exact .inr (.inl (.inr k))
      · exact .inr (.inr k)
    · rintro (k | (k | k) | k)
      · exact .inl (.inl k)
      · exact .inl (.inr k)
      · exact .inr (.inl k)
      · exact .inr (.inr k)
theorem BInv.swap {a0 b0 a b o : List Pi2} (h : BInv a0 b0 a b o) : BInv b0 a0 b a o := ⟨h.ib, h.ia, h.tb, h.ta, h.io, fun x hx y hy => h.lt x hx y hy.symm, fun y => by rw [Or.comm (a := y ∈ b0), ← h.mem y, Or.comm (a := y ∈ b)], by have := h.len; omega⟩
theorem BInv.right {a0 b0 a b o : List Pi2} (h : BInv a0 b0 a b o) (hb : 0 < b.length) (ha : 0 < a.length → ltR (b.getD 0 (List.replicate 2 (0 : Int))) (a.getD 0 (List.replicate 2 (0 : Int)))) : BInv a0 b0 a (b.drop 1) (o ++ [b.getD 0 (List.replicate 2 (0 : Int))]) := (h.swap.left hb ha).swap
theorem BInv.same {a0 b0 a b o : List Pi2} (h : BInv a0 b0 a b o) (ha : 0 < a.length) (hb : 0 < b.length) (h1 : ¬ ltR (a.getD 0 (List.replicate 2 (0 : Int))) (b.getD 0 (List.replicate 2 (0 : Int)))) (h2 : ¬ ltR (b.getD 0 (List.replicate 2 (0 : Int))) (a.getD 0 (List.replicate 2 (0 : Int)))) : BInv a0 b0 (a.drop 1) (b.drop 1) (o ++ [a.getD 0 (List.replicate 2 (0 : Int))]) := by
  have ea := consR_of ha
  have eb := consR_of hb
  have e : a.getD 0 (List.replicate 2 (0 : Int)) = b.getD 0 (List.replicate 2 (0 : Int)) := ltR_eq (h.ta _ (by rw [ea]; exact List.mem_cons_self)) (h.tb _ (by rw [eb]; exact List.mem_cons_self)) h1 h2
  have hib := h.ib
  have htb := h.tb
  have hm := h.mem
  have hlt := h.lt
  have hl := h.len
  rw [eb] at hib htb hm hlt
  obtain ⟨p1, p2⟩ := List.pairwise_cons.1 hib
  have h3 : BInv a0 b0 a (b.drop 1) o := ⟨h.ia, p2, h.ta, fun q hq => htb q (List.mem_cons_of_mem _ hq), h.io, fun x hx y hy => hlt x hx y (hy.imp id (List.mem_cons_of_mem _)), fun y => by
    rw [← hm y, List.mem_cons]
    constructor
    · rintro (k | k | k)
      · exact .inl k
      · exact .inr (.inl k)
      · exact .inr (.inr (.inr k))
    · rintro (k | k | k | k)
      · exact .inl k
      · exact .inr (.inl k)
      · rw [k, ← e, ea]; exact .inr (.inl List.mem_cons_self)
      · exact .inr (.inr k), by rw [List.length_drop]; omega⟩
  refine h3.left ha fun hb2 => ?_
  rw [e]
  have hd : (b.drop 1).getD 0 (List.replicate 2 (0 : Int)) ∈ b.drop 1 := by
    rw [List.getD_eq_getElem?_getD, List.getElem?_eq_getElem hb2]; exact List.getElem_mem hb2
  exact p1 _ hd
/-- Edges of sorted pairs. -/
def edF (W : Int → Int → Int) (l : List Pi2) : List Ed := (l.map (edO W)).filter fun e => decide (e.2.2.1 ≠ 0)
theorem edF_snoc {W : Int → Int → Int} {l : List Pi2} {p : Pi2} : edF W (l ++ [p]) = edF W l ++ (if W (p.getD 0 0) (p.getD 1 0) ≠ 0 then [edO W p] else []) := by
  unfold edF
  rw [List.map_append, List.filter_append]
  congr 1
  by_cases h : W (p.getD 0 0) (p.getD 1 0) ≠ 0
  · rw [if_pos h, List.map_singleton, List.filter_cons_of_pos (by simpa [edO] using h)]; rfl
  · rw [if_neg h, List.map_singleton, List.filter_cons_of_neg (by simpa [edO] using h)]; rfl
theorem edF_is {W : Int → Int → Int} {ps : List Pi2} (h : twoR ps) : edF W (srR ps) = edS W ps := by
  refine incE_ext ?_ (edS_spec W ps).1 fun e => ?_
  · unfold edF incE
    refine List.Pairwise.filter _ ?_
    rw [List.pairwise_map]
    refine List.Pairwise.imp (R := ltR) (fun {a b} hab => ?_) (srR_spec h).1
    exact cmpE_lt.2 hab
  · rw [(edS_spec W ps).2]
    unfold edF
    rw [List.mem_filter, List.mem_map, decide_eq_true_eq]
    exact ⟨fun ⟨⟨p, hp, he⟩, hz⟩ => ⟨⟨p, ((srR_spec h).2 p).1 hp, he.symm⟩, hz⟩, fun ⟨⟨p, hp, he⟩, hz⟩ => ⟨⟨p, ((srR_spec h).2 p).2 hp, he.symm⟩, hz⟩⟩
end Go.Gv
