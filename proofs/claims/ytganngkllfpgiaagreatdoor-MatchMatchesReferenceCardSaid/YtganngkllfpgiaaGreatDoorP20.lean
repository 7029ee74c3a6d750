/- The plain law of edges: pairs with weights, sorted, each once. -/
import Derived.Test.YtganngkllfpgiaaGreatDoorB0
set_option linter.all false
namespace Go.Gv
open Go

abbrev Ed := Int × Int × Int × Unit
abbrev Pi2 := List Int
def cmpI (x y : Int) : Int := if x < y then -1 else if y < x then 1 else 0
def cmpE (x y : Ed) : Int := if cmpI x.1 y.1 = 0 then cmpI x.2.1 y.2.1 else cmpI x.1 y.1
theorem cmpE_lt {x y : Ed} : cmpE x y < 0 ↔ (x.1 < y.1 ∨ (x.1 = y.1 ∧ x.2.1 < y.2.1)) := by
  unfold cmpE cmpI
  rcases Int.lt_trichotomy x.1 y.1 with h | h | h <;> rcases Int.lt_trichotomy x.2.1 y.2.1 with k | k | k <;> simp [*] <;> omega
theorem cmpE_self (x : Ed) : ¬ cmpE x x < 0 := by rw [cmpE_lt]; omega
theorem cmpE_trans {x y z : Ed} (h : cmpE x y < 0) (k : cmpE y z < 0) : cmpE x z < 0 := by rw [cmpE_lt] at *; omega
theorem cmpE_ntrans {x y z : Ed} (h : ¬ cmpE x y < 0) (k : ¬ cmpE y z < 0) : ¬ cmpE x z < 0 := by rw [cmpE_lt] at *; omega
/-- Strictly increasing. -/
def incE (l : List Ed) : Prop := l.Pairwise fun x y => cmpE x y < 0
def distE (l : List Ed) : Prop := l.Pairwise fun x y => ¬ (x.1 = y.1 ∧ x.2.1 = y.2.1)
def leE (a b : Ed) : Bool := decide (¬ cmpE b a < 0)
def sortE (l : List Ed) : List Ed := l.mergeSort leE
theorem distE_inj : ∀ {l : List Ed} {a b : Ed}, distE l → a ∈ l → b ∈ l → (a.1 = b.1 ∧ a.2.1 = b.2.1) → a = b
  | [], _, _, _, h, _, _ => by cases h
  | x :: l, a, b, h, ha, hb, e => by
    obtain ⟨h1, h2⟩ := List.pairwise_cons.1 h
    rcases List.mem_cons.1 ha with ha | ha <;> rcases List.mem_cons.1 hb with hb | hb
    · rw [ha, hb]
    · subst ha; exact absurd e (h1 b (by assumption))
    · subst hb; exact absurd ⟨e.1.symm, e.2.symm⟩ (h1 a (by assumption))
    · exact distE_inj h2 ha hb e
theorem sortE_perm (l : List Ed) : (sortE l).Perm l := List.mergeSort_perm l leE
theorem sortE_sorted (l : List Ed) : (sortE l).Pairwise fun a b => ¬ cmpE b a < 0 := by
  have := List.pairwise_mergeSort (le := leE) (fun a b c h1 h2 => by
    simp only [leE, decide_eq_true_eq] at *
    exact cmpE_ntrans h2 h1) (fun a b => by
    simp only [leE, Bool.or_eq_true, decide_eq_true_eq, cmpE_lt]
    omega) l
  exact this.imp fun h => by simpa [leE] using h
theorem sortE_uniq {xs ys : List Ed} (hd : distE xs) (hp : ys.Perm xs) (hs : ys.Pairwise fun a b => ¬ cmpE b a < 0) : ys = sortE xs := by
  refine List.Perm.eq_of_pairwise (le := fun a b => ¬ cmpE b a < 0) (fun a b ha hb h1 h2 => ?_) hs (sortE_sorted xs) (hp.trans (sortE_perm xs).symm)
  exact distE_inj hd (hp.mem_iff.1 ha) ((sortE_perm xs).mem_iff.1 hb) (by rw [cmpE_lt] at h1 h2; omega)
theorem distE_perm {l m : List Ed} (h : l.Perm m) (hd : distE l) : distE m := hd.perm h fun h e => h ⟨e.1.symm, e.2.symm⟩
theorem sortE_inc {l : List Ed} (hd : distE l) : incE (sortE l) := by
  have h1 := sortE_sorted l
  have h2 : distE (sortE l) := distE_perm (sortE_perm l).symm hd
  exact (List.pairwise_and_iff.2 ⟨h1, h2⟩).imp fun {a b} h => by
    have h3 := h.1
    have h4 := h.2
    rw [cmpE_lt] at *
    omega
theorem incE_ext : ∀ {l m : List Ed}, incE l → incE m → (∀ e, e ∈ l ↔ e ∈ m) → l = m
  | [], [], _, _, _ => rfl
  | [], y :: m, _, _, h => absurd ((h y).2 List.mem_cons_self) (by simp)
  | x :: l, [], _, _, h => absurd ((h x).1 List.mem_cons_self) (by simp)
  | x :: l, y :: m, hl, hm, h => by
    obtain ⟨a1, a2⟩ := List.pairwise_cons.1 hl
    obtain ⟨b1, b2⟩ := List.pairwise_cons.1 hm
    have e : x = y := by
      rcases List.mem_cons.1 ((h x).1 List.mem_cons_self) with e | e
      · exact e
      · rcases List.mem_cons.1 ((h y).2 List.mem_cons_self) with e' | e'
        · exact e'.symm
        · exact absurd (cmpE_trans (b1 x e) (a1 y e')) (cmpE_self y)
    subst e
    rw [incE_ext a2 b2 fun z => ?_]
    constructor
    · intro hz
      rcases List.mem_cons.1 ((h z).1 (List.mem_cons_of_mem _ hz)) with e | e
      · subst e; exact absurd (a1 z hz) (cmpE_self z)
      · exact e
    · intro hz
      rcases List.mem_cons.1 ((h z).2 (List.mem_cons_of_mem _ hz)) with e | e
      · subst e; exact absurd (b1 z hz) (cmpE_self z)
      · exact e

/-- The edge of a pair. -/
def edO (W : Int → Int → Int) (p : Pi2) : Ed := (p.getD 0 0, p.getD 1 0, W (p.getD 0 0) (p.getD 1 0), ())
def insE (e : Ed) : List Ed → List Ed
  | [] => [e]
  | x :: l => if cmpE e x < 0 then e :: x :: l else if cmpE x e < 0 then x :: insE e l else x :: l
def edS (W : Int → Int → Int) (ps : List Pi2) : List Ed := ((ps.map (edO W)).filter fun e => decide (e.2.2.1 ≠ 0)).foldr insE []
theorem insE_inc {e : Ed} : ∀ {l : List Ed}, incE l → incE (insE e l)
  | [], _ => by simp [insE, incE]
  | x :: l, h => by
    obtain ⟨h1, h2⟩ := List.pairwise_cons.1 h
    unfold insE
    split
    · rename_i k
      exact List.pairwise_cons.2 ⟨fun y hy => (List.mem_cons.1 hy).elim (fun e => e ▸ k) fun hy => cmpE_trans k (h1 y hy), h⟩
    · split
      · rename_i k
        refine List.pairwise_cons.2 ⟨fun y hy => ?_, insE_inc h2⟩
        have : ∀ {l : List Ed} {y : Ed}, y ∈ insE e l → y = e ∨ y ∈ l := fun {l} => by
          induction l with
          | nil => intro y hy; simp [insE] at hy; exact .inl hy
          | cons z l ih =>
            intro y hy
            unfold insE at hy
            split at hy
            · exact List.mem_cons.1 hy
            · split at hy
              · rcases List.mem_cons.1 hy with hy | hy
                · exact .inr (hy ▸ List.mem_cons_self)
                · exact (ih hy).imp id (List.mem_cons_of_mem _)
              · exact .inr hy
        rcases this hy with rfl | hy
        · exact k
        · exact h1 y hy
      · exact h
theorem insE_mem {e : Ed} {f : Ed → Prop} (hf : ∀ a b, f a → f b → a.1 = b.1 ∧ a.2.1 = b.2.1 → a = b) (he : f e) : ∀ {l : List Ed}, (∀ x ∈ l, f x) → ∀ y, y ∈ insE e l ↔ y = e ∨ y ∈ l
  | [], _, y => by simp [insE]
  | x :: l, h, y => by
    unfold insE
    split
    · exact List.mem_cons
    · split
      · rw [List.mem_cons, insE_mem hf he (fun x hx => h x (List.mem_cons_of_mem _ hx)) y, List.mem_cons]
        constructor
        · rintro (h | h | h)
          · exact .inr (.inl h)
          · exact .inl h
          · exact .inr (.inr h)
        · rintro (h | h | h)
          · exact .inr (.inl h)
          · exact .inl h
          · exact .inr (.inr h)
      · rename_i h1 h2
        have : e = x := hf e x he (h x List.mem_cons_self) (by rw [cmpE_lt] at h1 h2; omega)
        subst this
        exact ⟨.inr, fun h => h.elim (fun e => e ▸ List.mem_cons_self) id⟩
theorem edS_spec (W : Int → Int → Int) (ps : List Pi2) : incE (edS W ps) ∧ ∀ e, e ∈ edS W ps ↔ (∃ p ∈ ps, e = edO W p) ∧ e.2.2.1 ≠ 0 := by
  have key : ∀ l : List Ed, (∀ x ∈ l, x.2.2.1 = W x.1 x.2.1) → incE (l.foldr insE []) ∧ ∀ e, e ∈ l.foldr insE [] ↔ e ∈ l := fun l => by
    induction l with
    | nil => exact fun _ => ⟨by simp [incE], fun _ => Iff.rfl⟩
    | cons x l ih =>
      intro h
      obtain ⟨h1, h2⟩ := ih fun y hy => h y (List.mem_cons_of_mem _ hy)
      refine ⟨insE_inc h1, fun e => ?_⟩
      rw [List.foldr_cons, insE_mem (f := fun x => x.2.2.1 = W x.1 x.2.1) (fun a b ha hb e => ?_) (h x List.mem_cons_self) (fun y hy => h y (List.mem_cons_of_mem _ ((h2 y).1 hy))), h2, List.mem_cons]
      obtain ⟨a1, a2, a3, ⟨⟩⟩ := a
      obtain ⟨b1, b2, b3, ⟨⟩⟩ := b
      dsimp only at *
      rw [ha, hb, e.1, e.2]
  have := key ((ps.map (edO W)).filter fun e => decide (e.2.2.1 ≠ 0)) fun x hx => by
    obtain ⟨p, _, rfl⟩ := List.mem_map.1 (List.mem_filter.1 hx).1
    rfl
  refine ⟨this.1, fun e => ?_⟩
  unfold edS
  rw [this.2, List.mem_filter, List.mem_map, decide_eq_true_eq]
  exact and_congr_left fun _ => ⟨fun ⟨p, hp, e⟩ => ⟨p, hp, e.symm⟩, fun ⟨p, hp, e⟩ => ⟨p, hp, e.symm⟩⟩
/-- Whatever lists of different pairs' edges is sorted to the edges. -/
theorem edS_of {W : Int → Int → Int} {ps : List Pi2} {l : List Ed} (hd : distE l) (h : ∀ e, e ∈ l ↔ (∃ p ∈ ps, e = edO W p) ∧ e.2.2.1 ≠ 0) : sortE l = edS W ps :=
  incE_ext (sortE_inc hd) (edS_spec W ps).1 fun e => by rw [(sortE_perm l).mem_iff, h, (edS_spec W ps).2]
end Go.Gv
