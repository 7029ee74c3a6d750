/- Chapter 15: the texts of polynomials tell them apart. -/
import Derived.Test.YtbidlahhpmdenaaDoorP15b
set_option linter.all false
namespace Go.Gv
open Go
theorem flat_inj3 {s : UInt8} {t : List UInt8} : ∀ {xs ys : List (List UInt8)}, (∀ x ∈ xs, s ∉ x) → (∀ y ∈ ys, s ∉ y) → xs.flatMap (fun x => x ++ s :: t) = ys.flatMap (fun x => x ++ s :: t) → xs = ys
  | [], [], _, _, _ => rfl
  | [], y :: ys, _, _, h => by simp at h
  | x :: xs, [], _, _, h => by simp at h
  | x :: xs, y :: ys, hx, hy, h => by
    simp only [List.flatMap_cons, List.append_assoc, List.cons_append] at h
    obtain ⟨e1, e2⟩ := split_sep (hx x (by simp)) (hy y (by simp)) h
    rw [e1, flat_inj3 (fun z hz => hx z (by simp [hz])) (fun z hz => hy z (by simp [hz])) (List.append_cancel_left e2)]
theorem tail_flat3 (s : List UInt8) : ∀ (r : List (List UInt8)), Lib.joinTail s r ++ s = s ++ r.flatMap (fun x => x ++ s)
  | [] => by simp [Lib.joinTail]
  | y :: r => by
    have ih := tail_flat3 s r
    simp only [Lib.joinTail, List.map_cons, List.flatten_cons, List.append_assoc, List.flatMap_cons] at ih ⊢
    rw [ih]
theorem join_flat3 (s : List UInt8) : ∀ {xs : List (List UInt8)}, xs ≠ [] → Lib.join xs s ++ s = xs.flatMap (fun x => x ++ s)
  | [], h => (h rfl).elim
  | x :: r, _ => by
    rw [Lib.join_cons, List.flatMap_cons, List.append_assoc, List.append_assoc, tail_flat3]
theorem itoa_120 {n : Int} : (120 : UInt8) ∉ Lib.itoa n := fun h => (itoa_not h).2.2.2.2.1 rfl
theorem itoa_42 {n : Int} : (42 : UInt8) ∉ Lib.itoa n := fun h => (itoa_not h).2.2.1 rfl
theorem itoa_32 {n : Int} : (32 : UInt8) ∉ Lib.itoa n := fun h => (itoa_not h).2.2.2.2.2.1 rfl
theorem facT_head {l : List Pw} (h : l ≠ []) : ∃ r, facT l = 120 :: r := by
  cases l with
  | nil => exact (h rfl).elim
  | cons x r => exact ⟨_, by unfold facT; rw [List.map_cons, Lib.join_cons]; unfold itemX; rfl⟩
theorem join_mem {c : UInt8} {s : List UInt8} (hs : c ∉ s) : ∀ {xs : List (List UInt8)}, (∀ x ∈ xs, c ∉ x) → c ∉ Lib.join xs s
  | [], _ => by simp [Lib.join_nil]
  | x :: r, h => by
    rw [Lib.join_cons, List.mem_append]
    rintro (k | k)
    · exact h x (by simp) k
    · simp only [Lib.joinTail, List.mem_flatten, List.mem_map] at k
      obtain ⟨l, ⟨y, hy, rfl⟩, k⟩ := k
      rcases List.mem_append.1 k with k | k
      · exact hs k
      · exact h y (by simp [hy]) k
theorem itemX_32 {x : Pw} : (32 : UInt8) ∉ itemX x := by
  intro h
  unfold itemX at h
  rcases List.mem_append.1 h with h | h
  · rcases List.mem_append.1 h with h | h
    · simp at h
    · exact itoa_32 h
  · split at h
    · simp at h
    · rcases List.mem_append.1 h with h | h
      · simp at h
      · exact itoa_32 h
theorem monT_32 {m : Mo} : (32 : UInt8) ∉ monT m := by
  intro h
  unfold monT headM at h
  rcases List.mem_append.1 h with h | h
  · split at h
    · simp at h
    · rcases List.mem_append.1 h with h | h
      · exact itoa_32 h
      · split at h <;> simp at h
  · exact join_mem (by simp) (fun x hx => by obtain ⟨y, _, rfl⟩ := List.mem_map.1 hx; exact itemX_32) h
theorem monT_cases (m : Mo) : (m.2.1 = [] ∧ monT m = Lib.itoa m.1) ∨ (m.2.1 ≠ [] ∧ m.1 = 1 ∧ monT m = facT m.2.1) ∨ (m.2.1 ≠ [] ∧ monT m = Lib.itoa m.1 ++ 42 :: facT m.2.1) := by
  by_cases h : m.2.1 = []
  · exact .inl ⟨h, (mon_a (facT_nil.2 h)).symm⟩
  · have hf : ¬ facT m.2.1 = [] := fun e => h (facT_nil.1 e)
    by_cases h1 : m.1 = 1
    · exact .inr (.inl ⟨h, h1, (mon_c hf h1).symm⟩)
    · exact .inr (.inr ⟨h, by rw [← mon_b hf h1, List.append_assoc]; rfl⟩)
theorem monT_inj {m n : Mo} (h : monT m = monT n) : m = n := by
  have go : m.1 = n.1 → m.2.1 = n.2.1 → m = n := fun a b => Prod.ext a (Prod.ext b rfl)
  have hx : ∀ {c : Int} {l : List Pw} {r : List UInt8}, l ≠ [] → Lib.itoa c ++ r = facT l → False := fun {c l r} hl e => by
    obtain ⟨t, ht⟩ := facT_head hl
    rw [ht] at e
    cases hc : Lib.itoa c with
    | nil => exact itoa_pos c hc
    | cons a u =>
      rw [hc] at e
      injection e with e1 e2
      exact itoa_120 (n := c) (by rw [hc, e1]; simp)
  rcases monT_cases m with ⟨a1, a2⟩ | ⟨a1, a3, a2⟩ | ⟨a1, a2⟩ <;> rcases monT_cases n with ⟨b1, b2⟩ | ⟨b1, b3, b2⟩ | ⟨b1, b2⟩ <;> rw [a2, b2] at h
  · exact go (itoa_inj h) (a1.trans b1.symm)
  · exact (hx (r := []) b1 (by rw [List.append_nil]; exact h)).elim
  · exact (itoa_42 (n := m.1) (by rw [h]; simp)).elim
  · exact (hx (r := []) a1 (by rw [List.append_nil]; exact h.symm)).elim
  · exact go (a3.trans b3.symm) (facT_inj h)
  · exact (hx a1 h.symm).elim
  · exact (itoa_42 (n := n.1) (by rw [← h]; simp)).elim
  · exact (hx b1 h).elim
  · obtain ⟨e1, e2⟩ := split_sep (s := 42) itoa_42 itoa_42 h
    exact go (itoa_inj e1) (facT_inj e2)
theorem polyT_inj {p q : List Mo} (hp : p ≠ []) (hq : q ≠ []) (h : polyT p = polyT q) : p = q := by
  have h2 : Lib.join (p.map monT) [32, 43, 32] ++ [32, 43, 32] = Lib.join (q.map monT) [32, 43, 32] ++ [32, 43, 32] := congrArg (· ++ [32, 43, 32]) h
  rw [join_flat3 _ (by simpa using hp), join_flat3 _ (by simpa using hq)] at h2
  have h3 := flat_inj3 (fun x hx => by obtain ⟨y, _, rfl⟩ := List.mem_map.1 hx; exact monT_32) (fun x hx => by obtain ⟨y, _, rfl⟩ := List.mem_map.1 hx; exact monT_32) h2
  exact (List.map_inj_right (fun x y => monT_inj)).1 h3
theorem monT_pos (m : Mo) : monT m ≠ [] := by
  rcases monT_cases m with ⟨_, a⟩ | ⟨h, _, a⟩ | ⟨_, a⟩ <;> rw [a]
  · exact itoa_pos _
  · obtain ⟨r, hr⟩ := facT_head h; rw [hr]; simp
  · simp
theorem monT_zero {m : Mo} (h : 1 ≤ m.1) (e : monT m = [48]) : False := by
  rcases monT_cases m with ⟨_, a⟩ | ⟨hl, _, a⟩ | ⟨_, a⟩ <;> rw [a] at e
  · have : Lib.itoa m.1 = Lib.itoa 0 := e.trans (by rw [show (0 : Int) = ((0 : Nat) : Int) from rfl, Lib.itoa_nonneg, Lib.decDigits_one (by omega)]; rfl)
    have := itoa_inj this
    omega
  · obtain ⟨r, hr⟩ := facT_head hl
    rw [hr] at e
    injection e with e1 _
    exact absurd e1 (by decide)
  · have h1 : (42 : UInt8) ∈ [(48 : UInt8)] := by rw [← e]; simp
    exact absurd h1 (by decide)
theorem polyT_zero {p : List Mo} (hv : ValidP p) (hp : p ≠ []) (e : polyT p = [48]) : False := by
  cases p with
  | nil => exact hp rfl
  | cons m r =>
    have hm := valid_mem hv (m := m) (by simp)
    unfold polyT at e
    rw [List.map_cons, Lib.join_cons] at e
    cases hc : monT m with
    | nil => exact monT_pos m hc
    | cons a u =>
      rw [hc, List.cons_append] at e
      injection e with e1 e2
      have hu : u = [] := (List.append_eq_nil_iff.1 e2).1
      exact monT_zero hm.1 (by rw [hc, e1, hu])
/-- Texts of valid polynomials tell them apart. -/
theorem textP_inj {p q : List Mo} (hp : ValidP p) (hq : ValidP q) : textP p = textP q ↔ p = q := by
  constructor
  · intro h
    by_cases h1 : p = [] <;> by_cases h2 : q = []
    · rw [h1, h2]
    · rw [← text_zero hp h1, ← text_yes hq h2] at h
      exact (polyT_zero hq h2 h.symm).elim
    · rw [← text_yes hp h1, ← text_zero hq h2] at h
      exact (polyT_zero hp h1 h).elim
    · rw [← text_yes hp h1, ← text_yes hq h2] at h
      exact polyT_inj h1 h2 h
  · rintro rfl; rfl
theorem textP_pos {p : List Mo} (hp : ValidP p) : textP p ≠ [] := by
  by_cases h1 : p = []
  · rw [← text_zero hp h1]; simp
  · rw [← text_yes hp h1]
    cases p with
    | nil => exact (h1 rfl).elim
    | cons m r =>
      unfold polyT
      rw [List.map_cons, Lib.join_cons]
      intro e
      exact monT_pos m (List.append_eq_nil_iff.1 e).1
end Go.Gv
