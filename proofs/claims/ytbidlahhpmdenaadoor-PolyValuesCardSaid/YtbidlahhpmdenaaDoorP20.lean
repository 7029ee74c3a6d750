/- The plain law of polynomials: values. -/
import Derived.Test.YtbidlahhpmdenaaDoorP19
import Derived.Test.YtbidlahhpmdenaaDoorC15c
set_option linter.all false
namespace Go.Gv
open Go Go.Proofs Go.Proofs.YtbidlahhpmdenaaDoor
/-- The value of powers. -/
def valA (vs : List Int) : List Pw → Int
  | [] => 1
  | x :: l => (vs.getD x.1.toNat 0) ^ x.2.1.toNat * valA vs l
theorem sat_mul {x v : Int} (hx : 0 ≤ x) (hv : 0 ≤ v) : min (min x 1000000001 * v) 1000000001 = min (x * v) 1000000001 := by
  rcases Int.le_total x 1000000001 with h | h
  · rw [Int.min_eq_left h]
  · rw [Int.min_eq_right h]
    rcases Int.lt_or_eq_of_le hv with h0 | h0
    · have h1 : 1000000001 * 1 ≤ 1000000001 * v := Int.mul_le_mul_of_nonneg_left (by omega) (by decide)
      have h2 : 1000000001 * v ≤ x * v := Int.mul_le_mul_of_nonneg_right h hv
      omega
    · rw [← h0]; simp
theorem pow_nn {v : Int} (hv : 0 ≤ v) : ∀ n : Nat, 0 ≤ v ^ n
  | 0 => by simp
  | n + 1 => by rw [Int.pow_succ]; exact Int.mul_nonneg (pow_nn hv n) hv
theorem valA_nn {vs : List Int} (h : ∀ k, 0 ≤ vs.getD k 0) : ∀ l, 0 ≤ valA vs l
  | [] => by simp [valA]
  | x :: l => Int.mul_nonneg (pow_nn (h _) _) (valA_nn h l)
theorem powS_eq {c v : Int} (hc : 0 ≤ c) (hb : c ≤ 1000000001) (hv : 0 ≤ v) : ∀ n : Nat, powS c v n = min (c * v ^ n) 1000000001
  | 0 => by simp only [powS, Int.pow_zero, Int.mul_one]; omega
  | n + 1 => by
    have h1 : 0 ≤ c * v ^ n := Int.mul_nonneg hc (pow_nn hv n)
    rw [powS, powS_eq hc hb hv n, sat_mul h1 hv, Int.pow_succ, Int.mul_assoc]
theorem prodS_eq {vs : List Int} (h : ∀ k, 0 ≤ vs.getD k 0) : ∀ {l : List Pw} {c : Int}, 0 ≤ c → c ≤ 1000000001 → prodS vs c l = min (c * valA vs l) 1000000001
  | [], c, hc, hb => by simp only [prodS, valA, Int.mul_one]; omega
  | x :: l, c, hc, hb => by
    have h1 : 0 ≤ c * (vs.getD x.1.toNat 0) ^ x.2.1.toNat := Int.mul_nonneg hc (pow_nn (h _) _)
    have h2 := powS_rg hc hb (h x.1.toNat) x.2.1.toNat
    rw [prodS, prodS_eq h h2.1 h2.2, powS_eq hc hb (h _), sat_mul h1 (valA_nn h l), valA, Int.mul_assoc]
theorem sumS_eq {vs : List Int} (h : ∀ k, 0 ≤ vs.getD k 0) : ∀ {p : List Mo} {s : Int}, (∀ m ∈ p, coM m) → 0 ≤ s → p.foldl (fun s m => min (s + prodS vs m.1 m.2.1) 1000000001) (min s 1000000001) = min (s + lin (valA vs) p) 1000000001
  | [], s, _, _ => by simp [lin]
  | m :: p, s, hp, hs => by
    have hm := hp m List.mem_cons_self
    unfold coM at hm
    have h1 : 0 ≤ m.1 * valA vs m.2.1 := Int.mul_nonneg hm.1 (valA_nn h _)
    rw [List.foldl_cons, prodS_eq h hm.1 hm.2, show min (min s 1000000001 + min (m.1 * valA vs m.2.1) 1000000001) 1000000001 = min (s + m.1 * valA vs m.2.1) 1000000001 by omega, sumS_eq h (fun x hx => hp x (List.mem_cons_of_mem _ hx)) (by omega)]
    simp only [lin]
    congr 1; omega
theorem sumS_lin {vs : List Int} (h : ∀ k, 0 ≤ vs.getD k 0) {p : List Mo} (hp : ∀ m ∈ p, coM m) : sumS vs p = min (lin (valA vs) p) 1000000001 := by
  have := sumS_eq h hp (s := 0) (Int.le_refl 0)
  rw [Int.zero_add] at this
  exact this
theorem vs_get {vs : List Int} (h : vsOK vs) (k : Nat) : 0 ≤ vs.getD k 0 := by
  by_cases hk : k < vs.length
  · exact (h _ (getD_mem hk)).1
  · rw [List.getD_eq_getElem?_getD, List.getElem?_eq_none (by omega)]; decide
theorem valA_mul {vs : List Int} {a b : List Pw} (ha : ∀ x ∈ a, 0 ≤ x.2.1) (hb : ∀ x ∈ b, 0 ≤ x.2.1) : valA vs (mulP a b) = valA vs a * valA vs b := by
  fun_induction mulP a b with
  | case1 b => simp [valA]
  | case2 x a => simp [valA]
  | case3 u a v b hc ih =>
    simp only [valA, ih (fun x hx => ha x (List.mem_cons_of_mem _ hx)) hb, Int.mul_assoc]
  | case4 u a v b hc hc2 ih =>
    simp only [valA, ih ha (fun x hx => hb x (List.mem_cons_of_mem _ hx))]
    rw [Int.mul_left_comm]
  | case5 u a v b hc hc2 ih =>
    have huv : u.1 = v.1 := Int.le_antisymm (Int.not_lt.1 hc2) (Int.not_lt.1 hc)
    have h1 := ha u List.mem_cons_self
    have h2 := hb v List.mem_cons_self
    simp only [valA, ih (fun x hx => ha x (List.mem_cons_of_mem _ hx)) (fun x hx => hb x (List.mem_cons_of_mem _ hx))]
    rw [show (u.2.1 + v.2.1).toNat = u.2.1.toNat + v.2.1.toNat by omega, Int.pow_add, huv]
    simp only [Int.mul_assoc]
    congr 1
    rw [Int.mul_left_comm]
theorem exp_valid {p : List Mo} (h : ValidP p) {m : Mo} (hm : m ∈ p) : ∀ x ∈ m.2.1, 0 ≤ x.2.1 := fun x hx => by have := okP_mem (valid_mem h hm).2.2 hx; omega
theorem val_add {vs : List Int} {p q : List Mo} (hp : ValidP p) (hq : ValidP q) (ha : ValidP (addL p q)) : lin (valA vs) (addL p q) = lin (valA vs) p + lin (valA vs) q := vadd_lin hp hq ha
theorem val_mul {vs : List Int} {p q : List Mo} (hp : ValidP p) (hq : ValidP q) (hc : ValidP (addL [] (prods p q))) : lin (valA vs) (addL [] (prods p q)) = lin (valA vs) p * lin (valA vs) q := by
  rw [vmul_lin hp hq hc, ← lin_mul]
  refine lin_congr fun m hm => ?_
  rw [Int.mul_comm, ← lin_mul]
  refine lin_congr fun n hn => ?_
  rw [valA_mul (exp_valid hp hm) (exp_valid hq hn), Int.mul_comm]
theorem val_nn {vs : List Int} (h : vsOK vs) {p : List Mo} (hp : ValidP p) : 0 ≤ lin (valA vs) p := by
  have h1 : ∀ {p : List Mo}, (∀ m ∈ p, 0 ≤ m.1) → 0 ≤ lin (valA vs) p := fun {p} hp => by
    induction p with
    | nil => exact Int.le_refl _
    | cons m p ih =>
      have := Int.mul_nonneg (hp m List.mem_cons_self) (valA_nn (vs_get h) m.2.1)
      have := ih fun x hx => hp x (List.mem_cons_of_mem _ hx)
      simp only [lin]; omega
  exact h1 fun m hm => by have := (valid_mem hp hm).1; omega

/-- The variables of a sum, of a product. -/
def varsIn (vs : List Int) (p : List Mo) : Prop := ∀ m ∈ p, ∀ x ∈ m.2.1, x.1 < vs.length
theorem vars_ins {vs : List Int} {l : List Mo} {m : Mo} (h : varsIn vs l) (hm : ∀ x ∈ m.2.1, x.1 < vs.length) : varsIn vs (insP l m) := fun y hy => by
  rcases insP_pw hy with ⟨z, hz, e⟩ | e
  · rw [← e]; exact h z hz
  · rw [← e]; exact hm
theorem vars_add {vs : List Int} : ∀ {q l : List Mo}, varsIn vs l → varsIn vs q → varsIn vs (addL l q)
  | [], _, h, _ => h
  | m :: q, l, h, hq => vars_add (q := q) (vars_ins h (hq m List.mem_cons_self)) fun x hx => hq x (List.mem_cons_of_mem _ hx)
theorem vars_mul {vs : List Int} {p q : List Mo} (hp : varsIn vs p) (hq : varsIn vs q) : varsIn vs (prods p q) := fun y hy x hx => by
  unfold prods at hy
  obtain ⟨m, hm, hy⟩ := List.mem_flatMap.1 hy
  obtain ⟨n, hn, rfl⟩ := List.mem_map.1 hy
  rcases mulP_var hx with ⟨z, hz, e⟩ | ⟨z, hz, e⟩
  · rw [← e]; exact hp m hm z hz
  · rw [← e]; exact hq n hn z hz
theorem ev_ok {p : List Mo} {vs : List Int} (h : evE p vs = 0) : evOK p vs ∧ evV p vs = lin (valA vs) p ∧ lin (valA vs) p ≤ 1000000000 := by
  by_cases ho : evOK p vs
  · have h1 := ev_yes ho
    have h2 := sumS_lin (vs_get ho.2.1) (co_valid ho.1)
    rw [h1.2] at h
    split at h
    · cases h
    · rename_i hn
      rw [h1.1, if_neg hn]
      rw [h2] at hn ⊢
      exact ⟨ho, by omega, by omega⟩
  · rw [(ev_no ho).2] at h; cases h
theorem ev_is {p : List Mo} {vs : List Int} (ho : evOK p vs) : (evE p vs = 0 ↔ lin (valA vs) p ≤ 1000000000) ∧ (evE p vs = 0 → evV p vs = lin (valA vs) p) := by
  refine ⟨⟨fun h => (ev_ok h).2.2, fun h => ?_⟩, fun h => (ev_ok h).2.1⟩
  have h2 := sumS_lin (vs_get ho.2.1) (co_valid ho.1)
  rw [(ev_yes ho).2, h2, if_neg (by omega)]
theorem ev_err {p : List Mo} {vs : List Int} (h : ¬ evE p vs = 0) : evV p vs = 0 := by
  by_cases ho : evOK p vs
  · have h1 := ev_yes ho
    rw [h1.2] at h
    rw [h1.1]
    split at h
    · rename_i hn; rw [if_pos hn]
    · exact absurd rfl h
  · exact (ev_no ho).1
theorem ev_add {p q : List Mo} {vs : List Int} (hp : evE p vs = 0) (hq : evE q vs = 0) (ha : sumE p q (addL p q) = 0) :
    (evE (sumV p q (addL p q)) vs = 0 ↔ evV p vs + evV q vs ≤ 1000000000) ∧ (evE (sumV p q (addL p q)) vs = 0 → evV (sumV p q (addL p q)) vs = evV p vs + evV q vs) := by
  obtain ⟨⟨vp, vq⟩, va, ea⟩ := addE_zero ha
  have h1 := ev_ok hp
  have h2 := ev_ok hq
  have ho : evOK (addL p q) vs := ⟨va, h1.1.2.1, vars_add h1.1.2.2 h2.1.2.2⟩
  have h3 := ev_is ho
  rw [ea, h1.2.1, h2.2.1, ← val_add vp vq va]
  exact h3
theorem ev_mul {p q : List Mo} {vs : List Int} (hp : evE p vs = 0) (hq : evE q vs = 0) (ha : sumE p q (addL [] (prods p q)) = 0) :
    (evE (sumV p q (addL [] (prods p q))) vs = 0 ↔ evV p vs * evV q vs ≤ 1000000000) ∧ (evE (sumV p q (addL [] (prods p q))) vs = 0 → evV (sumV p q (addL [] (prods p q))) vs = evV p vs * evV q vs) := by
  obtain ⟨⟨vp, vq⟩, va, ea⟩ := mulE_zero ha
  have h1 := ev_ok hp
  have h2 := ev_ok hq
  have ho : evOK (addL [] (prods p q)) vs := ⟨va, h1.1.2.1, vars_add (by intro m hm; cases hm) (vars_mul h1.1.2.2 h2.1.2.2)⟩
  have h3 := ev_is ho
  rw [ea, h1.2.1, h2.2.1, ← val_mul vp vq va]
  exact h3
theorem ev_rg {p : List Mo} {vs : List Int} (h : evE p vs = 0) : 0 ≤ evV p vs ∧ evV p vs ≤ 1000000000 := by
  have h1 := ev_ok h
  rw [h1.2.1]
  exact ⟨val_nn h1.1.2.1 h1.1.1, h1.2.2⟩
end Go.Gv
