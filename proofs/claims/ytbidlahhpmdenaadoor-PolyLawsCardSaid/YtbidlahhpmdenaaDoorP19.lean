/- The plain law of polynomials: order, grouping, distribution, values. -/
import Derived.Test.YtbidlahhpmdenaaDoorP18
set_option linter.all false
namespace Go.Gv
open Go Go.Proofs Go.Proofs.YtbidlahhpmdenaaDoor

/-- Exact products. -/
def mulX (m n : Mo) : Mo := (m.1 * n.1, mulP m.2.1 n.2.1, ())
def prodsX (p q : List Mo) : List Mo := p.flatMap fun m => q.map (mulX m)
def satM (m : Mo) : Mo := (min m.1 1000000001, m.2.1, ())
theorem prods_sat {p q : List Mo} : prods p q = (prodsX p q).map satM := by
  unfold prods prodsX
  rw [List.map_flatMap]
  simp only [List.map_map]
  rfl
theorem linX {f : List Pw → Int} : ∀ {p q : List Mo}, lin f (prodsX p q) = lin (fun A => lin (fun C => f (mulP A C)) q) p
  | [], q => rfl
  | m :: p, q => by
    have h : ∀ q : List Mo, lin f (q.map (mulX m)) = m.1 * lin (fun C => f (mulP m.2.1 C)) q := fun q => by
      induction q with
      | nil => simp [lin]
      | cons n q ih => simp only [List.map_cons, lin, ih, Int.mul_add, mulX, Int.mul_assoc]
    have h2 := linX (f := f) (p := p) (q := q)
    unfold prodsX at h2 ⊢
    simp only [List.flatMap_cons, lin_app, lin, h, h2]
theorem sat_tot {P : List Pw} : ∀ {l : List Mo}, (∀ m ∈ l, 0 ≤ m.1) → min (tot P (l.map satM)) 1000000001 = min (tot P l) 1000000001
  | [], _ => rfl
  | m :: l, h => by
    have h1 := h m List.mem_cons_self
    have hl := fun x hx => h x (List.mem_cons_of_mem m hx)
    have ih := sat_tot (P := P) hl
    have h2 := tot_pos (P := P) hl
    have h3 := tot_pos (P := P) (l := l.map satM) fun x hx => by
      obtain ⟨y, hy, rfl⟩ := List.mem_map.1 hx
      have := hl y hy
      unfold satM; dsimp only; omega
    rw [List.map_cons, tot_cons, tot_cons]
    unfold satM at *
    dsimp only
    by_cases e : m.2.1 = P
    · simp only [if_pos e]; omega
    · simp only [if_neg e]; omega
theorem prodsX_pos {p q : List Mo} (hp : ∀ m ∈ p, 1 ≤ m.1) (hq : ∀ m ∈ q, 1 ≤ m.1) : ∀ m ∈ prodsX p q, 0 ≤ m.1 := fun x hx => by
  unfold prodsX at hx
  obtain ⟨m, hm, hx⟩ := List.mem_flatMap.1 hx
  obtain ⟨n, hn, rfl⟩ := List.mem_map.1 hx
  exact Int.mul_nonneg (by have := hp m hm; omega) (by have := hq n hn; omega)

/-- Sums and products of valid polynomials: their coefficients. -/
theorem co_valid {p : List Mo} (h : ValidP p) : ∀ m ∈ p, coM m := (valid_sum h).2
theorem ge_valid {p : List Mo} (h : ValidP p) : ∀ m ∈ p, 1 ≤ m.1 := fun m hm => (valid_mem h hm).1
theorem vadd_tot {P : List Pw} {p q : List Mo} (hp : ValidP p) (hq : ValidP q) : tot P (addL p q) = min (tot P p + tot P q) 1000000001 := add_tot (valid_sum hp) (co_valid hq)
theorem vmul_tot {P : List Pw} {p q : List Mo} (hp : ValidP p) (hq : ValidP q) : tot P (addL [] (prods p q)) = min (lin (fun A => lin (fun C => one P (mulP A C)) q) p) 1000000001 := by
  rw [add_tot sumOK_nil (prods_co hp hq), tot_nil, Int.zero_add, prods_sat, sat_tot (prodsX_pos (ge_valid hp) (ge_valid hq)), ← linX]; rfl
theorem add_ext {p q p' q' : List Mo} (hp : ValidP p) (hq : ValidP q) (hp' : ValidP p') (hq' : ValidP q') (h : ∀ P, min (tot P p + tot P q) 1000000001 = min (tot P p' + tot P q') 1000000001) : addL p q = addL p' q' := by
  have h1 := add_ok hp hq
  have h2 := add_ok hp' hq'
  exact tot_ext h1.1 h2.1 (fun m hm => (h1.2 m hm).1) (fun m hm => (h2.2 m hm).1) fun P => by rw [vadd_tot hp hq, vadd_tot hp' hq', h P]
theorem add_comm_l {p q : List Mo} (hp : ValidP p) (hq : ValidP q) : addL p q = addL q p := add_ext hp hq hq hp fun P => by rw [Int.add_comm]
theorem mul_ext {p q p' q' : List Mo} (hp : ValidP p) (hq : ValidP q) (hp' : ValidP p') (hq' : ValidP q') (h : ∀ P, lin (fun A => lin (fun C => one P (mulP A C)) q) p = lin (fun A => lin (fun C => one P (mulP A C)) q') p') :
    addL [] (prods p q) = addL [] (prods p' q') := by
  have h1 := mul_ok hp hq
  have h2 := mul_ok hp' hq'
  exact tot_ext h1.1 h2.1 (fun m hm => (h1.2 m hm).1) (fun m hm => (h2.2 m hm).1) fun P => by rw [vmul_tot hp hq, vmul_tot hp' hq', h P]
theorem mul_comm_l {p q : List Mo} (hp : ValidP p) (hq : ValidP q) : addL [] (prods p q) = addL [] (prods q p) := mul_ext hp hq hq hp fun P => by
  rw [lin_swap]
  refine lin_congr fun m _ => lin_congr fun n _ => ?_
  rw [mulP_comm]

/-- Sums that do not reach the bound are exact. -/
theorem tot_lt {P : List Pw} : ∀ {l : List Mo}, srtM l → (∀ x ∈ l, x.1 < 1000000001) → tot P l < 1000000001 := fun {l} hs h => by
  by_cases hx : ∃ x ∈ l, x.2.1 = P
  · obtain ⟨x, hx, rfl⟩ := hx
    rw [tot_mem hs hx]; exact h x hx
  · rw [tot_none fun x hm e => hx ⟨x, hm, e⟩]; omega
theorem ins_lin {f : List Pw → Int} : ∀ {l : List Mo} {m : Mo}, (∀ x ∈ insP l m, x.1 < 1000000001) → lin f (insP l m) = lin f l + m.1 * f m.2.1
  | [], m, _ => by simp [insP, lin]
  | y :: l, m, h => by
    unfold insP at h ⊢
    split
    · rename_i hc
      rw [if_pos hc] at h
      simp only [lin, ins_lin fun x hx => h x (List.mem_cons_of_mem _ hx)]
      omega
    · rename_i hc
      rw [if_neg hc] at h
      split
      · rename_i he
        rw [if_pos he] at h
        have := h _ List.mem_cons_self
        dsimp only at this
        have e : min (y.1 + m.1) 1000000001 = y.1 + m.1 := by omega
        simp only [lin, e, Int.add_mul, ← cmpP_eq.1 he]
        omega
      · simp only [lin]; omega
theorem add_lin {f : List Pw → Int} : ∀ {q l : List Mo}, sumOK l → (∀ m ∈ q, coM m) → (∀ x ∈ addL l q, x.1 < 1000000001) → lin f (addL l q) = lin f l + lin f q ∧ ∀ m ∈ q, m.1 < 1000000001
  | [], l, _, _, _ => ⟨by show lin f l = _; simp [lin], by simp⟩
  | m :: q, l, h, hq, hx => by
    have hm := hq m List.mem_cons_self
    have hq' := fun x hx => hq x (List.mem_cons_of_mem m hx)
    have h1 : sumOK (insP l m) := ⟨insP_srt h.1, insP_co h.2 hm⟩
    have h2 := add_lin (f := f) (q := q) h1 hq' hx
    have hs := (addL_ok h1 hq').1.1
    have hlt : ∀ P, tot P (insP l m) < 1000000001 := fun P => by
      have h4 := tot_lt (P := P) hs hx
      rw [add_tot h1 hq'] at h4
      have := tot_pos (P := P) fun x hx => (hq' x hx).1
      omega
    have hin : ∀ x ∈ insP l m, x.1 < 1000000001 := fun x hx => by rw [← tot_mem h1.1 hx]; exact hlt _
    have hm1 : m.1 < 1000000001 := by
      have h5 := hlt m.2.1
      rw [ins_tot h hm, tot_cons, tot_nil, if_pos rfl] at h5
      have := (tot_rg (P := m.2.1) h).1
      omega
    refine ⟨?_, fun x hx => ?_⟩
    · show lin f (addL (insP l m) q) = _
      rw [h2.1, ins_lin hin]
      simp only [lin]; omega
    · rcases List.mem_cons.1 hx with rfl | hx
      · exact hm1
      · exact h2.2 x hx
theorem prods_exact {p q : List Mo} (h : ∀ m ∈ prods p q, m.1 < 1000000001) : prods p q = prodsX p q := by
  rw [prods_sat] at h ⊢
  refine (List.map_congr_left fun m hm => ?_).trans (List.map_id _)
  have := h _ (List.mem_map.2 ⟨m, hm, rfl⟩)
  obtain ⟨m1, m2, ⟨⟩⟩ := m
  unfold satM at *
  dsimp only at *
  rw [show min m1 1000000001 = m1 by omega]; rfl
theorem lt_valid {p : List Mo} (h : ValidP p) : ∀ m ∈ p, m.1 < 1000000001 := fun m hm => by have := (valid_mem h hm).2.1; omega
theorem vadd_lin {f : List Pw → Int} {p q : List Mo} (hp : ValidP p) (hq : ValidP q) (hv : ValidP (addL p q)) : lin f (addL p q) = lin f p + lin f q := (add_lin (valid_sum hp) (co_valid hq) (lt_valid hv)).1
theorem vmul_lin {f : List Pw → Int} {p q : List Mo} (hp : ValidP p) (hq : ValidP q) (hv : ValidP (addL [] (prods p q))) : lin f (addL [] (prods p q)) = lin (fun A => lin (fun C => f (mulP A C)) q) p := by
  have h := add_lin (f := f) sumOK_nil (prods_co hp hq) (lt_valid hv)
  rw [h.1, prods_exact h.2, linX]
  simp [lin]

theorem add_assoc_l {p q r : List Mo} (hp : ValidP p) (hq : ValidP q) (hr : ValidP r) (ha : ValidP (addL p q)) (hs : ValidP (addL q r)) : addL (addL p q) r = addL p (addL q r) :=
  add_ext ha hr hp hs fun P => by unfold tot; rw [vadd_lin hp hq ha, vadd_lin hq hr hs, Int.add_assoc]
theorem mul_assoc_l {p q r : List Mo} (hp : ValidP p) (hq : ValidP q) (hr : ValidP r) (hc : ValidP (addL [] (prods p q))) (ht : ValidP (addL [] (prods q r))) : addL [] (prods (addL [] (prods p q)) r) = addL [] (prods p (addL [] (prods q r))) :=
  mul_ext hc hr hp ht fun P => by
    rw [vmul_lin (f := fun A => lin (fun C => one P (mulP A C)) r) hp hq hc]
    refine lin_congr fun m _ => ?_
    rw [vmul_lin (f := fun C => one P (mulP m.2.1 C)) hq hr ht]
    refine lin_congr fun n _ => lin_congr fun o _ => ?_
    rw [mulP_assoc _ _ _ _ (Nat.le_refl _)]
theorem distr_l {p q r : List Mo} (hp : ValidP p) (hq : ValidP q) (hr : ValidP r) (hs : ValidP (addL q r)) (hc : ValidP (addL [] (prods p q))) (hu : ValidP (addL [] (prods p r))) : addL [] (prods p (addL q r)) = addL (addL [] (prods p q)) (addL [] (prods p r)) := by
  have h1 := mul_ok hp hs
  have h2 := add_ok hc hu
  refine tot_ext h1.1 h2.1 (fun m hm => (h1.2 m hm).1) (fun m hm => (h2.2 m hm).1) fun P => ?_
  rw [vmul_tot hp hs, vadd_tot hc hu]
  unfold tot
  rw [vmul_lin (f := one P) hp hq hc, vmul_lin (f := one P) hp hr hu, ← lin_add]
  congr 1
  refine lin_congr fun m _ => ?_
  rw [vadd_lin (f := fun C => one P (mulP m.2.1 C)) hq hr hs]

theorem sumE_zero {p q l : List Mo} (h : sumE p q l = 0) (hl : ValidP p → ValidP q → srtM l ∧ ∀ m ∈ l, wkM m) : (ValidP p ∧ ValidP q) ∧ ValidP l ∧ sumV p q l = l := by
  by_cases hv : ValidP p ∧ ValidP q
  · rw [(sumV_yes hv).2] at h
    rw [(sumV_yes hv).1]
    by_cases ho : overC l
    · rw [← (done_yes ho).2] at h; cases h
    · rw [(done_no ho).2] at h
      rw [(done_no ho).1]
      split at h
      · cases h
      · rename_i hn
        have h2 := hl hv.1 hv.2
        exact ⟨hv, valid_of h2.1 h2.2 ho (by omega), by rw [if_neg hn]⟩
  · rw [(sumV_no hv).2] at h; cases h
theorem addE_zero {p q : List Mo} (h : sumE p q (addL p q) = 0) : (ValidP p ∧ ValidP q) ∧ ValidP (addL p q) ∧ sumV p q (addL p q) = addL p q := sumE_zero h fun hp hq => add_ok hp hq
theorem mulE_zero {p q : List Mo} (h : sumE p q (addL [] (prods p q)) = 0) : (ValidP p ∧ ValidP q) ∧ ValidP (addL [] (prods p q)) ∧ sumV p q (addL [] (prods p q)) = addL [] (prods p q) := sumE_zero h fun hp hq => mul_ok hp hq
theorem sum_comm {p q l l' : List Mo} (h : ValidP p → ValidP q → l = l') : sumV p q l = sumV q p l' ∧ sumE p q l = sumE q p l' := by
  by_cases hv : ValidP p ∧ ValidP q
  · rw [(sumV_yes hv).1, (sumV_yes hv).2, (sumV_yes hv.symm).1, (sumV_yes hv.symm).2, h hv.1 hv.2]; exact ⟨rfl, rfl⟩
  · rw [(sumV_no hv).1, (sumV_no hv).2, (sumV_no fun a => hv a.symm).1, (sumV_no fun a => hv a.symm).2]; exact ⟨rfl, rfl⟩
end Go.Gv
