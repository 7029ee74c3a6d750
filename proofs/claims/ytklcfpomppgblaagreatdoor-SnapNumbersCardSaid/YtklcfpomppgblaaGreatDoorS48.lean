/- A listed variable that is an array of texts. -/
import Derived.Test.YtklcfpomppgblaaGreatDoorGh
import Derived.Test.YtklcfpomppgblaaGreatDoorH
set_option linter.all false
namespace Go.Gv
open Go
theorem cells_of_strs {H : Type} {enc : TypeId × Value → H} {P : Program} {w : World} {base : Nat} {sp : Nat → Bool} {held : Bool} {fuel : Nat} {t e : TypeId} {n : Nat} {cs : List Value} {ss : List (List UInt8)} {p : List MemPlace}
    (ht : P.underlying t = some (.array n e)) (he : P.underlying e = some .string) (hce : P.cellsOf e = 1) (hct : P.cellsOf t = n)
    (h : DataW.trod enc P w base sp held fuel t cs = some (.agg (ss.map fun s => .lit (.string s)), p)) : cs = ss.map (fun s => Value.string ⟨s.toArray⟩) ∧ ss.length = n ∧ ∀ s ∈ ss, s.length ≤ maxLen := by
  cases fuel with
  | zero => simp [DataW.trod] at h
  | succ fuel =>
    simp only [DataW.trod, ht, hce, hct, Nat.mul_one] at h
    split at h
    · rename_i hl
      obtain ⟨xs, hm, hx⟩ := Option.map_eq_some_iff.1 h
      have hxs : xs.map (·.1) = ss.map fun s => (DataW.lit (.string s) : DataW H) := by
        have := congrArg Prod.fst hx
        simpa using this
      have hxl : xs.length = n := by simpa using Lib.mapM_length hm
      have hzl : ss.length = n := by
        have := congrArg List.length hxs
        simp at this
        omega
      have key : ∀ i, i < n → ∃ s, ss[i]? = some s ∧ cs[i]? = some (.string ⟨s.toArray⟩) ∧ s.length ≤ maxLen := fun i hi => by
        obtain ⟨b, hb, hf⟩ := Lib.mapM_at hm i i (by simp [hi])
        obtain ⟨s, hc, rfl, hs⟩ := DataW.trod_string he hf
        have h1 : cs[i]? = some (.string s) := by
          have := congrArg (·[0]?) hc
          simpa [List.getElem?_take, List.getElem?_drop] using this
        have h2 : (xs.map (·.1))[i]? = some (DataW.lit (.string s.data.toList) : DataW H) := by simp [hb]
        rw [hxs] at h2
        simp only [List.getElem?_map, Option.map_eq_some_iff, DataW.lit.injEq, Lit.string.injEq] at h2
        obtain ⟨z, hz, hz2⟩ := h2
        subst hz2
        exact ⟨_, hz, by rw [h1], by rw [Array.length_toList]; exact hs⟩
      refine ⟨?_, hzl, fun s hs => ?_⟩
      · apply List.ext_getElem?
        intro i
        by_cases hi : i < n
        · obtain ⟨s, a1, a2, _⟩ := key i hi
          rw [List.getElem?_map, a1, a2]; rfl
        · rw [List.getElem?_eq_none (by omega), List.getElem?_eq_none (by simp; omega)]
      · obtain ⟨i, hi, rfl⟩ := List.getElem_of_mem hs
        obtain ⟨s, a1, _, a3⟩ := key i (by omega)
        rw [List.getElem?_eq_getElem hi] at a1
        rw [Option.some.inj a1]; exact a3
    · cases h
theorem strs_of_list {P : Program} {W : World} {l : List (String × DataW Unit)} (h : laidMet P l W) {name : String} {ss : List (List UInt8)} {i : Nat} (hx : l[i]? = some (name, .agg (ss.map fun s => .lit (.string s)))) {g n : Nat} {t e : TypeId} (hg : P.globalNamed name = some g) (hty : (P.globals[g]?).map (·.type) = some t)
    (ht : P.underlying t = some (.array n e)) (he : P.underlying e = some .string) (hce : P.cellsOf e = 1) (hct : P.cellsOf t = n) (hn : ss.length = n) : globOK (.arr n .str) ss (GW.all W) g := by
  obtain ⟨ps, h1, _⟩ := h
  obtain ⟨ps', h2⟩ := laidVars_at h1 _ (List.mem_of_getElem? hx)
  obtain ⟨g', t', cs, fuel, p, q, hg', ht', hvar, hd, _, _⟩ := h2
  obtain rfl := Option.some.inj (hg.symm.trans hg')
  obtain rfl := Option.some.inj (hty.symm.trans ht')
  obtain ⟨hcs, _, hlen⟩ := cells_of_strs ht he hce hct hd
  have hz0 : ∃ T fz, W.heap[g]? = some (.cells cs T fz) := by
    simp only [World.var?, hg, Option.bind_some] at hvar
    cases ho : W.heap[g]? with
    | none => rw [ho] at hvar; cases hvar
    | some ob =>
      rw [ho] at hvar
      cases ob <;> first | (simp only [Option.some.injEq] at hvar; subst hvar; exact ⟨_, _, rfl⟩) | cases hvar
  obtain ⟨T, fz, ho⟩ := hz0
  have hlt := (Array.getElem?_eq_some_iff.1 ho).1
  have hcell : ∀ j, W.cell? ⟨g, j, none⟩ = (ss.map fun s => Value.string ⟨s.toArray⟩)[j]? := fun j => by
    simp only [World.cell?, ho]
    rw [← hcs]
    simp
  subst hn
  refine ⟨⟨ss.map fun s => Value.string ⟨s.toArray⟩, fun j v hv => ?_, ?_⟩, hlt, ?_⟩
  · refine ⟨hlt, ?_⟩
    show W.cell? _ = _
    rw [Nat.zero_add, hcell]; exact hv
  · unfold Rep
    refine ⟨rfl, by simp [Ty.size], fun i x hx => ?_⟩
    unfold Rep
    have hx' : ss[i]? = some x := hx
    have hi' := (List.getElem?_eq_some_iff.1 hx').1
    refine ⟨?_, hlen x (List.mem_of_getElem? hx')⟩
    apply List.ext_getElem?
    intro j
    simp only [Ty.size, Nat.mul_one, List.getElem?_take, List.getElem?_drop, List.getElem?_map]
    by_cases hj : j < 1
    · have : j = 0 := by omega
      subst this
      rw [if_pos hj, Nat.add_zero, hx']; rfl
    · rw [if_neg hj]
      cases j with
      | zero => omega
      | succ j => rfl
  · show W.cell? _ = none
    rw [hcell]
    simp [Ty.size]
end Go.Gv
