/- A listed variable of two numbers. -/
import Derived.Test.YtganngkllfpgiaaGreatDoorGg
set_option linter.all false
namespace Go.Gv
open Go
variable {P : Program} {W : World}

theorem pair_of_list {l : List (String × DataW Unit)} (h : laidMet P l W) {name : String} {a b : Int} {i : Nat} (hx : l[i]? = some (name, .agg [.lit (.int .i64 a), .lit (.int .i64 b)])) {g : Nat} {t : TypeId} (hg : P.globalNamed name = some g) (hty : (P.globals[g]?).map (·.type) = some t)
    (ht : tym P (.st (.cs (.int .i64) (.cs (.int .i64) .nl))) t = true) (ha : lo .i64 ≤ a ∧ a ≤ hi .i64) (hb : lo .i64 ≤ b ∧ b ≤ hi .i64) : globOK (.st (.cs (.int .i64) (.cs (.int .i64) .nl))) ((a, ((b, ()) : Int × Unit)) : Int × Int × Unit) (GW.all W) g := by
  obtain ⟨ps, h1, _⟩ := h
  obtain ⟨ps', h2⟩ := laidVars_at h1 _ (List.mem_of_getElem? hx)
  obtain ⟨g', t', cs, fuel, p, q, hg', ht', hvar, hd, _, _⟩ := h2
  obtain rfl := Option.some.inj (hg.symm.trans hg')
  obtain rfl := Option.some.inj (hty.symm.trans ht')
  obtain ⟨f, huf, htf⟩ := und_st ht
  obtain ⟨xs, n, rfl, hxe, hlen, hxl, hf⟩ := DataW.trod_struct huf hd
  rw [cellsOf_tym ht] at hlen
  have hlen : cs.toList.length = 2 := hlen
  have hfl : ∃ f1 f2, f.toList = [f1, f2] ∧ f1.offset = 0 ∧ f2.offset = 1 ∧ tym P (.int .i64) f1.type = true ∧ tym P (.int .i64) f2.type = true := by
    match hh : f.toList, htf with
    | [], h => simp [tymF] at h
    | [f1], h => simp [tymF] at h
    | [f1, f2], h =>
      simp only [tymF, Bool.and_eq_true, beq_iff_eq, bne_iff_ne, Ty.size] at h
      exact ⟨f1, f2, rfl, h.1.1.1, h.2.1.1.1, h.1.2, h.2.1.2⟩
    | f1 :: f2 :: f3 :: r, h => simp [tymF] at h
  obtain ⟨f1, f2, hfe, o1, o2, t1, t2⟩ := hfl
  have e1 : f[0]? = some f1 := by rw [← Array.getElem?_toList, hfe]; rfl
  have e2 : f[1]? = some f2 := by rw [← Array.getElem?_toList, hfe]; rfl
  have hx2 : xs.map (·.1) = [.lit (.int .i64 a), .lit (.int .i64 b)] := by
    have := congrArg Prod.fst hxe
    simp only [DataW.agg.injEq] at this
    exact this.symm
  match cs, hlen with
  | ⟨[u, v]⟩, _ =>
    have hxs : ∃ x1 x2, xs = [x1, x2] ∧ x1.1 = .lit (.int .i64 a) ∧ x2.1 = .lit (.int .i64 b) := by
      clear hxe hxl hf
      match xs, hx2 with
      | [], h => simp at h
      | [_], h => simp at h
      | [x1, x2], h =>
        simp only [List.map_cons, List.map_nil, List.cons.injEq, and_true] at h
        exact ⟨x1, x2, rfl, h.1, h.2⟩
      | _ :: _ :: _ :: _, h => simp at h
    obtain ⟨x1, x2, rfl, w1, w2⟩ := hxs
    have g1 := hf 0 f1 e1
    have g2 := hf 1 f2 e2
    rw [o1, cellsOf_tym t1] at g1
    rw [o2, cellsOf_tym t2] at g2
    obtain ⟨z1, c1, d1, _⟩ := DataW.trod_int (und_int t1) g1
    obtain ⟨z2, c2, d2, _⟩ := DataW.trod_int (und_int t2) g2
    rw [d1] at w1
    rw [d2] at w2
    have z1a : z1 = a := by simpa using w1
    have z2b : z2 = b := by simpa using w2
    subst z1a; subst z2b
    have hu : u = .int .i64 z1 := by simpa [Ty.size] using c1
    have hv : v = .int .i64 z2 := by simpa [Ty.size] using c2
    subst hu; subst hv
    have hz0 : ∃ T fz, W.heap[g]? = some (.cells #[.int .i64 z1, .int .i64 z2] T fz) := by
      simp only [World.var?, hg, Option.bind_some] at hvar
      cases ho : W.heap[g]? with
      | none => rw [ho] at hvar; cases hvar
      | some ob =>
        rw [ho] at hvar
        cases ob <;> first | (simp only [Option.some.injEq] at hvar; subst hvar; exact ⟨_, _, rfl⟩) | cases hvar
    obtain ⟨T, fz, ho⟩ := hz0
    have hlt := (Array.getElem?_eq_some_iff.1 ho).1
    refine ⟨⟨[.int .i64 z1, .int .i64 z2], fun j v hv => ?_, ?_⟩, hlt, ?_⟩
    · refine ⟨hlt, ?_⟩
      show W.cell? _ = _
      simp only [World.cell?, ho]
      match j, hv with
      | 0, h => simpa using h
      | 1, h => simpa using h
    · unfold Rep
      unfold Rep
      refine ⟨[.int .i64 z1], [.int .i64 z2], rfl, ⟨rfl, has_iff.2 ha⟩, ?_⟩
      unfold Rep
      exact ⟨[.int .i64 z2], [], rfl, ⟨rfl, has_iff.2 hb⟩, by unfold Rep; rfl⟩
    · show W.cell? _ = none
      simp only [World.cell?, ho]
      simp [Ty.size]
end Go.Gv
