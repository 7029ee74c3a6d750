/- The plain law of similarities of values. -/
import Derived.Test.YtganngkllfpgiaaDoorP04f
import Derived.Test.YtganngkllfpgiaaDoorC04e
set_option linter.all false
namespace Go.Gv
open Go

theorem bad_symm {m t : Int} {a b : Vl} : badT m t a b ↔ badT m t b a := by
  unfold badT
  constructor
  · rintro (h | h | h | h)
    · exact .inl h
    · exact .inr (.inr (.inl h))
    · exact .inr (.inl h)
    · exact .inr (.inr (.inr h))
  · rintro (h | h | h | h)
    · exact .inl h
    · exact .inr (.inr (.inl h))
    · exact .inr (.inl h)
    · exact .inr (.inr (.inr h))
theorem nul_symm {a b : Vl} : nulT a b ↔ nulT b a := by unfold nulT; exact Or.comm
theorem typ_symm {m : Int} {a b : Vl} : typT m a b ↔ typT m b a := by unfold typT; omega
theorem tx_symm (m : Int) (x y : List UInt8) : txV m x y = txV m y x := by
  unfold txV
  rw [al_symm, jc_symm, jr_symm]
theorem of_symm (m t : Int) (a b : Vl) : ofE m t a b = ofE m t b a ∧ ofV m t a b = ofV m t b a := by
  unfold ofE ofV
  simp only [bad_symm (a := a) (b := b), nul_symm (a := a) (b := b), typ_symm (m := m) (a := a) (b := b), nr_symm a.2.1, tx_symm m a.2.2.1]
  refine ⟨trivial, ?_⟩
  by_cases h : a = b
  · rw [h]
  · have h2 : ¬ b = a := fun e => h e.symm
    simp only [h, h2]
theorem tx_unit {m : Int} {x y : List UInt8} (hx : x.length ≤ 200) (hy : y.length ≤ 200) : unitR (txV m x y) := by
  unfold txV
  have f1 := fold_len x
  have f2 := fold_len y
  have s1 := card_le (Ws x)
  have s2 := card_le (Ws y)
  have w1 := Ws_len x
  have w2 := Ws_len y
  unfold cardS at s1 s2
  split
  · exact al_unit (by omega) (by omega)
  · split
    · exact jc_unit (by omega) (by omega)
    · exact jr_unit _ _
theorem tx_self {m : Int} {x : List UInt8} (hx : x.length ≤ 200) : txV m x x = rt 1 1 := by
  unfold txV
  have f1 := fold_len x
  have s1 := card_le (Ws x)
  have w1 := Ws_len x
  unfold cardS at s1
  split
  · exact al_self (by omega)
  · split
    · exact jc_self (by omega)
    · exact jr_self (by omega)
theorem of_unit {m t : Int} {a b : Vl} (h : ofE m t a b = 0) : unitR (ofV m t a b) := by
  by_cases hb : badT m t a b
  · rw [(of_bad hb).2] at h; omega
  · have hva : vlV a := Classical.byContradiction fun e => hb (.inr (.inl e))
    have hvb : vlV b := Classical.byContradiction fun e => hb (.inr (.inr (.inl e)))
    by_cases hn : nulT a b
    · rw [(of_nul hb hn).1]; exact unit_none
    · by_cases h1 : m = 1
      · rw [(of_eq hb hn h1).1]
        split
        · exact unit_one
        · exact unit_none
      · by_cases ht : typT m a b
        · rw [(of_typ hb hn h1 ht).2] at h; omega
        · by_cases h5 : m = 5
          · rw [(of_nr hb hn h5 ht).1]; exact nr_unit _ _ _
          · rw [(of_tx hb hn h1 h5 ht).1]
            exact tx_unit (vl_text hva) (vl_text hvb)
theorem of_self {m t : Int} {a : Vl} (h : ofE m t a a = 0) (h0 : ¬ a.1 = 0) : ofV m t a a = rt 1 1 := by
  by_cases hb : badT m t a a
  · rw [(of_bad hb).2] at h; omega
  · have hva : vlV a := Classical.byContradiction fun e => hb (.inr (.inl e))
    have hn : ¬ nulT a a := fun e => e.elim h0 h0
    by_cases h1 : m = 1
    · rw [(of_eq hb hn h1).1, if_pos rfl]
    · by_cases ht : typT m a a
      · rw [(of_typ hb hn h1 ht).2] at h; omega
      · by_cases h5 : m = 5
        · rw [(of_nr hb hn h5 ht).1, nr_self]
          have : ¬ (t < 0 ∨ 1000000000 ≤ t) := fun e => hb (.inr (.inr (.inr ⟨h5, e⟩)))
          omega
        · rw [(of_tx hb hn h1 h5 ht).1]
          exact tx_self (vl_text hva)
end Go.Gv
