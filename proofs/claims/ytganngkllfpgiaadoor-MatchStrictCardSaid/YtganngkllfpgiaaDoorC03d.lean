/- Chapter 3: grams, elements in common. -/
import Derived.Test.YtganngkllfpgiaaDoorC03c
set_option linter.all false
namespace Go.Gv
open Go Go.Proofs Go.Proofs.YtganngkllfpgiaaDoor

theorem Ws_len (t : Bs) : (Ws t).length ≤ t.length + 1 := by
  rw [← words_Ws, List.length_map]; exact words_len t []
theorem insS_len : ∀ {l : List Bs} {x : Bs}, (insS l x).length ≤ l.length + 1
  | [], x => by simp [insS]
  | y :: l, x => by
    have := insS_len (l := l) (x := x)
    unfold insS
    split
    · simp only [List.length_cons]; omega
    · split <;> simp
theorem sorS_len : ∀ (l a : List Bs), (l.foldl insS a).length ≤ l.length + a.length
  | [], a => by simp
  | x :: l, a => by
    have h1 := sorS_len l (insS a x)
    have h2 := insS_len (l := a) (x := x)
    rw [List.foldl_cons, List.length_cons]
    omega

/-- Elements in common: the steps of the walk. -/
theorem com_nil {b : List Bs} : comS [] b = 0 := rfl
theorem com_none {a : List Bs} : comS a [] = 0 := by simp [comS]
theorem com_lt {x y : Bs} {a b : List Bs} (hb : incS (y :: b)) (h : x < y) : comS (x :: a) (y :: b) = comS a (y :: b) := by
  have hn : x ∉ y :: b := fun hm => by
    rcases List.mem_cons.1 hm with e | e
    · subst e; exact bs_irr _ h
    · exact bs_irr _ (bs_trans h ((List.pairwise_cons.1 hb).1 x e))
  unfold comS
  rw [List.filter_cons_of_neg (by simpa using hn)]
theorem com_gt {x y : Bs} {a b : List Bs} (ha : incS (x :: a)) (h : y < x) : comS (x :: a) (y :: b) = comS (x :: a) b := by
  unfold comS
  congr 1
  refine List.filter_congr fun z hz => ?_
  have hn : z ≠ y := fun e => by
    subst e
    rcases List.mem_cons.1 hz with e | e
    · subst e; exact bs_irr _ h
    · exact bs_irr _ (bs_trans h ((List.pairwise_cons.1 ha).1 z e))
  simp [hn]
theorem com_eq {x : Bs} {a b : List Bs} (ha : incS (x :: a)) : comS (x :: a) (x :: b) = comS a b + 1 := by
  unfold comS
  rw [List.filter_cons_of_pos (by simp), List.length_cons]
  congr 2
  refine List.filter_congr fun z hz => ?_
  have hn : z ≠ x := fun e => by
    subst e
    exact bs_irr _ ((List.pairwise_cons.1 ha).1 z hz)
  simp [hn]
theorem inc_tail {x : Bs} {l : List Bs} (h : incS (x :: l)) : incS l := (List.pairwise_cons.1 h).2
theorem com_le (a b : List Bs) : comS a b ≤ a.length := List.length_filter_le _ _

def unitS (l : List Bs) : List (Bs × Unit) := l.map fun x => (x, ())
theorem unit_fst (l : List Bs) : (unitS l).map Prod.fst = l := by
  unfold unitS
  rw [List.map_map]
  exact List.map_id' l
theorem tl_take {x : Bs} {l : List Bs} {n : Nat} (h : n = l.length + 1) : List.drop 1 (List.take n (x :: l)) = l := by subst h; simp
theorem part_len (s : Bs) (n k : Nat) : (partS s n k).length = k := by simp [partS]
theorem part_lenU (s : Bs) (n k : Nat) : (unitS (partS s n k)).length = k := by rw [unitS, List.length_map, part_len]
theorem part_step {s : Bs} {n k : Nat} {m : List (Bs × Bool)} : putW m (unitS (partS s n (k + 1))) = @mput (List UInt8) Bool (instDecidableEqDat .str) (putW m (unitS (partS s n k))) ((s.take (k + n)).drop k) true := by
  unfold partS unitS putW
  rw [List.range_succ, List.map_append, List.map_append, List.foldl_append]
  rfl


end Go.Gv
