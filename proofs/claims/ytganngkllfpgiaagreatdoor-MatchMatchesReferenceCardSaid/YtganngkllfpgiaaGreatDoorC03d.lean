/- Chapter 3: grams, elements in common. -/
import Derived.Test.YtganngkllfpgiaaGreatDoorC03c
set_option linter.all false
namespace Go.Gv
open Go Go.Proofs Go.Proofs.YtganngkllfpgiaaGreatDoor
set_option maxRecDepth 100000
set_option maxHeartbeats 4000000

theorem Ws_len (t : Bs) : (Ws t).length ≤ t.length + 1 := by
  rw [← words_Ws, List.length_map]; exact words_len t []
theorem insS_len : ∀ {l : List Bs} {x : Bs}, (insS l x).length ≤ l.length + 1
  | [], x => by simp [insS]
  | y :: l, x => by
    have := insS_len (l := l) (x := x)
    unfold insS
    split
    · simp only [List.length_cons]; omega
    · split <;> simp
theorem sorS_len : ∀ (l a : List Bs), (l.foldl insS a).length ≤ l.length + a.length
  | [], a => by simp
  | x :: l, a => by
    have h1 := sorS_len l (insS a x)
    have h2 := insS_len (l := a) (x := x)
    rw [List.foldl_cons, List.length_cons]
    omega

def unitS (l : List Bs) : List (Bs × Unit) := l.map fun x => (x, ())
end Go.Gv
