/- The plain law of Jaro: symmetric; one for equal texts alone; from 0 to 1. -/
import Derived.Test.YtganngkllfpgiaaGreatDoorP04d
set_option linter.all false
namespace Go.Gv
open Go

/-- The matched places, in order. -/
def plJ (T : List Nat) (n : Nat) : List Nat := (List.range n).filter fun j => decide (j ∈ T)
/-- Places where two texts differ. -/
def misJ : Bs → Bs → Nat
  | x :: l, y :: m => misJ l m + (if x = y then 0 else 1)
  | _, _ => 0
/-! From 0 to 1. -/
end Go.Gv
