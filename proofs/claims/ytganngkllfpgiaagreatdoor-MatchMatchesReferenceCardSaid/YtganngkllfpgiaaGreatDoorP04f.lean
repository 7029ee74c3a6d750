/- The plain law of similarities: symmetric, from 0 to 1, one for equal arguments; near numbers. -/
import Derived.Test.YtganngkllfpgiaaGreatDoorP04e
import Derived.Test.YtganngkllfpgiaaGreatDoorC04c
set_option linter.all false
namespace Go.Gv
open Go

theorem both_symm (a b : List Bs) : bothS a b = bothS b a := by
  unfold bothS cntS
  have n1 := (inc_nodup (sorS_inc b)).filter (fun z => decide (z ∈ a))
  have n2 := (inc_nodup (sorS_inc a)).filter (fun z => decide (z ∈ b))
  refine ((List.perm_ext_iff_of_nodup n1 n2).2 fun z => ?_).length_eq
  simp only [List.mem_filter, decide_eq_true_eq, sorS_mem]
  exact And.comm
/-! Comparisons of shares. -/
def cmpR (a b : Rt) : Int := if validR a ∧ validR b then (if a.1 * b.2.1 - b.1 * a.2.1 < 0 then -1 else if 0 < a.1 * b.2.1 - b.1 * a.2.1 then 1 else 0) else 0
end Go.Gv
