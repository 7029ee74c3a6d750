/- The plain law of shares: quotients in lowest terms. -/
import Derived.Test.YtganngkllfpgiaaGreatDoorP04
set_option linter.all false
namespace Go.Gv
open Go

abbrev Rt := Int × Int × Unit
def rt (n d : Int) : Rt := (n, d, ())
def gcdI (a b : Int) : Int := (Nat.gcd a.natAbs b.natAbs : Int)
def absI (a : Int) : Int := (a.natAbs : Int)
def bigR (n d : Int) : Prop := 1000000000 < absI n / gcdI n d ∨ 1000000000 < absI d / gcdI n d
instance {n d : Int} : Decidable (bigR n d) := by unfold bigR; infer_instance
/-- n / d in lowest terms, with its error. -/
def mkE (n d : Int) : Int := if d = 0 then 1 else if bigR n d then 2 else 0
def mkV (n d : Int) : Rt := if mkE n d = 0 then (if (n < 0 ↔ d < 0) then rt (absI n / gcdI n d) (absI d / gcdI n d) else rt (-(absI n / gcdI n d)) (absI d / gcdI n d)) else rt 0 0
/-- n / d, or 0. -/
def shV (n d : Int) : Rt := if mkE n d = 0 then mkV n d else rt 0 1
def validR (a : Rt) : Prop := 0 < a.2.1 ∧ a.2.1 ≤ 1000000000 ∧ absI a.1 ≤ 1000000000 ∧ gcdI a.1 a.2.1 = 1
instance {a : Rt} : Decidable (validR a) := by unfold validR; infer_instance

theorem gcdI_pos {n d : Int} (h : d ≠ 0) : 0 < gcdI n d := by
  unfold gcdI
  have : 0 < Nat.gcd n.natAbs d.natAbs := Nat.gcd_pos_of_pos_right _ (by omega)
  omega
theorem absI_of {n : Int} (h : 0 ≤ n) : absI n = n := by unfold absI; omega
theorem absI_zero {n : Int} : absI n = 0 ↔ n = 0 := by unfold absI; omega
theorem gcdI_dvd (n d : Int) : gcdI n d ∣ n ∧ gcdI n d ∣ d := by
  unfold gcdI
  exact ⟨Int.ofNat_dvd_left.2 (Nat.gcd_dvd_left _ _), Int.ofNat_dvd_left.2 (Nat.gcd_dvd_right _ _)⟩
theorem div_le_self' {a g : Int} (ha : 0 ≤ a) (hg : 0 < g) : a / g ≤ a := Int.ediv_le_self g ha
theorem sh_fits {n d : Int} (h0 : 0 ≤ n) (h1 : n ≤ d) (h2 : 0 < d) (h3 : d ≤ 1000000000) : ¬ bigR n d := by
  have hg := gcdI_pos (n := n) (d := d) (by omega)
  unfold bigR
  rw [absI_of h0, absI_of (by omega : 0 ≤ d)]
  have a1 := div_le_self' h0 hg
  have a2 := div_le_self' (by omega : 0 ≤ d) hg
  omega
theorem sh_small {n d : Int} (h0 : 0 ≤ n) (h1 : n ≤ d) (h2 : 0 < d) (h3 : d ≤ 1000000000) : shV n d = rt (n / gcdI n d) (d / gcdI n d) := by
  have he : mkE n d = 0 := by unfold mkE; rw [if_neg (by omega), if_neg (sh_fits h0 h1 h2 h3)]
  unfold shV mkV
  rw [if_pos he, if_pos he, if_pos ⟨fun _ => by omega, fun _ => by omega⟩, absI_of h0, absI_of (by omega : 0 ≤ d)]
/-- A share is a valid ratio from 0 to 1. -/
def unitR (a : Rt) : Prop := validR a ∧ 0 ≤ a.1 ∧ a.1 ≤ a.2.1
theorem sh_one {d : Int} (h2 : 0 < d) (h3 : d ≤ 1000000000) : shV d d = rt 1 1 := by
  rw [sh_small (by omega) (Int.le_refl _) h2 h3]
  have : gcdI d d = d := by
    unfold gcdI
    rw [Nat.gcd_self]; omega
  rw [this, Int.ediv_self (by omega)]
theorem sh_none {d : Int} (h2 : 0 < d) (h3 : d ≤ 1000000000) : shV 0 d = rt 0 1 := by
  rw [sh_small (Int.le_refl _) (by omega) h2 h3]
  have : gcdI 0 d = d := by
    unfold gcdI
    rw [Int.natAbs_zero, Nat.gcd_zero_left]; omega
  rw [this, Int.ediv_self (by omega), Int.zero_ediv]
/-- Cross products of a share. -/
theorem sh_cross {n d : Int} (h0 : 0 ≤ n) (h1 : n ≤ d) (h2 : 0 < d) (h3 : d ≤ 1000000000) : ∃ g : Int, 0 < g ∧ n = g * (shV n d).1 ∧ d = g * (shV n d).2.1 := by
  rw [sh_small h0 h1 h2 h3]
  obtain ⟨d1, d2⟩ := gcdI_dvd n d
  exact ⟨gcdI n d, gcdI_pos (by omega), (Int.mul_ediv_cancel' d1).symm, (Int.mul_ediv_cancel' d2).symm⟩
theorem sh_is_none {n d : Int} (h0 : 0 ≤ n) (h1 : n ≤ d) (h2 : 0 < d) (h3 : d ≤ 1000000000) : shV n d = rt 0 1 ↔ n = 0 := by
  constructor
  · intro h
    obtain ⟨g, _, e1, e2⟩ := sh_cross h0 h1 h2 h3
    rw [h] at e1
    rw [e1]; exact Int.mul_zero g
  · rintro rfl
    exact sh_none h2 h3
end Go.Gv
