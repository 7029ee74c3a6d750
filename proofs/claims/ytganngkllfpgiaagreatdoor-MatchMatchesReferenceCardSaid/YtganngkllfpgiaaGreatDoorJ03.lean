/- strings.Join and slices.Sort in this program. -/
import Derived.Test.YtganngkllfpgiaaGreatDoorGg
import Derived.Test.YtganngkllfpgiaaGreatDoorY
import Derived.Test.YtganngkllfpgiaaGreatDoorC03b
import Derived.Test.YtganngkllfpgiaaGreatDoorP03
set_option linter.all false
namespace Go.Gv
open Go Go.Proofs Go.Proofs.YtganngkllfpgiaaGreatDoor
theorem fn_hf {f : Nat} {fn : Func} {n : Nat} (h : FnOK SP f fn n) : ∃ fn, SP.funcs[f]? = some fn ∧ fn.body.isNone = false ∧ (fn.name == "runtime.NumGoroutine") = false := by
  refine ⟨fn, h.at', ?_, h.name⟩
  have := h.body
  cases hb : fn.body with
  | none => rw [hb] at this; cases this
  | some _ => rfl
theorem extra156 : Builder.Extra Tryz.prog lays156_ren := {
  sizeBuilder := by kernel_rfl
  liesBuilder := by kernel_rfl
  t5 := Tryz.underlying5
  a5 := Tryz.isAgg5
  z5 := Tryz.sizeOf5
  v5 := Tryz.zeroValue5
  infoByte := by kernel_rfl
  cellsByte := by kernel_rfl
  sizeByte := by kernel_rfl
  neB5 := by decide }
@[reducible] noncomputable def S_strings_Join : Spec := { ins := .cons (.d (.sl .str)) (.cons (.d .str) .nil), pre := fun x => (Lib.join x.1 x.2.1).length ≤ 1000000000 ∧ List.length x.1 ≤ 1000000000, alts := [{ outs := .cons (.d .str) .nil, res := fun x => (Lib.join x.1 x.2.1, ()) }], noisy := true }
set_option maxRecDepth 100000 in
theorem ok_strings_Join : SpecOK SP glob fi_strings_Join S_strings_Join := join_ok lays156 extra156 (fn_hf wf_strings_Join)
@[reducible] noncomputable def S_slices_Sort_sl_string_string : Spec := { ins := .cons (.row .str) .nil, pre := fun x => List.length x.1 < 4611686018427387904, alts := [{ outs := .nil, res := fun _ => (), upd := fun x => (List.mergeSort x.1 (fun (x y : List UInt8) => decide (x ≤ y)), ()) }] }
set_option maxRecDepth 100000 in
theorem ok_slices_Sort_sl_string_string : SpecOK SP glob fi_slices_Sort_sl_string_string S_slices_Sort_sl_string_string := sortS_ok lays190 (fn_hf wf_slices_Sort_sl_string_string)
end Go.Gv
