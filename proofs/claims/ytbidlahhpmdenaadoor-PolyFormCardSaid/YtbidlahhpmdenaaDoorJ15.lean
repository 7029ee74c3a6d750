/- strconv.Itoa and strings.Join in this program. -/
import Derived.Test.YtbidlahhpmdenaaDoorGg
import Derived.Test.YtbidlahhpmdenaaDoorY
import Derived.Test.YtbidlahhpmdenaaDoorB0
import Derived.Shelf.Strconv.Itoa3
set_option linter.all false
namespace Go.Gv
open Go Go.Proofs Go.Proofs.YtbidlahhpmdenaaDoor
theorem fn_hf {f : Nat} {fn : Func} {n : Nat} (h : FnOK SP f fn n) : ∃ fn, SP.funcs[f]? = some fn ∧ fn.body.isNone = false ∧ (fn.name == "runtime.NumGoroutine") = false := by
  refine ⟨fn, h.at', ?_, h.name⟩
  have := h.body
  cases hb : fn.body with
  | none => rw [hb] at this; cases this
  | some _ => rfl
theorem extra156 : Builder.Extra Tryd.prog lays156_ren := {
  sizeBuilder := by kernel_rfl
  liesBuilder := by kernel_rfl
  t5 := Tryd.underlying5
  a5 := Tryd.isAgg5
  z5 := Tryd.sizeOf5
  v5 := Tryd.zeroValue5
  infoByte := by kernel_rfl
  cellsByte := by kernel_rfl
  sizeByte := by kernel_rfl
  neB5 := by decide }
@[reducible] noncomputable def S_strings_Join : Spec := { ins := .cons (.d (.sl .str)) (.cons (.d .str) .nil), pre := fun x => (Lib.join x.1 x.2.1).length ≤ 1000000000 ∧ List.length x.1 ≤ 1000000000, alts := [{ outs := .cons (.d .str) .nil, res := fun x => (Lib.join x.1 x.2.1, ()) }], noisy := true }
theorem ok_strings_Join : SpecOK SP glob fi_strings_Join S_strings_Join := join_ok lays156 extra156 (fn_hf wf_strings_Join)
@[reducible] noncomputable def S_strconv_Itoa : Spec := { ins := .cons (.d (.int .i64)) .nil, pre := fun _ => True, alts := [{ outs := .cons (.d .str) .nil, res := fun x => (Lib.itoa x.1, ()) }] }
theorem ok_strconv_Itoa : SpecOK SP glob fi_strconv_Itoa S_strconv_Itoa := itoa_ok (g := 0) (fn_hf wf_strconv_Itoa) rfl (by kernel_rfl) (fun n h0 h1 w ht => Any.strconv_Itoa laysM171 n h0 h1 w ht)
@[reducible] noncomputable def S_math_bits_Len : Spec := { ins := .cons (.d (.int .u64)) .nil, pre := fun _ => True, alts := [{ outs := .cons (.d (.int .i64)) .nil, res := fun x => ((Lib.bitLen (Int.toNat x.1) : Int), ()) }] }
theorem ok_math_bits_Len : SpecOK SP glob fi_math_bits_Len S_math_bits_Len := bitsLen_ok lays125 wf_math_bits_Len
end Go.Gv
