/- The library's functions in this program: Itoa, Join, Len, IndexByte. -/
import Derived.Test.YtklcfpomppgblaaGreatDoorY
import Derived.Test.YtklcfpomppgblaaGreatDoorB0
import Derived.Shelf.Small.Strs
set_option linter.all false
namespace Go.Gv
open Go Go.Proofs Go.Proofs.YtklcfpomppgblaaGreatDoor
set_option maxRecDepth 100000
set_option maxHeartbeats 4000000
theorem fn_hf {f : Nat} {fn : Func} {n : Nat} (h : FnOK SP f fn n) : ∃ fn, SP.funcs[f]? = some fn ∧ fn.body.isNone = false ∧ (fn.name == "runtime.NumGoroutine") = false := by
  refine ⟨fn, h.at', ?_, h.name⟩
  have := h.body
  cases hb : fn.body with
  | none => rw [hb] at this; cases this
  | some _ => rfl
theorem extra156 : Builder.Extra Tryz.prog lays156_ren := {
  sizeBuilder := by kernel_rfl
  liesBuilder := by kernel_rfl
  t5 := Tryz.underlying5
  a5 := Tryz.isAgg5
  z5 := Tryz.sizeOf5
  v5 := Tryz.zeroValue5
  infoByte := by kernel_rfl
  cellsByte := by kernel_rfl
  sizeByte := by kernel_rfl
  neB5 := by decide }
@[reducible] noncomputable def S_strings_Join : Spec := { ins := .cons (.d (.sl .str)) (.cons (.d .str) .nil), pre := fun x => (Lib.join x.1 x.2.1).length ≤ 1000000000 ∧ List.length x.1 ≤ 1000000000, alts := [{ outs := .cons (.d .str) .nil, res := fun x => (Lib.join x.1 x.2.1, ()) }], noisy := true }
theorem ok_strings_Join : SpecOK SP glob fi_strings_Join S_strings_Join := join_ok lays156 extra156 (fn_hf wf_strings_Join)
@[reducible] noncomputable def S_strconv_Itoa : Spec := { ins := .cons (.d (.int .i64)) .nil, pre := fun _ => True, alts := [{ outs := .cons (.d .str) .nil, res := fun x => (Lib.itoa x.1, ()) }] }
theorem ok_strconv_Itoa : SpecOK SP glob fi_strconv_Itoa S_strconv_Itoa := itoa_ok (g := 4) (fn_hf wf_strconv_Itoa) rfl (by kernel_rfl) (fun n h0 h1 w ht => Any.strconv_Itoa laysM171 n h0 h1 w ht)
@[reducible] noncomputable def S_math_bits_Len : Spec := { ins := .cons (.d (.int .u64)) .nil, pre := fun _ => True, alts := [{ outs := .cons (.d (.int .i64)) .nil, res := fun x => ((Lib.bitLen (Int.toNat x.1) : Int), ()) }] }
theorem ok_math_bits_Len : SpecOK SP glob fi_math_bits_Len S_math_bits_Len := bitsLen_ok lays125 wf_math_bits_Len
theorem indexByte_lt (c : UInt8) : ∀ l : List UInt8, Lib.indexByte l c ≤ l.length
  | [] => by simp [Lib.indexByte]
  | b :: l => by
    have := indexByte_lt c l
    unfold Lib.indexByte
    split
    · simp; omega
    · split <;> simp <;> omega
@[reducible] noncomputable def S_strings_IndexByte : Spec := { ins := .cons (.d .str) (.cons (.d (.int .u8)) .nil), pre := fun _ => True, alts := [{ outs := .cons (.d (.int .i64)) .nil, res := fun x => (Lib.indexByte x.1 x.2.1.toNat.toUInt8, ()) }] }
theorem ok_strings_IndexByte : SpecOK SP glob fi_strings_IndexByte S_strings_IndexByte :=
  pure_ok wf_strings_IndexByte rfl rfl fun x _ β G args _ ha => by
    obtain ⟨s, c, ⟨⟩⟩ := x
    unfold intoA satT at ha
    obtain ⟨v, l, rfl, hs, hl⟩ := ha
    unfold intoA satT at hl
    obtain ⟨u, l, rfl, hs2, hl⟩ := hl
    unfold intoA satT at hl
    subst hl
    unfold intoA at hs hs2
    obtain ⟨rfl, hlen⟩ := str_sat hs
    obtain ⟨rfl, _⟩ := int_sat hs2
    refine (Any.strings_IndexByte lays137 ⟨⟨s⟩⟩ c G.w).mono fun e w' hr => ?_
    obtain ⟨rfl, rfl⟩ := hr
    refine ⟨[_], rfl, rfl, ?_⟩
    unfold intoA satT
    refine ⟨_, [], rfl, ?_, by unfold intoA satT; rfl⟩
    unfold intoA
    have h1 := Lib.indexByte_ge s c.toNat.toUInt8
    have h2 := indexByte_lt c.toNat.toUInt8 s
    have h3 : s.length ≤ 9223372036854775807 := hlen
    exact sat_int (has_iff.2 ⟨by simp only [lo]; omega, by simp only [hi]; omega⟩)
end Go.Gv
