/- strconv.Itoa and strings.Join in this program. -/
import Derived.Test.YtibnojoffhlekaaGreatDoorGh
import Derived.Test.YtibnojoffhlekaaGreatDoorY
import Derived.Test.YtibnojoffhlekaaGreatDoorB0
import Derived.Shelf.Strconv.Itoa3
set_option linter.all false
namespace Go.Gv
open Go Go.Proofs Go.Proofs.YtibnojoffhlekaaGreatDoor
set_option maxRecDepth 100000
set_option maxHeartbeats 4000000
theorem fn_hf {f : Nat} {fn : Func} {n : Nat} (h : FnOK SP f fn n) : ∃ fn, SP.funcs[f]? = some fn ∧ fn.body.isNone = false ∧ (fn.name == "runtime.NumGoroutine") = false := by
 refine ⟨fn,h.at',?_,h.name⟩
 have:=h.body
 cases hb:fn.body with
 |none=>rw [hb] at this;cases this
 |some _=>rfl
theorem extra156:Builder.Extra Tryz.prog lays156_ren:={
 sizeBuilder:=by kernel_rfl
 liesBuilder:=by kernel_rfl
 t5:=Tryz.underlying5
 a5:=Tryz.isAgg5
 z5:=Tryz.sizeOf5
 v5:=Tryz.zeroValue5
 infoByte:=by kernel_rfl
 cellsByte:=by kernel_rfl
 sizeByte:=by kernel_rfl
 neB5:=by decide}
@[reducible] noncomputable def S_z163:Spec:={ ins:= .cons (.d (.sl .str)) (.cons (.d .str) .nil),pre:=fun x=>(Lib.join x.1 x.2.1).length≤1000000000∧List.length x.1≤1000000000,alts:=[{ outs:= .cons (.d .str) .nil,res:=fun x=>(Lib.join x.1 x.2.1,())}],noisy:=true}
theorem ok_z163:SpecOK SP glob fi_z163 S_z163:=join_ok lays156 extra156 (fn_hf wf_z163)
@[reducible] noncomputable def S_z157:Spec:={ ins:= .cons (.d (.int .i64)) .nil,pre:=fun _=>True,alts:=[{ outs:= .cons (.d .str) .nil,res:=fun x=>(Lib.itoa x.1,())}]}
theorem ok_z157:SpecOK SP glob fi_z157 S_z157:=itoa_ok (g:=0) (fn_hf wf_z157) rfl (by kernel_rfl) (fun n h0 h1 w ht=>Any.strconv_Itoa laysM171 n h0 h1 w ht)
@[reducible] noncomputable def S_z55:Spec:={ ins:= .cons (.d (.int .u64)) .nil,pre:=fun _=>True,alts:=[{ outs:= .cons (.d (.int .i64)) .nil,res:=fun x=>((Lib.bitLen (Int.toNat x.1):Int),())}]}
theorem ok_z55:SpecOK SP glob fi_z55 S_z55:=bitsLen_ok lays125 wf_z55
end Go.Gv
