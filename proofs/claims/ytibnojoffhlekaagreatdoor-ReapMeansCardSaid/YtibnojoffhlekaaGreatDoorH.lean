/- The seat's table of types and numbers of functions, printed by a program. -/
import Derived.Test.YtibnojoffhlekaaGreatDoorGg
import Derived.Test.YtibnojoffhlekaaGreatDoorChecked
import Derived.Test.YtibnojoffhlekaaGreatDoorRows
import Derived.Lib.ItoaNum
set_option linter.all false
namespace Go.Gv
open Go Go.Proofs Go.Proofs.YtibnojoffhlekaaGreatDoor
noncomputable def glob : Glob := fun g => match g with | 0 => some ⟨.arr 20 (.int .u64), Lib.pow10Tab⟩ | _ => none
@[reducible] noncomputable def SP : Program := Tryz.prog
theorem mix_ok : SP.follows .mixedOrders = true := by kernel_rfl
def tab : List (Nat × (Ty × Nat)) := [(2, .int .i64, 8), (3, .int .i64, 8), (4, .bool, 1), (5, .int .u8, 1), (9, .str, 16), (20, .ot 1, 16), (22, .sl (.st (.cs (.int .i64) (.cs (.int .i64) (.cs (.sl (.int .i64)) (.nl))))), 24), (24, .st (.cs (.sl (.st (.cs (.int .i64) (.cs (.int .i64) (.cs (.sl (.int .i64)) (.nl)))))) (.nl)), 24), (25, .sl (.int .i64), 24), (26, .sl (.bool), 24), (29, .int .i64, 8), (32, .sl (.st (.cs (.int .i64) (.cs (.sl (.st (.cs (.int .i64) (.cs (.int .i64) (.nl))))) (.nl)))), 24), (33, .sl (.st (.cs (.int .i64) (.cs (.sl (.st (.cs (.int .i64) (.cs (.int .i64) (.nl))))) (.nl)))), 24), (40, .st (.cs (.int .i64) (.cs (.int .i64) (.cs (.sl (.int .i64)) (.nl)))), 40), (53, .fn, 8), (56, .sl (.st (.cs (.int .i64) (.cs (.int .i64) (.nl)))), 24), (58, .st (.cs (.int .i64) (.cs (.sl (.st (.cs (.int .i64) (.cs (.int .i64) (.nl))))) (.nl))), 32), (60, .st (.cs (.int .i64) (.cs (.int .i64) (.nl))), 16), (62, .sl (.int .u8), 24), (66, .ot 2, 8), (70, .fn, 8), (73, .sl (.st (.cs (.bool) (.cs (.int .i64) (.nl)))), 24), (74, .fn, 8), (77, .st (.cs (.fn) (.cs (.fn) (.cs (.fn) (.nl)))), 24), (80, .fn, 8), (81, .fn, 8), (83, .st (.cs (.fn) (.cs (.fn) (.cs (.fn) (.nl)))), 24), (84, .mp (.str) (.int .i64), 8), (89, .fn, 8), (90, .fn, 8), (95, .fn, 8), (98, .fn, 8), (99, .fn, 8), (102, .st (.cs (.int .i64) (.cs (.bool) (.nl))), 16), (105, .fn, 8), (106, .fn, 8), (108, .st (.cs (.fn) (.cs (.fn) (.cs (.fn) (.nl)))), 24), (109, .sl (.sl (.st (.cs (.int .i64) (.cs (.sl (.st (.cs (.int .i64) (.cs (.int .i64) (.nl))))) (.nl))))), 24), (112, .mp (.str) (.st (.cs (.int .i64) (.cs (.sl (.st (.cs (.int .i64) (.cs (.int .i64) (.nl))))) (.nl)))), 8), (117, .mp (.int .i64) (.bool), 8), (119, .st (.cs (.st (.cs (.sl (.st (.cs (.int .i64) (.cs (.int .i64) (.cs (.sl (.int .i64)) (.nl)))))) (.nl))) (.cs (.sl (.int .i64)) (.cs (.mp (.int .i64) (.bool)) (.cs (.sl (.int .i64)) (.nl))))), 80), (121, .mp (.int .i64) (.int .i64), 8), (126, .fn, 8), (133, .fn, 8), (135, .fn, 8), (140, .int .u64, 8), (144, .fn, 8), (145, .sl (.str), 24), (150, .sl (.sl (.st (.cs (.int .i64) (.cs (.int .i64) (.nl))))), 24), (153, .int .i64, 8), (160, .int .u32, 4), (162, .int .u64, 8), (164, .ot 2, 8), (166, .st (.cs (.ot 2) (.cs (.sl (.int .u8)) (.nl))), 32), (168, .ot 1, 16), (177, .int .u64, 8), (181, .ot 2, 8), (183, .arr 24 (.int .u8), 24), (188, .ot 2, 8), (191, .ot 2, 8), (196, .arr 20 (.int .u64), 160), (197, .arr 65 (.int .u8), 65), (202, .arr 32 (.int .u8), 32), (203, .arr 64 (.int .u8), 64)]
theorem tab_ok0 : (Env.mk tab [] [] []).ok SP = true := by kernel_rfl
theorem tab_ok {rows wraps : List Nat} : ∀ imm, (Env.mk tab imm rows wraps).ok SP = true := by intro imm; have h := tab_ok0; unfold Env.ok at h ⊢; exact h
@[reducible] def fi_z51 : Nat := 3
noncomputable def cf_z51 (F : Specs) : Cf := { E := { tab := tab, imm := [3] }, F := F, gl := glob, N := 109, keep := [0, 1, 2, 3, 6, 7, 8, 9, 10, 11, 12, 13, 14, 15, 30, 40, 57, 61, 107] }
@[reducible] noncomputable def fn_z51 : Func := Tryz.f3
theorem wf_z51 : FnOK SP fi_z51 fn_z51 109 := ⟨Tryz.func3, by kernel_rfl, by kernel_rfl, Tryz.ntmps3⟩
@[reducible] def fi_z53 : Nat := 11
noncomputable def cf_z53 (F : Specs) : Cf := { E := { tab := tab, imm := [] }, F := F, gl := glob, N := 181, keep := [0, 1, 2, 3, 4, 5, 6, 7, 10, 11, 12, 15, 16, 17, 18, 19, 20, 21, 22, 23, 25, 26, 27, 73] }
@[reducible] noncomputable def fn_z53 : Func := Tryz.f11
theorem wf_z53 : FnOK SP fi_z53 fn_z53 181 := ⟨Tryz.func11, by kernel_rfl, by kernel_rfl, Tryz.ntmps11⟩
@[reducible] def fi_z52 : Nat := 12
noncomputable def cf_z52 (F : Specs) : Cf := { E := { tab := tab, imm := [3] }, F := F, gl := glob, N := 19, keep := [0, 1, 2, 3, 6] }
@[reducible] noncomputable def fn_z52 : Func := Tryz.f12
theorem wf_z52 : FnOK SP fi_z52 fn_z52 19 := ⟨Tryz.func12, by kernel_rfl, by kernel_rfl, Tryz.ntmps12⟩
@[reducible] def fi_z76 : Nat := 13
noncomputable def cf_z76 (F : Specs) : Cf := { E := { tab := tab, imm := [2] }, F := F, gl := glob, N := 29, keep := [0, 1, 2, 4, 5, 6, 7, 8, 16] }
@[reducible] noncomputable def fn_z76 : Func := Tryz.f13
theorem wf_z76 : FnOK SP fi_z76 fn_z76 29 := ⟨Tryz.func13, by kernel_rfl, by kernel_rfl, Tryz.ntmps13⟩
@[reducible] def fi_z10 : Nat := 14
noncomputable def cf_z10 (F : Specs) : Cf := { E := { tab := tab, imm := [2] }, F := F, gl := glob, N := 14, keep := [0, 1, 2, 4, 5, 6] }
@[reducible] noncomputable def fn_z10 : Func := Tryz.f14
theorem wf_z10 : FnOK SP fi_z10 fn_z10 14 := ⟨Tryz.func14, by kernel_rfl, by kernel_rfl, Tryz.ntmps14⟩
@[reducible] def fi_z89 : Nat := 15
noncomputable def cf_z89 (F : Specs) : Cf := { E := { tab := tab, imm := [] }, F := F, gl := glob, N := 71, keep := [0, 1, 4, 5, 6, 11, 15, 43, 51, 70] }
@[reducible] noncomputable def fn_z89 : Func := Tryz.f15
theorem wf_z89 : FnOK SP fi_z89 fn_z89 71 := ⟨Tryz.func15, by kernel_rfl, by kernel_rfl, Tryz.ntmps15⟩
@[reducible] def fi_z6 : Nat := 16
noncomputable def cf_z6 (F : Specs) : Cf := { E := { tab := tab, imm := [3, 5] }, F := F, gl := glob, N := 22, keep := [0, 1, 2, 3, 5, 6, 7, 8] }
@[reducible] noncomputable def fn_z6 : Func := Tryz.f16
theorem wf_z6 : FnOK SP fi_z6 fn_z6 22 := ⟨Tryz.func16, by kernel_rfl, by kernel_rfl, Tryz.ntmps16⟩
@[reducible] def fi_z98 : Nat := 18
noncomputable def cf_z98 (F : Specs) : Cf := { E := { tab := tab, imm := [2] }, F := F, gl := glob, N := 26, keep := [0, 1, 2, 4, 5, 10, 15, 25] }
@[reducible] noncomputable def fn_z98 : Func := Tryz.f18
theorem wf_z98 : FnOK SP fi_z98 fn_z98 26 := ⟨Tryz.func18, by kernel_rfl, by kernel_rfl, Tryz.ntmps18⟩
@[reducible] def fi_z103 : Nat := 25
noncomputable def cf_z103 (F : Specs) : Cf := { E := { tab := tab, imm := [2, 3] }, F := F, gl := glob, N := 32, keep := [0, 1, 2, 3, 4, 5, 12, 17, 31] }
@[reducible] noncomputable def fn_z103 : Func := Tryz.f25
theorem wf_z103 : FnOK SP fi_z103 fn_z103 32 := ⟨Tryz.func25, by kernel_rfl, by kernel_rfl, Tryz.ntmps25⟩
@[reducible] def fi_z13 : Nat := 26
noncomputable def cf_z13 (F : Specs) : Cf := { E := { tab := tab, imm := [1] }, F := F, gl := glob, N := 11, keep := [0, 1, 2, 4] }
@[reducible] noncomputable def fn_z13 : Func := Tryz.f26
theorem wf_z13 : FnOK SP fi_z13 fn_z13 11 := ⟨Tryz.func26, by kernel_rfl, by kernel_rfl, Tryz.ntmps26⟩
@[reducible] def fi_z62 : Nat := 30
noncomputable def cf_z62 (F : Specs) : Cf := { E := { tab := tab, imm := [] }, F := F, gl := glob, N := 17, keep := [0, 2, 3, 4, 11] }
@[reducible] noncomputable def fn_z62 : Func := Tryz.f30
theorem wf_z62 : FnOK SP fi_z62 fn_z62 17 := ⟨Tryz.func30, by kernel_rfl, by kernel_rfl, Tryz.ntmps30⟩
@[reducible] def fi_z61 : Nat := 31
noncomputable def cf_z61 (F : Specs) : Cf := { E := { tab := tab, imm := [] }, F := F, gl := glob, N := 35, keep := [0, 1, 4, 5, 6, 8, 16, 21, 22, 23, 24] }
@[reducible] noncomputable def fn_z61 : Func := Tryz.f31
theorem wf_z61 : FnOK SP fi_z61 fn_z61 35 := ⟨Tryz.func31, by kernel_rfl, by kernel_rfl, Tryz.ntmps31⟩
@[reducible] def fi_z65 : Nat := 32
noncomputable def cf_z65 (F : Specs) : Cf := { E := { tab := tab, imm := [] }, F := F, gl := glob, N := 52, keep := [0, 1, 4, 5, 6, 8, 10, 18, 20, 21, 22, 23, 26, 27, 28, 29] }
@[reducible] noncomputable def fn_z65 : Func := Tryz.f32
theorem wf_z65 : FnOK SP fi_z65 fn_z65 52 := ⟨Tryz.func32, by kernel_rfl, by kernel_rfl, Tryz.ntmps32⟩
@[reducible] def fi_z54 : Nat := 35
noncomputable def cf_z54 (F : Specs) : Cf := { E := { tab := tab, imm := [] }, F := F, gl := glob, N := 10, keep := [0] }
@[reducible] noncomputable def fn_z54 : Func := Tryz.f35
theorem wf_z54 : FnOK SP fi_z54 fn_z54 10 := ⟨Tryz.func35, by kernel_rfl, by kernel_rfl, Tryz.ntmps35⟩
@[reducible] def fi_z77 : Nat := 36
noncomputable def cf_z77 (F : Specs) : Cf := { E := { tab := tab, imm := [2] }, F := F, gl := glob, N := 37, keep := [0, 1, 2, 4, 5, 6, 8, 16, 26, 27, 28, 29] }
@[reducible] noncomputable def fn_z77 : Func := Tryz.f36
theorem wf_z77 : FnOK SP fi_z77 fn_z77 37 := ⟨Tryz.func36, by kernel_rfl, by kernel_rfl, Tryz.ntmps36⟩
@[reducible] def fi_z80 : Nat := 37
noncomputable def cf_z80 (F : Specs) : Cf := { E := { tab := tab, imm := [] }, F := F, gl := glob, N := 68, keep := [0, 2, 3, 4, 5, 6, 7, 8, 9, 10, 14, 28, 29, 30, 31, 40] }
@[reducible] noncomputable def fn_z80 : Func := Tryz.f37
theorem wf_z80 : FnOK SP fi_z80 fn_z80 68 := ⟨Tryz.func37, by kernel_rfl, by kernel_rfl, Tryz.ntmps37⟩
@[reducible] def fi_z82 : Nat := 38
noncomputable def cf_z82 (F : Specs) : Cf := { E := { tab := tab, imm := [] }, F := F, gl := glob, N := 70, keep := [0, 1, 4, 5, 7, 9, 19, 52, 53, 54, 55] }
@[reducible] noncomputable def fn_z82 : Func := Tryz.f38
theorem wf_z82 : FnOK SP fi_z82 fn_z82 70 := ⟨Tryz.func38, by kernel_rfl, by kernel_rfl, Tryz.ntmps38⟩
@[reducible] def fi_z79 : Nat := 39
noncomputable def cf_z79 (F : Specs) : Cf := { E := { tab := tab, imm := [] }, F := F, gl := glob, N := 34, keep := [0, 1, 4, 20] }
@[reducible] noncomputable def fn_z79 : Func := Tryz.f39
theorem wf_z79 : FnOK SP fi_z79 fn_z79 34 := ⟨Tryz.func39, by kernel_rfl, by kernel_rfl, Tryz.ntmps39⟩
@[reducible] def fi_z84 : Nat := 40
noncomputable def cf_z84 (F : Specs) : Cf := { E := { tab := tab, imm := [] }, F := F, gl := glob, N := 26, keep := [0, 1, 4, 5, 10, 14, 25] }
@[reducible] noncomputable def fn_z84 : Func := Tryz.f40
theorem wf_z84 : FnOK SP fi_z84 fn_z84 26 := ⟨Tryz.func40, by kernel_rfl, by kernel_rfl, Tryz.ntmps40⟩
@[reducible] def fi_z11 : Nat := 41
noncomputable def cf_z11 (F : Specs) : Cf := { E := { tab := tab, imm := [1] }, F := F, gl := glob, N := 18, keep := [0, 1, 2, 3, 6] }
@[reducible] noncomputable def fn_z11 : Func := Tryz.f41
theorem wf_z11 : FnOK SP fi_z11 fn_z11 18 := ⟨Tryz.func41, by kernel_rfl, by kernel_rfl, Tryz.ntmps41⟩
@[reducible] def fi_z67 : Nat := 42
noncomputable def cf_z67 (F : Specs) : Cf := { E := { tab := tab, imm := [] }, F := F, gl := glob, N := 15, keep := [0, 2, 3, 9] }
@[reducible] noncomputable def fn_z67 : Func := Tryz.f42
theorem wf_z67 : FnOK SP fi_z67 fn_z67 15 := ⟨Tryz.func42, by kernel_rfl, by kernel_rfl, Tryz.ntmps42⟩
@[reducible] def fi_z14 : Nat := 43
noncomputable def cf_z14 (F : Specs) : Cf := { E := { tab := tab, imm := [3, 5] }, F := F, gl := glob, N := 107, keep := [0, 1, 2, 3, 5, 6, 7, 8, 9, 10, 11, 12, 13, 15, 29, 36, 37, 38, 42, 54, 71, 76, 77, 78, 79, 99] }
@[reducible] noncomputable def fn_z14 : Func := Tryz.f43
theorem wf_z14 : FnOK SP fi_z14 fn_z14 107 := ⟨Tryz.func43, by kernel_rfl, by kernel_rfl, Tryz.ntmps43⟩
@[reducible] def fi_z15 : Nat := 44
noncomputable def cf_z15 (F : Specs) : Cf := { E := { tab := tab, imm := [3, 5] }, F := F, gl := glob, N := 107, keep := [0, 1, 2, 3, 5, 6, 7, 8, 9, 10, 11, 12, 13, 15, 29, 36, 37, 38, 42, 54, 71, 76, 77, 78, 79, 99] }
@[reducible] noncomputable def fn_z15 : Func := Tryz.f44
theorem wf_z15 : FnOK SP fi_z15 fn_z15 107 := ⟨Tryz.func44, by kernel_rfl, by kernel_rfl, Tryz.ntmps44⟩
@[reducible] def fi_z7 : Nat := 45
noncomputable def cf_z7 (F : Specs) : Cf := { E := { tab := tab, imm := [2] }, F := F, gl := glob, N := 27, keep := [0, 1, 2, 3, 4] }
@[reducible] noncomputable def fn_z7 : Func := Tryz.f45
theorem wf_z7 : FnOK SP fi_z7 fn_z7 27 := ⟨Tryz.func45, by kernel_rfl, by kernel_rfl, Tryz.ntmps45⟩
@[reducible] def fi_z8 : Nat := 46
noncomputable def cf_z8 (F : Specs) : Cf := { E := { tab := tab, imm := [] }, F := F, gl := glob, N := 10, keep := [0, 1, 4, 5] }
@[reducible] noncomputable def fn_z8 : Func := Tryz.f46
theorem wf_z8 : FnOK SP fi_z8 fn_z8 10 := ⟨Tryz.func46, by kernel_rfl, by kernel_rfl, Tryz.ntmps46⟩
@[reducible] def fi_z9 : Nat := 47
noncomputable def cf_z9 (F : Specs) : Cf := { E := { tab := tab, imm := [] }, F := F, gl := glob, N := 10, keep := [0, 1, 4, 5] }
@[reducible] noncomputable def fn_z9 : Func := Tryz.f47
theorem wf_z9 : FnOK SP fi_z9 fn_z9 10 := ⟨Tryz.func47, by kernel_rfl, by kernel_rfl, Tryz.ntmps47⟩
@[reducible] def fi_z22 : Nat := 49
noncomputable def cf_z22 (F : Specs) : Cf := { E := { tab := tab, imm := [1] }, F := F, gl := glob, N := 66, keep := [0, 1, 2, 3, 4, 5, 6, 8, 12, 18, 19, 20, 21, 51, 59] }
@[reducible] noncomputable def fn_z22 : Func := Tryz.f49
theorem wf_z22 : FnOK SP fi_z22 fn_z22 66 := ⟨Tryz.func49, by kernel_rfl, by kernel_rfl, Tryz.ntmps49⟩
@[reducible] def fi_z17 : Nat := 50
noncomputable def cf_z17 (F : Specs) : Cf := { E := { tab := tab, imm := [2, 3] }, F := F, gl := glob, N := 47, keep := [0, 1, 2, 3, 4, 8, 10, 11, 27] }
@[reducible] noncomputable def fn_z17 : Func := Tryz.f50
theorem wf_z17 : FnOK SP fi_z17 fn_z17 47 := ⟨Tryz.func50, by kernel_rfl, by kernel_rfl, Tryz.ntmps50⟩
@[reducible] def fi_z19 : Nat := 51
noncomputable def cf_z19 (F : Specs) : Cf := { E := { tab := tab, imm := [] }, F := F, gl := glob, N := 9, keep := [0, 2] }
@[reducible] noncomputable def fn_z19 : Func := Tryz.f51
theorem wf_z19 : FnOK SP fi_z19 fn_z19 9 := ⟨Tryz.func51, by kernel_rfl, by kernel_rfl, Tryz.ntmps51⟩
@[reducible] def fi_z20 : Nat := 54
noncomputable def cf_z20 (F : Specs) : Cf := { E := { tab := tab, imm := [] }, F := F, gl := glob, N := 15, keep := [0, 1, 4] }
@[reducible] noncomputable def fn_z20 : Func := Tryz.f54
theorem wf_z20 : FnOK SP fi_z20 fn_z20 15 := ⟨Tryz.func54, by kernel_rfl, by kernel_rfl, Tryz.ntmps54⟩
@[reducible] def fi_z21 : Nat := 55
noncomputable def cf_z21 (F : Specs) : Cf := { E := { tab := tab, imm := [1] }, F := F, gl := glob, N := 30, keep := [0, 1, 2, 3, 5, 16, 17, 18, 19] }
@[reducible] noncomputable def fn_z21 : Func := Tryz.f55
theorem wf_z21 : FnOK SP fi_z21 fn_z21 30 := ⟨Tryz.func55, by kernel_rfl, by kernel_rfl, Tryz.ntmps55⟩
@[reducible] def fi_z110 : Nat := 56
noncomputable def cf_z110 (F : Specs) : Cf := { E := { tab := tab, imm := [] }, F := F, gl := glob, N := 8, keep := [0, 2, 4] }
@[reducible] noncomputable def fn_z110 : Func := Tryz.f56
theorem wf_z110 : FnOK SP fi_z110 fn_z110 8 := ⟨Tryz.func56, by kernel_rfl, by kernel_rfl, Tryz.ntmps56⟩
@[reducible] def fi_z97 : Nat := 60
noncomputable def cf_z97 (F : Specs) : Cf := { E := { tab := tab, imm := [2, 3] }, F := F, gl := glob, N := 45, keep := [0, 1, 2, 3, 4, 5, 26, 31, 44] }
@[reducible] noncomputable def fn_z97 : Func := Tryz.f60
theorem wf_z97 : FnOK SP fi_z97 fn_z97 45 := ⟨Tryz.func60, by kernel_rfl, by kernel_rfl, Tryz.ntmps60⟩
@[reducible] def fi_z117 : Nat := 61
noncomputable def cf_z117 (F : Specs) : Cf := { E := { tab := tab, imm := [] }, F := F, gl := glob, N := 9, keep := [0, 1, 4] }
@[reducible] noncomputable def fn_z117 : Func := Tryz.f61
theorem wf_z117 : FnOK SP fi_z117 fn_z117 9 := ⟨Tryz.func61, by kernel_rfl, by kernel_rfl, Tryz.ntmps61⟩
@[reducible] def fi_z24 : Nat := 63
noncomputable def cf_z24 (F : Specs) : Cf := { E := { tab := tab, imm := [2, 3] }, F := F, gl := glob, N := 6, keep := [0, 1, 2, 3, 4] }
@[reducible] noncomputable def fn_z24 : Func := Tryz.f63
theorem wf_z24 : FnOK SP fi_z24 fn_z24 6 := ⟨Tryz.func63, by kernel_rfl, by kernel_rfl, Tryz.ntmps63⟩
noncomputable def cf_z86 (F : Specs) : Cf := { E := { tab := tab, imm := [] }, F := F, gl := glob, N := 15, keep := [0, 2, 3, 9, 11] }
@[reducible] noncomputable def fn_z86 : Func := Tryz.f70
noncomputable def cf_z91 (F : Specs) : Cf := { E := { tab := tab, imm := [] }, F := F, gl := glob, N := 15, keep := [0, 2, 3, 9] }
@[reducible] noncomputable def fn_z91 : Func := Tryz.f71
@[reducible] def fi_z66 : Nat := 74
noncomputable def cf_z66 (F : Specs) : Cf := { E := { tab := tab, imm := [] }, F := F, gl := glob, N := 72, keep := [0, 2, 3, 4, 5, 7, 8, 9, 10, 11, 38, 40, 41, 42, 43, 64] }
@[reducible] noncomputable def fn_z66 : Func := Tryz.f74
theorem wf_z66 : FnOK SP fi_z66 fn_z66 72 := ⟨Tryz.func74, by kernel_rfl, by kernel_rfl, Tryz.ntmps74⟩
@[reducible] def fi_z114 : Nat := 75
noncomputable def cf_z114 (F : Specs) : Cf := { E := { tab := tab, imm := [] }, F := F, gl := glob, N := 36, keep := [0, 2, 3, 5, 6, 8, 9, 10, 11, 12, 20, 25, 26, 27, 28] }
@[reducible] noncomputable def fn_z114 : Func := Tryz.f75
theorem wf_z114 : FnOK SP fi_z114 fn_z114 36 := ⟨Tryz.func75, by kernel_rfl, by kernel_rfl, Tryz.ntmps75⟩
@[reducible] def fi_z71 : Nat := 76
noncomputable def cf_z71 (F : Specs) : Cf := { E := { tab := tab, imm := [] }, F := F, gl := glob, N := 20, keep := [0, 1, 3, 4] }
@[reducible] noncomputable def fn_z71 : Func := Tryz.f76
theorem wf_z71 : FnOK SP fi_z71 fn_z71 20 := ⟨Tryz.func76, by kernel_rfl, by kernel_rfl, Tryz.ntmps76⟩
@[reducible] def fi_z72 : Nat := 77
noncomputable def cf_z72 (F : Specs) : Cf := { E := { tab := tab, imm := [] }, F := F, gl := glob, N := 31, keep := [0, 2, 3, 4, 6, 8, 10, 20, 27] }
@[reducible] noncomputable def fn_z72 : Func := Tryz.f77
theorem wf_z72 : FnOK SP fi_z72 fn_z72 31 := ⟨Tryz.func77, by kernel_rfl, by kernel_rfl, Tryz.ntmps77⟩
@[reducible] def fi_z75 : Nat := 78
noncomputable def cf_z75 (F : Specs) : Cf := { E := { tab := tab, imm := [] }, F := F, gl := glob, N := 76, keep := [0, 1, 4, 5, 13, 35, 53] }
@[reducible] noncomputable def fn_z75 : Func := Tryz.f78
theorem wf_z75 : FnOK SP fi_z75 fn_z75 76 := ⟨Tryz.func78, by kernel_rfl, by kernel_rfl, Tryz.ntmps78⟩
@[reducible] def fi_z78 : Nat := 80
noncomputable def cf_z78 (F : Specs) : Cf := { E := { tab := tab, imm := [] }, F := F, gl := glob, N := 13, keep := [0, 1, 3] }
@[reducible] noncomputable def fn_z78 : Func := Tryz.f80
theorem wf_z78 : FnOK SP fi_z78 fn_z78 13 := ⟨Tryz.func80, by kernel_rfl, by kernel_rfl, Tryz.ntmps80⟩
@[reducible] def fi_z111 : Nat := 81
noncomputable def cf_z111 (F : Specs) : Cf := { E := { tab := tab, imm := [] }, F := F, gl := glob, N := 8, keep := [0, 2, 4] }
@[reducible] noncomputable def fn_z111 : Func := Tryz.f81
theorem wf_z111 : FnOK SP fi_z111 fn_z111 8 := ⟨Tryz.func81, by kernel_rfl, by kernel_rfl, Tryz.ntmps81⟩
@[reducible] def fi_z83 : Nat := 82
noncomputable def cf_z83 (F : Specs) : Cf := { E := { tab := tab, imm := [] }, F := F, gl := glob, N := 26, keep := [0, 1, 10] }
@[reducible] noncomputable def fn_z83 : Func := Tryz.f82
theorem wf_z83 : FnOK SP fi_z83 fn_z83 26 := ⟨Tryz.func82, by kernel_rfl, by kernel_rfl, Tryz.ntmps82⟩
@[reducible] def fi_z81 : Nat := 83
noncomputable def cf_z81 (F : Specs) : Cf := { E := { tab := tab, imm := [] }, F := F, gl := glob, N := 21, keep := [0, 1, 3, 4, 6, 7, 8, 9, 10] }
@[reducible] noncomputable def fn_z81 : Func := Tryz.f83
theorem wf_z81 : FnOK SP fi_z81 fn_z81 21 := ⟨Tryz.func83, by kernel_rfl, by kernel_rfl, Tryz.ntmps83⟩
@[reducible] def fi_z122 : Nat := 84
noncomputable def cf_z122 (F : Specs) : Cf := { E := { tab := tab, imm := [] }, F := F, gl := glob, N := 21, keep := [0, 2, 3, 8, 20] }
@[reducible] noncomputable def fn_z122 : Func := Tryz.f84
theorem wf_z122 : FnOK SP fi_z122 fn_z122 21 := ⟨Tryz.func84, by kernel_rfl, by kernel_rfl, Tryz.ntmps84⟩
@[reducible] def fi_z23 : Nat := 85
noncomputable def cf_z23 (F : Specs) : Cf := { E := { tab := tab, imm := [] }, F := F, gl := glob, N := 15, keep := [0, 1, 2, 4] }
@[reducible] noncomputable def fn_z23 : Func := Tryz.f85
theorem wf_z23 : FnOK SP fi_z23 fn_z23 15 := ⟨Tryz.func85, by kernel_rfl, by kernel_rfl, Tryz.ntmps85⟩
@[reducible] def fi_z18 : Nat := 86
noncomputable def cf_z18 (F : Specs) : Cf := { E := { tab := tab, imm := [] }, F := F, gl := glob, N := 11, keep := [0, 1, 3] }
@[reducible] noncomputable def fn_z18 : Func := Tryz.f86
theorem wf_z18 : FnOK SP fi_z18 fn_z18 11 := ⟨Tryz.func86, by kernel_rfl, by kernel_rfl, Tryz.ntmps86⟩
@[reducible] def fi_z156 : Nat := 90
noncomputable def cf_z156 (F : Specs) : Cf := { E := { tab := tab, imm := [] }, F := F, gl := glob, N := 11, keep := [0, 1, 2, 6] }
@[reducible] noncomputable def fn_z156 : Func := Tryz.f90
theorem wf_z156 : FnOK SP fi_z156 fn_z156 11 := ⟨Tryz.func90, by kernel_rfl, by kernel_rfl, Tryz.ntmps90⟩
@[reducible] def fi_z121 : Nat := 91
noncomputable def cf_z121 (F : Specs) : Cf := { E := { tab := tab, imm := [] }, F := F, gl := glob, N := 19, keep := [0, 1, 4, 5, 7, 8, 9, 16] }
@[reducible] noncomputable def fn_z121 : Func := Tryz.f91
theorem wf_z121 : FnOK SP fi_z121 fn_z121 19 := ⟨Tryz.func91, by kernel_rfl, by kernel_rfl, Tryz.ntmps91⟩
@[reducible] def fi_z25 : Nat := 92
noncomputable def cf_z25 (F : Specs) : Cf := { E := { tab := tab, imm := [] }, F := F, gl := glob, N := 60, keep := [0, 1, 2, 4, 5, 7, 8, 9, 18, 24, 30, 31, 32, 33, 40, 41, 42, 43, 58] }
@[reducible] noncomputable def fn_z25 : Func := Tryz.f92
theorem wf_z25 : FnOK SP fi_z25 fn_z25 60 := ⟨Tryz.func92, by kernel_rfl, by kernel_rfl, Tryz.ntmps92⟩
noncomputable def cf_z90 (F : Specs) : Cf := { E := { tab := tab, imm := [] }, F := F, gl := glob, N := 103, keep := [0, 2, 3, 4, 5, 8, 12, 47, 55, 102] }
@[reducible] noncomputable def fn_z90 : Func := Tryz.f93
@[reducible] def fi_z69 : Nat := 97
noncomputable def cf_z69 (F : Specs) : Cf := { E := { tab := tab, imm := [] }, F := F, gl := glob, N := 8, keep := [0, 1, 4] }
@[reducible] noncomputable def fn_z69 : Func := Tryz.f97
theorem wf_z69 : FnOK SP fi_z69 fn_z69 8 := ⟨Tryz.func97, by kernel_rfl, by kernel_rfl, Tryz.ntmps97⟩
@[reducible] def fi_z118 : Nat := 98
noncomputable def cf_z118 (F : Specs) : Cf := { E := { tab := tab, imm := [] }, F := F, gl := glob, N := 27, keep := [0, 1, 4, 6, 16] }
@[reducible] noncomputable def fn_z118 : Func := Tryz.f98
theorem wf_z118 : FnOK SP fi_z118 fn_z118 27 := ⟨Tryz.func98, by kernel_rfl, by kernel_rfl, Tryz.ntmps98⟩
@[reducible] def fi_z68 : Nat := 99
noncomputable def cf_z68 (F : Specs) : Cf := { E := { tab := tab, imm := [] }, F := F, gl := glob, N := 33, keep := [0, 2, 3, 5, 6, 7, 8, 9, 10, 19] }
@[reducible] noncomputable def fn_z68 : Func := Tryz.f99
theorem wf_z68 : FnOK SP fi_z68 fn_z68 33 := ⟨Tryz.func99, by kernel_rfl, by kernel_rfl, Tryz.ntmps99⟩
@[reducible] def fi_z116 : Nat := 100
noncomputable def cf_z116 (F : Specs) : Cf := { E := { tab := tab, imm := [] }, F := F, gl := glob, N := 9, keep := [0, 1, 4] }
@[reducible] noncomputable def fn_z116 : Func := Tryz.f100
theorem wf_z116 : FnOK SP fi_z116 fn_z116 9 := ⟨Tryz.func100, by kernel_rfl, by kernel_rfl, Tryz.ntmps100⟩
@[reducible] def fi_z73 : Nat := 101
noncomputable def cf_z73 (F : Specs) : Cf := { E := { tab := tab, imm := [1] }, F := F, gl := glob, N := 6, keep := [0, 1, 2] }
@[reducible] noncomputable def fn_z73 : Func := Tryz.f101
theorem wf_z73 : FnOK SP fi_z73 fn_z73 6 := ⟨Tryz.func101, by kernel_rfl, by kernel_rfl, Tryz.ntmps101⟩
@[reducible] def fi_z123 : Nat := 102
noncomputable def cf_z123 (F : Specs) : Cf := { E := { tab := tab, imm := [] }, F := F, gl := glob, N := 14, keep := [0, 1, 4] }
@[reducible] noncomputable def fn_z123 : Func := Tryz.f102
theorem wf_z123 : FnOK SP fi_z123 fn_z123 14 := ⟨Tryz.func102, by kernel_rfl, by kernel_rfl, Tryz.ntmps102⟩
@[reducible] def fi_z74 : Nat := 103
noncomputable def cf_z74 (F : Specs) : Cf := { E := { tab := tab, imm := [2, 3] }, F := F, gl := glob, N := 10, keep := [0, 1, 2, 3, 4] }
@[reducible] noncomputable def fn_z74 : Func := Tryz.f103
theorem wf_z74 : FnOK SP fi_z74 fn_z74 10 := ⟨Tryz.func103, by kernel_rfl, by kernel_rfl, Tryz.ntmps103⟩
@[reducible] def fi_z115 : Nat := 104
noncomputable def cf_z115 (F : Specs) : Cf := { E := { tab := tab, imm := [] }, F := F, gl := glob, N := 36, keep := [0, 2, 3, 5, 6, 8, 9, 10, 11, 12, 20, 25, 26, 27, 28] }
@[reducible] noncomputable def fn_z115 : Func := Tryz.f104
theorem wf_z115 : FnOK SP fi_z115 fn_z115 36 := ⟨Tryz.func104, by kernel_rfl, by kernel_rfl, Tryz.ntmps104⟩
@[reducible] def fi_z27 : Nat := 105
noncomputable def cf_z27 (F : Specs) : Cf := { E := { tab := tab, imm := [] }, F := F, gl := glob, N := 17, keep := [0, 1, 4] }
@[reducible] noncomputable def fn_z27 : Func := Tryz.f105
theorem wf_z27 : FnOK SP fi_z27 fn_z27 17 := ⟨Tryz.func105, by kernel_rfl, by kernel_rfl, Tryz.ntmps105⟩
@[reducible] def fi_z55 : Nat := 108
@[reducible] noncomputable def fn_z55 : Func := Tryz.f108
theorem wf_z55 : FnOK SP fi_z55 fn_z55 8 := ⟨Tryz.func108, by kernel_rfl, by kernel_rfl, Tryz.ntmps108⟩
@[reducible] def fi_z30 : Nat := 109
noncomputable def cf_z30 (F : Specs) : Cf := { E := { tab := tab, imm := [] }, F := F, gl := glob, N := 21, keep := [0, 1, 2, 6, 7, 11] }
@[reducible] noncomputable def fn_z30 : Func := Tryz.f109
theorem wf_z30 : FnOK SP fi_z30 fn_z30 21 := ⟨Tryz.func109, by kernel_rfl, by kernel_rfl, Tryz.ntmps109⟩
@[reducible] def fi_z88 : Nat := 110
noncomputable def cf_z88 (F : Specs) : Cf := { E := { tab := tab, imm := [] }, F := F, gl := glob, N := 74, keep := [0, 1, 4, 5, 15, 54, 63, 68, 73] }
@[reducible] noncomputable def fn_z88 : Func := Tryz.f110
@[reducible] def fi_z113 : Nat := 111
noncomputable def cf_z113 (F : Specs) : Cf := { E := { tab := tab, imm := [] }, F := F, gl := glob, N := 39, keep := [0, 1, 2, 6, 7, 8, 9, 10, 11, 12, 13, 14, 21, 31, 38] }
@[reducible] noncomputable def fn_z113 : Func := Tryz.f111
theorem wf_z113 : FnOK SP fi_z113 fn_z113 39 := ⟨Tryz.func111, by kernel_rfl, by kernel_rfl, Tryz.ntmps111⟩
@[reducible] def fi_z70 : Nat := 112
noncomputable def cf_z70 (F : Specs) : Cf := { E := { tab := tab, imm := [2, 3] }, F := F, gl := glob, N := 17, keep := [0, 1, 2, 3, 4] }
@[reducible] noncomputable def fn_z70 : Func := Tryz.f112
theorem wf_z70 : FnOK SP fi_z70 fn_z70 17 := ⟨Tryz.func112, by kernel_rfl, by kernel_rfl, Tryz.ntmps112⟩
@[reducible] def fi_z28 : Nat := 113
noncomputable def cf_z28 (F : Specs) : Cf := { E := { tab := tab, imm := [] }, F := F, gl := glob, N := 18, keep := [0, 2, 3, 5, 6, 7, 8, 9, 14] }
@[reducible] noncomputable def fn_z28 : Func := Tryz.f113
theorem wf_z28 : FnOK SP fi_z28 fn_z28 18 := ⟨Tryz.func113, by kernel_rfl, by kernel_rfl, Tryz.ntmps113⟩
@[reducible] def fi_z26 : Nat := 114
noncomputable def cf_z26 (F : Specs) : Cf := { E := { tab := tab, imm := [] }, F := F, gl := glob, N := 20, keep := [0, 1, 4, 5, 6, 11, 12, 13, 16, 19] }
@[reducible] noncomputable def fn_z26 : Func := Tryz.f114
theorem wf_z26 : FnOK SP fi_z26 fn_z26 20 := ⟨Tryz.func114, by kernel_rfl, by kernel_rfl, Tryz.ntmps114⟩
@[reducible] def fi_z157 : Nat := 115
@[reducible] noncomputable def fn_z157 : Func := Tryz.f115
theorem wf_z157 : FnOK SP fi_z157 fn_z157 5 := ⟨Tryz.func115, by kernel_rfl, by kernel_rfl, Tryz.ntmps115⟩
@[reducible] def fi_z163 : Nat := 116
@[reducible] noncomputable def fn_z163 : Func := Tryz.f116
theorem wf_z163 : FnOK SP fi_z163 fn_z163 75 := ⟨Tryz.func116, by kernel_rfl, by kernel_rfl, Tryz.ntmps116⟩
@[reducible] def fi_z120 : Nat := 117
noncomputable def cf_z120 (F : Specs) : Cf := { E := { tab := tab, imm := [] }, F := F, gl := glob, N := 19, keep := [0, 1, 4, 5, 7, 8, 9, 16] }
@[reducible] noncomputable def fn_z120 : Func := Tryz.f117
theorem wf_z120 : FnOK SP fi_z120 fn_z120 19 := ⟨Tryz.func117, by kernel_rfl, by kernel_rfl, Tryz.ntmps117⟩
@[reducible] def fi_z149 : Nat := 118
@[reducible] noncomputable def fn_z149 : Func := Tryz.f118
theorem wf_z149 : FnOK SP fi_z149 fn_z149 148 := ⟨Tryz.func118, by kernel_rfl, by kernel_rfl, Tryz.ntmps118⟩
@[reducible] def fi_z119 : Nat := 119
noncomputable def cf_z119 (F : Specs) : Cf := { E := { tab := tab, imm := [] }, F := F, gl := glob, N := 27, keep := [0, 1, 4, 6, 16] }
@[reducible] noncomputable def fn_z119 : Func := Tryz.f119
theorem wf_z119 : FnOK SP fi_z119 fn_z119 27 := ⟨Tryz.func119, by kernel_rfl, by kernel_rfl, Tryz.ntmps119⟩
@[reducible] def fi_z29 : Nat := 120
noncomputable def cf_z29 (F : Specs) : Cf := { E := { tab := tab, imm := [] }, F := F, gl := glob, N := 6, keep := [0, 2] }
@[reducible] noncomputable def fn_z29 : Func := Tryz.f120
theorem wf_z29 : FnOK SP fi_z29 fn_z29 6 := ⟨Tryz.func120, by kernel_rfl, by kernel_rfl, Tryz.ntmps120⟩
@[reducible] def fi_z31 : Nat := 131
noncomputable def cf_z31 (F : Specs) : Cf := { E := { tab := tab, imm := [] }, F := F, gl := glob, N := 36, keep := [0, 1, 2, 6, 7, 8, 10, 12] }
@[reducible] noncomputable def fn_z31 : Func := Tryz.f131
theorem wf_z31 : FnOK SP fi_z31 fn_z31 36 := ⟨Tryz.func131, by kernel_rfl, by kernel_rfl, Tryz.ntmps131⟩
@[reducible] def fi_z40 : Nat := 149
@[reducible] noncomputable def fn_z40 : Func := Tryz.f149
theorem wf_z40 : FnOK SP fi_z40 fn_z40 15 := ⟨Tryz.func149, by kernel_rfl, by kernel_rfl, Tryz.ntmps149⟩
end Go.Gv
