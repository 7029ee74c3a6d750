/- The seat's table of types and numbers of functions, printed by a program. -/
import Derived.Test.YtibnojoffhlekaaGreatDoorGg
import Derived.Test.YtibnojoffhlekaaGreatDoorChecked
import Derived.Test.YtibnojoffhlekaaGreatDoorRows
import Derived.Lib.ItoaNum
set_option linter.all false
namespace Go.Gv
open Go Go.Proofs Go.Proofs.YtibnojoffhlekaaGreatDoor
noncomputable def glob : Glob := fun g => match g with | 0 => some ⟨.arr 20 (.int .u64), Lib.pow10Tab⟩ | _ => none
@[reducible] noncomputable def SP : Program := Tryz.prog
theorem mix_ok : SP.follows .mixedOrders = true := by kernel_rfl
def tab : List (Nat × (Ty × Nat)) := [(2, .int .i64, 8), (3, .int .i64, 8), (4, .bool, 1), (5, .int .u8, 1), (9, .str, 16), (20, .ot 1, 16), (22, .sl (.st (.cs (.int .i64) (.cs (.int .i64) (.cs (.sl (.int .i64)) (.nl))))), 24), (24, .st (.cs (.sl (.st (.cs (.int .i64) (.cs (.int .i64) (.cs (.sl (.int .i64)) (.nl)))))) (.nl)), 24), (25, .sl (.int .i64), 24), (26, .sl (.bool), 24), (29, .int .i64, 8), (32, .sl (.st (.cs (.int .i64) (.cs (.sl (.st (.cs (.int .i64) (.cs (.int .i64) (.nl))))) (.nl)))), 24), (33, .sl (.st (.cs (.int .i64) (.cs (.sl (.st (.cs (.int .i64) (.cs (.int .i64) (.nl))))) (.nl)))), 24), (40, .st (.cs (.int .i64) (.cs (.int .i64) (.cs (.sl (.int .i64)) (.nl)))), 40), (53, .fn, 8), (56, .sl (.st (.cs (.int .i64) (.cs (.int .i64) (.nl)))), 24), (58, .st (.cs (.int .i64) (.cs (.sl (.st (.cs (.int .i64) (.cs (.int .i64) (.nl))))) (.nl))), 32), (60, .st (.cs (.int .i64) (.cs (.int .i64) (.nl))), 16), (62, .sl (.int .u8), 24), (66, .ot 2, 8), (70, .fn, 8), (73, .sl (.st (.cs (.bool) (.cs (.int .i64) (.nl)))), 24), (74, .fn, 8), (77, .st (.cs (.fn) (.cs (.fn) (.cs (.fn) (.nl)))), 24), (80, .fn, 8), (81, .fn, 8), (83, .st (.cs (.fn) (.cs (.fn) (.cs (.fn) (.nl)))), 24), (84, .mp (.str) (.int .i64), 8), (89, .fn, 8), (90, .fn, 8), (95, .fn, 8), (98, .fn, 8), (99, .fn, 8), (102, .st (.cs (.int .i64) (.cs (.bool) (.nl))), 16), (105, .fn, 8), (106, .fn, 8), (108, .st (.cs (.fn) (.cs (.fn) (.cs (.fn) (.nl)))), 24), (109, .sl (.sl (.st (.cs (.int .i64) (.cs (.sl (.st (.cs (.int .i64) (.cs (.int .i64) (.nl))))) (.nl))))), 24), (112, .mp (.str) (.st (.cs (.int .i64) (.cs (.sl (.st (.cs (.int .i64) (.cs (.int .i64) (.nl))))) (.nl)))), 8), (117, .mp (.int .i64) (.bool), 8), (119, .st (.cs (.st (.cs (.sl (.st (.cs (.int .i64) (.cs (.int .i64) (.cs (.sl (.int .i64)) (.nl)))))) (.nl))) (.cs (.sl (.int .i64)) (.cs (.mp (.int .i64) (.bool)) (.cs (.sl (.int .i64)) (.nl))))), 80), (121, .mp (.int .i64) (.int .i64), 8), (126, .fn, 8), (133, .fn, 8), (135, .fn, 8), (140, .int .u64, 8), (144, .fn, 8), (145, .sl (.str), 24), (150, .sl (.sl (.st (.cs (.int .i64) (.cs (.int .i64) (.nl))))), 24), (153, .int .i64, 8), (160, .int .u32, 4), (162, .int .u64, 8), (164, .ot 2, 8), (166, .st (.cs (.ot 2) (.cs (.sl (.int .u8)) (.nl))), 32), (168, .ot 1, 16), (177, .int .u64, 8), (181, .ot 2, 8), (183, .arr 24 (.int .u8), 24), (188, .ot 2, 8), (191, .ot 2, 8), (196, .arr 20 (.int .u64), 160), (197, .arr 65 (.int .u8), 65), (202, .arr 32 (.int .u8), 32), (203, .arr 64 (.int .u8), 64)]
theorem tab_ok0 : (Env.mk tab [] [] []).ok SP = true := by kernel_rfl
theorem tab_ok {rows wraps : List Nat} : ∀ imm, (Env.mk tab imm rows wraps).ok SP = true := by intro imm; have h := tab_ok0; unfold Env.ok at h ⊢; exact h
@[reducible] def fi_z42 : Nat := 4
noncomputable def cf_z42 (F : Specs) : Cf := { E := { tab := tab, imm := [5, 6] }, F := F, gl := glob, N := 145, keep := [0, 1, 2, 3, 4, 5, 6, 10, 11, 12, 13, 14, 15, 16, 17, 18, 19, 20, 21, 22, 23, 24, 25, 26, 46] }
@[reducible] noncomputable def fn_z42 : Func := Tryz.f4
theorem wf_z42 : FnOK SP fi_z42 fn_z42 145 := ⟨Tryz.func4, by kernel_rfl, by kernel_rfl, Tryz.ntmps4⟩
@[reducible] def fi_z10 : Nat := 14
noncomputable def cf_z10 (F : Specs) : Cf := { E := { tab := tab, imm := [2] }, F := F, gl := glob, N := 14, keep := [0, 1, 2, 4, 5, 6] }
@[reducible] noncomputable def fn_z10 : Func := Tryz.f14
theorem wf_z10 : FnOK SP fi_z10 fn_z10 14 := ⟨Tryz.func14, by kernel_rfl, by kernel_rfl, Tryz.ntmps14⟩
@[reducible] def fi_z89 : Nat := 15
noncomputable def cf_z89 (F : Specs) : Cf := { E := { tab := tab, imm := [] }, F := F, gl := glob, N := 71, keep := [0, 1, 4, 5, 6, 11, 15, 43, 51, 70] }
@[reducible] noncomputable def fn_z89 : Func := Tryz.f15
theorem wf_z89 : FnOK SP fi_z89 fn_z89 71 := ⟨Tryz.func15, by kernel_rfl, by kernel_rfl, Tryz.ntmps15⟩
@[reducible] def fi_z6 : Nat := 16
noncomputable def cf_z6 (F : Specs) : Cf := { E := { tab := tab, imm := [3, 5] }, F := F, gl := glob, N := 22, keep := [0, 1, 2, 3, 5, 6, 7, 8] }
@[reducible] noncomputable def fn_z6 : Func := Tryz.f16
theorem wf_z6 : FnOK SP fi_z6 fn_z6 22 := ⟨Tryz.func16, by kernel_rfl, by kernel_rfl, Tryz.ntmps16⟩
@[reducible] def fi_z50 : Nat := 17
noncomputable def cf_z50 (F : Specs) : Cf := { E := { tab := tab, imm := [] }, F := F, gl := glob, N := 152, keep := [0, 1, 2, 3, 4, 5, 6, 7, 8, 10, 11, 12, 13, 14, 15, 16, 18, 19, 20] }
@[reducible] noncomputable def fn_z50 : Func := Tryz.f17
theorem wf_z50 : FnOK SP fi_z50 fn_z50 152 := ⟨Tryz.func17, by kernel_rfl, by kernel_rfl, Tryz.ntmps17⟩
@[reducible] def fi_z98 : Nat := 18
noncomputable def cf_z98 (F : Specs) : Cf := { E := { tab := tab, imm := [2] }, F := F, gl := glob, N := 26, keep := [0, 1, 2, 4, 5, 10, 15, 25] }
@[reducible] noncomputable def fn_z98 : Func := Tryz.f18
theorem wf_z98 : FnOK SP fi_z98 fn_z98 26 := ⟨Tryz.func18, by kernel_rfl, by kernel_rfl, Tryz.ntmps18⟩
@[reducible] def fi_z12 : Nat := 19
noncomputable def cf_z12 (F : Specs) : Cf := { E := { tab := tab, imm := [2] }, F := F, gl := glob, N := 120, keep := [0, 1, 2, 3, 4, 5, 6, 7, 8, 9, 10, 12, 13, 14, 15, 30, 34, 38, 39, 40, 41, 58, 66, 82, 87, 102, 108] }
@[reducible] noncomputable def fn_z12 : Func := Tryz.f19
theorem wf_z12 : FnOK SP fi_z12 fn_z12 120 := ⟨Tryz.func19, by kernel_rfl, by kernel_rfl, Tryz.ntmps19⟩
@[reducible] def fi_z101 : Nat := 20
noncomputable def cf_z101 (F : Specs) : Cf := { E := { tab := tab, imm := [2] }, F := F, gl := glob, N := 132, keep := [0, 1, 2, 3, 4, 5, 6, 7, 8, 9, 10, 11, 12, 13, 24, 28, 35, 62, 75, 79, 91, 95, 103, 112, 118] }
@[reducible] noncomputable def fn_z101 : Func := Tryz.f20
theorem wf_z101 : FnOK SP fi_z101 fn_z101 132 := ⟨Tryz.func20, by kernel_rfl, by kernel_rfl, Tryz.ntmps20⟩
@[reducible] def fi_z4 : Nat := 21
noncomputable def cf_z4 (F : Specs) : Cf := { E := { tab := tab, imm := [3, 5] }, F := F, gl := glob, N := 130, keep := [0, 1, 2, 3, 5, 6, 7, 8, 9, 10, 11, 13, 15, 33, 39, 40, 41, 44, 45, 48, 54, 67, 70, 71, 72, 73, 90, 94, 95, 96, 97, 104, 116, 120] }
@[reducible] noncomputable def fn_z4 : Func := Tryz.f21
theorem wf_z4 : FnOK SP fi_z4 fn_z4 130 := ⟨Tryz.func21, by kernel_rfl, by kernel_rfl, Tryz.ntmps21⟩
@[reducible] def fi_z96 : Nat := 22
noncomputable def cf_z96 (F : Specs) : Cf := { E := { tab := tab, imm := [3] }, F := F, gl := glob, N := 145, keep := [0, 1, 2, 3, 6, 7, 8, 9, 10, 11, 12, 13, 14, 15, 16, 23, 35, 44, 51, 64, 74, 84, 100, 109, 114, 136] }
@[reducible] noncomputable def fn_z96 : Func := Tryz.f22
theorem wf_z96 : FnOK SP fi_z96 fn_z96 145 := ⟨Tryz.func22, by kernel_rfl, by kernel_rfl, Tryz.ntmps22⟩
@[reducible] def fi_z0 : Nat := 23
noncomputable def cf_z0 (F : Specs) : Cf := { E := { tab := tab, imm := [3, 5] }, F := F, gl := glob, N := 25, keep := [0, 1, 2, 3, 5, 6, 7, 8, 9, 23] }
@[reducible] noncomputable def fn_z0 : Func := Tryz.f23
theorem wf_z0 : FnOK SP fi_z0 fn_z0 25 := ⟨Tryz.func23, by kernel_rfl, by kernel_rfl, Tryz.ntmps23⟩
@[reducible] def fi_z95 : Nat := 24
noncomputable def cf_z95 (F : Specs) : Cf := { E := { tab := tab, imm := [3] }, F := F, gl := glob, N := 126, keep := [0, 1, 2, 3, 6, 7, 8, 9, 10, 11, 12, 13, 17, 23, 38, 56, 67, 93, 105, 108, 121] }
@[reducible] noncomputable def fn_z95 : Func := Tryz.f24
theorem wf_z95 : FnOK SP fi_z95 fn_z95 126 := ⟨Tryz.func24, by kernel_rfl, by kernel_rfl, Tryz.ntmps24⟩
@[reducible] def fi_z103 : Nat := 25
noncomputable def cf_z103 (F : Specs) : Cf := { E := { tab := tab, imm := [2, 3] }, F := F, gl := glob, N := 32, keep := [0, 1, 2, 3, 4, 5, 12, 17, 31] }
@[reducible] noncomputable def fn_z103 : Func := Tryz.f25
theorem wf_z103 : FnOK SP fi_z103 fn_z103 32 := ⟨Tryz.func25, by kernel_rfl, by kernel_rfl, Tryz.ntmps25⟩
@[reducible] def fi_z13 : Nat := 26
noncomputable def cf_z13 (F : Specs) : Cf := { E := { tab := tab, imm := [1] }, F := F, gl := glob, N := 11, keep := [0, 1, 2, 4] }
@[reducible] noncomputable def fn_z13 : Func := Tryz.f26
theorem wf_z13 : FnOK SP fi_z13 fn_z13 11 := ⟨Tryz.func26, by kernel_rfl, by kernel_rfl, Tryz.ntmps26⟩
@[reducible] def fi_z104 : Nat := 27
noncomputable def cf_z104 (F : Specs) : Cf := { E := { tab := tab, imm := [1] }, F := F, gl := glob, N := 97, keep := [0, 1, 2, 3, 4, 5, 6, 7, 11, 16, 38, 43, 84, 87, 96] }
@[reducible] noncomputable def fn_z104 : Func := Tryz.f27
theorem wf_z104 : FnOK SP fi_z104 fn_z104 97 := ⟨Tryz.func27, by kernel_rfl, by kernel_rfl, Tryz.ntmps27⟩
@[reducible] def fi_z99 : Nat := 28
noncomputable def cf_z99 (F : Specs) : Cf := { E := { tab := tab, imm := [3] }, F := F, gl := glob, N := 96, keep := [0, 1, 2, 3, 6, 7, 8, 9, 10, 11, 15, 21, 33, 43] }
@[reducible] noncomputable def fn_z99 : Func := Tryz.f28
theorem wf_z99 : FnOK SP fi_z99 fn_z99 96 := ⟨Tryz.func28, by kernel_rfl, by kernel_rfl, Tryz.ntmps28⟩
@[reducible] def fi_z62 : Nat := 30
noncomputable def cf_z62 (F : Specs) : Cf := { E := { tab := tab, imm := [] }, F := F, gl := glob, N := 17, keep := [0, 2, 3, 4, 11] }
@[reducible] noncomputable def fn_z62 : Func := Tryz.f30
theorem wf_z62 : FnOK SP fi_z62 fn_z62 17 := ⟨Tryz.func30, by kernel_rfl, by kernel_rfl, Tryz.ntmps30⟩
@[reducible] def fi_z61 : Nat := 31
noncomputable def cf_z61 (F : Specs) : Cf := { E := { tab := tab, imm := [] }, F := F, gl := glob, N := 35, keep := [0, 1, 4, 5, 6, 8, 16, 21, 22, 23, 24] }
@[reducible] noncomputable def fn_z61 : Func := Tryz.f31
theorem wf_z61 : FnOK SP fi_z61 fn_z61 35 := ⟨Tryz.func31, by kernel_rfl, by kernel_rfl, Tryz.ntmps31⟩
@[reducible] def fi_z65 : Nat := 32
noncomputable def cf_z65 (F : Specs) : Cf := { E := { tab := tab, imm := [] }, F := F, gl := glob, N := 52, keep := [0, 1, 4, 5, 6, 8, 10, 18, 20, 21, 22, 23, 26, 27, 28, 29] }
@[reducible] noncomputable def fn_z65 : Func := Tryz.f32
theorem wf_z65 : FnOK SP fi_z65 fn_z65 52 := ⟨Tryz.func32, by kernel_rfl, by kernel_rfl, Tryz.ntmps32⟩
@[reducible] def fi_z11 : Nat := 41
noncomputable def cf_z11 (F : Specs) : Cf := { E := { tab := tab, imm := [1] }, F := F, gl := glob, N := 18, keep := [0, 1, 2, 3, 6] }
@[reducible] noncomputable def fn_z11 : Func := Tryz.f41
theorem wf_z11 : FnOK SP fi_z11 fn_z11 18 := ⟨Tryz.func41, by kernel_rfl, by kernel_rfl, Tryz.ntmps41⟩
@[reducible] def fi_z67 : Nat := 42
noncomputable def cf_z67 (F : Specs) : Cf := { E := { tab := tab, imm := [] }, F := F, gl := glob, N := 15, keep := [0, 2, 3, 9] }
@[reducible] noncomputable def fn_z67 : Func := Tryz.f42
theorem wf_z67 : FnOK SP fi_z67 fn_z67 15 := ⟨Tryz.func42, by kernel_rfl, by kernel_rfl, Tryz.ntmps42⟩
@[reducible] def fi_z14 : Nat := 43
noncomputable def cf_z14 (F : Specs) : Cf := { E := { tab := tab, imm := [3, 5] }, F := F, gl := glob, N := 107, keep := [0, 1, 2, 3, 5, 6, 7, 8, 9, 10, 11, 12, 13, 15, 29, 36, 37, 38, 42, 54, 71, 76, 77, 78, 79, 99] }
@[reducible] noncomputable def fn_z14 : Func := Tryz.f43
theorem wf_z14 : FnOK SP fi_z14 fn_z14 107 := ⟨Tryz.func43, by kernel_rfl, by kernel_rfl, Tryz.ntmps43⟩
@[reducible] def fi_z15 : Nat := 44
noncomputable def cf_z15 (F : Specs) : Cf := { E := { tab := tab, imm := [3, 5] }, F := F, gl := glob, N := 107, keep := [0, 1, 2, 3, 5, 6, 7, 8, 9, 10, 11, 12, 13, 15, 29, 36, 37, 38, 42, 54, 71, 76, 77, 78, 79, 99] }
@[reducible] noncomputable def fn_z15 : Func := Tryz.f44
theorem wf_z15 : FnOK SP fi_z15 fn_z15 107 := ⟨Tryz.func44, by kernel_rfl, by kernel_rfl, Tryz.ntmps44⟩
@[reducible] def fi_z7 : Nat := 45
noncomputable def cf_z7 (F : Specs) : Cf := { E := { tab := tab, imm := [2] }, F := F, gl := glob, N := 27, keep := [0, 1, 2, 3, 4] }
@[reducible] noncomputable def fn_z7 : Func := Tryz.f45
theorem wf_z7 : FnOK SP fi_z7 fn_z7 27 := ⟨Tryz.func45, by kernel_rfl, by kernel_rfl, Tryz.ntmps45⟩
@[reducible] def fi_z8 : Nat := 46
noncomputable def cf_z8 (F : Specs) : Cf := { E := { tab := tab, imm := [] }, F := F, gl := glob, N := 10, keep := [0, 1, 4, 5] }
@[reducible] noncomputable def fn_z8 : Func := Tryz.f46
theorem wf_z8 : FnOK SP fi_z8 fn_z8 10 := ⟨Tryz.func46, by kernel_rfl, by kernel_rfl, Tryz.ntmps46⟩
@[reducible] def fi_z9 : Nat := 47
noncomputable def cf_z9 (F : Specs) : Cf := { E := { tab := tab, imm := [] }, F := F, gl := glob, N := 10, keep := [0, 1, 4, 5] }
@[reducible] noncomputable def fn_z9 : Func := Tryz.f47
theorem wf_z9 : FnOK SP fi_z9 fn_z9 10 := ⟨Tryz.func47, by kernel_rfl, by kernel_rfl, Tryz.ntmps47⟩
@[reducible] def fi_z48 : Nat := 48
noncomputable def cf_z48 (F : Specs) : Cf := { E := { tab := tab, imm := [] }, F := F, gl := glob, N := 9, keep := [0] }
@[reducible] noncomputable def fn_z48 : Func := Tryz.f48
theorem wf_z48 : FnOK SP fi_z48 fn_z48 9 := ⟨Tryz.func48, by kernel_rfl, by kernel_rfl, Tryz.ntmps48⟩
@[reducible] def fi_z22 : Nat := 49
noncomputable def cf_z22 (F : Specs) : Cf := { E := { tab := tab, imm := [1] }, F := F, gl := glob, N := 66, keep := [0, 1, 2, 3, 4, 5, 6, 8, 12, 18, 19, 20, 21, 51, 59] }
@[reducible] noncomputable def fn_z22 : Func := Tryz.f49
theorem wf_z22 : FnOK SP fi_z22 fn_z22 66 := ⟨Tryz.func49, by kernel_rfl, by kernel_rfl, Tryz.ntmps49⟩
@[reducible] def fi_z17 : Nat := 50
noncomputable def cf_z17 (F : Specs) : Cf := { E := { tab := tab, imm := [2, 3] }, F := F, gl := glob, N := 47, keep := [0, 1, 2, 3, 4, 8, 10, 11, 27] }
@[reducible] noncomputable def fn_z17 : Func := Tryz.f50
theorem wf_z17 : FnOK SP fi_z17 fn_z17 47 := ⟨Tryz.func50, by kernel_rfl, by kernel_rfl, Tryz.ntmps50⟩
@[reducible] def fi_z19 : Nat := 51
noncomputable def cf_z19 (F : Specs) : Cf := { E := { tab := tab, imm := [] }, F := F, gl := glob, N := 9, keep := [0, 2] }
@[reducible] noncomputable def fn_z19 : Func := Tryz.f51
theorem wf_z19 : FnOK SP fi_z19 fn_z19 9 := ⟨Tryz.func51, by kernel_rfl, by kernel_rfl, Tryz.ntmps51⟩
@[reducible] def fi_z125 : Nat := 52
noncomputable def cf_z125 (F : Specs) : Cf := { E := { tab := tab, imm := [] }, F := F, gl := glob, N := 9, keep := [0, 2, 3] }
@[reducible] noncomputable def fn_z125 : Func := Tryz.f52
theorem wf_z125 : FnOK SP fi_z125 fn_z125 9 := ⟨Tryz.func52, by kernel_rfl, by kernel_rfl, Tryz.ntmps52⟩
@[reducible] def fi_z126 : Nat := 53
noncomputable def cf_z126 (F : Specs) : Cf := { E := { tab := tab, imm := [1] }, F := F, gl := glob, N := 4, keep := [0, 1, 2] }
@[reducible] noncomputable def fn_z126 : Func := Tryz.f53
theorem wf_z126 : FnOK SP fi_z126 fn_z126 4 := ⟨Tryz.func53, by kernel_rfl, by kernel_rfl, Tryz.ntmps53⟩
@[reducible] def fi_z20 : Nat := 54
noncomputable def cf_z20 (F : Specs) : Cf := { E := { tab := tab, imm := [] }, F := F, gl := glob, N := 15, keep := [0, 1, 4] }
@[reducible] noncomputable def fn_z20 : Func := Tryz.f54
theorem wf_z20 : FnOK SP fi_z20 fn_z20 15 := ⟨Tryz.func54, by kernel_rfl, by kernel_rfl, Tryz.ntmps54⟩
@[reducible] def fi_z21 : Nat := 55
noncomputable def cf_z21 (F : Specs) : Cf := { E := { tab := tab, imm := [1] }, F := F, gl := glob, N := 30, keep := [0, 1, 2, 3, 5, 16, 17, 18, 19] }
@[reducible] noncomputable def fn_z21 : Func := Tryz.f55
theorem wf_z21 : FnOK SP fi_z21 fn_z21 30 := ⟨Tryz.func55, by kernel_rfl, by kernel_rfl, Tryz.ntmps55⟩
@[reducible] def fi_z110 : Nat := 56
noncomputable def cf_z110 (F : Specs) : Cf := { E := { tab := tab, imm := [] }, F := F, gl := glob, N := 8, keep := [0, 2, 4] }
@[reducible] noncomputable def fn_z110 : Func := Tryz.f56
theorem wf_z110 : FnOK SP fi_z110 fn_z110 8 := ⟨Tryz.func56, by kernel_rfl, by kernel_rfl, Tryz.ntmps56⟩
@[reducible] def fi_z105 : Nat := 57
noncomputable def cf_z105 (F : Specs) : Cf := { E := { tab := tab, imm := [2] }, F := F, gl := glob, N := 69, keep := [0, 1, 2, 4, 5, 10, 27, 30] }
@[reducible] noncomputable def fn_z105 : Func := Tryz.f57
theorem wf_z105 : FnOK SP fi_z105 fn_z105 69 := ⟨Tryz.func57, by kernel_rfl, by kernel_rfl, Tryz.ntmps57⟩
@[reducible] def fi_z107 : Nat := 58
noncomputable def cf_z107 (F : Specs) : Cf := { E := { tab := tab, imm := [] }, F := F, gl := glob, N := 9, keep := [0, 2] }
@[reducible] noncomputable def fn_z107 : Func := Tryz.f58
theorem wf_z107 : FnOK SP fi_z107 fn_z107 9 := ⟨Tryz.func58, by kernel_rfl, by kernel_rfl, Tryz.ntmps58⟩
@[reducible] def fi_z108 : Nat := 59
noncomputable def cf_z108 (F : Specs) : Cf := { E := { tab := tab, imm := [] }, F := F, gl := glob, N := 51, keep := [0, 2, 3, 4, 5, 6, 13, 30] }
@[reducible] noncomputable def fn_z108 : Func := Tryz.f59
theorem wf_z108 : FnOK SP fi_z108 fn_z108 51 := ⟨Tryz.func59, by kernel_rfl, by kernel_rfl, Tryz.ntmps59⟩
@[reducible] def fi_z97 : Nat := 60
noncomputable def cf_z97 (F : Specs) : Cf := { E := { tab := tab, imm := [2, 3] }, F := F, gl := glob, N := 45, keep := [0, 1, 2, 3, 4, 5, 26, 31, 44] }
@[reducible] noncomputable def fn_z97 : Func := Tryz.f60
theorem wf_z97 : FnOK SP fi_z97 fn_z97 45 := ⟨Tryz.func60, by kernel_rfl, by kernel_rfl, Tryz.ntmps60⟩
@[reducible] def fi_z117 : Nat := 61
noncomputable def cf_z117 (F : Specs) : Cf := { E := { tab := tab, imm := [] }, F := F, gl := glob, N := 9, keep := [0, 1, 4] }
@[reducible] noncomputable def fn_z117 : Func := Tryz.f61
theorem wf_z117 : FnOK SP fi_z117 fn_z117 9 := ⟨Tryz.func61, by kernel_rfl, by kernel_rfl, Tryz.ntmps61⟩
@[reducible] def fi_z5 : Nat := 62
noncomputable def cf_z5 (F : Specs) : Cf := { E := { tab := tab, imm := [] }, F := F, gl := glob, N := 5, keep := [0, 2] }
@[reducible] noncomputable def fn_z5 : Func := Tryz.f62
theorem wf_z5 : FnOK SP fi_z5 fn_z5 5 := ⟨Tryz.func62, by kernel_rfl, by kernel_rfl, Tryz.ntmps62⟩
@[reducible] def fi_z24 : Nat := 63
noncomputable def cf_z24 (F : Specs) : Cf := { E := { tab := tab, imm := [2, 3] }, F := F, gl := glob, N := 6, keep := [0, 1, 2, 3, 4] }
@[reducible] noncomputable def fn_z24 : Func := Tryz.f63
theorem wf_z24 : FnOK SP fi_z24 fn_z24 6 := ⟨Tryz.func63, by kernel_rfl, by kernel_rfl, Tryz.ntmps63⟩
@[reducible] def fi_z106 : Nat := 64
noncomputable def cf_z106 (F : Specs) : Cf := { E := { tab := tab, imm := [2] }, F := F, gl := glob, N := 18, keep := [0, 1, 2, 4] }
@[reducible] noncomputable def fn_z106 : Func := Tryz.f64
theorem wf_z106 : FnOK SP fi_z106 fn_z106 18 := ⟨Tryz.func64, by kernel_rfl, by kernel_rfl, Tryz.ntmps64⟩
@[reducible] def fi_z102 : Nat := 65
noncomputable def cf_z102 (F : Specs) : Cf := { E := { tab := tab, imm := [2] }, F := F, gl := glob, N := 49, keep := [0, 1, 2, 4, 5, 6, 7, 17, 34] }
@[reducible] noncomputable def fn_z102 : Func := Tryz.f65
theorem wf_z102 : FnOK SP fi_z102 fn_z102 49 := ⟨Tryz.func65, by kernel_rfl, by kernel_rfl, Tryz.ntmps65⟩
@[reducible] def fi_z16 : Nat := 66
noncomputable def cf_z16 (F : Specs) : Cf := { E := { tab := tab, imm := [3, 5] }, F := F, gl := glob, N := 107, keep := [0, 1, 2, 3, 5, 6, 7, 8, 9, 10, 11, 12, 13, 15, 29, 36, 37, 38, 42, 54, 71, 76, 77, 78, 79, 99] }
@[reducible] noncomputable def fn_z16 : Func := Tryz.f66
theorem wf_z16 : FnOK SP fi_z16 fn_z16 107 := ⟨Tryz.func66, by kernel_rfl, by kernel_rfl, Tryz.ntmps66⟩
@[reducible] def fi_z1 : Nat := 67
noncomputable def cf_z1 (F : Specs) : Cf := { E := { tab := tab, imm := [2] }, F := F, gl := glob, N := 34, keep := [0, 1, 2, 3, 4, 5, 9] }
@[reducible] noncomputable def fn_z1 : Func := Tryz.f67
theorem wf_z1 : FnOK SP fi_z1 fn_z1 34 := ⟨Tryz.func67, by kernel_rfl, by kernel_rfl, Tryz.ntmps67⟩
@[reducible] def fi_z2 : Nat := 68
noncomputable def cf_z2 (F : Specs) : Cf := { E := { tab := tab, imm := [] }, F := F, gl := glob, N := 18, keep := [0, 1, 4, 5, 11] }
@[reducible] noncomputable def fn_z2 : Func := Tryz.f68
theorem wf_z2 : FnOK SP fi_z2 fn_z2 18 := ⟨Tryz.func68, by kernel_rfl, by kernel_rfl, Tryz.ntmps68⟩
@[reducible] def fi_z3 : Nat := 69
noncomputable def cf_z3 (F : Specs) : Cf := { E := { tab := tab, imm := [] }, F := F, gl := glob, N := 16, keep := [0, 1, 4, 5, 11] }
@[reducible] noncomputable def fn_z3 : Func := Tryz.f69
theorem wf_z3 : FnOK SP fi_z3 fn_z3 16 := ⟨Tryz.func69, by kernel_rfl, by kernel_rfl, Tryz.ntmps69⟩
noncomputable def cf_z86 (F : Specs) : Cf := { E := { tab := tab, imm := [] }, F := F, gl := glob, N := 15, keep := [0, 2, 3, 9, 11] }
@[reducible] noncomputable def fn_z86 : Func := Tryz.f70
noncomputable def cf_z91 (F : Specs) : Cf := { E := { tab := tab, imm := [] }, F := F, gl := glob, N := 15, keep := [0, 2, 3, 9] }
@[reducible] noncomputable def fn_z91 : Func := Tryz.f71
@[reducible] def fi_z66 : Nat := 74
noncomputable def cf_z66 (F : Specs) : Cf := { E := { tab := tab, imm := [] }, F := F, gl := glob, N := 72, keep := [0, 2, 3, 4, 5, 7, 8, 9, 10, 11, 38, 40, 41, 42, 43, 64] }
@[reducible] noncomputable def fn_z66 : Func := Tryz.f74
theorem wf_z66 : FnOK SP fi_z66 fn_z66 72 := ⟨Tryz.func74, by kernel_rfl, by kernel_rfl, Tryz.ntmps74⟩
@[reducible] def fi_z114 : Nat := 75
noncomputable def cf_z114 (F : Specs) : Cf := { E := { tab := tab, imm := [] }, F := F, gl := glob, N := 36, keep := [0, 2, 3, 5, 6, 8, 9, 10, 11, 12, 20, 25, 26, 27, 28] }
@[reducible] noncomputable def fn_z114 : Func := Tryz.f75
theorem wf_z114 : FnOK SP fi_z114 fn_z114 36 := ⟨Tryz.func75, by kernel_rfl, by kernel_rfl, Tryz.ntmps75⟩
@[reducible] def fi_z71 : Nat := 76
noncomputable def cf_z71 (F : Specs) : Cf := { E := { tab := tab, imm := [] }, F := F, gl := glob, N := 20, keep := [0, 1, 3, 4] }
@[reducible] noncomputable def fn_z71 : Func := Tryz.f76
theorem wf_z71 : FnOK SP fi_z71 fn_z71 20 := ⟨Tryz.func76, by kernel_rfl, by kernel_rfl, Tryz.ntmps76⟩
@[reducible] def fi_z72 : Nat := 77
noncomputable def cf_z72 (F : Specs) : Cf := { E := { tab := tab, imm := [] }, F := F, gl := glob, N := 31, keep := [0, 2, 3, 4, 6, 8, 10, 20, 27] }
@[reducible] noncomputable def fn_z72 : Func := Tryz.f77
theorem wf_z72 : FnOK SP fi_z72 fn_z72 31 := ⟨Tryz.func77, by kernel_rfl, by kernel_rfl, Tryz.ntmps77⟩
@[reducible] def fi_z75 : Nat := 78
noncomputable def cf_z75 (F : Specs) : Cf := { E := { tab := tab, imm := [] }, F := F, gl := glob, N := 76, keep := [0, 1, 4, 5, 13, 35, 53] }
@[reducible] noncomputable def fn_z75 : Func := Tryz.f78
theorem wf_z75 : FnOK SP fi_z75 fn_z75 76 := ⟨Tryz.func78, by kernel_rfl, by kernel_rfl, Tryz.ntmps78⟩
@[reducible] def fi_z122 : Nat := 84
noncomputable def cf_z122 (F : Specs) : Cf := { E := { tab := tab, imm := [] }, F := F, gl := glob, N := 21, keep := [0, 2, 3, 8, 20] }
@[reducible] noncomputable def fn_z122 : Func := Tryz.f84
theorem wf_z122 : FnOK SP fi_z122 fn_z122 21 := ⟨Tryz.func84, by kernel_rfl, by kernel_rfl, Tryz.ntmps84⟩
@[reducible] def fi_z23 : Nat := 85
noncomputable def cf_z23 (F : Specs) : Cf := { E := { tab := tab, imm := [] }, F := F, gl := glob, N := 15, keep := [0, 1, 2, 4] }
@[reducible] noncomputable def fn_z23 : Func := Tryz.f85
theorem wf_z23 : FnOK SP fi_z23 fn_z23 15 := ⟨Tryz.func85, by kernel_rfl, by kernel_rfl, Tryz.ntmps85⟩
@[reducible] def fi_z18 : Nat := 86
noncomputable def cf_z18 (F : Specs) : Cf := { E := { tab := tab, imm := [] }, F := F, gl := glob, N := 11, keep := [0, 1, 3] }
@[reducible] noncomputable def fn_z18 : Func := Tryz.f86
theorem wf_z18 : FnOK SP fi_z18 fn_z18 11 := ⟨Tryz.func86, by kernel_rfl, by kernel_rfl, Tryz.ntmps86⟩
@[reducible] def fi_z112 : Nat := 87
noncomputable def cf_z112 (F : Specs) : Cf := { E := { tab := tab, imm := [] }, F := F, gl := glob, N := 5, keep := [0, 2] }
@[reducible] noncomputable def fn_z112 : Func := Tryz.f87
theorem wf_z112 : FnOK SP fi_z112 fn_z112 5 := ⟨Tryz.func87, by kernel_rfl, by kernel_rfl, Tryz.ntmps87⟩
@[reducible] def fi_z124 : Nat := 88
@[reducible] noncomputable def fn_z124 : Func := Tryz.f88
theorem wf_z124 : FnOK SP fi_z124 fn_z124 11 := ⟨Tryz.func88, by kernel_rfl, by kernel_rfl, Tryz.ntmps88⟩
@[reducible] def fi_z127 : Nat := 89
noncomputable def cf_z127 (F : Specs) : Cf := { E := { tab := tab, imm := [] }, F := F, gl := glob, N := 16, keep := [0, 1, 4, 5, 6, 7, 8, 14] }
@[reducible] noncomputable def fn_z127 : Func := Tryz.f89
theorem wf_z127 : FnOK SP fi_z127 fn_z127 16 := ⟨Tryz.func89, by kernel_rfl, by kernel_rfl, Tryz.ntmps89⟩
@[reducible] def fi_z156 : Nat := 90
noncomputable def cf_z156 (F : Specs) : Cf := { E := { tab := tab, imm := [] }, F := F, gl := glob, N := 11, keep := [0, 1, 2, 6] }
@[reducible] noncomputable def fn_z156 : Func := Tryz.f90
theorem wf_z156 : FnOK SP fi_z156 fn_z156 11 := ⟨Tryz.func90, by kernel_rfl, by kernel_rfl, Tryz.ntmps90⟩
@[reducible] def fi_z121 : Nat := 91
noncomputable def cf_z121 (F : Specs) : Cf := { E := { tab := tab, imm := [] }, F := F, gl := glob, N := 19, keep := [0, 1, 4, 5, 7, 8, 9, 16] }
@[reducible] noncomputable def fn_z121 : Func := Tryz.f91
theorem wf_z121 : FnOK SP fi_z121 fn_z121 19 := ⟨Tryz.func91, by kernel_rfl, by kernel_rfl, Tryz.ntmps91⟩
@[reducible] def fi_z25 : Nat := 92
noncomputable def cf_z25 (F : Specs) : Cf := { E := { tab := tab, imm := [] }, F := F, gl := glob, N := 60, keep := [0, 1, 2, 4, 5, 7, 8, 9, 18, 24, 30, 31, 32, 33, 40, 41, 42, 43, 58] }
@[reducible] noncomputable def fn_z25 : Func := Tryz.f92
theorem wf_z25 : FnOK SP fi_z25 fn_z25 60 := ⟨Tryz.func92, by kernel_rfl, by kernel_rfl, Tryz.ntmps92⟩
noncomputable def cf_z90 (F : Specs) : Cf := { E := { tab := tab, imm := [] }, F := F, gl := glob, N := 103, keep := [0, 2, 3, 4, 5, 8, 12, 47, 55, 102] }
@[reducible] noncomputable def fn_z90 : Func := Tryz.f93
@[reducible] def fi_z69 : Nat := 97
noncomputable def cf_z69 (F : Specs) : Cf := { E := { tab := tab, imm := [] }, F := F, gl := glob, N := 8, keep := [0, 1, 4] }
@[reducible] noncomputable def fn_z69 : Func := Tryz.f97
theorem wf_z69 : FnOK SP fi_z69 fn_z69 8 := ⟨Tryz.func97, by kernel_rfl, by kernel_rfl, Tryz.ntmps97⟩
@[reducible] def fi_z118 : Nat := 98
noncomputable def cf_z118 (F : Specs) : Cf := { E := { tab := tab, imm := [] }, F := F, gl := glob, N := 27, keep := [0, 1, 4, 6, 16] }
@[reducible] noncomputable def fn_z118 : Func := Tryz.f98
theorem wf_z118 : FnOK SP fi_z118 fn_z118 27 := ⟨Tryz.func98, by kernel_rfl, by kernel_rfl, Tryz.ntmps98⟩
@[reducible] def fi_z68 : Nat := 99
noncomputable def cf_z68 (F : Specs) : Cf := { E := { tab := tab, imm := [] }, F := F, gl := glob, N := 33, keep := [0, 2, 3, 5, 6, 7, 8, 9, 10, 19] }
@[reducible] noncomputable def fn_z68 : Func := Tryz.f99
theorem wf_z68 : FnOK SP fi_z68 fn_z68 33 := ⟨Tryz.func99, by kernel_rfl, by kernel_rfl, Tryz.ntmps99⟩
@[reducible] def fi_z116 : Nat := 100
noncomputable def cf_z116 (F : Specs) : Cf := { E := { tab := tab, imm := [] }, F := F, gl := glob, N := 9, keep := [0, 1, 4] }
@[reducible] noncomputable def fn_z116 : Func := Tryz.f100
theorem wf_z116 : FnOK SP fi_z116 fn_z116 9 := ⟨Tryz.func100, by kernel_rfl, by kernel_rfl, Tryz.ntmps100⟩
@[reducible] def fi_z73 : Nat := 101
noncomputable def cf_z73 (F : Specs) : Cf := { E := { tab := tab, imm := [1] }, F := F, gl := glob, N := 6, keep := [0, 1, 2] }
@[reducible] noncomputable def fn_z73 : Func := Tryz.f101
theorem wf_z73 : FnOK SP fi_z73 fn_z73 6 := ⟨Tryz.func101, by kernel_rfl, by kernel_rfl, Tryz.ntmps101⟩
@[reducible] def fi_z123 : Nat := 102
noncomputable def cf_z123 (F : Specs) : Cf := { E := { tab := tab, imm := [] }, F := F, gl := glob, N := 14, keep := [0, 1, 4] }
@[reducible] noncomputable def fn_z123 : Func := Tryz.f102
theorem wf_z123 : FnOK SP fi_z123 fn_z123 14 := ⟨Tryz.func102, by kernel_rfl, by kernel_rfl, Tryz.ntmps102⟩
@[reducible] def fi_z74 : Nat := 103
noncomputable def cf_z74 (F : Specs) : Cf := { E := { tab := tab, imm := [2, 3] }, F := F, gl := glob, N := 10, keep := [0, 1, 2, 3, 4] }
@[reducible] noncomputable def fn_z74 : Func := Tryz.f103
theorem wf_z74 : FnOK SP fi_z74 fn_z74 10 := ⟨Tryz.func103, by kernel_rfl, by kernel_rfl, Tryz.ntmps103⟩
@[reducible] def fi_z115 : Nat := 104
noncomputable def cf_z115 (F : Specs) : Cf := { E := { tab := tab, imm := [] }, F := F, gl := glob, N := 36, keep := [0, 2, 3, 5, 6, 8, 9, 10, 11, 12, 20, 25, 26, 27, 28] }
@[reducible] noncomputable def fn_z115 : Func := Tryz.f104
theorem wf_z115 : FnOK SP fi_z115 fn_z115 36 := ⟨Tryz.func104, by kernel_rfl, by kernel_rfl, Tryz.ntmps104⟩
@[reducible] def fi_z27 : Nat := 105
noncomputable def cf_z27 (F : Specs) : Cf := { E := { tab := tab, imm := [] }, F := F, gl := glob, N := 17, keep := [0, 1, 4] }
@[reducible] noncomputable def fn_z27 : Func := Tryz.f105
theorem wf_z27 : FnOK SP fi_z27 fn_z27 17 := ⟨Tryz.func105, by kernel_rfl, by kernel_rfl, Tryz.ntmps105⟩
@[reducible] def fi_z109 : Nat := 106
noncomputable def cf_z109 (F : Specs) : Cf := { E := { tab := tab, imm := [] }, F := F, gl := glob, N := 13, keep := [0, 1, 2, 4, 5, 6, 7] }
@[reducible] noncomputable def fn_z109 : Func := Tryz.f106
theorem wf_z109 : FnOK SP fi_z109 fn_z109 13 := ⟨Tryz.func106, by kernel_rfl, by kernel_rfl, Tryz.ntmps106⟩
@[reducible] def fi_z55 : Nat := 108
@[reducible] noncomputable def fn_z55 : Func := Tryz.f108
theorem wf_z55 : FnOK SP fi_z55 fn_z55 8 := ⟨Tryz.func108, by kernel_rfl, by kernel_rfl, Tryz.ntmps108⟩
@[reducible] def fi_z30 : Nat := 109
noncomputable def cf_z30 (F : Specs) : Cf := { E := { tab := tab, imm := [] }, F := F, gl := glob, N := 21, keep := [0, 1, 2, 6, 7, 11] }
@[reducible] noncomputable def fn_z30 : Func := Tryz.f109
theorem wf_z30 : FnOK SP fi_z30 fn_z30 21 := ⟨Tryz.func109, by kernel_rfl, by kernel_rfl, Tryz.ntmps109⟩
@[reducible] def fi_z88 : Nat := 110
noncomputable def cf_z88 (F : Specs) : Cf := { E := { tab := tab, imm := [] }, F := F, gl := glob, N := 74, keep := [0, 1, 4, 5, 15, 54, 63, 68, 73] }
@[reducible] noncomputable def fn_z88 : Func := Tryz.f110
@[reducible] def fi_z113 : Nat := 111
noncomputable def cf_z113 (F : Specs) : Cf := { E := { tab := tab, imm := [] }, F := F, gl := glob, N := 39, keep := [0, 1, 2, 6, 7, 8, 9, 10, 11, 12, 13, 14, 21, 31, 38] }
@[reducible] noncomputable def fn_z113 : Func := Tryz.f111
theorem wf_z113 : FnOK SP fi_z113 fn_z113 39 := ⟨Tryz.func111, by kernel_rfl, by kernel_rfl, Tryz.ntmps111⟩
@[reducible] def fi_z70 : Nat := 112
noncomputable def cf_z70 (F : Specs) : Cf := { E := { tab := tab, imm := [2, 3] }, F := F, gl := glob, N := 17, keep := [0, 1, 2, 3, 4] }
@[reducible] noncomputable def fn_z70 : Func := Tryz.f112
theorem wf_z70 : FnOK SP fi_z70 fn_z70 17 := ⟨Tryz.func112, by kernel_rfl, by kernel_rfl, Tryz.ntmps112⟩
@[reducible] def fi_z28 : Nat := 113
noncomputable def cf_z28 (F : Specs) : Cf := { E := { tab := tab, imm := [] }, F := F, gl := glob, N := 18, keep := [0, 2, 3, 5, 6, 7, 8, 9, 14] }
@[reducible] noncomputable def fn_z28 : Func := Tryz.f113
theorem wf_z28 : FnOK SP fi_z28 fn_z28 18 := ⟨Tryz.func113, by kernel_rfl, by kernel_rfl, Tryz.ntmps113⟩
@[reducible] def fi_z26 : Nat := 114
noncomputable def cf_z26 (F : Specs) : Cf := { E := { tab := tab, imm := [] }, F := F, gl := glob, N := 20, keep := [0, 1, 4, 5, 6, 11, 12, 13, 16, 19] }
@[reducible] noncomputable def fn_z26 : Func := Tryz.f114
theorem wf_z26 : FnOK SP fi_z26 fn_z26 20 := ⟨Tryz.func114, by kernel_rfl, by kernel_rfl, Tryz.ntmps114⟩
@[reducible] def fi_z157 : Nat := 115
@[reducible] noncomputable def fn_z157 : Func := Tryz.f115
theorem wf_z157 : FnOK SP fi_z157 fn_z157 5 := ⟨Tryz.func115, by kernel_rfl, by kernel_rfl, Tryz.ntmps115⟩
@[reducible] def fi_z163 : Nat := 116
@[reducible] noncomputable def fn_z163 : Func := Tryz.f116
theorem wf_z163 : FnOK SP fi_z163 fn_z163 75 := ⟨Tryz.func116, by kernel_rfl, by kernel_rfl, Tryz.ntmps116⟩
@[reducible] def fi_z120 : Nat := 117
noncomputable def cf_z120 (F : Specs) : Cf := { E := { tab := tab, imm := [] }, F := F, gl := glob, N := 19, keep := [0, 1, 4, 5, 7, 8, 9, 16] }
@[reducible] noncomputable def fn_z120 : Func := Tryz.f117
theorem wf_z120 : FnOK SP fi_z120 fn_z120 19 := ⟨Tryz.func117, by kernel_rfl, by kernel_rfl, Tryz.ntmps117⟩
@[reducible] def fi_z149 : Nat := 118
@[reducible] noncomputable def fn_z149 : Func := Tryz.f118
theorem wf_z149 : FnOK SP fi_z149 fn_z149 148 := ⟨Tryz.func118, by kernel_rfl, by kernel_rfl, Tryz.ntmps118⟩
@[reducible] def fi_z119 : Nat := 119
noncomputable def cf_z119 (F : Specs) : Cf := { E := { tab := tab, imm := [] }, F := F, gl := glob, N := 27, keep := [0, 1, 4, 6, 16] }
@[reducible] noncomputable def fn_z119 : Func := Tryz.f119
theorem wf_z119 : FnOK SP fi_z119 fn_z119 27 := ⟨Tryz.func119, by kernel_rfl, by kernel_rfl, Tryz.ntmps119⟩
@[reducible] def fi_z29 : Nat := 120
noncomputable def cf_z29 (F : Specs) : Cf := { E := { tab := tab, imm := [] }, F := F, gl := glob, N := 6, keep := [0, 2] }
@[reducible] noncomputable def fn_z29 : Func := Tryz.f120
theorem wf_z29 : FnOK SP fi_z29 fn_z29 6 := ⟨Tryz.func120, by kernel_rfl, by kernel_rfl, Tryz.ntmps120⟩
@[reducible] def fi_z31 : Nat := 131
noncomputable def cf_z31 (F : Specs) : Cf := { E := { tab := tab, imm := [] }, F := F, gl := glob, N := 36, keep := [0, 1, 2, 6, 7, 8, 10, 12] }
@[reducible] noncomputable def fn_z31 : Func := Tryz.f131
theorem wf_z31 : FnOK SP fi_z31 fn_z31 36 := ⟨Tryz.func131, by kernel_rfl, by kernel_rfl, Tryz.ntmps131⟩
@[reducible] def fi_z40 : Nat := 149
@[reducible] noncomputable def fn_z40 : Func := Tryz.f149
theorem wf_z40 : FnOK SP fi_z40 fn_z40 15 := ⟨Tryz.func149, by kernel_rfl, by kernel_rfl, Tryz.ntmps149⟩
@[reducible] def tInt : Ty := .int .i64
@[reducible] def tU64 : Ty := .int .u64
@[reducible] def tBy : Ty := .int .u8
end Go.Gv
