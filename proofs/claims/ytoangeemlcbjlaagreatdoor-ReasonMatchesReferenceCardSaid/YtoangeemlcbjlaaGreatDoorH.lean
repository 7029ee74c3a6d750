/- The seat's table of types and numbers of functions, printed by a program. -/
import Derived.Test.YtoangeemlcbjlaaGreatDoorGg
import Derived.Test.YtoangeemlcbjlaaGreatDoorChecked
import Derived.Test.YtoangeemlcbjlaaGreatDoorRows
import Derived.Lib.ItoaNum
set_option linter.all false
namespace Go.Gv
open Go Go.Proofs Go.Proofs.YtoangeemlcbjlaaGreatDoor
noncomputable def glob : Glob := fun g => match g with | 0 => some ⟨.arr 20 (.int .u64), Lib.pow10Tab⟩ | _ => none
@[reducible] noncomputable def SP : Program := Tryz.prog
theorem mix_ok : SP.follows .mixedOrders = true := by kernel_rfl
def tab : List (Nat × (Ty × Nat)) := [(2, .int .i64, 8), (3, .int .i64, 8), (4, .bool, 1), (5, .int .u8, 1), (9, .str, 16), (20, .ot 1, 16), (22, .sl (.st (.cs (.int .i64) (.cs (.int .i64) (.cs (.sl (.int .i64)) (.nl))))), 24), (24, .st (.cs (.sl (.st (.cs (.int .i64) (.cs (.int .i64) (.cs (.sl (.int .i64)) (.nl)))))) (.nl)), 24), (25, .sl (.bool), 24), (26, .sl (.int .i64), 24), (29, .sl (.sl (.int .i64)), 24), (30, .int .i64, 8), (49, .st (.cs (.int .i64) (.cs (.int .i64) (.cs (.sl (.int .i64)) (.nl)))), 40), (50, .fn, 8), (53, .mp (.int .i64) (.sl (.sl (.int .i64))), 8), (54, .fn, 8), (59, .sl (.sl (.sl (.int .i64))), 24), (62, .mp (.int .i64) (.bool), 8), (64, .fn, 8), (65, .fn, 8), (68, .mp (.str) (.int .i64), 8), (73, .fn, 8), (74, .fn, 8), (76, .st (.cs (.fn) (.cs (.fn) (.cs (.fn) (.nl)))), 24), (78, .fn, 8), (86, .fn, 8), (88, .fn, 8), (96, .fn, 8), (97, .fn, 8), (99, .sl (.int .u8), 24), (103, .int .u64, 8), (113, .fn, 8), (115, .int .i64, 8), (122, .int .u32, 4), (124, .int .u64, 8), (131, .int .u64, 8), (135, .ot 2, 8), (140, .arr 24 (.int .u8), 24), (144, .ot 2, 8), (150, .arr 20 (.int .u64), 160), (151, .arr 65 (.int .u8), 65), (152, .arr 32 (.int .u8), 32), (153, .arr 64 (.int .u8), 64)]
theorem tab_ok0 : (Env.mk tab [] [] []).ok SP = true := by kernel_rfl
theorem tab_ok {rows wraps : List Nat} : ∀ imm, (Env.mk tab imm rows wraps).ok SP = true := by intro imm; have h := tab_ok0; unfold Env.ok at h ⊢; exact h
@[reducible] def fi_z32 : Nat := 3
noncomputable def cf_z32 (F : Specs) : Cf := { E := { tab := tab, imm := [5] }, F := F, gl := glob, N := 107, keep := [0, 1, 2, 3, 4, 5, 10, 11, 12, 13, 14, 15, 16, 17, 18, 19, 38, 85] }
@[reducible] noncomputable def fn_z32 : Func := Tryz.f3
theorem wf_z32 : FnOK SP fi_z32 fn_z32 107 := ⟨Tryz.func3, by kernel_rfl, by kernel_rfl, Tryz.ntmps3⟩
@[reducible] def fi_z38 : Nat := 10
noncomputable def cf_z38 (F : Specs) : Cf := { E := { tab := tab, imm := [] }, F := F, gl := glob, N := 112, keep := [0, 1, 2, 3, 4, 5, 6, 7, 8, 9, 11, 12] }
@[reducible] noncomputable def fn_z38 : Func := Tryz.f10
theorem wf_z38 : FnOK SP fi_z38 fn_z38 112 := ⟨Tryz.func10, by kernel_rfl, by kernel_rfl, Tryz.ntmps10⟩
@[reducible] def fi_z37 : Nat := 11
noncomputable def cf_z37 (F : Specs) : Cf := { E := { tab := tab, imm := [1] }, F := F, gl := glob, N := 5, keep := [0, 1, 2] }
@[reducible] noncomputable def fn_z37 : Func := Tryz.f11
theorem wf_z37 : FnOK SP fi_z37 fn_z37 5 := ⟨Tryz.func11, by kernel_rfl, by kernel_rfl, Tryz.ntmps11⟩
@[reducible] def fi_z51 : Nat := 12
noncomputable def cf_z51 (F : Specs) : Cf := { E := { tab := tab, imm := [2] }, F := F, gl := glob, N := 11, keep := [0, 1, 2, 4, 5] }
@[reducible] noncomputable def fn_z51 : Func := Tryz.f12
theorem wf_z51 : FnOK SP fi_z51 fn_z51 11 := ⟨Tryz.func12, by kernel_rfl, by kernel_rfl, Tryz.ntmps12⟩
@[reducible] def fi_z77 : Nat := 13
noncomputable def cf_z77 (F : Specs) : Cf := { E := { tab := tab, imm := [2] }, F := F, gl := glob, N := 11, keep := [0, 1, 2, 4, 5] }
@[reducible] noncomputable def fn_z77 : Func := Tryz.f13
theorem wf_z77 : FnOK SP fi_z77 fn_z77 11 := ⟨Tryz.func13, by kernel_rfl, by kernel_rfl, Tryz.ntmps13⟩
@[reducible] def fi_z52 : Nat := 14
noncomputable def cf_z52 (F : Specs) : Cf := { E := { tab := tab, imm := [3, 5] }, F := F, gl := glob, N := 37, keep := [0, 1, 2, 3, 5, 6, 7, 8, 9, 10, 11, 12, 26, 34] }
@[reducible] noncomputable def fn_z52 : Func := Tryz.f14
theorem wf_z52 : FnOK SP fi_z52 fn_z52 37 := ⟨Tryz.func14, by kernel_rfl, by kernel_rfl, Tryz.ntmps14⟩
@[reducible] def fi_z78 : Nat := 15
noncomputable def cf_z78 (F : Specs) : Cf := { E := { tab := tab, imm := [3] }, F := F, gl := glob, N := 61, keep := [0, 1, 2, 3, 6, 7, 8, 9, 10, 24, 33, 39, 56] }
@[reducible] noncomputable def fn_z78 : Func := Tryz.f15
theorem wf_z78 : FnOK SP fi_z78 fn_z78 61 := ⟨Tryz.func15, by kernel_rfl, by kernel_rfl, Tryz.ntmps15⟩
@[reducible] def fi_z75 : Nat := 16
noncomputable def cf_z75 (F : Specs) : Cf := { E := { tab := tab, imm := [] }, F := F, gl := glob, N := 40, keep := [0, 1, 4, 5, 10, 14, 39] }
@[reducible] noncomputable def fn_z75 : Func := Tryz.f16
theorem wf_z75 : FnOK SP fi_z75 fn_z75 40 := ⟨Tryz.func16, by kernel_rfl, by kernel_rfl, Tryz.ntmps16⟩
@[reducible] def fi_z61 : Nat := 17
noncomputable def cf_z61 (F : Specs) : Cf := { E := { tab := tab, imm := [] }, F := F, gl := glob, N := 26, keep := [0, 1, 4, 5, 10, 14, 25] }
@[reducible] noncomputable def fn_z61 : Func := Tryz.f17
theorem wf_z61 : FnOK SP fi_z61 fn_z61 26 := ⟨Tryz.func17, by kernel_rfl, by kernel_rfl, Tryz.ntmps17⟩
@[reducible] def fi_z50 : Nat := 18
noncomputable def cf_z50 (F : Specs) : Cf := { E := { tab := tab, imm := [2] }, F := F, gl := glob, N := 59, keep := [0, 1, 2, 4, 5, 7, 8, 10, 21, 24, 25, 26, 27, 32, 39, 40, 41, 42, 52] }
@[reducible] noncomputable def fn_z50 : Func := Tryz.f18
theorem wf_z50 : FnOK SP fi_z50 fn_z50 59 := ⟨Tryz.func18, by kernel_rfl, by kernel_rfl, Tryz.ntmps18⟩
@[reducible] def fi_z73 : Nat := 19
noncomputable def cf_z73 (F : Specs) : Cf := { E := { tab := tab, imm := [2] }, F := F, gl := glob, N := 80, keep := [0, 1, 2, 4, 5, 6, 7, 8, 9, 23, 30, 34, 41, 74] }
@[reducible] noncomputable def fn_z73 : Func := Tryz.f19
theorem wf_z73 : FnOK SP fi_z73 fn_z73 80 := ⟨Tryz.func19, by kernel_rfl, by kernel_rfl, Tryz.ntmps19⟩
@[reducible] def fi_z49 : Nat := 20
noncomputable def cf_z49 (F : Specs) : Cf := { E := { tab := tab, imm := [3] }, F := F, gl := glob, N := 49, keep := [0, 1, 2, 3, 6, 7, 8, 9, 12, 13, 14, 15, 16, 28, 42] }
@[reducible] noncomputable def fn_z49 : Func := Tryz.f20
theorem wf_z49 : FnOK SP fi_z49 fn_z49 49 := ⟨Tryz.func20, by kernel_rfl, by kernel_rfl, Tryz.ntmps20⟩
@[reducible] def fi_z72 : Nat := 21
noncomputable def cf_z72 (F : Specs) : Cf := { E := { tab := tab, imm := [3] }, F := F, gl := glob, N := 62, keep := [0, 1, 2, 3, 6, 7, 8, 9, 10, 13, 22, 39, 56] }
@[reducible] noncomputable def fn_z72 : Func := Tryz.f21
theorem wf_z72 : FnOK SP fi_z72 fn_z72 62 := ⟨Tryz.func21, by kernel_rfl, by kernel_rfl, Tryz.ntmps21⟩
@[reducible] def fi_z5 : Nat := 22
noncomputable def cf_z5 (F : Specs) : Cf := { E := { tab := tab, imm := [1] }, F := F, gl := glob, N := 11, keep := [0, 1, 2, 4] }
@[reducible] noncomputable def fn_z5 : Func := Tryz.f22
theorem wf_z5 : FnOK SP fi_z5 fn_z5 11 := ⟨Tryz.func22, by kernel_rfl, by kernel_rfl, Tryz.ntmps22⟩
@[reducible] def fi_z0 : Nat := 23
noncomputable def cf_z0 (F : Specs) : Cf := { E := { tab := tab, imm := [3, 5] }, F := F, gl := glob, N := 22, keep := [0, 1, 2, 3, 5, 6, 7, 8] }
@[reducible] noncomputable def fn_z0 : Func := Tryz.f23
theorem wf_z0 : FnOK SP fi_z0 fn_z0 22 := ⟨Tryz.func23, by kernel_rfl, by kernel_rfl, Tryz.ntmps23⟩
@[reducible] def fi_z71 : Nat := 25
noncomputable def cf_z71 (F : Specs) : Cf := { E := { tab := tab, imm := [] }, F := F, gl := glob, N := 40, keep := [0, 1, 4, 5, 10, 19, 30] }
@[reducible] noncomputable def fn_z71 : Func := Tryz.f25
theorem wf_z71 : FnOK SP fi_z71 fn_z71 40 := ⟨Tryz.func25, by kernel_rfl, by kernel_rfl, Tryz.ntmps25⟩
@[reducible] def fi_z79 : Nat := 26
noncomputable def cf_z79 (F : Specs) : Cf := { E := { tab := tab, imm := [] }, F := F, gl := glob, N := 45, keep := [0, 1, 4, 5, 6, 10, 27, 44] }
@[reducible] noncomputable def fn_z79 : Func := Tryz.f26
theorem wf_z79 : FnOK SP fi_z79 fn_z79 45 := ⟨Tryz.func26, by kernel_rfl, by kernel_rfl, Tryz.ntmps26⟩
@[reducible] def fi_z74 : Nat := 27
noncomputable def cf_z74 (F : Specs) : Cf := { E := { tab := tab, imm := [] }, F := F, gl := glob, N := 55, keep := [0, 1, 4, 5, 6, 7, 11, 19, 26, 36, 49] }
@[reducible] noncomputable def fn_z74 : Func := Tryz.f27
theorem wf_z74 : FnOK SP fi_z74 fn_z74 55 := ⟨Tryz.func27, by kernel_rfl, by kernel_rfl, Tryz.ntmps27⟩
@[reducible] def fi_z63 : Nat := 28
noncomputable def cf_z63 (F : Specs) : Cf := { E := { tab := tab, imm := [2] }, F := F, gl := glob, N := 26, keep := [0, 1, 2, 4, 5, 10, 15, 25] }
@[reducible] noncomputable def fn_z63 : Func := Tryz.f28
theorem wf_z63 : FnOK SP fi_z63 fn_z63 26 := ⟨Tryz.func28, by kernel_rfl, by kernel_rfl, Tryz.ntmps28⟩
@[reducible] def fi_z76 : Nat := 30
noncomputable def cf_z76 (F : Specs) : Cf := { E := { tab := tab, imm := [] }, F := F, gl := glob, N := 63, keep := [0, 1, 4, 5, 14, 31, 43] }
@[reducible] noncomputable def fn_z76 : Func := Tryz.f30
theorem wf_z76 : FnOK SP fi_z76 fn_z76 63 := ⟨Tryz.func30, by kernel_rfl, by kernel_rfl, Tryz.ntmps30⟩
@[reducible] def fi_z36 : Nat := 31
noncomputable def cf_z36 (F : Specs) : Cf := { E := { tab := tab, imm := [] }, F := F, gl := glob, N := 12, keep := [0] }
@[reducible] noncomputable def fn_z36 : Func := Tryz.f31
theorem wf_z36 : FnOK SP fi_z36 fn_z36 12 := ⟨Tryz.func31, by kernel_rfl, by kernel_rfl, Tryz.ntmps31⟩
@[reducible] def fi_z53 : Nat := 32
noncomputable def cf_z53 (F : Specs) : Cf := { E := { tab := tab, imm := [] }, F := F, gl := glob, N := 102, keep := [0, 1, 2, 3, 4, 5, 6, 8, 9, 10, 11, 12, 14, 16, 26, 34, 35, 38, 55, 57, 60, 61, 62, 63, 75, 79, 80, 81, 82] }
@[reducible] noncomputable def fn_z53 : Func := Tryz.f32
theorem wf_z53 : FnOK SP fi_z53 fn_z53 102 := ⟨Tryz.func32, by kernel_rfl, by kernel_rfl, Tryz.ntmps32⟩
@[reducible] def fi_z54 : Nat := 33
noncomputable def cf_z54 (F : Specs) : Cf := { E := { tab := tab, imm := [] }, F := F, gl := glob, N := 24, keep := [0, 2, 3, 5, 8, 9, 10, 11, 17] }
@[reducible] noncomputable def fn_z54 : Func := Tryz.f33
theorem wf_z54 : FnOK SP fi_z54 fn_z54 24 := ⟨Tryz.func33, by kernel_rfl, by kernel_rfl, Tryz.ntmps33⟩
@[reducible] def fi_z85 : Nat := 34
noncomputable def cf_z85 (F : Specs) : Cf := { E := { tab := tab, imm := [] }, F := F, gl := glob, N := 8, keep := [0, 2, 4] }
@[reducible] noncomputable def fn_z85 : Func := Tryz.f34
theorem wf_z85 : FnOK SP fi_z85 fn_z85 8 := ⟨Tryz.func34, by kernel_rfl, by kernel_rfl, Tryz.ntmps34⟩
@[reducible] def fi_z57 : Nat := 35
noncomputable def cf_z57 (F : Specs) : Cf := { E := { tab := tab, imm := [] }, F := F, gl := glob, N := 34, keep := [0, 1, 2, 6, 7, 9, 11, 12, 13, 14, 15, 18, 19, 20, 21] }
@[reducible] noncomputable def fn_z57 : Func := Tryz.f35
theorem wf_z57 : FnOK SP fi_z57 fn_z57 34 := ⟨Tryz.func35, by kernel_rfl, by kernel_rfl, Tryz.ntmps35⟩
@[reducible] def fi_z58 : Nat := 36
noncomputable def cf_z58 (F : Specs) : Cf := { E := { tab := tab, imm := [] }, F := F, gl := glob, N := 14, keep := [0, 1, 4, 5] }
@[reducible] noncomputable def fn_z58 : Func := Tryz.f36
theorem wf_z58 : FnOK SP fi_z58 fn_z58 14 := ⟨Tryz.func36, by kernel_rfl, by kernel_rfl, Tryz.ntmps36⟩
@[reducible] def fi_z66 : Nat := 37
noncomputable def cf_z66 (F : Specs) : Cf := { E := { tab := tab, imm := [1] }, F := F, gl := glob, N := 97, keep := [0, 1, 2, 3, 4, 5, 6, 7, 11, 16, 38, 43, 84, 87, 96] }
@[reducible] noncomputable def fn_z66 : Func := Tryz.f37
theorem wf_z66 : FnOK SP fi_z66 fn_z66 97 := ⟨Tryz.func37, by kernel_rfl, by kernel_rfl, Tryz.ntmps37⟩
@[reducible] def fi_z65 : Nat := 38
noncomputable def cf_z65 (F : Specs) : Cf := { E := { tab := tab, imm := [2] }, F := F, gl := glob, N := 49, keep := [0, 1, 2, 4, 5, 6, 7, 17, 34] }
@[reducible] noncomputable def fn_z65 : Func := Tryz.f38
theorem wf_z65 : FnOK SP fi_z65 fn_z65 49 := ⟨Tryz.func38, by kernel_rfl, by kernel_rfl, Tryz.ntmps38⟩
@[reducible] def fi_z80 : Nat := 39
noncomputable def cf_z80 (F : Specs) : Cf := { E := { tab := tab, imm := [3] }, F := F, gl := glob, N := 117, keep := [0, 1, 2, 3, 6, 7, 8, 9, 10, 11, 12, 13, 15, 16, 20, 25, 32, 38, 51, 67, 75, 81, 94] }
@[reducible] noncomputable def fn_z80 : Func := Tryz.f39
theorem wf_z80 : FnOK SP fi_z80 fn_z80 117 := ⟨Tryz.func39, by kernel_rfl, by kernel_rfl, Tryz.ntmps39⟩
@[reducible] def fi_z59 : Nat := 40
noncomputable def cf_z59 (F : Specs) : Cf := { E := { tab := tab, imm := [2] }, F := F, gl := glob, N := 32, keep := [0, 1, 2, 4, 5, 7, 10, 11, 12, 13, 25] }
@[reducible] noncomputable def fn_z59 : Func := Tryz.f40
theorem wf_z59 : FnOK SP fi_z59 fn_z59 32 := ⟨Tryz.func40, by kernel_rfl, by kernel_rfl, Tryz.ntmps40⟩
@[reducible] def fi_z100 : Nat := 41
@[reducible] noncomputable def fn_z100 : Func := Tryz.f41
theorem wf_z100 : FnOK SP fi_z100 fn_z100 9 := ⟨Tryz.func41, by kernel_rfl, by kernel_rfl, Tryz.ntmps41⟩
@[reducible] def fi_z41 : Nat := 42
@[reducible] noncomputable def fn_z41 : Func := Tryz.f42
theorem wf_z41 : FnOK SP fi_z41 fn_z41 4 := ⟨Tryz.func42, by kernel_rfl, by kernel_rfl, Tryz.ntmps42⟩
@[reducible] def fi_z70 : Nat := 43
noncomputable def cf_z70 (F : Specs) : Cf := { E := { tab := tab, imm := [2] }, F := F, gl := glob, N := 62, keep := [0, 1, 2, 4, 5, 6, 7, 8, 9, 14, 30, 39, 54] }
@[reducible] noncomputable def fn_z70 : Func := Tryz.f43
theorem wf_z70 : FnOK SP fi_z70 fn_z70 62 := ⟨Tryz.func43, by kernel_rfl, by kernel_rfl, Tryz.ntmps43⟩
@[reducible] def fi_z64 : Nat := 44
noncomputable def cf_z64 (F : Specs) : Cf := { E := { tab := tab, imm := [3] }, F := F, gl := glob, N := 96, keep := [0, 1, 2, 3, 6, 7, 8, 9, 10, 11, 15, 21, 33, 43] }
@[reducible] noncomputable def fn_z64 : Func := Tryz.f44
theorem wf_z64 : FnOK SP fi_z64 fn_z64 96 := ⟨Tryz.func44, by kernel_rfl, by kernel_rfl, Tryz.ntmps44⟩
@[reducible] def fi_z12 : Nat := 45
noncomputable def cf_z12 (F : Specs) : Cf := { E := { tab := tab, imm := [1] }, F := F, gl := glob, N := 66, keep := [0, 1, 2, 3, 4, 5, 6, 8, 12, 18, 19, 20, 21, 51, 59] }
@[reducible] noncomputable def fn_z12 : Func := Tryz.f45
theorem wf_z12 : FnOK SP fi_z12 fn_z12 66 := ⟨Tryz.func45, by kernel_rfl, by kernel_rfl, Tryz.ntmps45⟩
@[reducible] def fi_z6 : Nat := 46
noncomputable def cf_z6 (F : Specs) : Cf := { E := { tab := tab, imm := [3, 5] }, F := F, gl := glob, N := 107, keep := [0, 1, 2, 3, 5, 6, 7, 8, 9, 10, 11, 12, 13, 15, 29, 36, 37, 38, 42, 54, 71, 76, 77, 78, 79, 99] }
@[reducible] noncomputable def fn_z6 : Func := Tryz.f46
theorem wf_z6 : FnOK SP fi_z6 fn_z6 107 := ⟨Tryz.func46, by kernel_rfl, by kernel_rfl, Tryz.ntmps46⟩
@[reducible] def fi_z1 : Nat := 47
noncomputable def cf_z1 (F : Specs) : Cf := { E := { tab := tab, imm := [2] }, F := F, gl := glob, N := 27, keep := [0, 1, 2, 3, 4] }
@[reducible] noncomputable def fn_z1 : Func := Tryz.f47
theorem wf_z1 : FnOK SP fi_z1 fn_z1 27 := ⟨Tryz.func47, by kernel_rfl, by kernel_rfl, Tryz.ntmps47⟩
@[reducible] def fi_z2 : Nat := 48
noncomputable def cf_z2 (F : Specs) : Cf := { E := { tab := tab, imm := [] }, F := F, gl := glob, N := 10, keep := [0, 1, 4, 5] }
@[reducible] noncomputable def fn_z2 : Func := Tryz.f48
theorem wf_z2 : FnOK SP fi_z2 fn_z2 10 := ⟨Tryz.func48, by kernel_rfl, by kernel_rfl, Tryz.ntmps48⟩
@[reducible] def fi_z3 : Nat := 49
noncomputable def cf_z3 (F : Specs) : Cf := { E := { tab := tab, imm := [] }, F := F, gl := glob, N := 10, keep := [0, 1, 4, 5] }
@[reducible] noncomputable def fn_z3 : Func := Tryz.f49
theorem wf_z3 : FnOK SP fi_z3 fn_z3 10 := ⟨Tryz.func49, by kernel_rfl, by kernel_rfl, Tryz.ntmps49⟩
@[reducible] def fi_z7 : Nat := 50
noncomputable def cf_z7 (F : Specs) : Cf := { E := { tab := tab, imm := [2, 3] }, F := F, gl := glob, N := 47, keep := [0, 1, 2, 3, 4, 8, 10, 11, 27] }
@[reducible] noncomputable def fn_z7 : Func := Tryz.f50
theorem wf_z7 : FnOK SP fi_z7 fn_z7 47 := ⟨Tryz.func50, by kernel_rfl, by kernel_rfl, Tryz.ntmps50⟩
@[reducible] def fi_z9 : Nat := 51
noncomputable def cf_z9 (F : Specs) : Cf := { E := { tab := tab, imm := [] }, F := F, gl := glob, N := 9, keep := [0, 2] }
@[reducible] noncomputable def fn_z9 : Func := Tryz.f51
theorem wf_z9 : FnOK SP fi_z9 fn_z9 9 := ⟨Tryz.func51, by kernel_rfl, by kernel_rfl, Tryz.ntmps51⟩
@[reducible] def fi_z10 : Nat := 53
noncomputable def cf_z10 (F : Specs) : Cf := { E := { tab := tab, imm := [] }, F := F, gl := glob, N := 15, keep := [0, 1, 4] }
@[reducible] noncomputable def fn_z10 : Func := Tryz.f53
theorem wf_z10 : FnOK SP fi_z10 fn_z10 15 := ⟨Tryz.func53, by kernel_rfl, by kernel_rfl, Tryz.ntmps53⟩
@[reducible] def fi_z11 : Nat := 54
noncomputable def cf_z11 (F : Specs) : Cf := { E := { tab := tab, imm := [1] }, F := F, gl := glob, N := 30, keep := [0, 1, 2, 3, 5, 16, 17, 18, 19] }
@[reducible] noncomputable def fn_z11 : Func := Tryz.f54
theorem wf_z11 : FnOK SP fi_z11 fn_z11 30 := ⟨Tryz.func54, by kernel_rfl, by kernel_rfl, Tryz.ntmps54⟩
@[reducible] def fi_z39 : Nat := 56
noncomputable def cf_z39 (F : Specs) : Cf := { E := { tab := tab, imm := [] }, F := F, gl := glob, N := 5, keep := [0, 2] }
@[reducible] noncomputable def fn_z39 : Func := Tryz.f56
theorem wf_z39 : FnOK SP fi_z39 fn_z39 5 := ⟨Tryz.func56, by kernel_rfl, by kernel_rfl, Tryz.ntmps56⟩
@[reducible] def fi_z98 : Nat := 57
noncomputable def cf_z98 (F : Specs) : Cf := { E := { tab := tab, imm := [] }, F := F, gl := glob, N := 14, keep := [0, 1, 4] }
@[reducible] noncomputable def fn_z98 : Func := Tryz.f57
theorem wf_z98 : FnOK SP fi_z98 fn_z98 14 := ⟨Tryz.func57, by kernel_rfl, by kernel_rfl, Tryz.ntmps57⟩
@[reducible] def fi_z56 : Nat := 58
noncomputable def cf_z56 (F : Specs) : Cf := { E := { tab := tab, imm := [] }, F := F, gl := glob, N := 15, keep := [0, 1, 4] }
@[reducible] noncomputable def fn_z56 : Func := Tryz.f58
theorem wf_z56 : FnOK SP fi_z56 fn_z56 15 := ⟨Tryz.func58, by kernel_rfl, by kernel_rfl, Tryz.ntmps58⟩
@[reducible] def fi_z91 : Nat := 59
noncomputable def cf_z91 (F : Specs) : Cf := { E := { tab := tab, imm := [] }, F := F, gl := glob, N := 9, keep := [0, 1, 4] }
@[reducible] noncomputable def fn_z91 : Func := Tryz.f59
theorem wf_z91 : FnOK SP fi_z91 fn_z91 9 := ⟨Tryz.func59, by kernel_rfl, by kernel_rfl, Tryz.ntmps59⟩
@[reducible] def fi_z55 : Nat := 60
noncomputable def cf_z55 (F : Specs) : Cf := { E := { tab := tab, imm := [] }, F := F, gl := glob, N := 7, keep := [0, 1, 3] }
@[reducible] noncomputable def fn_z55 : Func := Tryz.f60
theorem wf_z55 : FnOK SP fi_z55 fn_z55 7 := ⟨Tryz.func60, by kernel_rfl, by kernel_rfl, Tryz.ntmps60⟩
@[reducible] def fi_z60 : Nat := 61
noncomputable def cf_z60 (F : Specs) : Cf := { E := { tab := tab, imm := [] }, F := F, gl := glob, N := 24, keep := [0, 1, 4, 6, 8, 9, 10, 11, 12, 22] }
@[reducible] noncomputable def fn_z60 : Func := Tryz.f61
theorem wf_z60 : FnOK SP fi_z60 fn_z60 24 := ⟨Tryz.func61, by kernel_rfl, by kernel_rfl, Tryz.ntmps61⟩
@[reducible] def fi_z89 : Nat := 62
noncomputable def cf_z89 (F : Specs) : Cf := { E := { tab := tab, imm := [] }, F := F, gl := glob, N := 36, keep := [0, 2, 3, 5, 6, 8, 9, 10, 11, 12, 20, 25, 26, 27, 28] }
@[reducible] noncomputable def fn_z89 : Func := Tryz.f62
theorem wf_z89 : FnOK SP fi_z89 fn_z89 36 := ⟨Tryz.func62, by kernel_rfl, by kernel_rfl, Tryz.ntmps62⟩
@[reducible] def fi_z99 : Nat := 63
@[reducible] noncomputable def fn_z99 : Func := Tryz.f63
theorem wf_z99 : FnOK SP fi_z99 fn_z99 11 := ⟨Tryz.func63, by kernel_rfl, by kernel_rfl, Tryz.ntmps63⟩
@[reducible] def fi_z87 : Nat := 64
@[reducible] noncomputable def fn_z87 : Func := Tryz.f64
theorem wf_z87 : FnOK SP fi_z87 fn_z87 61 := ⟨Tryz.func64, by kernel_rfl, by kernel_rfl, Tryz.ntmps64⟩
@[reducible] def fi_z67 : Nat := 65
noncomputable def cf_z67 (F : Specs) : Cf := { E := { tab := tab, imm := [2] }, F := F, gl := glob, N := 69, keep := [0, 1, 2, 4, 5, 10, 27, 30] }
@[reducible] noncomputable def fn_z67 : Func := Tryz.f65
theorem wf_z67 : FnOK SP fi_z67 fn_z67 69 := ⟨Tryz.func65, by kernel_rfl, by kernel_rfl, Tryz.ntmps65⟩
@[reducible] def fi_z69 : Nat := 66
noncomputable def cf_z69 (F : Specs) : Cf := { E := { tab := tab, imm := [] }, F := F, gl := glob, N := 9, keep := [0, 2] }
@[reducible] noncomputable def fn_z69 : Func := Tryz.f66
theorem wf_z69 : FnOK SP fi_z69 fn_z69 9 := ⟨Tryz.func66, by kernel_rfl, by kernel_rfl, Tryz.ntmps66⟩
@[reducible] def fi_z62 : Nat := 67
noncomputable def cf_z62 (F : Specs) : Cf := { E := { tab := tab, imm := [2, 3] }, F := F, gl := glob, N := 45, keep := [0, 1, 2, 3, 4, 5, 26, 31, 44] }
@[reducible] noncomputable def fn_z62 : Func := Tryz.f67
theorem wf_z62 : FnOK SP fi_z62 fn_z62 45 := ⟨Tryz.func67, by kernel_rfl, by kernel_rfl, Tryz.ntmps67⟩
@[reducible] def fi_z81 : Nat := 68
noncomputable def cf_z81 (F : Specs) : Cf := { E := { tab := tab, imm := [] }, F := F, gl := glob, N := 19, keep := [0, 1, 4] }
@[reducible] noncomputable def fn_z81 : Func := Tryz.f68
theorem wf_z81 : FnOK SP fi_z81 fn_z81 19 := ⟨Tryz.func68, by kernel_rfl, by kernel_rfl, Tryz.ntmps68⟩
@[reducible] def fi_z92 : Nat := 69
noncomputable def cf_z92 (F : Specs) : Cf := { E := { tab := tab, imm := [] }, F := F, gl := glob, N := 9, keep := [0, 1, 4] }
@[reducible] noncomputable def fn_z92 : Func := Tryz.f69
theorem wf_z92 : FnOK SP fi_z92 fn_z92 9 := ⟨Tryz.func69, by kernel_rfl, by kernel_rfl, Tryz.ntmps69⟩
@[reducible] def fi_z42 : Nat := 71
@[reducible] noncomputable def fn_z42 : Func := Tryz.f71
theorem wf_z42 : FnOK SP fi_z42 fn_z42 14 := ⟨Tryz.func71, by kernel_rfl, by kernel_rfl, Tryz.ntmps71⟩
@[reducible] def fi_z68 : Nat := 72
noncomputable def cf_z68 (F : Specs) : Cf := { E := { tab := tab, imm := [2] }, F := F, gl := glob, N := 18, keep := [0, 1, 2, 4] }
@[reducible] noncomputable def fn_z68 : Func := Tryz.f72
theorem wf_z68 : FnOK SP fi_z68 fn_z68 18 := ⟨Tryz.func72, by kernel_rfl, by kernel_rfl, Tryz.ntmps72⟩
@[reducible] def fi_z97 : Nat := 73
noncomputable def cf_z97 (F : Specs) : Cf := { E := { tab := tab, imm := [] }, F := F, gl := glob, N := 21, keep := [0, 2, 3, 8, 20] }
@[reducible] noncomputable def fn_z97 : Func := Tryz.f73
theorem wf_z97 : FnOK SP fi_z97 fn_z97 21 := ⟨Tryz.func73, by kernel_rfl, by kernel_rfl, Tryz.ntmps73⟩
@[reducible] def fi_z90 : Nat := 74
noncomputable def cf_z90 (F : Specs) : Cf := { E := { tab := tab, imm := [] }, F := F, gl := glob, N := 9, keep := [0, 1, 4] }
@[reducible] noncomputable def fn_z90 : Func := Tryz.f74
theorem wf_z90 : FnOK SP fi_z90 fn_z90 9 := ⟨Tryz.func74, by kernel_rfl, by kernel_rfl, Tryz.ntmps74⟩
@[reducible] def fi_z13 : Nat := 75
noncomputable def cf_z13 (F : Specs) : Cf := { E := { tab := tab, imm := [] }, F := F, gl := glob, N := 15, keep := [0, 1, 2, 4] }
@[reducible] noncomputable def fn_z13 : Func := Tryz.f75
theorem wf_z13 : FnOK SP fi_z13 fn_z13 15 := ⟨Tryz.func75, by kernel_rfl, by kernel_rfl, Tryz.ntmps75⟩
@[reducible] def fi_z14 : Nat := 76
noncomputable def cf_z14 (F : Specs) : Cf := { E := { tab := tab, imm := [2, 3] }, F := F, gl := glob, N := 6, keep := [0, 1, 2, 3, 4] }
@[reducible] noncomputable def fn_z14 : Func := Tryz.f76
theorem wf_z14 : FnOK SP fi_z14 fn_z14 6 := ⟨Tryz.func76, by kernel_rfl, by kernel_rfl, Tryz.ntmps76⟩
@[reducible] def fi_z8 : Nat := 77
noncomputable def cf_z8 (F : Specs) : Cf := { E := { tab := tab, imm := [] }, F := F, gl := glob, N := 11, keep := [0, 1, 3] }
@[reducible] noncomputable def fn_z8 : Func := Tryz.f77
theorem wf_z8 : FnOK SP fi_z8 fn_z8 11 := ⟨Tryz.func77, by kernel_rfl, by kernel_rfl, Tryz.ntmps77⟩
@[reducible] def fi_z132 : Nat := 79
noncomputable def cf_z132 (F : Specs) : Cf := { E := { tab := tab, imm := [] }, F := F, gl := glob, N := 11, keep := [0, 1, 2, 6] }
@[reducible] noncomputable def fn_z132 : Func := Tryz.f79
theorem wf_z132 : FnOK SP fi_z132 fn_z132 11 := ⟨Tryz.func79, by kernel_rfl, by kernel_rfl, Tryz.ntmps79⟩
@[reducible] def fi_z125 : Nat := 80
@[reducible] noncomputable def fn_z125 : Func := Tryz.f80
theorem wf_z125 : FnOK SP fi_z125 fn_z125 148 := ⟨Tryz.func80, by kernel_rfl, by kernel_rfl, Tryz.ntmps80⟩
@[reducible] def fi_z43 : Nat := 81
@[reducible] noncomputable def fn_z43 : Func := Tryz.f81
theorem wf_z43 : FnOK SP fi_z43 fn_z43 8 := ⟨Tryz.func81, by kernel_rfl, by kernel_rfl, Tryz.ntmps81⟩
@[reducible] def fi_z18 : Nat := 82
noncomputable def cf_z18 (F : Specs) : Cf := { E := { tab := tab, imm := [] }, F := F, gl := glob, N := 18, keep := [0, 2, 3, 5, 6, 7, 8, 9, 14] }
@[reducible] noncomputable def fn_z18 : Func := Tryz.f82
theorem wf_z18 : FnOK SP fi_z18 fn_z18 18 := ⟨Tryz.func82, by kernel_rfl, by kernel_rfl, Tryz.ntmps82⟩
@[reducible] def fi_z16 : Nat := 83
noncomputable def cf_z16 (F : Specs) : Cf := { E := { tab := tab, imm := [] }, F := F, gl := glob, N := 20, keep := [0, 1, 4, 5, 6, 11, 12, 13, 16, 19] }
@[reducible] noncomputable def fn_z16 : Func := Tryz.f83
theorem wf_z16 : FnOK SP fi_z16 fn_z16 20 := ⟨Tryz.func83, by kernel_rfl, by kernel_rfl, Tryz.ntmps83⟩
@[reducible] def fi_z88 : Nat := 84
noncomputable def cf_z88 (F : Specs) : Cf := { E := { tab := tab, imm := [] }, F := F, gl := glob, N := 36, keep := [0, 1, 4, 5, 6, 7, 8, 9, 10, 11, 12, 19, 28, 35] }
@[reducible] noncomputable def fn_z88 : Func := Tryz.f84
theorem wf_z88 : FnOK SP fi_z88 fn_z88 36 := ⟨Tryz.func84, by kernel_rfl, by kernel_rfl, Tryz.ntmps84⟩
@[reducible] def fi_z95 : Nat := 85
noncomputable def cf_z95 (F : Specs) : Cf := { E := { tab := tab, imm := [] }, F := F, gl := glob, N := 19, keep := [0, 1, 4, 5, 7, 8, 9, 16] }
@[reducible] noncomputable def fn_z95 : Func := Tryz.f85
theorem wf_z95 : FnOK SP fi_z95 fn_z95 19 := ⟨Tryz.func85, by kernel_rfl, by kernel_rfl, Tryz.ntmps85⟩
@[reducible] def fi_z83 : Nat := 86
noncomputable def cf_z83 (F : Specs) : Cf := { E := { tab := tab, imm := [] }, F := F, gl := glob, N := 54, keep := [0, 1, 4, 5, 6, 7, 8, 9, 15, 27] }
@[reducible] noncomputable def fn_z83 : Func := Tryz.f86
theorem wf_z83 : FnOK SP fi_z83 fn_z83 54 := ⟨Tryz.func86, by kernel_rfl, by kernel_rfl, Tryz.ntmps86⟩
@[reducible] def fi_z93 : Nat := 87
noncomputable def cf_z93 (F : Specs) : Cf := { E := { tab := tab, imm := [] }, F := F, gl := glob, N := 27, keep := [0, 1, 4, 6, 16] }
@[reducible] noncomputable def fn_z93 : Func := Tryz.f87
theorem wf_z93 : FnOK SP fi_z93 fn_z93 27 := ⟨Tryz.func87, by kernel_rfl, by kernel_rfl, Tryz.ntmps87⟩
@[reducible] def fi_z96 : Nat := 89
noncomputable def cf_z96 (F : Specs) : Cf := { E := { tab := tab, imm := [] }, F := F, gl := glob, N := 19, keep := [0, 1, 4, 5, 7, 8, 9, 16] }
@[reducible] noncomputable def fn_z96 : Func := Tryz.f89
theorem wf_z96 : FnOK SP fi_z96 fn_z96 19 := ⟨Tryz.func89, by kernel_rfl, by kernel_rfl, Tryz.ntmps89⟩
@[reducible] def fi_z17 : Nat := 91
noncomputable def cf_z17 (F : Specs) : Cf := { E := { tab := tab, imm := [] }, F := F, gl := glob, N := 17, keep := [0, 1, 4] }
@[reducible] noncomputable def fn_z17 : Func := Tryz.f91
theorem wf_z17 : FnOK SP fi_z17 fn_z17 17 := ⟨Tryz.func91, by kernel_rfl, by kernel_rfl, Tryz.ntmps91⟩
@[reducible] def fi_z94 : Nat := 92
noncomputable def cf_z94 (F : Specs) : Cf := { E := { tab := tab, imm := [] }, F := F, gl := glob, N := 19, keep := [0, 1, 4, 5, 7, 8, 9, 16] }
@[reducible] noncomputable def fn_z94 : Func := Tryz.f92
theorem wf_z94 : FnOK SP fi_z94 fn_z94 19 := ⟨Tryz.func92, by kernel_rfl, by kernel_rfl, Tryz.ntmps92⟩
@[reducible] def fi_z15 : Nat := 93
noncomputable def cf_z15 (F : Specs) : Cf := { E := { tab := tab, imm := [] }, F := F, gl := glob, N := 60, keep := [0, 1, 2, 4, 5, 7, 8, 9, 18, 24, 30, 31, 32, 33, 40, 41, 42, 43, 58] }
@[reducible] noncomputable def fn_z15 : Func := Tryz.f93
theorem wf_z15 : FnOK SP fi_z15 fn_z15 60 := ⟨Tryz.func93, by kernel_rfl, by kernel_rfl, Tryz.ntmps93⟩
@[reducible] def fi_z20 : Nat := 94
noncomputable def cf_z20 (F : Specs) : Cf := { E := { tab := tab, imm := [] }, F := F, gl := glob, N := 21, keep := [0, 1, 2, 6, 7, 11] }
@[reducible] noncomputable def fn_z20 : Func := Tryz.f94
theorem wf_z20 : FnOK SP fi_z20 fn_z20 21 := ⟨Tryz.func94, by kernel_rfl, by kernel_rfl, Tryz.ntmps94⟩
@[reducible] def fi_z19 : Nat := 105
noncomputable def cf_z19 (F : Specs) : Cf := { E := { tab := tab, imm := [] }, F := F, gl := glob, N := 6, keep := [0, 2] }
@[reducible] noncomputable def fn_z19 : Func := Tryz.f105
theorem wf_z19 : FnOK SP fi_z19 fn_z19 6 := ⟨Tryz.func105, by kernel_rfl, by kernel_rfl, Tryz.ntmps105⟩
@[reducible] def fi_z111 : Nat := 106
noncomputable def cf_z111 (F : Specs) : Cf := { E := { tab := tab, imm := [] }, F := F, gl := glob, N := 6, keep := [0, 2] }
@[reducible] noncomputable def fn_z111 : Func := Tryz.f106
theorem wf_z111 : FnOK SP fi_z111 fn_z111 6 := ⟨Tryz.func106, by kernel_rfl, by kernel_rfl, Tryz.ntmps106⟩
@[reducible] def fi_z21 : Nat := 115
noncomputable def cf_z21 (F : Specs) : Cf := { E := { tab := tab, imm := [] }, F := F, gl := glob, N := 36, keep := [0, 1, 2, 6, 7, 8, 10, 12] }
@[reducible] noncomputable def fn_z21 : Func := Tryz.f115
theorem wf_z21 : FnOK SP fi_z21 fn_z21 36 := ⟨Tryz.func115, by kernel_rfl, by kernel_rfl, Tryz.ntmps115⟩
@[reducible] def fi_z28 : Nat := 124
@[reducible] noncomputable def fn_z28 : Func := Tryz.f124
theorem wf_z28 : FnOK SP fi_z28 fn_z28 15 := ⟨Tryz.func124, by kernel_rfl, by kernel_rfl, Tryz.ntmps124⟩
end Go.Gv
