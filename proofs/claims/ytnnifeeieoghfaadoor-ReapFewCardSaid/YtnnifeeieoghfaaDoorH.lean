/- The seat's table of types and numbers of functions, printed by a program. -/
import Derived.Test.YtnnifeeieoghfaaDoorGe
import Derived.Test.YtnnifeeieoghfaaDoorChecked
import Derived.Test.YtnnifeeieoghfaaDoorRows
import Derived.Lib.ItoaNum
set_option linter.all false
namespace Go.Gv
open Go Go.Proofs Go.Proofs.YtnnifeeieoghfaaDoor

noncomputable def glob : Glob := fun g => match g with | 0 => some ⟨.arr 20 (.int .u64), Lib.pow10Tab⟩ | _ => none
@[reducible] noncomputable def SP : Program := Tryd.prog
theorem mix_ok : SP.follows .mixedOrders = true := by kernel_rfl
def tab : List (Nat × (Ty × Nat)) := [(2, .int .i64, 8), (3, .int .i64, 8), (4, .bool, 1), (5, .int .u8, 1), (9, .str, 16), (20, .ot 1, 16), (22, .sl (.st (.cs (.int .i64) (.cs (.int .i64) (.cs (.sl (.int .i64)) (.nl))))), 24), (24, .st (.cs (.sl (.st (.cs (.int .i64) (.cs (.int .i64) (.cs (.sl (.int .i64)) (.nl)))))) (.nl)), 24), (25, .sl (.int .i64), 24), (26, .sl (.st (.cs (.bool) (.cs (.int .i64) (.nl)))), 24), (29, .int .i64, 8), (32, .ot 2, 8), (35, .ot 2, 8), (41, .st (.cs (.bool) (.cs (.int .i64) (.nl))), 16), (43, .ot 0, 8), (47, .sl (.bool), 24), (50, .st (.cs (.int .i64) (.cs (.int .i64) (.cs (.sl (.int .i64)) (.nl)))), 40), (56, .ot 0, 8), (57, .mp (.int .i64) (.bool), 8), (59, .st (.cs (.st (.cs (.sl (.st (.cs (.int .i64) (.cs (.int .i64) (.cs (.sl (.int .i64)) (.nl)))))) (.nl))) (.cs (.sl (.int .i64)) (.cs (.mp (.int .i64) (.bool)) (.cs (.sl (.int .i64)) (.nl))))), 80), (62, .st (.cs (.st (.cs (.sl (.st (.cs (.int .i64) (.cs (.int .i64) (.cs (.sl (.int .i64)) (.nl)))))) (.nl))) (.cs (.sl (.int .i64)) (.cs (.int .i64) (.nl)))), 56), (65, .mp (.int .i64) (.int .i64), 8), (66, .mp (.str) (.int .i64), 8), (75, .sl (.int .u8), 24), (77, .int .u64, 8), (80, .arr 24 (.int .u8), 24), (87, .arr 20 (.int .u64), 160), (88, .int .u32, 4), (89, .arr 65 (.int .u8), 65), (90, .int .u64, 8), (93, .arr 32 (.int .u8), 32), (94, .arr 64 (.int .u8), 64)]
theorem tab_ok : ∀ imm, (Env.mk tab imm).ok SP = true := by intro imm; exact (by kernel_rfl : (Env.mk tab []).ok SP = true)
@[reducible] def fi_law18_ReapMatchesReference : Nat := 3
noncomputable def cf_law18_ReapMatchesReference (F : Specs) : Cf := { E := { tab := tab, imm := [3] }, F := F, gl := glob, N := 166, keep := [0, 1, 2, 3, 6, 7, 8, 9, 10, 11, 12, 13, 14, 15, 16, 17, 18, 19, 20, 21, 22, 23, 24, 30, 84, 88, 137, 164] }
@[reducible] noncomputable def fn_law18_ReapMatchesReference : Func := Tryd.f3
theorem wf_law18_ReapMatchesReference : FnOK SP fi_law18_ReapMatchesReference fn_law18_ReapMatchesReference 166 := ⟨Tryd.func3, by kernel_rfl, by kernel_rfl, Tryd.ntmps3⟩
@[reducible] def fi_law18_ReapFew : Nat := 4
noncomputable def cf_law18_ReapFew (F : Specs) : Cf := { E := { tab := tab, imm := [2] }, F := F, gl := glob, N := 146, keep := [0, 1, 2, 4, 5, 6, 7, 8, 9, 10, 11, 12, 13, 14, 19, 29, 46, 53, 107, 121] }
@[reducible] noncomputable def fn_law18_ReapFew : Func := Tryd.f4
theorem wf_law18_ReapFew : FnOK SP fi_law18_ReapFew fn_law18_ReapFew 146 := ⟨Tryd.func4, by kernel_rfl, by kernel_rfl, Tryd.ntmps4⟩
@[reducible] def fi_law18_ReapSteps : Nat := 5
noncomputable def cf_law18_ReapSteps (F : Specs) : Cf := { E := { tab := tab, imm := [3] }, F := F, gl := glob, N := 160, keep := [0, 1, 2, 3, 6, 7, 8, 9, 10, 11, 12, 13, 14, 15, 16, 17, 18, 19, 20, 26, 35, 47, 58, 66, 74, 99, 158] }
@[reducible] noncomputable def fn_law18_ReapSteps : Func := Tryd.f5
theorem wf_law18_ReapSteps : FnOK SP fi_law18_ReapSteps fn_law18_ReapSteps 160 := ⟨Tryd.func5, by kernel_rfl, by kernel_rfl, Tryd.ntmps5⟩
@[reducible] def fi_law18_ReapRoots : Nat := 6
noncomputable def cf_law18_ReapRoots (F : Specs) : Cf := { E := { tab := tab, imm := [4] }, F := F, gl := glob, N := 142, keep := [0, 1, 2, 3, 4, 8, 9, 10, 12, 13, 14, 15, 16, 17, 19, 20, 22, 32, 42, 48, 74, 83] }
@[reducible] noncomputable def fn_law18_ReapRoots : Func := Tryd.f6
theorem wf_law18_ReapRoots : FnOK SP fi_law18_ReapRoots fn_law18_ReapRoots 142 := ⟨Tryd.func6, by kernel_rfl, by kernel_rfl, Tryd.ntmps6⟩
@[reducible] def fi_law18_head : Nat := 7
noncomputable def cf_law18_head (F : Specs) : Cf := { E := { tab := tab, imm := [] }, F := F, gl := glob, N := 181, keep := [0, 1, 2, 3, 4, 5, 6, 7, 10, 11, 12, 15, 16, 17, 18, 19, 20, 21, 22, 23, 25, 26, 27, 73] }
@[reducible] noncomputable def fn_law18_head : Func := Tryd.f7
theorem wf_law18_head : FnOK SP fi_law18_head fn_law18_head 181 := ⟨Tryd.func7, by kernel_rfl, by kernel_rfl, Tryd.ntmps7⟩
@[reducible] def fi_law18_few : Nat := 8
noncomputable def cf_law18_few (F : Specs) : Cf := { E := { tab := tab, imm := [3] }, F := F, gl := glob, N := 19, keep := [0, 1, 2, 3, 6] }
@[reducible] noncomputable def fn_law18_few : Func := Tryd.f8
theorem wf_law18_few : FnOK SP fi_law18_few fn_law18_few 19 := ⟨Tryd.func8, by kernel_rfl, by kernel_rfl, Tryd.ntmps8⟩
@[reducible] def fi_reap_Keep : Nat := 9
noncomputable def cf_reap_Keep (F : Specs) : Cf := { E := { tab := tab, imm := [2] }, F := F, gl := glob, N := 29, keep := [0, 1, 2, 4, 5, 6, 7, 8, 16] }
@[reducible] noncomputable def fn_reap_Keep : Func := Tryd.f9
theorem wf_reap_Keep : FnOK SP fi_reap_Keep fn_reap_Keep 29 := ⟨Tryd.func9, by kernel_rfl, by kernel_rfl, Tryd.ntmps9⟩
@[reducible] def fi_ref18_Keep : Nat := 10
noncomputable def cf_ref18_Keep (F : Specs) : Cf := { E := { tab := tab, imm := [2] }, F := F, gl := glob, N := 108, keep := [0, 1, 2, 4, 5, 6, 7, 8, 9, 10, 11, 12, 13, 14, 18, 29, 36, 64, 93] }
@[reducible] noncomputable def fn_ref18_Keep : Func := Tryd.f10
theorem wf_ref18_Keep : FnOK SP fi_ref18_Keep fn_ref18_Keep 108 := ⟨Tryd.func10, by kernel_rfl, by kernel_rfl, Tryd.ntmps10⟩
@[reducible] def fi_reap_Start : Nat := 11
noncomputable def cf_reap_Start (F : Specs) : Cf := { E := { tab := tab, imm := [2] }, F := F, gl := glob, N := 37, keep := [0, 1, 2, 4, 5, 6, 8, 16, 26, 27, 28, 29] }
@[reducible] noncomputable def fn_reap_Start : Func := Tryd.f11
theorem wf_reap_Start : FnOK SP fi_reap_Start fn_reap_Start 37 := ⟨Tryd.func11, by kernel_rfl, by kernel_rfl, Tryd.ntmps11⟩
@[reducible] def fi_ref18_Start : Nat := 12
noncomputable def cf_ref18_Start (F : Specs) : Cf := { E := { tab := tab, imm := [2] }, F := F, gl := glob, N := 16, keep := [0, 1, 2, 4, 5, 9] }
@[reducible] noncomputable def fn_ref18_Start : Func := Tryd.f12
theorem wf_ref18_Start : FnOK SP fi_ref18_Start fn_ref18_Start 16 := ⟨Tryd.func12, by kernel_rfl, by kernel_rfl, Tryd.ntmps12⟩
@[reducible] def fi_ref16_Same : Nat := 13
noncomputable def cf_ref16_Same (F : Specs) : Cf := { E := { tab := tab, imm := [2, 3] }, F := F, gl := glob, N := 32, keep := [0, 1, 2, 3, 4, 5, 12, 17, 31] }
@[reducible] noncomputable def fn_ref16_Same : Func := Tryd.f13
theorem wf_ref16_Same : FnOK SP fi_ref16_Same fn_ref16_Same 32 := ⟨Tryd.func13, by kernel_rfl, by kernel_rfl, Tryd.ntmps13⟩
@[reducible] def fi_ref06_Ints : Nat := 14
noncomputable def cf_ref06_Ints (F : Specs) : Cf := { E := { tab := tab, imm := [] }, F := F, gl := glob, N := 26, keep := [0, 1, 4, 5, 10, 14, 25] }
@[reducible] noncomputable def fn_ref06_Ints : Func := Tryd.f14
theorem wf_ref06_Ints : FnOK SP fi_ref06_Ints fn_ref06_Ints 26 := ⟨Tryd.func14, by kernel_rfl, by kernel_rfl, Tryd.ntmps14⟩
@[reducible] def fi_reap_Sweep_Add : Nat := 15
noncomputable def cf_reap_Sweep_Add (F : Specs) : Cf := { E := { tab := tab, imm := [] }, F := F, gl := glob, N := 34, keep := [0, 1, 4, 20] }
@[reducible] noncomputable def fn_reap_Sweep_Add : Func := Tryd.f15
theorem wf_reap_Sweep_Add : FnOK SP fi_reap_Sweep_Add fn_reap_Sweep_Add 34 := ⟨Tryd.func15, by kernel_rfl, by kernel_rfl, Tryd.ntmps15⟩
@[reducible] def fi_ref18_Sweep_Add : Nat := 16
noncomputable def cf_ref18_Sweep_Add (F : Specs) : Cf := { E := { tab := tab, imm := [] }, F := F, gl := glob, N := 31, keep := [0, 1, 4, 20] }
@[reducible] noncomputable def fn_ref18_Sweep_Add : Func := Tryd.f16
theorem wf_ref18_Sweep_Add : FnOK SP fi_ref18_Sweep_Add fn_ref18_Sweep_Add 31 := ⟨Tryd.func16, by kernel_rfl, by kernel_rfl, Tryd.ntmps16⟩
@[reducible] def fi_reap_Sweep_Step : Nat := 17
noncomputable def cf_reap_Sweep_Step (F : Specs) : Cf := { E := { tab := tab, imm := [] }, F := F, gl := glob, N := 70, keep := [0, 1, 4, 5, 7, 9, 19, 52, 53, 54, 55] }
@[reducible] noncomputable def fn_reap_Sweep_Step : Func := Tryd.f17
theorem wf_reap_Sweep_Step : FnOK SP fi_reap_Sweep_Step fn_reap_Sweep_Step 70 := ⟨Tryd.func17, by kernel_rfl, by kernel_rfl, Tryd.ntmps17⟩
@[reducible] def fi_ref18_Sweep_Step : Nat := 18
noncomputable def cf_ref18_Sweep_Step (F : Specs) : Cf := { E := { tab := tab, imm := [] }, F := F, gl := glob, N := 33, keep := [0, 1, 4, 5, 7] }
@[reducible] noncomputable def fn_ref18_Sweep_Step : Func := Tryd.f18
theorem wf_ref18_Sweep_Step : FnOK SP fi_ref18_Sweep_Step fn_ref18_Sweep_Step 33 := ⟨Tryd.func18, by kernel_rfl, by kernel_rfl, Tryd.ntmps18⟩
@[reducible] def fi_reap_Sweep_Result : Nat := 19
noncomputable def cf_reap_Sweep_Result (F : Specs) : Cf := { E := { tab := tab, imm := [] }, F := F, gl := glob, N := 68, keep := [0, 2, 3, 4, 5, 6, 7, 8, 9, 10, 14, 28, 29, 30, 31, 40] }
@[reducible] noncomputable def fn_reap_Sweep_Result : Func := Tryd.f19
theorem wf_reap_Sweep_Result : FnOK SP fi_reap_Sweep_Result fn_reap_Sweep_Result 68 := ⟨Tryd.func19, by kernel_rfl, by kernel_rfl, Tryd.ntmps19⟩
@[reducible] def fi_ref18_Sweep_Result : Nat := 20
noncomputable def cf_ref18_Sweep_Result (F : Specs) : Cf := { E := { tab := tab, imm := [] }, F := F, gl := glob, N := 28, keep := [0, 2, 3, 4, 6, 14] }
@[reducible] noncomputable def fn_ref18_Sweep_Result : Func := Tryd.f20
theorem wf_ref18_Sweep_Result : FnOK SP fi_ref18_Sweep_Result fn_ref18_Sweep_Result 28 := ⟨Tryd.func20, by kernel_rfl, by kernel_rfl, Tryd.ntmps20⟩
@[reducible] def fi_circuit_Valid : Nat := 21
noncomputable def cf_circuit_Valid (F : Specs) : Cf := { E := { tab := tab, imm := [1] }, F := F, gl := glob, N := 11, keep := [0, 1, 2, 4] }
@[reducible] noncomputable def fn_circuit_Valid : Func := Tryd.f21
theorem wf_circuit_Valid : FnOK SP fi_circuit_Valid fn_circuit_Valid 11 := ⟨Tryd.func21, by kernel_rfl, by kernel_rfl, Tryd.ntmps21⟩
@[reducible] def fi_ref18_Right : Nat := 22
noncomputable def cf_ref18_Right (F : Specs) : Cf := { E := { tab := tab, imm := [2] }, F := F, gl := glob, N := 29, keep := [0, 1, 2, 4, 5, 9, 26] }
@[reducible] noncomputable def fn_ref18_Right : Func := Tryd.f22
theorem wf_ref18_Right : FnOK SP fi_ref18_Right fn_ref18_Right 29 := ⟨Tryd.func22, by kernel_rfl, by kernel_rfl, Tryd.ntmps22⟩
@[reducible] def fi_ref18_Kept : Nat := 23
noncomputable def cf_ref18_Kept (F : Specs) : Cf := { E := { tab := tab, imm := [2] }, F := F, gl := glob, N := 61, keep := [0, 1, 2, 4, 5, 6, 7, 8, 16, 29, 46] }
@[reducible] noncomputable def fn_ref18_Kept : Func := Tryd.f23
theorem wf_ref18_Kept : FnOK SP fi_ref18_Kept fn_ref18_Kept 61 := ⟨Tryd.func23, by kernel_rfl, by kernel_rfl, Tryd.ntmps23⟩
@[reducible] def fi_law18_sample : Nat := 24
noncomputable def cf_law18_sample (F : Specs) : Cf := { E := { tab := tab, imm := [] }, F := F, gl := glob, N := 10, keep := [0] }
@[reducible] noncomputable def fn_law18_sample : Func := Tryd.f24
theorem wf_law18_sample : FnOK SP fi_law18_sample fn_law18_sample 10 := ⟨Tryd.func24, by kernel_rfl, by kernel_rfl, Tryd.ntmps24⟩
@[reducible] def fi_ref16_Few : Nat := 25
noncomputable def cf_ref16_Few (F : Specs) : Cf := { E := { tab := tab, imm := [2] }, F := F, gl := glob, N := 26, keep := [0, 1, 2, 4, 5, 10, 15, 25] }
@[reducible] noncomputable def fn_ref16_Few : Func := Tryd.f25
theorem wf_ref16_Few : FnOK SP fi_ref16_Few fn_ref16_Few 26 := ⟨Tryd.func25, by kernel_rfl, by kernel_rfl, Tryd.ntmps25⟩
@[reducible] def fi_slices_ContainsFunc_sl_int_int : Nat := 26
noncomputable def cf_slices_ContainsFunc_sl_int_int (F : Specs) : Cf := { E := { tab := tab, imm := [] }, F := F, gl := glob, N := 9, keep := [0, 1, 4] }
@[reducible] noncomputable def fn_slices_ContainsFunc_sl_int_int : Func := Tryd.f26
theorem wf_slices_ContainsFunc_sl_int_int : FnOK SP fi_slices_ContainsFunc_sl_int_int fn_slices_ContainsFunc_sl_int_int 9 := ⟨Tryd.func26, by kernel_rfl, by kernel_rfl, Tryd.ntmps26⟩
@[reducible] def fi_reap_Start_1 : Nat := 27
noncomputable def cf_reap_Start_1 (F : Specs) : Cf := { E := { tab := tab, imm := [] }, F := F, gl := glob, N := 13, keep := [0, 1, 3] }
@[reducible] noncomputable def fn_reap_Start_1 : Func := Tryd.f27
theorem wf_reap_Start_1 : FnOK SP fi_reap_Start_1 fn_reap_Start_1 13 := ⟨Tryd.func27, by kernel_rfl, by kernel_rfl, Tryd.ntmps27⟩
@[reducible] def fi_slices_Clone_sl_api_Gate_api_Gate : Nat := 28
noncomputable def cf_slices_Clone_sl_api_Gate_api_Gate (F : Specs) : Cf := { E := { tab := tab, imm := [] }, F := F, gl := glob, N := 8, keep := [0, 2, 4] }
@[reducible] noncomputable def fn_slices_Clone_sl_api_Gate_api_Gate : Func := Tryd.f28
theorem wf_slices_Clone_sl_api_Gate_api_Gate : FnOK SP fi_slices_Clone_sl_api_Gate_api_Gate fn_slices_Clone_sl_api_Gate_api_Gate 8 := ⟨Tryd.func28, by kernel_rfl, by kernel_rfl, Tryd.ntmps28⟩
@[reducible] def fi_slices_Clone_sl_int_int : Nat := 29
noncomputable def cf_slices_Clone_sl_int_int (F : Specs) : Cf := { E := { tab := tab, imm := [] }, F := F, gl := glob, N := 8, keep := [0, 2, 4] }
@[reducible] noncomputable def fn_slices_Clone_sl_int_int : Func := Tryd.f29
theorem wf_slices_Clone_sl_int_int : FnOK SP fi_slices_Clone_sl_int_int fn_slices_Clone_sl_int_int 8 := ⟨Tryd.func29, by kernel_rfl, by kernel_rfl, Tryd.ntmps29⟩
@[reducible] def fi_reap_Sweep_push : Nat := 30
noncomputable def cf_reap_Sweep_push (F : Specs) : Cf := { E := { tab := tab, imm := [] }, F := F, gl := glob, N := 26, keep := [0, 1, 10] }
@[reducible] noncomputable def fn_reap_Sweep_push : Func := Tryd.f30
theorem wf_reap_Sweep_push : FnOK SP fi_reap_Sweep_push fn_reap_Sweep_push 26 := ⟨Tryd.func30, by kernel_rfl, by kernel_rfl, Tryd.ntmps30⟩
@[reducible] def fi_ref16_Equal : Nat := 31
noncomputable def cf_ref16_Equal (F : Specs) : Cf := { E := { tab := tab, imm := [2, 3] }, F := F, gl := glob, N := 45, keep := [0, 1, 2, 3, 4, 5, 26, 31, 44] }
@[reducible] noncomputable def fn_ref16_Equal : Func := Tryd.f31
theorem wf_ref16_Equal : FnOK SP fi_ref16_Equal fn_ref16_Equal 45 := ⟨Tryd.func31, by kernel_rfl, by kernel_rfl, Tryd.ntmps31⟩
@[reducible] def fi_ref18_Sweep_count : Nat := 32
noncomputable def cf_ref18_Sweep_count (F : Specs) : Cf := { E := { tab := tab, imm := [] }, F := F, gl := glob, N := 28, keep := [0, 2, 3, 4, 5, 18, 24] }
@[reducible] noncomputable def fn_ref18_Sweep_count : Func := Tryd.f32
theorem wf_ref18_Sweep_count : FnOK SP fi_ref18_Sweep_count fn_ref18_Sweep_count 28 := ⟨Tryd.func32, by kernel_rfl, by kernel_rfl, Tryd.ntmps32⟩
@[reducible] def fi_reap_Sweep_Result_1 : Nat := 33
noncomputable def cf_reap_Sweep_Result_1 (F : Specs) : Cf := { E := { tab := tab, imm := [] }, F := F, gl := glob, N := 21, keep := [0, 1, 3, 4, 6, 7, 8, 9, 10] }
@[reducible] noncomputable def fn_reap_Sweep_Result_1 : Func := Tryd.f33
theorem wf_reap_Sweep_Result_1 : FnOK SP fi_reap_Sweep_Result_1 fn_reap_Sweep_Result_1 21 := ⟨Tryd.func33, by kernel_rfl, by kernel_rfl, Tryd.ntmps33⟩
@[reducible] def fi_circuit_names : Nat := 34
noncomputable def cf_circuit_names (F : Specs) : Cf := { E := { tab := tab, imm := [1] }, F := F, gl := glob, N := 66, keep := [0, 1, 2, 3, 4, 5, 6, 8, 12, 18, 19, 20, 21, 51, 59] }
@[reducible] noncomputable def fn_circuit_names : Func := Tryd.f34
theorem wf_circuit_names : FnOK SP fi_circuit_names fn_circuit_names 66 := ⟨Tryd.func34, by kernel_rfl, by kernel_rfl, Tryd.ntmps34⟩
@[reducible] def fi_ref16_Valid : Nat := 35
noncomputable def cf_ref16_Valid (F : Specs) : Cf := { E := { tab := tab, imm := [1] }, F := F, gl := glob, N := 97, keep := [0, 1, 2, 3, 4, 5, 6, 7, 11, 16, 38, 43, 84, 87, 96] }
@[reducible] noncomputable def fn_ref16_Valid : Func := Tryd.f35
theorem wf_ref16_Valid : FnOK SP fi_ref16_Valid fn_ref16_Valid 97 := ⟨Tryd.func35, by kernel_rfl, by kernel_rfl, Tryd.ntmps35⟩
@[reducible] def fi_slices_IndexFunc_sl_int_int : Nat := 36
noncomputable def cf_slices_IndexFunc_sl_int_int (F : Specs) : Cf := { E := { tab := tab, imm := [] }, F := F, gl := glob, N := 19, keep := [0, 1, 4, 5, 7, 8, 9, 16] }
@[reducible] noncomputable def fn_slices_IndexFunc_sl_int_int : Func := Tryd.f36
theorem wf_slices_IndexFunc_sl_int_int : FnOK SP fi_slices_IndexFunc_sl_int_int fn_slices_IndexFunc_sl_int_int 19 := ⟨Tryd.func36, by kernel_rfl, by kernel_rfl, Tryd.ntmps36⟩
@[reducible] def fi_circuit_formed : Nat := 37
noncomputable def cf_circuit_formed (F : Specs) : Cf := { E := { tab := tab, imm := [2, 3] }, F := F, gl := glob, N := 47, keep := [0, 1, 2, 3, 4, 8, 10, 11, 27] }
@[reducible] noncomputable def fn_circuit_formed : Func := Tryd.f37
theorem wf_circuit_formed : FnOK SP fi_circuit_formed fn_circuit_formed 47 := ⟨Tryd.func37, by kernel_rfl, by kernel_rfl, Tryd.ntmps37⟩
@[reducible] def fi_circuit_inner : Nat := 38
noncomputable def cf_circuit_inner (F : Specs) : Cf := { E := { tab := tab, imm := [] }, F := F, gl := glob, N := 9, keep := [0, 2] }
@[reducible] noncomputable def fn_circuit_inner : Func := Tryd.f38
theorem wf_circuit_inner : FnOK SP fi_circuit_inner fn_circuit_inner 9 := ⟨Tryd.func38, by kernel_rfl, by kernel_rfl, Tryd.ntmps38⟩
@[reducible] def fi_slices_IsSorted_sl_int_int : Nat := 39
noncomputable def cf_slices_IsSorted_sl_int_int (F : Specs) : Cf := { E := { tab := tab, imm := [] }, F := F, gl := glob, N := 21, keep := [0, 2, 3, 8, 20] }
@[reducible] noncomputable def fn_slices_IsSorted_sl_int_int : Func := Tryd.f39
theorem wf_slices_IsSorted_sl_int_int : FnOK SP fi_slices_IsSorted_sl_int_int fn_slices_IsSorted_sl_int_int 21 := ⟨Tryd.func39, by kernel_rfl, by kernel_rfl, Tryd.ntmps39⟩
@[reducible] def fi_circuit_names_1 : Nat := 40
noncomputable def cf_circuit_names_1 (F : Specs) : Cf := { E := { tab := tab, imm := [] }, F := F, gl := glob, N := 15, keep := [0, 1, 2, 4] }
@[reducible] noncomputable def fn_circuit_names_1 : Func := Tryd.f40
theorem wf_circuit_names_1 : FnOK SP fi_circuit_names_1 fn_circuit_names_1 15 := ⟨Tryd.func40, by kernel_rfl, by kernel_rfl, Tryd.ntmps40⟩
@[reducible] def fi_circuit_kept : Nat := 41
noncomputable def cf_circuit_kept (F : Specs) : Cf := { E := { tab := tab, imm := [] }, F := F, gl := glob, N := 15, keep := [0, 1, 4] }
@[reducible] noncomputable def fn_circuit_kept : Func := Tryd.f41
theorem wf_circuit_kept : FnOK SP fi_circuit_kept fn_circuit_kept 15 := ⟨Tryd.func41, by kernel_rfl, by kernel_rfl, Tryd.ntmps41⟩
@[reducible] def fi_circuit_name : Nat := 42
noncomputable def cf_circuit_name (F : Specs) : Cf := { E := { tab := tab, imm := [1] }, F := F, gl := glob, N := 30, keep := [0, 1, 2, 3, 5, 16, 17, 18, 19] }
@[reducible] noncomputable def fn_circuit_name : Func := Tryd.f42
theorem wf_circuit_name : FnOK SP fi_circuit_name fn_circuit_name 30 := ⟨Tryd.func42, by kernel_rfl, by kernel_rfl, Tryd.ntmps42⟩
@[reducible] def fi_ref16_formed : Nat := 43
noncomputable def cf_ref16_formed (F : Specs) : Cf := { E := { tab := tab, imm := [2] }, F := F, gl := glob, N := 69, keep := [0, 1, 2, 4, 5, 10, 27, 30] }
@[reducible] noncomputable def fn_ref16_formed : Func := Tryd.f43
theorem wf_ref16_formed : FnOK SP fi_ref16_formed fn_ref16_formed 69 := ⟨Tryd.func43, by kernel_rfl, by kernel_rfl, Tryd.ntmps43⟩
@[reducible] def fi_ref16_inner : Nat := 44
noncomputable def cf_ref16_inner (F : Specs) : Cf := { E := { tab := tab, imm := [] }, F := F, gl := glob, N := 9, keep := [0, 2] }
@[reducible] noncomputable def fn_ref16_inner : Func := Tryd.f44
theorem wf_ref16_inner : FnOK SP fi_ref16_inner fn_ref16_inner 9 := ⟨Tryd.func44, by kernel_rfl, by kernel_rfl, Tryd.ntmps44⟩
@[reducible] def fi_circuit_formed_1 : Nat := 45
noncomputable def cf_circuit_formed_1 (F : Specs) : Cf := { E := { tab := tab, imm := [] }, F := F, gl := glob, N := 11, keep := [0, 1, 3] }
@[reducible] noncomputable def fn_circuit_formed_1 : Func := Tryd.f45
theorem wf_circuit_formed_1 : FnOK SP fi_circuit_formed_1 fn_circuit_formed_1 11 := ⟨Tryd.func45, by kernel_rfl, by kernel_rfl, Tryd.ntmps45⟩
@[reducible] def fi_cmp_Less_int : Nat := 46
noncomputable def cf_cmp_Less_int (F : Specs) : Cf := { E := { tab := tab, imm := [] }, F := F, gl := glob, N := 17, keep := [0, 1, 4] }
@[reducible] noncomputable def fn_cmp_Less_int : Func := Tryd.f46
theorem wf_cmp_Less_int : FnOK SP fi_cmp_Less_int fn_cmp_Less_int 17 := ⟨Tryd.func46, by kernel_rfl, by kernel_rfl, Tryd.ntmps46⟩
@[reducible] def fi_strconv_AppendInt : Nat := 47
noncomputable def cf_strconv_AppendInt (F : Specs) : Cf := { E := { tab := tab, imm := [] }, F := F, gl := glob, N := 11, keep := [0, 1, 2, 6] }
@[reducible] noncomputable def fn_strconv_AppendInt : Func := Tryd.f47
theorem wf_strconv_AppendInt : FnOK SP fi_strconv_AppendInt fn_strconv_AppendInt 11 := ⟨Tryd.func47, by kernel_rfl, by kernel_rfl, Tryd.ntmps47⟩
@[reducible] def fi_cmp_isNaN_int : Nat := 48
noncomputable def cf_cmp_isNaN_int (F : Specs) : Cf := { E := { tab := tab, imm := [] }, F := F, gl := glob, N := 6, keep := [0, 2] }
@[reducible] noncomputable def fn_cmp_isNaN_int : Func := Tryd.f48
theorem wf_cmp_isNaN_int : FnOK SP fi_cmp_isNaN_int fn_cmp_isNaN_int 6 := ⟨Tryd.func48, by kernel_rfl, by kernel_rfl, Tryd.ntmps48⟩
@[reducible] def fi_i_strconv_AppendInt : Nat := 49
noncomputable def cf_i_strconv_AppendInt (F : Specs) : Cf := { E := { tab := tab, imm := [] }, F := F, gl := glob, N := 21, keep := [0, 1, 2, 6, 7, 11] }
@[reducible] noncomputable def fn_i_strconv_AppendInt : Func := Tryd.f49
theorem wf_i_strconv_AppendInt : FnOK SP fi_i_strconv_AppendInt fn_i_strconv_AppendInt 21 := ⟨Tryd.func49, by kernel_rfl, by kernel_rfl, Tryd.ntmps49⟩
@[reducible] def fi_i_strconv_AppendUint : Nat := 50
noncomputable def cf_i_strconv_AppendUint (F : Specs) : Cf := { E := { tab := tab, imm := [] }, F := F, gl := glob, N := 36, keep := [0, 1, 2, 6, 7, 8, 10, 12] }
@[reducible] noncomputable def fn_i_strconv_AppendUint : Func := Tryd.f50
theorem wf_i_strconv_AppendUint : FnOK SP fi_i_strconv_AppendUint fn_i_strconv_AppendUint 36 := ⟨Tryd.func50, by kernel_rfl, by kernel_rfl, Tryd.ntmps50⟩
@[reducible] def fi_i_strconv_small : Nat := 51
noncomputable def cf_i_strconv_small (F : Specs) : Cf := { E := { tab := tab, imm := [] }, F := F, gl := glob, N := 15, keep := [0, 2, 4] }
@[reducible] noncomputable def fn_i_strconv_small : Func := Tryd.f51
theorem wf_i_strconv_small : FnOK SP fi_i_strconv_small fn_i_strconv_small 15 := ⟨Tryd.func51, by kernel_rfl, by kernel_rfl, Tryd.ntmps51⟩
@[reducible] def fi_i_strconv_numDigits : Nat := 52
noncomputable def cf_i_strconv_numDigits (F : Specs) : Cf := { E := { tab := tab, imm := [] }, F := F, gl := glob, N := 15, keep := [0, 2, 3] }
@[reducible] noncomputable def fn_i_strconv_numDigits : Func := Tryd.f52
theorem wf_i_strconv_numDigits : FnOK SP fi_i_strconv_numDigits fn_i_strconv_numDigits 15 := ⟨Tryd.func52, by kernel_rfl, by kernel_rfl, Tryd.ntmps52⟩
@[reducible] def fi_i_strconv_formatBase10 : Nat := 53
noncomputable def cf_i_strconv_formatBase10 (F : Specs) : Cf := { E := { tab := tab, imm := [] }, F := F, gl := glob, N := 167, keep := [0, 1, 4, 5, 6, 7, 8, 9, 10, 11, 12, 13, 14, 15, 16, 20, 99, 139, 161] }
@[reducible] noncomputable def fn_i_strconv_formatBase10 : Func := Tryd.f53
theorem wf_i_strconv_formatBase10 : FnOK SP fi_i_strconv_formatBase10 fn_i_strconv_formatBase10 167 := ⟨Tryd.func53, by kernel_rfl, by kernel_rfl, Tryd.ntmps53⟩
@[reducible] def fi_i_strconv_formatBits : Nat := 54
noncomputable def cf_i_strconv_formatBits (F : Specs) : Cf := { E := { tab := tab, imm := [] }, F := F, gl := glob, N := 102, keep := [0, 1, 2, 3, 4, 10, 11, 12, 13, 14, 15, 16, 17, 18, 28, 30, 34, 46, 68, 89, 94] }
@[reducible] noncomputable def fn_i_strconv_formatBits : Func := Tryd.f54
theorem wf_i_strconv_formatBits : FnOK SP fi_i_strconv_formatBits fn_i_strconv_formatBits 102 := ⟨Tryd.func54, by kernel_rfl, by kernel_rfl, Tryd.ntmps54⟩
@[reducible] def fi_i_strconv_log10Pow2 : Nat := 55
noncomputable def cf_i_strconv_log10Pow2 (F : Specs) : Cf := { E := { tab := tab, imm := [] }, F := F, gl := glob, N := 6, keep := [0, 2] }
@[reducible] noncomputable def fn_i_strconv_log10Pow2 : Func := Tryd.f55
theorem wf_i_strconv_log10Pow2 : FnOK SP fi_i_strconv_log10Pow2 fn_i_strconv_log10Pow2 6 := ⟨Tryd.func55, by kernel_rfl, by kernel_rfl, Tryd.ntmps55⟩
@[reducible] def fi_math_bits_Len64 : Nat := 56
noncomputable def cf_math_bits_Len64 (F : Specs) : Cf := { E := { tab := tab, imm := [] }, F := F, gl := glob, N := 25, keep := [0, 2, 4, 8, 14] }
@[reducible] noncomputable def fn_math_bits_Len64 : Func := Tryd.f56
theorem wf_math_bits_Len64 : FnOK SP fi_math_bits_Len64 fn_math_bits_Len64 25 := ⟨Tryd.func56, by kernel_rfl, by kernel_rfl, Tryd.ntmps56⟩
@[reducible] def fi_i_strconv_bool2_int : Nat := 57
noncomputable def cf_i_strconv_bool2_int (F : Specs) : Cf := { E := { tab := tab, imm := [] }, F := F, gl := glob, N := 4, keep := [0, 2, 3] }
@[reducible] noncomputable def fn_i_strconv_bool2_int : Func := Tryd.f57
theorem wf_i_strconv_bool2_int : FnOK SP fi_i_strconv_bool2_int fn_i_strconv_bool2_int 4 := ⟨Tryd.func57, by kernel_rfl, by kernel_rfl, Tryd.ntmps57⟩
@[reducible] def fi_i_strconv_isPowerOfTwo : Nat := 58
noncomputable def cf_i_strconv_isPowerOfTwo (F : Specs) : Cf := { E := { tab := tab, imm := [] }, F := F, gl := glob, N := 8, keep := [0, 2] }
@[reducible] noncomputable def fn_i_strconv_isPowerOfTwo : Func := Tryd.f58
theorem wf_i_strconv_isPowerOfTwo : FnOK SP fi_i_strconv_isPowerOfTwo fn_i_strconv_isPowerOfTwo 8 := ⟨Tryd.func58, by kernel_rfl, by kernel_rfl, Tryd.ntmps58⟩
@[reducible] def fi_math_bits_TrailingZeros : Nat := 59
noncomputable def cf_math_bits_TrailingZeros (F : Specs) : Cf := { E := { tab := tab, imm := [] }, F := F, gl := glob, N := 8, keep := [0, 2] }
@[reducible] noncomputable def fn_math_bits_TrailingZeros : Func := Tryd.f59
theorem wf_math_bits_TrailingZeros : FnOK SP fi_math_bits_TrailingZeros fn_math_bits_TrailingZeros 8 := ⟨Tryd.func59, by kernel_rfl, by kernel_rfl, Tryd.ntmps59⟩
@[reducible] def fi_math_bits_TrailingZeros32 : Nat := 60
noncomputable def cf_math_bits_TrailingZeros32 (F : Specs) : Cf := { E := { tab := tab, imm := [] }, F := F, gl := glob, N := 14, keep := [0, 2, 4] }
@[reducible] noncomputable def fn_math_bits_TrailingZeros32 : Func := Tryd.f60
theorem wf_math_bits_TrailingZeros32 : FnOK SP fi_math_bits_TrailingZeros32 fn_math_bits_TrailingZeros32 14 := ⟨Tryd.func60, by kernel_rfl, by kernel_rfl, Tryd.ntmps60⟩
@[reducible] def fi_math_bits_TrailingZeros64 : Nat := 61
noncomputable def cf_math_bits_TrailingZeros64 (F : Specs) : Cf := { E := { tab := tab, imm := [] }, F := F, gl := glob, N := 14, keep := [0, 2, 4] }
@[reducible] noncomputable def fn_math_bits_TrailingZeros64 : Func := Tryd.f61
theorem wf_math_bits_TrailingZeros64 : FnOK SP fi_math_bits_TrailingZeros64 fn_math_bits_TrailingZeros64 14 := ⟨Tryd.func61, by kernel_rfl, by kernel_rfl, Tryd.ntmps61⟩
end Go.Gv
