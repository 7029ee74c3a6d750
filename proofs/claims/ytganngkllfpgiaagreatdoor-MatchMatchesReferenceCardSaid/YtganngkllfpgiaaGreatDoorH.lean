/- The seat's table of types and numbers of functions, printed by a program. -/
import Derived.Test.YtganngkllfpgiaaGreatDoorGg
import Derived.Test.YtganngkllfpgiaaGreatDoorChecked
import Derived.Test.YtganngkllfpgiaaGreatDoorRows
import Derived.Lib.ItoaNum
set_option linter.all false
namespace Go.Gv
open Go Go.Proofs Go.Proofs.YtganngkllfpgiaaGreatDoor

noncomputable def glob : Glob := fun g => match g with | 0 => some ⟨.st (.cs (.int .i64) (.cs (.int .i64) .nl)), ((0 : Int), ((1 : Int), ()))⟩ | 1 => some ⟨.st (.cs (.int .i64) (.cs (.int .i64) .nl)), ((1 : Int), ((1 : Int), ()))⟩ | _ => none
@[reducible] noncomputable def SP : Program := Tryz.prog
theorem mix_ok : SP.follows .mixedOrders = true := by kernel_rfl
def tab : List (Nat × (Ty × Nat)) := [(3, .int .i64, 8), (4, .bool, 1), (5, .int .u8, 1), (9, .str, 16), (20, .ot 1, 16), (21, .int .i32, 4), (22, .sl (.st (.cs (.str) (.cs (.int .i64) (.cs (.int .i64) (.cs (.sl (.st (.cs (.int .i64) (.cs (.int .i64) (.cs (.int .i64) (.cs (.st (.cs (.int .i64) (.cs (.int .i64) (.nl)))) (.cs (.int .i64) (.cs (.int .i64) (.nl))))))))) (.nl)))))), 24), (23, .sl (.st (.cs (.st (.cs (.int .i64) (.cs (.str) (.cs (.str) (.nl))))) (.cs (.int .i64) (.cs (.int .i64) (.cs (.sl (.st (.cs (.st (.cs (.int .i64) (.cs (.int .i64) (.cs (.str) (.nl))))) (.cs (.int .i64) (.cs (.int .i64) (.nl)))))) (.nl)))))), 24), (24, .sl (.arr 2 (.int .i64)), 24), (25, .fn, 8), (27, .sl (.bool), 24), (30, .sl (.st (.cs (.int .i64) (.cs (.int .i64) (.cs (.int .i64) (.cs (.st (.cs (.int .i64) (.cs (.int .i64) (.nl)))) (.cs (.int .i64) (.cs (.int .i64) (.nl)))))))), 24), (32, .st (.cs (.str) (.cs (.int .i64) (.cs (.int .i64) (.cs (.sl (.st (.cs (.int .i64) (.cs (.int .i64) (.cs (.int .i64) (.cs (.st (.cs (.int .i64) (.cs (.int .i64) (.nl)))) (.cs (.int .i64) (.cs (.int .i64) (.nl))))))))) (.nl))))), 56), (35, .sl (.st (.cs (.st (.cs (.int .i64) (.cs (.int .i64) (.cs (.str) (.nl))))) (.cs (.int .i64) (.cs (.int .i64) (.nl))))), 24), (37, .st (.cs (.st (.cs (.int .i64) (.cs (.str) (.cs (.str) (.nl))))) (.cs (.int .i64) (.cs (.int .i64) (.cs (.sl (.st (.cs (.st (.cs (.int .i64) (.cs (.int .i64) (.cs (.str) (.nl))))) (.cs (.int .i64) (.cs (.int .i64) (.nl)))))) (.nl))))), 80), (40, .sl (.st (.cs (.int .i64) (.cs (.int .i64) (.cs (.int .i64) (.nl))))), 24), (41, .int .i64, 8), (48, .arr 2 (.int .i64), 16), (50, .st (.cs (.int .i64) (.cs (.int .i64) (.cs (.int .i64) (.nl)))), 24), (52, .st (.cs (.int .i64) (.cs (.int .i64) (.cs (.str) (.nl)))), 32), (54, .st (.cs (.st (.cs (.int .i64) (.cs (.int .i64) (.cs (.str) (.nl))))) (.cs (.int .i64) (.cs (.int .i64) (.nl)))), 48), (56, .fn, 8), (57, .fn, 8), (61, .st (.cs (.int .i64) (.cs (.int .i64) (.nl))), 16), (63, .st (.cs (.int .i64) (.cs (.int .i64) (.cs (.int .i64) (.cs (.st (.cs (.int .i64) (.cs (.int .i64) (.nl)))) (.cs (.int .i64) (.cs (.int .i64) (.nl))))))), 56), (65, .mp (.arr 2 (.int .i64)) (.int .i64), 8), (70, .fn, 8), (73, .fn, 8), (79, .int .u64, 8), (80, .sl (.int .i64), 24), (85, .fn, 8), (89, .sl (.str), 24), (92, .fn, 8), (94, .int .i64, 8), (101, .int .u32, 4), (103, .int .u64, 8), (108, .mp (.int .i64) (.fn), 8), (116, .sl (.int .u8), 24), (117, .int .u64, 8), (121, .ot 2, 8), (123, .sl (.int .u64), 24), (126, .ot 2, 8), (131, .fn, 8), (133, .mp (.str) (.bool), 8), (137, .ot 2, 8), (139, .st (.cs (.ot 2) (.cs (.sl (.int .u8)) (.nl))), 32), (142, .ot 1, 16), (146, .fn, 8), (148, .fn, 8), (150, .ot 2, 8)]
theorem tab_ok0 : (Env.mk tab [] [] []).ok SP = true := by kernel_rfl
theorem tab_ok {rows wraps : List Nat} : ∀ imm, (Env.mk tab imm rows wraps).ok SP = true := by intro imm; have h := tab_ok0; unfold Env.ok at h ⊢; exact h
@[reducible] def fi_law20_MatchMatchesReference : Nat := 3
noncomputable def cf_law20_MatchMatchesReference (F : Specs) : Cf := { E := { tab := tab, imm := [] }, F := F, gl := glob, N := 133, keep := [0, 1, 2, 6, 7, 8, 9, 10, 11, 12, 13, 14, 15, 16, 17, 27, 33, 39, 84, 107] }
@[reducible] noncomputable def fn_law20_MatchMatchesReference : Func := Tryz.f3
theorem wf_law20_MatchMatchesReference : FnOK SP fi_law20_MatchMatchesReference fn_law20_MatchMatchesReference 133 := ⟨Tryz.func3, by kernel_rfl, by kernel_rfl, Tryz.ntmps3⟩
@[reducible] def fi_law20_head : Nat := 4
noncomputable def cf_law20_head (F : Specs) : Cf := { E := { tab := tab, imm := [] }, F := F, gl := glob, N := 134, keep := [0, 1, 2, 3, 4, 5, 6, 7, 8, 9, 10, 11, 13, 14, 15, 16, 17] }
@[reducible] noncomputable def fn_law20_head : Func := Tryz.f4
theorem wf_law20_head : FnOK SP fi_law20_head fn_law20_head 134 := ⟨Tryz.func4, by kernel_rfl, by kernel_rfl, Tryz.ntmps4⟩
@[reducible] def fi_ref20_Few : Nat := 5
noncomputable def cf_ref20_Few (F : Specs) : Cf := { E := { tab := tab, imm := [] }, F := F, gl := glob, N := 67, keep := [0, 1, 2, 6, 7, 8, 9, 18, 22, 31, 35, 44, 52, 66] }
@[reducible] noncomputable def fn_ref20_Few : Func := Tryz.f5
theorem wf_ref20_Few : FnOK SP fi_ref20_Few fn_ref20_Few 67 := ⟨Tryz.func5, by kernel_rfl, by kernel_rfl, Tryz.ntmps5⟩
@[reducible] def fi_match_Score : Nat := 6
noncomputable def cf_match_Score (F : Specs) : Cf := { E := { tab := tab, imm := [3, 4, 5] }, F := F, gl := glob, N := 32, keep := [0, 1, 2, 3, 4, 5, 6, 7, 8, 9, 10, 11, 16, 20, 21, 22] }
@[reducible] noncomputable def fn_match_Score : Func := Tryz.f6
theorem wf_match_Score : FnOK SP fi_match_Score fn_match_Score 32 := ⟨Tryz.func6, by kernel_rfl, by kernel_rfl, Tryz.ntmps6⟩
@[reducible] def fi_ref20_Score : Nat := 7
noncomputable def cf_ref20_Score (F : Specs) : Cf := { E := { tab := tab, imm := [3, 4, 5] }, F := F, gl := glob, N := 55, keep := [0, 1, 2, 3, 4, 5, 6, 7, 8, 9, 10, 11, 16, 21, 36] }
@[reducible] noncomputable def fn_ref20_Score : Func := Tryz.f7
theorem wf_ref20_Score : FnOK SP fi_ref20_Score fn_ref20_Score 55 := ⟨Tryz.func7, by kernel_rfl, by kernel_rfl, Tryz.ntmps7⟩
@[reducible] def fi_ref20_Bools : Nat := 8
noncomputable def cf_ref20_Bools (F : Specs) : Cf := { E := { tab := tab, imm := [] }, F := F, gl := glob, N := 26, keep := [0, 1, 4, 5, 10, 14, 25] }
@[reducible] noncomputable def fn_ref20_Bools : Func := Tryz.f8
theorem wf_ref20_Bools : FnOK SP fi_ref20_Bools fn_ref20_Bools 26 := ⟨Tryz.func8, by kernel_rfl, by kernel_rfl, Tryz.ntmps8⟩
@[reducible] def fi_match_Weight : Nat := 9
noncomputable def cf_match_Weight (F : Specs) : Cf := { E := { tab := tab, imm := [4, 5] }, F := F, gl := glob, N := 37, keep := [0, 1, 2, 4, 5, 6, 7, 9, 10, 12, 13, 14, 15, 21] }
@[reducible] noncomputable def fn_match_Weight : Func := Tryz.f9
theorem wf_match_Weight : FnOK SP fi_match_Weight fn_match_Weight 37 := ⟨Tryz.func9, by kernel_rfl, by kernel_rfl, Tryz.ntmps9⟩
@[reducible] def fi_ref20_Weight : Nat := 10
noncomputable def cf_ref20_Weight (F : Specs) : Cf := { E := { tab := tab, imm := [4, 5] }, F := F, gl := glob, N := 44, keep := [0, 1, 2, 4, 5, 6, 7, 8, 9, 14, 23] }
@[reducible] noncomputable def fn_ref20_Weight : Func := Tryz.f10
theorem wf_ref20_Weight : FnOK SP fi_ref20_Weight fn_ref20_Weight 44 := ⟨Tryz.func10, by kernel_rfl, by kernel_rfl, Tryz.ntmps10⟩
@[reducible] def fi_match_Edges : Nat := 11
noncomputable def cf_match_Edges (F : Specs) : Cf := { E := { tab := tab, imm := [] }, F := F, gl := glob, N := 100, keep := [0, 1, 2, 6, 7, 9, 10, 12, 14, 15, 16, 17, 25, 26, 27, 28, 29, 47, 50, 51, 52, 53, 63, 80, 82, 87] }
@[reducible] noncomputable def fn_match_Edges : Func := Tryz.f11
theorem wf_match_Edges : FnOK SP fi_match_Edges fn_match_Edges 100 := ⟨Tryz.func11, by kernel_rfl, by kernel_rfl, Tryz.ntmps11⟩
@[reducible] def fi_ref20_Edges : Nat := 12
noncomputable def cf_ref20_Edges (F : Specs) : Cf := { E := { tab := tab, imm := [] }, F := F, gl := glob, N := 100, keep := [0, 1, 2, 6, 7, 8, 9, 10, 11, 12, 20, 24, 55, 61, 83] }
@[reducible] noncomputable def fn_ref20_Edges : Func := Tryz.f12
theorem wf_ref20_Edges : FnOK SP fi_ref20_Edges fn_ref20_Edges 100 := ⟨Tryz.func12, by kernel_rfl, by kernel_rfl, Tryz.ntmps12⟩
@[reducible] def fi_ref20_Same : Nat := 13
noncomputable def cf_ref20_Same (F : Specs) : Cf := { E := { tab := tab, imm := [] }, F := F, gl := glob, N := 26, keep := [0, 1, 4, 5, 10, 14, 25] }
@[reducible] noncomputable def fn_ref20_Same : Func := Tryz.f13
theorem wf_ref20_Same : FnOK SP fi_ref20_Same fn_ref20_Same 26 := ⟨Tryz.func13, by kernel_rfl, by kernel_rfl, Tryz.ntmps13⟩
@[reducible] def fi_law20_example : Nat := 14
noncomputable def cf_law20_example (F : Specs) : Cf := { E := { tab := tab, imm := [] }, F := F, gl := glob, N := 7, keep := [0] }
@[reducible] noncomputable def fn_law20_example : Func := Tryz.f14
theorem wf_law20_example : FnOK SP fi_law20_example fn_law20_example 7 := ⟨Tryz.func14, by kernel_rfl, by kernel_rfl, Tryz.ntmps14⟩
@[reducible] def fi_law20_record : Nat := 15
noncomputable def cf_law20_record (F : Specs) : Cf := { E := { tab := tab, imm := [] }, F := F, gl := glob, N := 18, keep := [0, 1, 4, 5, 9] }
@[reducible] noncomputable def fn_law20_record : Func := Tryz.f15
theorem wf_law20_record : FnOK SP fi_law20_record fn_law20_record 18 := ⟨Tryz.func15, by kernel_rfl, by kernel_rfl, Tryz.ntmps15⟩
@[reducible] def fi_match_about : Nat := 16
noncomputable def cf_match_about (F : Specs) : Cf := { E := { tab := tab, imm := [3, 4, 5] }, F := F, gl := glob, N := 23, keep := [0, 1, 2, 3, 4, 5, 6] }
@[reducible] noncomputable def fn_match_about : Func := Tryz.f16
theorem wf_match_about : FnOK SP fi_match_about fn_match_about 23 := ⟨Tryz.func16, by kernel_rfl, by kernel_rfl, Tryz.ntmps16⟩
@[reducible] def fi_match_contributions : Nat := 17
noncomputable def cf_match_contributions (F : Specs) : Cf := { E := { tab := tab, imm := [3, 4, 5] }, F := F, gl := glob, N := 8, keep := [0, 1, 2, 3, 4, 5, 6] }
@[reducible] noncomputable def fn_match_contributions : Func := Tryz.f17
theorem wf_match_contributions : FnOK SP fi_match_contributions fn_match_contributions 8 := ⟨Tryz.func17, by kernel_rfl, by kernel_rfl, Tryz.ntmps17⟩
@[reducible] def fi_ref20_About : Nat := 18
noncomputable def cf_ref20_About (F : Specs) : Cf := { E := { tab := tab, imm := [3, 4, 5] }, F := F, gl := glob, N := 23, keep := [0, 1, 2, 3, 4, 5, 6] }
@[reducible] noncomputable def fn_ref20_About : Func := Tryz.f18
theorem wf_ref20_About : FnOK SP fi_ref20_About fn_ref20_About 23 := ⟨Tryz.func18, by kernel_rfl, by kernel_rfl, Tryz.ntmps18⟩
@[reducible] def fi_ref20_Holds : Nat := 19
noncomputable def cf_ref20_Holds (F : Specs) : Cf := { E := { tab := tab, imm := [3, 4, 5] }, F := F, gl := glob, N := 59, keep := [0, 1, 2, 3, 4, 5, 6, 7, 8, 27] }
@[reducible] noncomputable def fn_ref20_Holds : Func := Tryz.f19
theorem wf_ref20_Holds : FnOK SP fi_ref20_Holds fn_ref20_Holds 59 := ⟨Tryz.func19, by kernel_rfl, by kernel_rfl, Tryz.ntmps19⟩
@[reducible] def fi_match_between : Nat := 20
noncomputable def cf_match_between (F : Specs) : Cf := { E := { tab := tab, imm := [] }, F := F, gl := glob, N := 15, keep := [0, 1, 2, 6] }
@[reducible] noncomputable def fn_match_between : Func := Tryz.f20
theorem wf_match_between : FnOK SP fi_match_between fn_match_between 15 := ⟨Tryz.func20, by kernel_rfl, by kernel_rfl, Tryz.ntmps20⟩
@[reducible] def fi_slices_SortFunc_sl_api_Edge_api_Edge : Nat := 21
noncomputable def cf_slices_SortFunc_sl_api_Edge_api_Edge (F : Specs) : Cf := { E := { tab := tab, imm := [] }, F := F, gl := glob, N := 14, keep := [0, 1, 4] }
@[reducible] noncomputable def fn_slices_SortFunc_sl_api_Edge_api_Edge : Func := Tryz.f21
theorem wf_slices_SortFunc_sl_api_Edge_api_Edge : FnOK SP fi_slices_SortFunc_sl_api_Edge_api_Edge fn_slices_SortFunc_sl_api_Edge_api_Edge 14 := ⟨Tryz.func21, by kernel_rfl, by kernel_rfl, Tryz.ntmps21⟩
@[reducible] def fi_match_Edges_1 : Nat := 22
noncomputable def cf_match_Edges_1 (F : Specs) : Cf := { E := { tab := tab, imm := [2, 3] }, F := F, gl := glob, N := 17, keep := [0, 1, 2, 3, 4] }
@[reducible] noncomputable def fn_match_Edges_1 : Func := Tryz.f22
theorem wf_match_Edges_1 : FnOK SP fi_match_Edges_1 fn_match_Edges_1 17 := ⟨Tryz.func22, by kernel_rfl, by kernel_rfl, Tryz.ntmps22⟩
@[reducible] def fi_cmp_Or_int : Nat := 23
noncomputable def cf_cmp_Or_int (F : Specs) : Cf := { E := { tab := tab, imm := [] }, F := F, gl := glob, N := 18, keep := [0, 2, 3, 5, 6, 7, 8, 9, 14] }
@[reducible] noncomputable def fn_cmp_Or_int : Func := Tryz.f23
theorem wf_cmp_Or_int : FnOK SP fi_cmp_Or_int fn_cmp_Or_int 18 := ⟨Tryz.func23, by kernel_rfl, by kernel_rfl, Tryz.ntmps23⟩
@[reducible] def fi_cmp_Compare_int : Nat := 24
noncomputable def cf_cmp_Compare_int (F : Specs) : Cf := { E := { tab := tab, imm := [] }, F := F, gl := glob, N := 20, keep := [0, 1, 4, 5, 6, 11, 12, 13, 16, 19] }
@[reducible] noncomputable def fn_cmp_Compare_int : Func := Tryz.f24
theorem wf_cmp_Compare_int : FnOK SP fi_cmp_Compare_int fn_cmp_Compare_int 20 := ⟨Tryz.func24, by kernel_rfl, by kernel_rfl, Tryz.ntmps24⟩
@[reducible] def fi_ref20_Pairs : Nat := 25
noncomputable def cf_ref20_Pairs (F : Specs) : Cf := { E := { tab := tab, imm := [] }, F := F, gl := glob, N := 20, keep := [0, 2, 5] }
@[reducible] noncomputable def fn_ref20_Pairs : Func := Tryz.f25
theorem wf_ref20_Pairs : FnOK SP fi_ref20_Pairs fn_ref20_Pairs 20 := ⟨Tryz.func25, by kernel_rfl, by kernel_rfl, Tryz.ntmps25⟩
@[reducible] def fi_match_valid : Nat := 26
noncomputable def cf_match_valid (F : Specs) : Cf := { E := { tab := tab, imm := [1] }, F := F, gl := glob, N := 17, keep := [0, 1, 2, 12] }
@[reducible] noncomputable def fn_match_valid : Func := Tryz.f26
theorem wf_match_valid : FnOK SP fi_match_valid fn_match_valid 17 := ⟨Tryz.func26, by kernel_rfl, by kernel_rfl, Tryz.ntmps26⟩
@[reducible] def fi_match_contributions_1 : Nat := 27
noncomputable def cf_match_contributions_1 (F : Specs) : Cf := { E := { tab := tab, imm := [] }, F := F, gl := glob, N := 32, keep := [0, 1, 2, 3, 6, 7, 8, 10, 11, 12, 13, 23, 30] }
@[reducible] noncomputable def fn_match_contributions_1 : Func := Tryz.f27
theorem wf_match_contributions_1 : FnOK SP fi_match_contributions_1 fn_match_contributions_1 32 := ⟨Tryz.func27, by kernel_rfl, by kernel_rfl, Tryz.ntmps27⟩
@[reducible] def fi_match_holds : Nat := 28
noncomputable def cf_match_holds (F : Specs) : Cf := { E := { tab := tab, imm := [3, 4, 5] }, F := F, gl := glob, N := 52, keep := [0, 1, 2, 3, 4, 5, 6, 7, 8, 20] }
@[reducible] noncomputable def fn_match_holds : Func := Tryz.f28
theorem wf_match_holds : FnOK SP fi_match_holds fn_match_holds 52 := ⟨Tryz.func28, by kernel_rfl, by kernel_rfl, Tryz.ntmps28⟩
@[reducible] def fi_ref20_Valid : Nat := 29
noncomputable def cf_ref20_Valid (F : Specs) : Cf := { E := { tab := tab, imm := [1] }, F := F, gl := glob, N := 88, keep := [0, 1, 2, 3, 4, 18, 23, 48, 87] }
@[reducible] noncomputable def fn_ref20_Valid : Func := Tryz.f29
theorem wf_ref20_Valid : FnOK SP fi_ref20_Valid fn_ref20_Valid 88 := ⟨Tryz.func29, by kernel_rfl, by kernel_rfl, Tryz.ntmps29⟩
@[reducible] def fi_ref04_Of : Nat := 30
noncomputable def cf_ref04_Of (F : Specs) : Cf := { E := { tab := tab, imm := [6, 7] }, F := F, gl := glob, N := 113, keep := [0, 1, 2, 3, 6, 7, 8, 9, 10, 11, 39, 48, 51, 54, 58, 73, 88, 91, 106] }
@[reducible] noncomputable def fn_ref04_Of : Func := Tryz.f30
theorem wf_ref04_Of : FnOK SP fi_ref04_Of fn_ref04_Of 113 := ⟨Tryz.func30, by kernel_rfl, by kernel_rfl, Tryz.ntmps30⟩
@[reducible] def fi_ref01_Cmp : Nat := 31
noncomputable def cf_ref01_Cmp (F : Specs) : Cf := { E := { tab := tab, imm := [2, 3] }, F := F, gl := glob, N := 31, keep := [0, 1, 2, 3, 4, 5, 6, 14, 27, 30] }
@[reducible] noncomputable def fn_ref01_Cmp : Func := Tryz.f31
theorem wf_ref01_Cmp : FnOK SP fi_ref01_Cmp fn_ref01_Cmp 31 := ⟨Tryz.func31, by kernel_rfl, by kernel_rfl, Tryz.ntmps31⟩
@[reducible] def fi_slices_pdqsortCmpFunc_api_Edge : Nat := 32
@[reducible] noncomputable def fn_slices_pdqsortCmpFunc_api_Edge : Func := Tryz.f32
theorem wf_slices_pdqsortCmpFunc_api_Edge : FnOK SP fi_slices_pdqsortCmpFunc_api_Edge fn_slices_pdqsortCmpFunc_api_Edge 148 := ⟨Tryz.func32, by kernel_rfl, by kernel_rfl, Tryz.ntmps32⟩
@[reducible] def fi_math_bits_Len : Nat := 33
@[reducible] noncomputable def fn_math_bits_Len : Func := Tryz.f33
theorem wf_math_bits_Len : FnOK SP fi_math_bits_Len fn_math_bits_Len 8 := ⟨Tryz.func33, by kernel_rfl, by kernel_rfl, Tryz.ntmps33⟩
@[reducible] def fi_cmp_isNaN_int : Nat := 34
noncomputable def cf_cmp_isNaN_int (F : Specs) : Cf := { E := { tab := tab, imm := [] }, F := F, gl := glob, N := 6, keep := [0, 2] }
@[reducible] noncomputable def fn_cmp_isNaN_int : Func := Tryz.f34
theorem wf_cmp_isNaN_int : FnOK SP fi_cmp_isNaN_int fn_cmp_isNaN_int 6 := ⟨Tryz.func34, by kernel_rfl, by kernel_rfl, Tryz.ntmps34⟩
@[reducible] def fi_ref20_both : Nat := 35
noncomputable def cf_ref20_both (F : Specs) : Cf := { E := { tab := tab, imm := [] }, F := F, gl := glob, N := 64, keep := [0, 1, 4, 5, 13, 31, 44] }
@[reducible] noncomputable def fn_ref20_both : Func := Tryz.f35
theorem wf_ref20_both : FnOK SP fi_ref20_both fn_ref20_both 64 := ⟨Tryz.func35, by kernel_rfl, by kernel_rfl, Tryz.ntmps35⟩
@[reducible] def fi_slices_ContainsFunc_sl_api_Weigh_api_Weigh : Nat := 36
noncomputable def cf_slices_ContainsFunc_sl_api_Weigh_api_Weigh (F : Specs) : Cf := { E := { tab := tab, imm := [] }, F := F, gl := glob, N := 9, keep := [0, 1, 4] }
@[reducible] noncomputable def fn_slices_ContainsFunc_sl_api_Weigh_api_Weigh : Func := Tryz.f36
theorem wf_slices_ContainsFunc_sl_api_Weigh_api_Weigh : FnOK SP fi_slices_ContainsFunc_sl_api_Weigh_api_Weigh fn_slices_ContainsFunc_sl_api_Weigh_api_Weigh 9 := ⟨Tryz.func36, by kernel_rfl, by kernel_rfl, Tryz.ntmps36⟩
@[reducible] def fi_match_valid_1 : Nat := 37
noncomputable def cf_match_valid_1 (F : Specs) : Cf := { E := { tab := tab, imm := [1] }, F := F, gl := glob, N := 42, keep := [0, 1, 2, 3] }
@[reducible] noncomputable def fn_match_valid_1 : Func := Tryz.f37
theorem wf_match_valid_1 : FnOK SP fi_match_valid_1 fn_match_valid_1 42 := ⟨Tryz.func37, by kernel_rfl, by kernel_rfl, Tryz.ntmps37⟩
@[reducible] def fi_ratio_Valid : Nat := 38
noncomputable def cf_ratio_Valid (F : Specs) : Cf := { E := { tab := tab, imm := [1] }, F := F, gl := glob, N := 28, keep := [0, 1, 2] }
@[reducible] noncomputable def fn_ratio_Valid : Func := Tryz.f38
theorem wf_ratio_Valid : FnOK SP fi_ratio_Valid fn_ratio_Valid 28 := ⟨Tryz.func38, by kernel_rfl, by kernel_rfl, Tryz.ntmps38⟩
@[reducible] def fi_measure_Of : Nat := 39
noncomputable def cf_measure_Of (F : Specs) : Cf := { E := { tab := tab, imm := [6, 7] }, F := F, gl := glob, N := 106, keep := [0, 1, 2, 3, 6, 7, 8, 9, 10, 11, 17, 44, 54, 63, 67, 92] }
@[reducible] noncomputable def fn_measure_Of : Func := Tryz.f39
theorem wf_measure_Of : FnOK SP fi_measure_Of fn_measure_Of 106 := ⟨Tryz.func39, by kernel_rfl, by kernel_rfl, Tryz.ntmps39⟩
@[reducible] def fi_ratio_Cmp : Nat := 40
noncomputable def cf_ratio_Cmp (F : Specs) : Cf := { E := { tab := tab, imm := [2, 3] }, F := F, gl := glob, N := 31, keep := [0, 1, 2, 3, 4, 5, 13, 25, 28] }
@[reducible] noncomputable def fn_ratio_Cmp : Func := Tryz.f40
theorem wf_ratio_Cmp : FnOK SP fi_ratio_Cmp fn_ratio_Cmp 31 := ⟨Tryz.func40, by kernel_rfl, by kernel_rfl, Tryz.ntmps40⟩
@[reducible] def fi_ref01_Valid : Nat := 41
noncomputable def cf_ref01_Valid (F : Specs) : Cf := { E := { tab := tab, imm := [1] }, F := F, gl := glob, N := 31, keep := [0, 1, 2] }
@[reducible] noncomputable def fn_ref01_Valid : Func := Tryz.f41
theorem wf_ref01_Valid : FnOK SP fi_ref01_Valid fn_ref01_Valid 31 := ⟨Tryz.func41, by kernel_rfl, by kernel_rfl, Tryz.ntmps41⟩
@[reducible] def fi_ref02_Valid : Nat := 42
noncomputable def cf_ref02_Valid (F : Specs) : Cf := { E := { tab := tab, imm := [1] }, F := F, gl := glob, N := 71, keep := [0, 1, 2, 4, 5, 15, 26, 41, 56] }
@[reducible] noncomputable def fn_ref02_Valid : Func := Tryz.f42
theorem wf_ref02_Valid : FnOK SP fi_ref02_Valid fn_ref02_Valid 71 := ⟨Tryz.func42, by kernel_rfl, by kernel_rfl, Tryz.ntmps42⟩
@[reducible] def fi_ref04_Near : Nat := 43
noncomputable def cf_ref04_Near (F : Specs) : Cf := { E := { tab := tab, imm := [] }, F := F, gl := glob, N := 25, keep := [0, 1, 2, 6, 12] }
@[reducible] noncomputable def fn_ref04_Near : Func := Tryz.f43
theorem wf_ref04_Near : FnOK SP fi_ref04_Near fn_ref04_Near 25 := ⟨Tryz.func43, by kernel_rfl, by kernel_rfl, Tryz.ntmps43⟩
@[reducible] def fi_ref04_Jaccard : Nat := 44
noncomputable def cf_ref04_Jaccard (F : Specs) : Cf := { E := { tab := tab, imm := [] }, F := F, gl := glob, N := 67, keep := [0, 1, 4, 5, 6, 7, 8, 12, 21, 31, 37, 58, 62] }
@[reducible] noncomputable def fn_ref04_Jaccard : Func := Tryz.f44
theorem wf_ref04_Jaccard : FnOK SP fi_ref04_Jaccard fn_ref04_Jaccard 67 := ⟨Tryz.func44, by kernel_rfl, by kernel_rfl, Tryz.ntmps44⟩
@[reducible] def fi_ref03_Tokens : Nat := 45
noncomputable def cf_ref03_Tokens (F : Specs) : Cf := { E := { tab := tab, imm := [] }, F := F, gl := glob, N := 6, keep := [0, 2] }
@[reducible] noncomputable def fn_ref03_Tokens : Func := Tryz.f45
theorem wf_ref03_Tokens : FnOK SP fi_ref03_Tokens fn_ref03_Tokens 6 := ⟨Tryz.func45, by kernel_rfl, by kernel_rfl, Tryz.ntmps45⟩
@[reducible] def fi_ref03_Fold : Nat := 46
noncomputable def cf_ref03_Fold (F : Specs) : Cf := { E := { tab := tab, imm := [] }, F := F, gl := glob, N := 25, keep := [0, 2, 3, 4, 5, 11, 15] }
@[reducible] noncomputable def fn_ref03_Fold : Func := Tryz.f46
theorem wf_ref03_Fold : FnOK SP fi_ref03_Fold fn_ref03_Fold 25 := ⟨Tryz.func46, by kernel_rfl, by kernel_rfl, Tryz.ntmps46⟩
@[reducible] def fi_ref04_Alike : Nat := 47
noncomputable def cf_ref04_Alike (F : Specs) : Cf := { E := { tab := tab, imm := [] }, F := F, gl := glob, N := 21, keep := [0, 1, 4, 5, 12] }
@[reducible] noncomputable def fn_ref04_Alike : Func := Tryz.f47
theorem wf_ref04_Alike : FnOK SP fi_ref04_Alike fn_ref04_Alike 21 := ⟨Tryz.func47, by kernel_rfl, by kernel_rfl, Tryz.ntmps47⟩
@[reducible] def fi_ref04_Jaro : Nat := 48
noncomputable def cf_ref04_Jaro (F : Specs) : Cf := { E := { tab := tab, imm := [] }, F := F, gl := glob, N := 144, keep := [0, 1, 4, 5, 6, 7, 8, 9, 10, 11, 12, 13, 14, 22, 31, 47, 64, 80, 93, 98, 104, 112] }
@[reducible] noncomputable def fn_ref04_Jaro : Func := Tryz.f48
theorem wf_ref04_Jaro : FnOK SP fi_ref04_Jaro fn_ref04_Jaro 144 := ⟨Tryz.func48, by kernel_rfl, by kernel_rfl, Tryz.ntmps48⟩
@[reducible] def fi_ref20_less : Nat := 59
noncomputable def cf_ref20_less (F : Specs) : Cf := { E := { tab := tab, imm := [2, 3] }, F := F, gl := glob, N := 24, keep := [0, 1, 2, 3, 4] }
@[reducible] noncomputable def fn_ref20_less : Func := Tryz.f59
theorem wf_ref20_less : FnOK SP fi_ref20_less fn_ref20_less 24 := ⟨Tryz.func59, by kernel_rfl, by kernel_rfl, Tryz.ntmps59⟩
@[reducible] def fi_slices_IndexFunc_sl_api_Weigh_api_Weigh : Nat := 60
noncomputable def cf_slices_IndexFunc_sl_api_Weigh_api_Weigh (F : Specs) : Cf := { E := { tab := tab, imm := [] }, F := F, gl := glob, N := 19, keep := [0, 1, 4, 5, 7, 8, 9, 16] }
@[reducible] noncomputable def fn_slices_IndexFunc_sl_api_Weigh_api_Weigh : Func := Tryz.f60
theorem wf_slices_IndexFunc_sl_api_Weigh_api_Weigh : FnOK SP fi_slices_IndexFunc_sl_api_Weigh_api_Weigh fn_slices_IndexFunc_sl_api_Weigh_api_Weigh 19 := ⟨Tryz.func60, by kernel_rfl, by kernel_rfl, Tryz.ntmps60⟩
@[reducible] def fi_ratio_magnitude_int : Nat := 61
noncomputable def cf_ratio_magnitude_int (F : Specs) : Cf := { E := { tab := tab, imm := [] }, F := F, gl := glob, N := 10, keep := [0, 2, 4] }
@[reducible] noncomputable def fn_ratio_magnitude_int : Func := Tryz.f61
theorem wf_ratio_magnitude_int : FnOK SP fi_ratio_magnitude_int fn_ratio_magnitude_int 10 := ⟨Tryz.func61, by kernel_rfl, by kernel_rfl, Tryz.ntmps61⟩
@[reducible] def fi_ratio_common : Nat := 62
noncomputable def cf_ratio_common (F : Specs) : Cf := { E := { tab := tab, imm := [] }, F := F, gl := glob, N := 20, keep := [0, 2, 3, 5, 6, 7, 8, 9, 13] }
@[reducible] noncomputable def fn_ratio_common : Func := Tryz.f62
theorem wf_ratio_common : FnOK SP fi_ratio_common fn_ratio_common 20 := ⟨Tryz.func62, by kernel_rfl, by kernel_rfl, Tryz.ntmps62⟩
@[reducible] def fi_measure_texts : Nat := 63
noncomputable def cf_measure_texts (F : Specs) : Cf := { E := { tab := tab, imm := [] }, F := F, gl := glob, N := 3, keep := [0] }
@[reducible] noncomputable def fn_measure_texts : Func := Tryz.f63
theorem wf_measure_texts : FnOK SP fi_measure_texts fn_measure_texts 3 := ⟨Tryz.func63, by kernel_rfl, by kernel_rfl, Tryz.ntmps63⟩
@[reducible] def fi_value_Valid : Nat := 64
noncomputable def cf_value_Valid (F : Specs) : Cf := { E := { tab := tab, imm := [1] }, F := F, gl := glob, N := 39, keep := [0, 1, 2, 3, 4, 12, 14, 15, 17, 22, 23, 25, 27] }
@[reducible] noncomputable def fn_value_Valid : Func := Tryz.f64
theorem wf_value_Valid : FnOK SP fi_value_Valid fn_value_Valid 39 := ⟨Tryz.func64, by kernel_rfl, by kernel_rfl, Tryz.ntmps64⟩
@[reducible] def fi_measure_Near : Nat := 65
noncomputable def cf_measure_Near (F : Specs) : Cf := { E := { tab := tab, imm := [] }, F := F, gl := glob, N := 38, keep := [0, 1, 2, 6, 7, 13, 17, 28] }
@[reducible] noncomputable def fn_measure_Near : Func := Tryz.f65
theorem wf_measure_Near : FnOK SP fi_measure_Near fn_measure_Near 38 := ⟨Tryz.func65, by kernel_rfl, by kernel_rfl, Tryz.ntmps65⟩
@[reducible] def fi_ref01_Gcd : Nat := 66
noncomputable def cf_ref01_Gcd (F : Specs) : Cf := { E := { tab := tab, imm := [] }, F := F, gl := glob, N := 12, keep := [0, 1, 4, 6] }
@[reducible] noncomputable def fn_ref01_Gcd : Func := Tryz.f66
theorem wf_ref01_Gcd : FnOK SP fi_ref01_Gcd fn_ref01_Gcd 12 := ⟨Tryz.func66, by kernel_rfl, by kernel_rfl, Tryz.ntmps66⟩
@[reducible] def fi_ref01_size : Nat := 67
noncomputable def cf_ref01_size (F : Specs) : Cf := { E := { tab := tab, imm := [] }, F := F, gl := glob, N := 10, keep := [0, 2, 4] }
@[reducible] noncomputable def fn_ref01_size : Func := Tryz.f67
theorem wf_ref01_size : FnOK SP fi_ref01_size fn_ref01_size 10 := ⟨Tryz.func67, by kernel_rfl, by kernel_rfl, Tryz.ntmps67⟩
@[reducible] def fi_ref04_share : Nat := 68
noncomputable def cf_ref04_share (F : Specs) : Cf := { E := { tab := tab, imm := [] }, F := F, gl := glob, N := 17, keep := [0, 1, 4, 5, 6, 14] }
@[reducible] noncomputable def fn_ref04_share : Func := Tryz.f68
theorem wf_ref04_share : FnOK SP fi_ref04_share fn_ref04_share 17 := ⟨Tryz.func68, by kernel_rfl, by kernel_rfl, Tryz.ntmps68⟩
@[reducible] def fi_ref04_apart : Nat := 69
noncomputable def cf_ref04_apart (F : Specs) : Cf := { E := { tab := tab, imm := [] }, F := F, gl := glob, N := 27, keep := [0, 1, 2, 6, 7, 10, 23] }
@[reducible] noncomputable def fn_ref04_apart : Func := Tryz.f69
theorem wf_ref04_apart : FnOK SP fi_ref04_apart fn_ref04_apart 27 := ⟨Tryz.func69, by kernel_rfl, by kernel_rfl, Tryz.ntmps69⟩
@[reducible] def fi_ref04_in : Nat := 70
noncomputable def cf_ref04_in (F : Specs) : Cf := { E := { tab := tab, imm := [] }, F := F, gl := glob, N := 19, keep := [0, 1, 2, 6, 7, 10, 18] }
@[reducible] noncomputable def fn_ref04_in : Func := Tryz.f70
theorem wf_ref04_in : FnOK SP fi_ref04_in fn_ref04_in 19 := ⟨Tryz.func70, by kernel_rfl, by kernel_rfl, Tryz.ntmps70⟩
@[reducible] def fi_ref03_Sorted : Nat := 71
noncomputable def cf_ref03_Sorted (F : Specs) : Cf := { E := { tab := tab, imm := [] }, F := F, gl := glob, N := 63, keep := [0, 2, 3, 4, 5, 6, 10, 27, 44] }
@[reducible] noncomputable def fn_ref03_Sorted : Func := Tryz.f71
theorem wf_ref03_Sorted : FnOK SP fi_ref03_Sorted fn_ref03_Sorted 63 := ⟨Tryz.func71, by kernel_rfl, by kernel_rfl, Tryz.ntmps71⟩
@[reducible] def fi_ref03_Words : Nat := 72
noncomputable def cf_ref03_Words (F : Specs) : Cf := { E := { tab := tab, imm := [] }, F := F, gl := glob, N := 37, keep := [0, 2, 3, 4, 5, 6, 10, 18, 25, 31] }
@[reducible] noncomputable def fn_ref03_Words : Func := Tryz.f72
theorem wf_ref03_Words : FnOK SP fi_ref03_Words fn_ref03_Words 37 := ⟨Tryz.func72, by kernel_rfl, by kernel_rfl, Tryz.ntmps72⟩
@[reducible] def fi_ref04_Edit : Nat := 73
noncomputable def cf_ref04_Edit (F : Specs) : Cf := { E := { tab := tab, imm := [] }, F := F, gl := glob, N := 81, keep := [0, 1, 4, 5, 6, 7, 8, 9, 10, 18, 28, 42, 55] }
@[reducible] noncomputable def fn_ref04_Edit : Func := Tryz.f73
theorem wf_ref04_Edit : FnOK SP fi_ref04_Edit fn_ref04_Edit 81 := ⟨Tryz.func73, by kernel_rfl, by kernel_rfl, Tryz.ntmps73⟩
@[reducible] def fi_measure_texts_1 : Nat := 79
noncomputable def cf_measure_texts_1 (F : Specs) : Cf := { E := { tab := tab, imm := [] }, F := F, gl := glob, N := 10, keep := [0, 1, 4] }
@[reducible] noncomputable def fn_measure_texts_1 : Func := Tryz.f79
theorem wf_measure_texts_1 : FnOK SP fi_measure_texts_1 fn_measure_texts_1 10 := ⟨Tryz.func79, by kernel_rfl, by kernel_rfl, Tryz.ntmps79⟩
@[reducible] def fi_measure_Alike : Nat := 80
noncomputable def cf_measure_Alike (F : Specs) : Cf := { E := { tab := tab, imm := [] }, F := F, gl := glob, N := 21, keep := [0, 1, 4, 5, 12] }
@[reducible] noncomputable def fn_measure_Alike : Func := Tryz.f80
theorem wf_measure_Alike : FnOK SP fi_measure_Alike fn_measure_Alike 21 := ⟨Tryz.func80, by kernel_rfl, by kernel_rfl, Tryz.ntmps80⟩
@[reducible] def fi_words_Fold : Nat := 81
noncomputable def cf_words_Fold (F : Specs) : Cf := { E := { tab := tab, imm := [] }, F := F, gl := glob, N := 7, keep := [0, 2] }
@[reducible] noncomputable def fn_words_Fold : Func := Tryz.f81
theorem wf_words_Fold : FnOK SP fi_words_Fold fn_words_Fold 7 := ⟨Tryz.func81, by kernel_rfl, by kernel_rfl, Tryz.ntmps81⟩
@[reducible] def fi_measure_texts_2 : Nat := 82
noncomputable def cf_measure_texts_2 (F : Specs) : Cf := { E := { tab := tab, imm := [] }, F := F, gl := glob, N := 10, keep := [0, 1, 4] }
@[reducible] noncomputable def fn_measure_texts_2 : Func := Tryz.f82
theorem wf_measure_texts_2 : FnOK SP fi_measure_texts_2 fn_measure_texts_2 10 := ⟨Tryz.func82, by kernel_rfl, by kernel_rfl, Tryz.ntmps82⟩
@[reducible] def fi_measure_Jaccard : Nat := 83
noncomputable def cf_measure_Jaccard (F : Specs) : Cf := { E := { tab := tab, imm := [] }, F := F, gl := glob, N := 53, keep := [0, 1, 4, 5, 7, 8, 9, 10, 12, 14, 15, 16, 17, 26, 27, 28, 29, 34, 39, 48] }
@[reducible] noncomputable def fn_measure_Jaccard : Func := Tryz.f83
theorem wf_measure_Jaccard : FnOK SP fi_measure_Jaccard fn_measure_Jaccard 53 := ⟨Tryz.func83, by kernel_rfl, by kernel_rfl, Tryz.ntmps83⟩
@[reducible] def fi_words_Tokens : Nat := 84
noncomputable def cf_words_Tokens (F : Specs) : Cf := { E := { tab := tab, imm := [] }, F := F, gl := glob, N := 13, keep := [0, 2, 3, 4, 7, 8] }
@[reducible] noncomputable def fn_words_Tokens : Func := Tryz.f84
theorem wf_words_Tokens : FnOK SP fi_words_Tokens fn_words_Tokens 13 := ⟨Tryz.func84, by kernel_rfl, by kernel_rfl, Tryz.ntmps84⟩
@[reducible] def fi_measure_texts_3 : Nat := 85
noncomputable def cf_measure_texts_3 (F : Specs) : Cf := { E := { tab := tab, imm := [] }, F := F, gl := glob, N := 10, keep := [0, 1, 4] }
@[reducible] noncomputable def fn_measure_texts_3 : Func := Tryz.f85
theorem wf_measure_texts_3 : FnOK SP fi_measure_texts_3 fn_measure_texts_3 10 := ⟨Tryz.func85, by kernel_rfl, by kernel_rfl, Tryz.ntmps85⟩
@[reducible] def fi_measure_Jaro : Nat := 86
noncomputable def cf_measure_Jaro (F : Specs) : Cf := { E := { tab := tab, imm := [] }, F := F, gl := glob, N := 153, keep := [0, 1, 4, 5, 6, 7, 8, 9, 10, 11, 12, 13, 14, 15, 16, 17, 18, 19, 29, 49, 50, 51, 67, 83, 97, 99, 100, 101, 102, 106, 114] }
@[reducible] noncomputable def fn_measure_Jaro : Func := Tryz.f86
theorem wf_measure_Jaro : FnOK SP fi_measure_Jaro fn_measure_Jaro 153 := ⟨Tryz.func86, by kernel_rfl, by kernel_rfl, Tryz.ntmps86⟩
@[reducible] def fi_measure_share : Nat := 87
noncomputable def cf_measure_share (F : Specs) : Cf := { E := { tab := tab, imm := [] }, F := F, gl := glob, N := 17, keep := [0, 1, 4, 5, 6, 14] }
@[reducible] noncomputable def fn_measure_share : Func := Tryz.f87
theorem wf_measure_share : FnOK SP fi_measure_share fn_measure_share 17 := ⟨Tryz.func87, by kernel_rfl, by kernel_rfl, Tryz.ntmps87⟩
@[reducible] def fi_ref01_Make : Nat := 88
noncomputable def cf_ref01_Make (F : Specs) : Cf := { E := { tab := tab, imm := [] }, F := F, gl := glob, N := 18, keep := [0, 1, 4, 5] }
@[reducible] noncomputable def fn_ref01_Make : Func := Tryz.f88
theorem wf_ref01_Make : FnOK SP fi_ref01_Make fn_ref01_Make 18 := ⟨Tryz.func88, by kernel_rfl, by kernel_rfl, Tryz.ntmps88⟩
@[reducible] def fi_ref03_Lower : Nat := 89
noncomputable def cf_ref03_Lower (F : Specs) : Cf := { E := { tab := tab, imm := [] }, F := F, gl := glob, N := 26, keep := [0, 2, 8, 24] }
@[reducible] noncomputable def fn_ref03_Lower : Func := Tryz.f89
theorem wf_ref03_Lower : FnOK SP fi_ref03_Lower fn_ref03_Lower 26 := ⟨Tryz.func89, by kernel_rfl, by kernel_rfl, Tryz.ntmps89⟩
@[reducible] def fi_measure_Edit : Nat := 91
noncomputable def cf_measure_Edit (F : Specs) : Cf := { E := { tab := tab, imm := [] }, F := F, gl := glob, N := 88, keep := [0, 1, 4, 5, 6, 7, 8, 9, 10, 15, 23, 24, 25, 33, 34, 35, 45, 46, 47, 55] }
@[reducible] noncomputable def fn_measure_Edit : Func := Tryz.f91
theorem wf_measure_Edit : FnOK SP fi_measure_Edit fn_measure_Edit 88 := ⟨Tryz.func91, by kernel_rfl, by kernel_rfl, Tryz.ntmps91⟩
@[reducible] def fi_strings_Join : Nat := 92
@[reducible] noncomputable def fn_strings_Join : Func := Tryz.f92
theorem wf_strings_Join : FnOK SP fi_strings_Join fn_strings_Join 75 := ⟨Tryz.func92, by kernel_rfl, by kernel_rfl, Tryz.ntmps92⟩
@[reducible] def fi_slices_Collect_string : Nat := 93
noncomputable def cf_slices_Collect_string (F : Specs) : Cf := { E := { tab := tab, imm := [] }, F := F, gl := glob, N := 5, keep := [0, 2] }
@[reducible] noncomputable def fn_slices_Collect_string : Func := Tryz.f93
theorem wf_slices_Collect_string : FnOK SP fi_slices_Collect_string fn_slices_Collect_string 5 := ⟨Tryz.func93, by kernel_rfl, by kernel_rfl, Tryz.ntmps93⟩
@[reducible] def fi_words_all : Nat := 94
noncomputable def cf_words_all (F : Specs) : Cf := { E := { tab := tab, imm := [1] }, F := F, gl := glob, N := 4, keep := [0, 1, 2] }
@[reducible] noncomputable def fn_words_all : Func := Tryz.f94
theorem wf_words_all : FnOK SP fi_words_all fn_words_all 4 := ⟨Tryz.func94, by kernel_rfl, by kernel_rfl, Tryz.ntmps94⟩
@[reducible] def fi_words_sorted : Nat := 95
noncomputable def cf_words_sorted (F : Specs) : Cf := { E := { tab := tab, imm := [] }, F := F, gl := glob, N := 18, keep := [0, 2, 3, 4, 6, 8] }
@[reducible] noncomputable def fn_words_sorted : Func := Tryz.f95
theorem wf_words_sorted : FnOK SP fi_words_sorted fn_words_sorted 18 := ⟨Tryz.func95, by kernel_rfl, by kernel_rfl, Tryz.ntmps95⟩
@[reducible] def fi_ratio_Make : Nat := 96
noncomputable def cf_ratio_Make (F : Specs) : Cf := { E := { tab := tab, imm := [] }, F := F, gl := glob, N := 21, keep := [0, 1, 4, 5, 7] }
@[reducible] noncomputable def fn_ratio_Make : Func := Tryz.f96
theorem wf_ratio_Make : FnOK SP fi_ratio_Make fn_ratio_Make 21 := ⟨Tryz.func96, by kernel_rfl, by kernel_rfl, Tryz.ntmps96⟩
@[reducible] def fi_ref01_of : Nat := 97
noncomputable def cf_ref01_of (F : Specs) : Cf := { E := { tab := tab, imm := [] }, F := F, gl := glob, N := 40, keep := [0, 1, 2, 6, 7, 8, 9, 11, 25, 31] }
@[reducible] noncomputable def fn_ref01_of : Func := Tryz.f97
theorem wf_ref01_of : FnOK SP fi_ref01_of fn_ref01_of 40 := ⟨Tryz.func97, by kernel_rfl, by kernel_rfl, Tryz.ntmps97⟩
@[reducible] def fi_measure_least : Nat := 98
noncomputable def cf_measure_least (F : Specs) : Cf := { E := { tab := tab, imm := [] }, F := F, gl := glob, N := 18, keep := [0, 1, 4, 6, 7, 8, 9, 10] }
@[reducible] noncomputable def fn_measure_least : Func := Tryz.f98
theorem wf_measure_least : FnOK SP fi_measure_least fn_measure_least 18 := ⟨Tryz.func98, by kernel_rfl, by kernel_rfl, Tryz.ntmps98⟩
@[reducible] def fi_slices_AppendSeq_sl_string_string : Nat := 102
noncomputable def cf_slices_AppendSeq_sl_string_string (F : Specs) : Cf := { E := { tab := tab, imm := [] }, F := F, gl := glob, N := 13, keep := [0, 1, 2, 4, 5, 6, 7] }
@[reducible] noncomputable def fn_slices_AppendSeq_sl_string_string : Func := Tryz.f102
theorem wf_slices_AppendSeq_sl_string_string : FnOK SP fi_slices_AppendSeq_sl_string_string fn_slices_AppendSeq_sl_string_string 13 := ⟨Tryz.func102, by kernel_rfl, by kernel_rfl, Tryz.ntmps102⟩
@[reducible] def fi_words_all_1 : Nat := 103
noncomputable def cf_words_all_1 (F : Specs) : Cf := { E := { tab := tab, imm := [2] }, F := F, gl := glob, N := 29, keep := [0, 1, 2, 3, 4, 5, 6, 9, 10, 11, 18, 25] }
@[reducible] noncomputable def fn_words_all_1 : Func := Tryz.f103
theorem wf_words_all_1 : FnOK SP fi_words_all_1 fn_words_all_1 29 := ⟨Tryz.func103, by kernel_rfl, by kernel_rfl, Tryz.ntmps103⟩
@[reducible] def fi_words_all_1_1 : Nat := 104
noncomputable def cf_words_all_1_1 (F : Specs) : Cf := { E := { tab := tab, imm := [] }, F := F, gl := glob, N := 15, keep := [0, 1, 2, 3] }
@[reducible] noncomputable def fn_words_all_1_1 : Func := Tryz.f104
theorem wf_words_all_1_1 : FnOK SP fi_words_all_1_1 fn_words_all_1_1 15 := ⟨Tryz.func104, by kernel_rfl, by kernel_rfl, Tryz.ntmps104⟩
@[reducible] def fi_words_lower : Nat := 105
noncomputable def cf_words_lower (F : Specs) : Cf := { E := { tab := tab, imm := [] }, F := F, gl := glob, N := 27, keep := [0, 2, 3, 13] }
@[reducible] noncomputable def fn_words_lower : Func := Tryz.f105
theorem wf_words_lower : FnOK SP fi_words_lower fn_words_lower 27 := ⟨Tryz.func105, by kernel_rfl, by kernel_rfl, Tryz.ntmps105⟩
@[reducible] def fi_slices_Sort_sl_string_string : Nat := 106
@[reducible] noncomputable def fn_slices_Sort_sl_string_string : Func := Tryz.f106
theorem wf_slices_Sort_sl_string_string : FnOK SP fi_slices_Sort_sl_string_string fn_slices_Sort_sl_string_string 11 := ⟨Tryz.func106, by kernel_rfl, by kernel_rfl, Tryz.ntmps106⟩
@[reducible] def fi_ratio_reduced : Nat := 107
noncomputable def cf_ratio_reduced (F : Specs) : Cf := { E := { tab := tab, imm := [] }, F := F, gl := glob, N := 40, keep := [0, 1, 2, 6, 7, 8, 19, 27] }
@[reducible] noncomputable def fn_ratio_reduced : Func := Tryz.f107
theorem wf_ratio_reduced : FnOK SP fi_ratio_reduced fn_ratio_reduced 40 := ⟨Tryz.func107, by kernel_rfl, by kernel_rfl, Tryz.ntmps107⟩
end Go.Gv
