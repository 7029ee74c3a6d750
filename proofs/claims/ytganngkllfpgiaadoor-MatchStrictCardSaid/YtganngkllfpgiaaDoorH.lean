/- The seat's table of types and numbers of functions, printed by a program. -/
import Derived.Test.YtganngkllfpgiaaDoorGg
import Derived.Test.YtganngkllfpgiaaDoorChecked
import Derived.Test.YtganngkllfpgiaaDoorRows
import Derived.Lib.ItoaNum
set_option linter.all false
namespace Go.Gv
open Go Go.Proofs Go.Proofs.YtganngkllfpgiaaDoor

noncomputable def glob : Glob := fun g => match g with | 0 => some ⟨.st (.cs (.int .i64) (.cs (.int .i64) .nl)), ((0 : Int), ((1 : Int), ()))⟩ | 1 => some ⟨.st (.cs (.int .i64) (.cs (.int .i64) .nl)), ((1 : Int), ((1 : Int), ()))⟩ | _ => none
@[reducible] noncomputable def SP : Program := Tryd.prog
theorem mix_ok : SP.follows .mixedOrders = true := by kernel_rfl
def tab : List (Nat × (Ty × Nat)) := [(3, .int .i64, 8), (4, .bool, 1), (5, .int .u8, 1), (9, .str, 16), (20, .ot 1, 16), (22, .sl (.st (.cs (.int .i64) (.cs (.int .i64) (.cs (.int .i64) (.cs (.st (.cs (.int .i64) (.cs (.int .i64) (.nl)))) (.cs (.int .i64) (.cs (.int .i64) (.nl)))))))), 24), (24, .st (.cs (.str) (.cs (.int .i64) (.cs (.int .i64) (.cs (.sl (.st (.cs (.int .i64) (.cs (.int .i64) (.cs (.int .i64) (.cs (.st (.cs (.int .i64) (.cs (.int .i64) (.nl)))) (.cs (.int .i64) (.cs (.int .i64) (.nl))))))))) (.nl))))), 56), (27, .sl (.st (.cs (.st (.cs (.int .i64) (.cs (.int .i64) (.cs (.str) (.nl))))) (.cs (.int .i64) (.cs (.int .i64) (.nl))))), 24), (29, .st (.cs (.st (.cs (.int .i64) (.cs (.str) (.cs (.str) (.nl))))) (.cs (.int .i64) (.cs (.int .i64) (.cs (.sl (.st (.cs (.st (.cs (.int .i64) (.cs (.int .i64) (.cs (.str) (.nl))))) (.cs (.int .i64) (.cs (.int .i64) (.nl)))))) (.nl))))), 80), (30, .fn, 8), (31, .sl (.st (.cs (.str) (.cs (.int .i64) (.cs (.int .i64) (.cs (.sl (.st (.cs (.int .i64) (.cs (.int .i64) (.cs (.int .i64) (.cs (.st (.cs (.int .i64) (.cs (.int .i64) (.nl)))) (.cs (.int .i64) (.cs (.int .i64) (.nl))))))))) (.nl)))))), 24), (33, .sl (.st (.cs (.st (.cs (.int .i64) (.cs (.str) (.cs (.str) (.nl))))) (.cs (.int .i64) (.cs (.int .i64) (.cs (.sl (.st (.cs (.st (.cs (.int .i64) (.cs (.int .i64) (.cs (.str) (.nl))))) (.cs (.int .i64) (.cs (.int .i64) (.nl)))))) (.nl)))))), 24), (34, .sl (.bool), 24), (41, .st (.cs (.int .i64) (.cs (.int .i64) (.nl))), 16), (43, .st (.cs (.int .i64) (.cs (.int .i64) (.cs (.int .i64) (.cs (.st (.cs (.int .i64) (.cs (.int .i64) (.nl)))) (.cs (.int .i64) (.cs (.int .i64) (.nl))))))), 56), (44, .int .i64, 8), (48, .st (.cs (.int .i64) (.cs (.int .i64) (.cs (.str) (.nl)))), 32), (50, .st (.cs (.st (.cs (.int .i64) (.cs (.int .i64) (.cs (.str) (.nl))))) (.cs (.int .i64) (.cs (.int .i64) (.nl)))), 48), (53, .sl (.arr 2 (.int .i64)), 24), (54, .sl (.st (.cs (.int .i64) (.cs (.int .i64) (.cs (.int .i64) (.nl))))), 24), (57, .arr 2 (.int .i64), 16), (60, .st (.cs (.int .i64) (.cs (.int .i64) (.cs (.int .i64) (.nl)))), 24), (65, .fn, 8), (66, .fn, 8), (69, .fn, 8), (70, .mp (.int .i64) (.fn), 8), (75, .mp (.arr 2 (.int .i64)) (.int .i64), 8), (80, .fn, 8), (81, .fn, 8), (86, .sl (.str), 24), (88, .int .u64, 8), (92, .int .u64, 8), (93, .sl (.int .i64), 24), (96, .fn, 8), (103, .fn, 8), (105, .mp (.str) (.bool), 8), (107, .sl (.int .u8), 24), (110, .int .i64, 8), (117, .int .u32, 4), (122, .ot 2, 8), (124, .st (.cs (.ot 2) (.cs (.sl (.int .u8)) (.nl))), 32), (127, .ot 1, 16), (131, .fn, 8), (133, .fn, 8), (137, .int .u64, 8), (141, .ot 2, 8), (143, .sl (.int .u64), 24), (144, .ot 2, 8), (146, .ot 2, 8)]
theorem tab_ok0 : (Env.mk tab [] [] []).ok SP = true := by kernel_rfl
theorem tab_ok {rows wraps : List Nat} : ∀ imm, (Env.mk tab imm rows wraps).ok SP = true := by intro imm; have h := tab_ok0; unfold Env.ok at h ⊢; exact h
@[reducible] def fi_law20_MatchBothWays : Nat := 3
noncomputable def cf_law20_MatchBothWays (F : Specs) : Cf := { E := { tab := tab, imm := [3, 4, 5] }, F := F, gl := glob, N := 59, keep := [0, 1, 2, 3, 4, 5, 6, 7, 8, 9, 10, 11, 12, 21] }
@[reducible] noncomputable def fn_law20_MatchBothWays : Func := Tryd.f3
theorem wf_law20_MatchBothWays : FnOK SP fi_law20_MatchBothWays fn_law20_MatchBothWays 59 := ⟨Tryd.func3, by kernel_rfl, by kernel_rfl, Tryd.ntmps3⟩
@[reducible] def fi_law20_MatchTerms : Nat := 4
noncomputable def cf_law20_MatchTerms (F : Specs) : Cf := { E := { tab := tab, imm := [3, 4, 5] }, F := F, gl := glob, N := 217, keep := [0, 1, 2, 3, 4, 5, 6, 7, 8, 9, 10, 11, 12, 13, 14, 15, 16, 17, 18, 19, 35, 49, 56, 113, 150, 154, 198] }
@[reducible] noncomputable def fn_law20_MatchTerms : Func := Tryd.f4
theorem wf_law20_MatchTerms : FnOK SP fi_law20_MatchTerms fn_law20_MatchTerms 217 := ⟨Tryd.func4, by kernel_rfl, by kernel_rfl, Tryd.ntmps4⟩
@[reducible] def fi_law20_MatchLists : Nat := 5
noncomputable def cf_law20_MatchLists (F : Specs) : Cf := { E := { tab := tab, imm := [6, 7] }, F := F, gl := glob, N := 98, keep := [0, 1, 2, 3, 6, 7, 8, 9, 10, 11, 12, 13, 14, 26, 36, 56] }
@[reducible] noncomputable def fn_law20_MatchLists : Func := Tryd.f5
theorem wf_law20_MatchLists : FnOK SP fi_law20_MatchLists fn_law20_MatchLists 98 := ⟨Tryd.func5, by kernel_rfl, by kernel_rfl, Tryd.ntmps5⟩
@[reducible] def fi_law20_MatchEqual : Nat := 6
noncomputable def cf_law20_MatchEqual (F : Specs) : Cf := { E := { tab := tab, imm := [2, 3] }, F := F, gl := glob, N := 141, keep := [0, 1, 2, 3, 4, 5, 7, 8, 9, 10, 11, 12, 13, 27, 41, 45, 63, 67, 90, 109, 139] }
@[reducible] noncomputable def fn_law20_MatchEqual : Func := Tryd.f6
theorem wf_law20_MatchEqual : FnOK SP fi_law20_MatchEqual fn_law20_MatchEqual 141 := ⟨Tryd.func6, by kernel_rfl, by kernel_rfl, Tryd.ntmps6⟩
@[reducible] def fi_law20_MatchEdges : Nat := 7
noncomputable def cf_law20_MatchEdges (F : Specs) : Cf := { E := { tab := tab, imm := [] }, F := F, gl := glob, N := 266, keep := [0, 1, 2, 6, 7, 8, 9, 10, 11, 12, 13, 14, 15, 16, 17, 18, 19, 20, 21, 22, 23, 38, 50, 86, 120, 124, 170, 174, 180, 206, 231, 235, 241, 264] }
@[reducible] noncomputable def fn_law20_MatchEdges : Func := Tryd.f7
theorem wf_law20_MatchEdges : FnOK SP fi_law20_MatchEdges fn_law20_MatchEdges 266 := ⟨Tryd.func7, by kernel_rfl, by kernel_rfl, Tryd.ntmps7⟩
@[reducible] def fi_law20_MatchStrict : Nat := 8
noncomputable def cf_law20_MatchStrict (F : Specs) : Cf := { E := { tab := tab, imm := [5, 6, 7] }, F := F, gl := glob, N := 135, keep := [0, 1, 2, 3, 4, 5, 6, 7, 10, 11, 12, 13, 15, 17, 18, 33, 59, 63, 100, 104, 133] }
@[reducible] noncomputable def fn_law20_MatchStrict : Func := Tryd.f8
theorem wf_law20_MatchStrict : FnOK SP fi_law20_MatchStrict fn_law20_MatchStrict 135 := ⟨Tryd.func8, by kernel_rfl, by kernel_rfl, Tryd.ntmps8⟩
@[reducible] def fi_law20_head : Nat := 9
noncomputable def cf_law20_head (F : Specs) : Cf := { E := { tab := tab, imm := [] }, F := F, gl := glob, N := 134, keep := [0, 1, 2, 3, 4, 5, 6, 7, 8, 9, 10, 11, 13, 14, 15, 16, 17] }
@[reducible] noncomputable def fn_law20_head : Func := Tryd.f9
theorem wf_law20_head : FnOK SP fi_law20_head fn_law20_head 134 := ⟨Tryd.func9, by kernel_rfl, by kernel_rfl, Tryd.ntmps9⟩
@[reducible] def fi_ref20_Few : Nat := 10
noncomputable def cf_ref20_Few (F : Specs) : Cf := { E := { tab := tab, imm := [] }, F := F, gl := glob, N := 67, keep := [0, 1, 2, 6, 7, 8, 9, 18, 22, 31, 35, 44, 52, 66] }
@[reducible] noncomputable def fn_ref20_Few : Func := Tryd.f10
theorem wf_ref20_Few : FnOK SP fi_ref20_Few fn_ref20_Few 67 := ⟨Tryd.func10, by kernel_rfl, by kernel_rfl, Tryd.ntmps10⟩
@[reducible] def fi_match_Score : Nat := 11
noncomputable def cf_match_Score (F : Specs) : Cf := { E := { tab := tab, imm := [3, 4, 5] }, F := F, gl := glob, N := 32, keep := [0, 1, 2, 3, 4, 5, 6, 7, 8, 9, 10, 11, 16, 20, 21, 22] }
@[reducible] noncomputable def fn_match_Score : Func := Tryd.f11
theorem wf_match_Score : FnOK SP fi_match_Score fn_match_Score 32 := ⟨Tryd.func11, by kernel_rfl, by kernel_rfl, Tryd.ntmps11⟩
@[reducible] def fi_ref20_Bools : Nat := 12
noncomputable def cf_ref20_Bools (F : Specs) : Cf := { E := { tab := tab, imm := [] }, F := F, gl := glob, N := 26, keep := [0, 1, 4, 5, 10, 14, 25] }
@[reducible] noncomputable def fn_ref20_Bools : Func := Tryd.f12
theorem wf_ref20_Bools : FnOK SP fi_ref20_Bools fn_ref20_Bools 26 := ⟨Tryd.func12, by kernel_rfl, by kernel_rfl, Tryd.ntmps12⟩
@[reducible] def fi_match_Weight : Nat := 13
noncomputable def cf_match_Weight (F : Specs) : Cf := { E := { tab := tab, imm := [4, 5] }, F := F, gl := glob, N := 37, keep := [0, 1, 2, 4, 5, 6, 7, 9, 10, 12, 13, 14, 15, 21] }
@[reducible] noncomputable def fn_match_Weight : Func := Tryd.f13
theorem wf_match_Weight : FnOK SP fi_match_Weight fn_match_Weight 37 := ⟨Tryd.func13, by kernel_rfl, by kernel_rfl, Tryd.ntmps13⟩
@[reducible] def fi_ref20_About : Nat := 14
noncomputable def cf_ref20_About (F : Specs) : Cf := { E := { tab := tab, imm := [3, 4, 5] }, F := F, gl := glob, N := 23, keep := [0, 1, 2, 3, 4, 5, 6] }
@[reducible] noncomputable def fn_ref20_About : Func := Tryd.f14
theorem wf_ref20_About : FnOK SP fi_ref20_About fn_ref20_About 23 := ⟨Tryd.func14, by kernel_rfl, by kernel_rfl, Tryd.ntmps14⟩
@[reducible] def fi_measure_Of : Nat := 15
noncomputable def cf_measure_Of (F : Specs) : Cf := { E := { tab := tab, imm := [6, 7] }, F := F, gl := glob, N := 106, keep := [0, 1, 2, 3, 6, 7, 8, 9, 10, 11, 17, 44, 54, 63, 67, 92] }
@[reducible] noncomputable def fn_measure_Of : Func := Tryd.f15
theorem wf_measure_Of : FnOK SP fi_measure_Of fn_measure_Of 106 := ⟨Tryd.func15, by kernel_rfl, by kernel_rfl, Tryd.ntmps15⟩
@[reducible] def fi_match_Edges : Nat := 16
noncomputable def cf_match_Edges (F : Specs) : Cf := { E := { tab := tab, imm := [] }, F := F, gl := glob, N := 100, keep := [0, 1, 2, 6, 7, 9, 10, 12, 14, 15, 16, 17, 25, 26, 27, 28, 29, 47, 50, 51, 52, 53, 63, 80, 82, 87] }
@[reducible] noncomputable def fn_match_Edges : Func := Tryd.f16
theorem wf_match_Edges : FnOK SP fi_match_Edges fn_match_Edges 100 := ⟨Tryd.func16, by kernel_rfl, by kernel_rfl, Tryd.ntmps16⟩
@[reducible] def fi_ref20_Same : Nat := 17
noncomputable def cf_ref20_Same (F : Specs) : Cf := { E := { tab := tab, imm := [] }, F := F, gl := glob, N := 26, keep := [0, 1, 4, 5, 10, 14, 25] }
@[reducible] noncomputable def fn_ref20_Same : Func := Tryd.f17
theorem wf_ref20_Same : FnOK SP fi_ref20_Same fn_ref20_Same 26 := ⟨Tryd.func17, by kernel_rfl, by kernel_rfl, Tryd.ntmps17⟩
@[reducible] def fi_law20_example : Nat := 18
noncomputable def cf_law20_example (F : Specs) : Cf := { E := { tab := tab, imm := [] }, F := F, gl := glob, N := 7, keep := [0] }
@[reducible] noncomputable def fn_law20_example : Func := Tryd.f18
theorem wf_law20_example : FnOK SP fi_law20_example fn_law20_example 7 := ⟨Tryd.func18, by kernel_rfl, by kernel_rfl, Tryd.ntmps18⟩
@[reducible] def fi_law20_record : Nat := 19
noncomputable def cf_law20_record (F : Specs) : Cf := { E := { tab := tab, imm := [] }, F := F, gl := glob, N := 18, keep := [0, 1, 4, 5, 9] }
@[reducible] noncomputable def fn_law20_record : Func := Tryd.f19
theorem wf_law20_record : FnOK SP fi_law20_record fn_law20_record 18 := ⟨Tryd.func19, by kernel_rfl, by kernel_rfl, Tryd.ntmps19⟩
@[reducible] def fi_match_about : Nat := 20
noncomputable def cf_match_about (F : Specs) : Cf := { E := { tab := tab, imm := [3, 4, 5] }, F := F, gl := glob, N := 23, keep := [0, 1, 2, 3, 4, 5, 6] }
@[reducible] noncomputable def fn_match_about : Func := Tryd.f20
theorem wf_match_about : FnOK SP fi_match_about fn_match_about 23 := ⟨Tryd.func20, by kernel_rfl, by kernel_rfl, Tryd.ntmps20⟩
@[reducible] def fi_match_contributions : Nat := 21
noncomputable def cf_match_contributions (F : Specs) : Cf := { E := { tab := tab, imm := [3, 4, 5] }, F := F, gl := glob, N := 8, keep := [0, 1, 2, 3, 4, 5, 6] }
@[reducible] noncomputable def fn_match_contributions : Func := Tryd.f21
theorem wf_match_contributions : FnOK SP fi_match_contributions fn_match_contributions 8 := ⟨Tryd.func21, by kernel_rfl, by kernel_rfl, Tryd.ntmps21⟩
@[reducible] def fi_ref20_Valid : Nat := 22
noncomputable def cf_ref20_Valid (F : Specs) : Cf := { E := { tab := tab, imm := [1] }, F := F, gl := glob, N := 88, keep := [0, 1, 2, 3, 4, 18, 23, 48, 87] }
@[reducible] noncomputable def fn_ref20_Valid : Func := Tryd.f22
theorem wf_ref20_Valid : FnOK SP fi_ref20_Valid fn_ref20_Valid 88 := ⟨Tryd.func22, by kernel_rfl, by kernel_rfl, Tryd.ntmps22⟩
@[reducible] def fi_measure_texts : Nat := 23
noncomputable def cf_measure_texts (F : Specs) : Cf := { E := { tab := tab, imm := [] }, F := F, gl := glob, N := 3, keep := [0] }
@[reducible] noncomputable def fn_measure_texts : Func := Tryd.f23
theorem wf_measure_texts : FnOK SP fi_measure_texts fn_measure_texts 3 := ⟨Tryd.func23, by kernel_rfl, by kernel_rfl, Tryd.ntmps23⟩
@[reducible] def fi_value_Valid : Nat := 24
noncomputable def cf_value_Valid (F : Specs) : Cf := { E := { tab := tab, imm := [1] }, F := F, gl := glob, N := 39, keep := [0, 1, 2, 3, 4, 12, 14, 15, 17, 22, 23, 25, 27] }
@[reducible] noncomputable def fn_value_Valid : Func := Tryd.f24
theorem wf_value_Valid : FnOK SP fi_value_Valid fn_value_Valid 39 := ⟨Tryd.func24, by kernel_rfl, by kernel_rfl, Tryd.ntmps24⟩
@[reducible] def fi_measure_Near : Nat := 25
noncomputable def cf_measure_Near (F : Specs) : Cf := { E := { tab := tab, imm := [] }, F := F, gl := glob, N := 38, keep := [0, 1, 2, 6, 7, 13, 17, 28] }
@[reducible] noncomputable def fn_measure_Near : Func := Tryd.f25
theorem wf_measure_Near : FnOK SP fi_measure_Near fn_measure_Near 38 := ⟨Tryd.func25, by kernel_rfl, by kernel_rfl, Tryd.ntmps25⟩
@[reducible] def fi_match_between : Nat := 26
noncomputable def cf_match_between (F : Specs) : Cf := { E := { tab := tab, imm := [] }, F := F, gl := glob, N := 15, keep := [0, 1, 2, 6] }
@[reducible] noncomputable def fn_match_between : Func := Tryd.f26
theorem wf_match_between : FnOK SP fi_match_between fn_match_between 15 := ⟨Tryd.func26, by kernel_rfl, by kernel_rfl, Tryd.ntmps26⟩
@[reducible] def fi_slices_SortFunc_sl_api_Edge_api_Edge : Nat := 27
noncomputable def cf_slices_SortFunc_sl_api_Edge_api_Edge (F : Specs) : Cf := { E := { tab := tab, imm := [] }, F := F, gl := glob, N := 14, keep := [0, 1, 4] }
@[reducible] noncomputable def fn_slices_SortFunc_sl_api_Edge_api_Edge : Func := Tryd.f27
theorem wf_slices_SortFunc_sl_api_Edge_api_Edge : FnOK SP fi_slices_SortFunc_sl_api_Edge_api_Edge fn_slices_SortFunc_sl_api_Edge_api_Edge 14 := ⟨Tryd.func27, by kernel_rfl, by kernel_rfl, Tryd.ntmps27⟩
@[reducible] def fi_match_Edges_1 : Nat := 28
noncomputable def cf_match_Edges_1 (F : Specs) : Cf := { E := { tab := tab, imm := [2, 3] }, F := F, gl := glob, N := 17, keep := [0, 1, 2, 3, 4] }
@[reducible] noncomputable def fn_match_Edges_1 : Func := Tryd.f28
theorem wf_match_Edges_1 : FnOK SP fi_match_Edges_1 fn_match_Edges_1 17 := ⟨Tryd.func28, by kernel_rfl, by kernel_rfl, Tryd.ntmps28⟩
@[reducible] def fi_cmp_Or_int : Nat := 29
noncomputable def cf_cmp_Or_int (F : Specs) : Cf := { E := { tab := tab, imm := [] }, F := F, gl := glob, N := 18, keep := [0, 2, 3, 5, 6, 7, 8, 9, 14] }
@[reducible] noncomputable def fn_cmp_Or_int : Func := Tryd.f29
theorem wf_cmp_Or_int : FnOK SP fi_cmp_Or_int fn_cmp_Or_int 18 := ⟨Tryd.func29, by kernel_rfl, by kernel_rfl, Tryd.ntmps29⟩
@[reducible] def fi_cmp_Compare_int : Nat := 30
noncomputable def cf_cmp_Compare_int (F : Specs) : Cf := { E := { tab := tab, imm := [] }, F := F, gl := glob, N := 20, keep := [0, 1, 4, 5, 6, 11, 12, 13, 16, 19] }
@[reducible] noncomputable def fn_cmp_Compare_int : Func := Tryd.f30
theorem wf_cmp_Compare_int : FnOK SP fi_cmp_Compare_int fn_cmp_Compare_int 20 := ⟨Tryd.func30, by kernel_rfl, by kernel_rfl, Tryd.ntmps30⟩
@[reducible] def fi_match_valid : Nat := 31
noncomputable def cf_match_valid (F : Specs) : Cf := { E := { tab := tab, imm := [1] }, F := F, gl := glob, N := 17, keep := [0, 1, 2, 12] }
@[reducible] noncomputable def fn_match_valid : Func := Tryd.f31
theorem wf_match_valid : FnOK SP fi_match_valid fn_match_valid 17 := ⟨Tryd.func31, by kernel_rfl, by kernel_rfl, Tryd.ntmps31⟩
@[reducible] def fi_match_contributions_1 : Nat := 32
noncomputable def cf_match_contributions_1 (F : Specs) : Cf := { E := { tab := tab, imm := [] }, F := F, gl := glob, N := 32, keep := [0, 1, 2, 3, 6, 7, 8, 10, 11, 12, 13, 23, 30] }
@[reducible] noncomputable def fn_match_contributions_1 : Func := Tryd.f32
theorem wf_match_contributions_1 : FnOK SP fi_match_contributions_1 fn_match_contributions_1 32 := ⟨Tryd.func32, by kernel_rfl, by kernel_rfl, Tryd.ntmps32⟩
@[reducible] def fi_match_holds : Nat := 33
noncomputable def cf_match_holds (F : Specs) : Cf := { E := { tab := tab, imm := [3, 4, 5] }, F := F, gl := glob, N := 52, keep := [0, 1, 2, 3, 4, 5, 6, 7, 8, 20] }
@[reducible] noncomputable def fn_match_holds : Func := Tryd.f33
theorem wf_match_holds : FnOK SP fi_match_holds fn_match_holds 52 := ⟨Tryd.func33, by kernel_rfl, by kernel_rfl, Tryd.ntmps33⟩
@[reducible] def fi_ref01_Valid : Nat := 34
noncomputable def cf_ref01_Valid (F : Specs) : Cf := { E := { tab := tab, imm := [1] }, F := F, gl := glob, N := 31, keep := [0, 1, 2] }
@[reducible] noncomputable def fn_ref01_Valid : Func := Tryd.f34
theorem wf_ref01_Valid : FnOK SP fi_ref01_Valid fn_ref01_Valid 31 := ⟨Tryd.func34, by kernel_rfl, by kernel_rfl, Tryd.ntmps34⟩
@[reducible] def fi_measure_texts_1 : Nat := 35
noncomputable def cf_measure_texts_1 (F : Specs) : Cf := { E := { tab := tab, imm := [] }, F := F, gl := glob, N := 10, keep := [0, 1, 4] }
@[reducible] noncomputable def fn_measure_texts_1 : Func := Tryd.f35
theorem wf_measure_texts_1 : FnOK SP fi_measure_texts_1 fn_measure_texts_1 10 := ⟨Tryd.func35, by kernel_rfl, by kernel_rfl, Tryd.ntmps35⟩
@[reducible] def fi_measure_Alike : Nat := 36
noncomputable def cf_measure_Alike (F : Specs) : Cf := { E := { tab := tab, imm := [] }, F := F, gl := glob, N := 21, keep := [0, 1, 4, 5, 12] }
@[reducible] noncomputable def fn_measure_Alike : Func := Tryd.f36
theorem wf_measure_Alike : FnOK SP fi_measure_Alike fn_measure_Alike 21 := ⟨Tryd.func36, by kernel_rfl, by kernel_rfl, Tryd.ntmps36⟩
@[reducible] def fi_words_Fold : Nat := 37
noncomputable def cf_words_Fold (F : Specs) : Cf := { E := { tab := tab, imm := [] }, F := F, gl := glob, N := 7, keep := [0, 2] }
@[reducible] noncomputable def fn_words_Fold : Func := Tryd.f37
theorem wf_words_Fold : FnOK SP fi_words_Fold fn_words_Fold 7 := ⟨Tryd.func37, by kernel_rfl, by kernel_rfl, Tryd.ntmps37⟩
@[reducible] def fi_measure_texts_2 : Nat := 38
noncomputable def cf_measure_texts_2 (F : Specs) : Cf := { E := { tab := tab, imm := [] }, F := F, gl := glob, N := 10, keep := [0, 1, 4] }
@[reducible] noncomputable def fn_measure_texts_2 : Func := Tryd.f38
theorem wf_measure_texts_2 : FnOK SP fi_measure_texts_2 fn_measure_texts_2 10 := ⟨Tryd.func38, by kernel_rfl, by kernel_rfl, Tryd.ntmps38⟩
@[reducible] def fi_measure_Jaccard : Nat := 39
noncomputable def cf_measure_Jaccard (F : Specs) : Cf := { E := { tab := tab, imm := [] }, F := F, gl := glob, N := 53, keep := [0, 1, 4, 5, 7, 8, 9, 10, 12, 14, 15, 16, 17, 26, 27, 28, 29, 34, 39, 48] }
@[reducible] noncomputable def fn_measure_Jaccard : Func := Tryd.f39
theorem wf_measure_Jaccard : FnOK SP fi_measure_Jaccard fn_measure_Jaccard 53 := ⟨Tryd.func39, by kernel_rfl, by kernel_rfl, Tryd.ntmps39⟩
@[reducible] def fi_words_Tokens : Nat := 40
noncomputable def cf_words_Tokens (F : Specs) : Cf := { E := { tab := tab, imm := [] }, F := F, gl := glob, N := 13, keep := [0, 2, 3, 4, 7, 8] }
@[reducible] noncomputable def fn_words_Tokens : Func := Tryd.f40
theorem wf_words_Tokens : FnOK SP fi_words_Tokens fn_words_Tokens 13 := ⟨Tryd.func40, by kernel_rfl, by kernel_rfl, Tryd.ntmps40⟩
@[reducible] def fi_measure_texts_3 : Nat := 41
noncomputable def cf_measure_texts_3 (F : Specs) : Cf := { E := { tab := tab, imm := [] }, F := F, gl := glob, N := 10, keep := [0, 1, 4] }
@[reducible] noncomputable def fn_measure_texts_3 : Func := Tryd.f41
theorem wf_measure_texts_3 : FnOK SP fi_measure_texts_3 fn_measure_texts_3 10 := ⟨Tryd.func41, by kernel_rfl, by kernel_rfl, Tryd.ntmps41⟩
@[reducible] def fi_measure_Jaro : Nat := 42
noncomputable def cf_measure_Jaro (F : Specs) : Cf := { E := { tab := tab, imm := [] }, F := F, gl := glob, N := 153, keep := [0, 1, 4, 5, 6, 7, 8, 9, 10, 11, 12, 13, 14, 15, 16, 17, 18, 19, 29, 49, 50, 51, 67, 83, 97, 99, 100, 101, 102, 106, 114] }
@[reducible] noncomputable def fn_measure_Jaro : Func := Tryd.f42
theorem wf_measure_Jaro : FnOK SP fi_measure_Jaro fn_measure_Jaro 153 := ⟨Tryd.func42, by kernel_rfl, by kernel_rfl, Tryd.ntmps42⟩
@[reducible] def fi_measure_share : Nat := 43
noncomputable def cf_measure_share (F : Specs) : Cf := { E := { tab := tab, imm := [] }, F := F, gl := glob, N := 17, keep := [0, 1, 4, 5, 6, 14] }
@[reducible] noncomputable def fn_measure_share : Func := Tryd.f43
theorem wf_measure_share : FnOK SP fi_measure_share fn_measure_share 17 := ⟨Tryd.func43, by kernel_rfl, by kernel_rfl, Tryd.ntmps43⟩
@[reducible] def fi_slices_pdqsortCmpFunc_api_Edge : Nat := 44
noncomputable def cf_slices_pdqsortCmpFunc_api_Edge (F : Specs) : Cf := { E := { tab := tab, imm := [] }, F := F, gl := glob, N := 148, keep := [0, 1, 2, 3, 4, 10, 11, 12, 13, 14, 15, 16, 17, 18, 19, 20, 25, 32, 39, 56, 75, 80, 97, 125] }
@[reducible] noncomputable def fn_slices_pdqsortCmpFunc_api_Edge : Func := Tryd.f44
theorem wf_slices_pdqsortCmpFunc_api_Edge : FnOK SP fi_slices_pdqsortCmpFunc_api_Edge fn_slices_pdqsortCmpFunc_api_Edge 148 := ⟨Tryd.func44, by kernel_rfl, by kernel_rfl, Tryd.ntmps44⟩
@[reducible] def fi_math_bits_Len : Nat := 45
noncomputable def cf_math_bits_Len (F : Specs) : Cf := { E := { tab := tab, imm := [] }, F := F, gl := glob, N := 8, keep := [0, 2] }
@[reducible] noncomputable def fn_math_bits_Len : Func := Tryd.f45
theorem wf_math_bits_Len : FnOK SP fi_math_bits_Len fn_math_bits_Len 8 := ⟨Tryd.func45, by kernel_rfl, by kernel_rfl, Tryd.ntmps45⟩
@[reducible] def fi_cmp_isNaN_int : Nat := 46
noncomputable def cf_cmp_isNaN_int (F : Specs) : Cf := { E := { tab := tab, imm := [] }, F := F, gl := glob, N := 6, keep := [0, 2] }
@[reducible] noncomputable def fn_cmp_isNaN_int : Func := Tryd.f46
theorem wf_cmp_isNaN_int : FnOK SP fi_cmp_isNaN_int fn_cmp_isNaN_int 6 := ⟨Tryd.func46, by kernel_rfl, by kernel_rfl, Tryd.ntmps46⟩
@[reducible] def fi_slices_ContainsFunc_sl_api_Weigh_api_Weigh : Nat := 47
noncomputable def cf_slices_ContainsFunc_sl_api_Weigh_api_Weigh (F : Specs) : Cf := { E := { tab := tab, imm := [] }, F := F, gl := glob, N := 9, keep := [0, 1, 4] }
@[reducible] noncomputable def fn_slices_ContainsFunc_sl_api_Weigh_api_Weigh : Func := Tryd.f47
theorem wf_slices_ContainsFunc_sl_api_Weigh_api_Weigh : FnOK SP fi_slices_ContainsFunc_sl_api_Weigh_api_Weigh fn_slices_ContainsFunc_sl_api_Weigh_api_Weigh 9 := ⟨Tryd.func47, by kernel_rfl, by kernel_rfl, Tryd.ntmps47⟩
@[reducible] def fi_match_valid_1 : Nat := 48
noncomputable def cf_match_valid_1 (F : Specs) : Cf := { E := { tab := tab, imm := [1] }, F := F, gl := glob, N := 42, keep := [0, 1, 2, 3] }
@[reducible] noncomputable def fn_match_valid_1 : Func := Tryd.f48
theorem wf_match_valid_1 : FnOK SP fi_match_valid_1 fn_match_valid_1 42 := ⟨Tryd.func48, by kernel_rfl, by kernel_rfl, Tryd.ntmps48⟩
@[reducible] def fi_ratio_Valid : Nat := 49
noncomputable def cf_ratio_Valid (F : Specs) : Cf := { E := { tab := tab, imm := [1] }, F := F, gl := glob, N := 28, keep := [0, 1, 2] }
@[reducible] noncomputable def fn_ratio_Valid : Func := Tryd.f49
theorem wf_ratio_Valid : FnOK SP fi_ratio_Valid fn_ratio_Valid 28 := ⟨Tryd.func49, by kernel_rfl, by kernel_rfl, Tryd.ntmps49⟩
@[reducible] def fi_ratio_Cmp : Nat := 50
noncomputable def cf_ratio_Cmp (F : Specs) : Cf := { E := { tab := tab, imm := [2, 3] }, F := F, gl := glob, N := 31, keep := [0, 1, 2, 3, 4, 5, 13, 25, 28] }
@[reducible] noncomputable def fn_ratio_Cmp : Func := Tryd.f50
theorem wf_ratio_Cmp : FnOK SP fi_ratio_Cmp fn_ratio_Cmp 31 := ⟨Tryd.func50, by kernel_rfl, by kernel_rfl, Tryd.ntmps50⟩
@[reducible] def fi_ref01_Gcd : Nat := 51
noncomputable def cf_ref01_Gcd (F : Specs) : Cf := { E := { tab := tab, imm := [] }, F := F, gl := glob, N := 12, keep := [0, 1, 4, 6] }
@[reducible] noncomputable def fn_ref01_Gcd : Func := Tryd.f51
theorem wf_ref01_Gcd : FnOK SP fi_ref01_Gcd fn_ref01_Gcd 12 := ⟨Tryd.func51, by kernel_rfl, by kernel_rfl, Tryd.ntmps51⟩
@[reducible] def fi_ref01_size : Nat := 52
noncomputable def cf_ref01_size (F : Specs) : Cf := { E := { tab := tab, imm := [] }, F := F, gl := glob, N := 10, keep := [0, 2, 4] }
@[reducible] noncomputable def fn_ref01_size : Func := Tryd.f52
theorem wf_ref01_size : FnOK SP fi_ref01_size fn_ref01_size 10 := ⟨Tryd.func52, by kernel_rfl, by kernel_rfl, Tryd.ntmps52⟩
@[reducible] def fi_measure_Edit : Nat := 53
noncomputable def cf_measure_Edit (F : Specs) : Cf := { E := { tab := tab, imm := [] }, F := F, gl := glob, N := 88, keep := [0, 1, 4, 5, 6, 7, 8, 9, 10, 15, 23, 24, 25, 33, 34, 35, 45, 46, 47, 55] }
@[reducible] noncomputable def fn_measure_Edit : Func := Tryd.f53
theorem wf_measure_Edit : FnOK SP fi_measure_Edit fn_measure_Edit 88 := ⟨Tryd.func53, by kernel_rfl, by kernel_rfl, Tryd.ntmps53⟩
@[reducible] def fi_strings_Join : Nat := 54
noncomputable def cf_strings_Join (F : Specs) : Cf := { E := { tab := tab, imm := [] }, F := F, gl := glob, N := 75, keep := [0, 1, 4, 5, 7, 8, 10, 12, 13, 15, 22, 29, 39, 40, 41, 42, 49, 63, 64, 65, 66] }
@[reducible] noncomputable def fn_strings_Join : Func := Tryd.f54
theorem wf_strings_Join : FnOK SP fi_strings_Join fn_strings_Join 75 := ⟨Tryd.func54, by kernel_rfl, by kernel_rfl, Tryd.ntmps54⟩
@[reducible] def fi_slices_Collect_string : Nat := 55
noncomputable def cf_slices_Collect_string (F : Specs) : Cf := { E := { tab := tab, imm := [] }, F := F, gl := glob, N := 5, keep := [0, 2] }
@[reducible] noncomputable def fn_slices_Collect_string : Func := Tryd.f55
theorem wf_slices_Collect_string : FnOK SP fi_slices_Collect_string fn_slices_Collect_string 5 := ⟨Tryd.func55, by kernel_rfl, by kernel_rfl, Tryd.ntmps55⟩
@[reducible] def fi_words_all : Nat := 56
noncomputable def cf_words_all (F : Specs) : Cf := { E := { tab := tab, imm := [1] }, F := F, gl := glob, N := 4, keep := [0, 1, 2] }
@[reducible] noncomputable def fn_words_all : Func := Tryd.f56
theorem wf_words_all : FnOK SP fi_words_all fn_words_all 4 := ⟨Tryd.func56, by kernel_rfl, by kernel_rfl, Tryd.ntmps56⟩
@[reducible] def fi_words_sorted : Nat := 57
noncomputable def cf_words_sorted (F : Specs) : Cf := { E := { tab := tab, imm := [] }, F := F, gl := glob, N := 18, keep := [0, 2, 3, 4, 6, 8] }
@[reducible] noncomputable def fn_words_sorted : Func := Tryd.f57
theorem wf_words_sorted : FnOK SP fi_words_sorted fn_words_sorted 18 := ⟨Tryd.func57, by kernel_rfl, by kernel_rfl, Tryd.ntmps57⟩
@[reducible] def fi_ratio_Make : Nat := 58
noncomputable def cf_ratio_Make (F : Specs) : Cf := { E := { tab := tab, imm := [] }, F := F, gl := glob, N := 21, keep := [0, 1, 4, 5, 7] }
@[reducible] noncomputable def fn_ratio_Make : Func := Tryd.f58
theorem wf_ratio_Make : FnOK SP fi_ratio_Make fn_ratio_Make 21 := ⟨Tryd.func58, by kernel_rfl, by kernel_rfl, Tryd.ntmps58⟩
@[reducible] def fi_slices_insertionSortCmpFunc_api_Edge : Nat := 59
noncomputable def cf_slices_insertionSortCmpFunc_api_Edge (F : Specs) : Cf := { E := { tab := tab, imm := [] }, F := F, gl := glob, N := 53, keep := [0, 1, 2, 3, 8, 9, 14, 34] }
@[reducible] noncomputable def fn_slices_insertionSortCmpFunc_api_Edge : Func := Tryd.f59
theorem wf_slices_insertionSortCmpFunc_api_Edge : FnOK SP fi_slices_insertionSortCmpFunc_api_Edge fn_slices_insertionSortCmpFunc_api_Edge 53 := ⟨Tryd.func59, by kernel_rfl, by kernel_rfl, Tryd.ntmps59⟩
@[reducible] def fi_slices_heapSortCmpFunc_api_Edge : Nat := 60
noncomputable def cf_slices_heapSortCmpFunc_api_Edge (F : Specs) : Cf := { E := { tab := tab, imm := [] }, F := F, gl := glob, N := 60, keep := [0, 1, 2, 3, 8, 9, 10, 11, 12, 21, 33] }
@[reducible] noncomputable def fn_slices_heapSortCmpFunc_api_Edge : Func := Tryd.f60
theorem wf_slices_heapSortCmpFunc_api_Edge : FnOK SP fi_slices_heapSortCmpFunc_api_Edge fn_slices_heapSortCmpFunc_api_Edge 60 := ⟨Tryd.func60, by kernel_rfl, by kernel_rfl, Tryd.ntmps60⟩
@[reducible] def fi_slices_breakPatternsCmpFunc_api_Edge : Nat := 61
noncomputable def cf_slices_breakPatternsCmpFunc_api_Edge (F : Specs) : Cf := { E := { tab := tab, imm := [] }, F := F, gl := glob, N := 67, keep := [0, 1, 2, 8, 9, 10, 11, 12, 17, 35, 45] }
@[reducible] noncomputable def fn_slices_breakPatternsCmpFunc_api_Edge : Func := Tryd.f61
theorem wf_slices_breakPatternsCmpFunc_api_Edge : FnOK SP fi_slices_breakPatternsCmpFunc_api_Edge fn_slices_breakPatternsCmpFunc_api_Edge 67 := ⟨Tryd.func61, by kernel_rfl, by kernel_rfl, Tryd.ntmps61⟩
@[reducible] def fi_slices_choosePivotCmpFunc_api_Edge : Nat := 62
noncomputable def cf_slices_choosePivotCmpFunc_api_Edge (F : Specs) : Cf := { E := { tab := tab, imm := [] }, F := F, gl := glob, N := 63, keep := [0, 1, 2, 3, 8, 9, 10, 11, 12, 13, 14, 34, 36, 55, 57, 60] }
@[reducible] noncomputable def fn_slices_choosePivotCmpFunc_api_Edge : Func := Tryd.f62
theorem wf_slices_choosePivotCmpFunc_api_Edge : FnOK SP fi_slices_choosePivotCmpFunc_api_Edge fn_slices_choosePivotCmpFunc_api_Edge 63 := ⟨Tryd.func62, by kernel_rfl, by kernel_rfl, Tryd.ntmps62⟩
@[reducible] def fi_slices_reverseRangeCmpFunc_api_Edge : Nat := 63
noncomputable def cf_slices_reverseRangeCmpFunc_api_Edge (F : Specs) : Cf := { E := { tab := tab, imm := [] }, F := F, gl := glob, N := 34, keep := [0, 1, 2, 8, 9, 15] }
@[reducible] noncomputable def fn_slices_reverseRangeCmpFunc_api_Edge : Func := Tryd.f63
theorem wf_slices_reverseRangeCmpFunc_api_Edge : FnOK SP fi_slices_reverseRangeCmpFunc_api_Edge fn_slices_reverseRangeCmpFunc_api_Edge 34 := ⟨Tryd.func63, by kernel_rfl, by kernel_rfl, Tryd.ntmps63⟩
@[reducible] def fi_slices_partialInsertionSortCmpFunc_api_Edge : Nat := 64
noncomputable def cf_slices_partialInsertionSortCmpFunc_api_Edge (F : Specs) : Cf := { E := { tab := tab, imm := [] }, F := F, gl := glob, N := 141, keep := [0, 1, 2, 3, 8, 9, 10, 11, 12, 16, 36, 41, 45, 65, 69, 84, 104, 109, 124] }
@[reducible] noncomputable def fn_slices_partialInsertionSortCmpFunc_api_Edge : Func := Tryd.f64
theorem wf_slices_partialInsertionSortCmpFunc_api_Edge : FnOK SP fi_slices_partialInsertionSortCmpFunc_api_Edge fn_slices_partialInsertionSortCmpFunc_api_Edge 141 := ⟨Tryd.func64, by kernel_rfl, by kernel_rfl, Tryd.ntmps64⟩
@[reducible] def fi_slices_partitionEqualCmpFunc_api_Edge : Nat := 65
noncomputable def cf_slices_partitionEqualCmpFunc_api_Edge (F : Specs) : Cf := { E := { tab := tab, imm := [] }, F := F, gl := glob, N := 90, keep := [0, 1, 2, 3, 4, 10, 11, 12, 47, 65, 70] }
@[reducible] noncomputable def fn_slices_partitionEqualCmpFunc_api_Edge : Func := Tryd.f65
theorem wf_slices_partitionEqualCmpFunc_api_Edge : FnOK SP fi_slices_partitionEqualCmpFunc_api_Edge fn_slices_partitionEqualCmpFunc_api_Edge 90 := ⟨Tryd.func65, by kernel_rfl, by kernel_rfl, Tryd.ntmps65⟩
@[reducible] def fi_slices_partitionCmpFunc_api_Edge : Nat := 66
noncomputable def cf_slices_partitionCmpFunc_api_Edge (F : Specs) : Cf := { E := { tab := tab, imm := [] }, F := F, gl := glob, N := 178, keep := [0, 1, 2, 3, 4, 10, 11, 12, 13, 47, 66, 71, 120, 139, 144] }
@[reducible] noncomputable def fn_slices_partitionCmpFunc_api_Edge : Func := Tryd.f66
theorem wf_slices_partitionCmpFunc_api_Edge : FnOK SP fi_slices_partitionCmpFunc_api_Edge fn_slices_partitionCmpFunc_api_Edge 178 := ⟨Tryd.func66, by kernel_rfl, by kernel_rfl, Tryd.ntmps66⟩
@[reducible] def fi_math_bits_Len32 : Nat := 67
noncomputable def cf_math_bits_Len32 (F : Specs) : Cf := { E := { tab := tab, imm := [] }, F := F, gl := glob, N := 19, keep := [0, 2, 4, 8] }
@[reducible] noncomputable def fn_math_bits_Len32 : Func := Tryd.f67
theorem wf_math_bits_Len32 : FnOK SP fi_math_bits_Len32 fn_math_bits_Len32 19 := ⟨Tryd.func67, by kernel_rfl, by kernel_rfl, Tryd.ntmps67⟩
@[reducible] def fi_math_bits_Len64 : Nat := 68
noncomputable def cf_math_bits_Len64 (F : Specs) : Cf := { E := { tab := tab, imm := [] }, F := F, gl := glob, N := 25, keep := [0, 2, 4, 8, 14] }
@[reducible] noncomputable def fn_math_bits_Len64 : Func := Tryd.f68
theorem wf_math_bits_Len64 : FnOK SP fi_math_bits_Len64 fn_math_bits_Len64 25 := ⟨Tryd.func68, by kernel_rfl, by kernel_rfl, Tryd.ntmps68⟩
@[reducible] def fi_slices_IndexFunc_sl_api_Weigh_api_Weigh : Nat := 69
noncomputable def cf_slices_IndexFunc_sl_api_Weigh_api_Weigh (F : Specs) : Cf := { E := { tab := tab, imm := [] }, F := F, gl := glob, N := 19, keep := [0, 1, 4, 5, 7, 8, 9, 16] }
@[reducible] noncomputable def fn_slices_IndexFunc_sl_api_Weigh_api_Weigh : Func := Tryd.f69
theorem wf_slices_IndexFunc_sl_api_Weigh_api_Weigh : FnOK SP fi_slices_IndexFunc_sl_api_Weigh_api_Weigh fn_slices_IndexFunc_sl_api_Weigh_api_Weigh 19 := ⟨Tryd.func69, by kernel_rfl, by kernel_rfl, Tryd.ntmps69⟩
@[reducible] def fi_ratio_magnitude_int : Nat := 70
noncomputable def cf_ratio_magnitude_int (F : Specs) : Cf := { E := { tab := tab, imm := [] }, F := F, gl := glob, N := 10, keep := [0, 2, 4] }
@[reducible] noncomputable def fn_ratio_magnitude_int : Func := Tryd.f70
theorem wf_ratio_magnitude_int : FnOK SP fi_ratio_magnitude_int fn_ratio_magnitude_int 10 := ⟨Tryd.func70, by kernel_rfl, by kernel_rfl, Tryd.ntmps70⟩
@[reducible] def fi_ratio_common : Nat := 71
noncomputable def cf_ratio_common (F : Specs) : Cf := { E := { tab := tab, imm := [] }, F := F, gl := glob, N := 20, keep := [0, 2, 3, 5, 6, 7, 8, 9, 13] }
@[reducible] noncomputable def fn_ratio_common : Func := Tryd.f71
theorem wf_ratio_common : FnOK SP fi_ratio_common fn_ratio_common 20 := ⟨Tryd.func71, by kernel_rfl, by kernel_rfl, Tryd.ntmps71⟩
@[reducible] def fi_measure_least : Nat := 72
noncomputable def cf_measure_least (F : Specs) : Cf := { E := { tab := tab, imm := [] }, F := F, gl := glob, N := 18, keep := [0, 1, 4, 6, 7, 8, 9, 10] }
@[reducible] noncomputable def fn_measure_least : Func := Tryd.f72
theorem wf_measure_least : FnOK SP fi_measure_least fn_measure_least 18 := ⟨Tryd.func72, by kernel_rfl, by kernel_rfl, Tryd.ntmps72⟩
@[reducible] def fi_strings_Builder_Grow : Nat := 73
noncomputable def cf_strings_Builder_Grow (F : Specs) : Cf := { E := { tab := tab, imm := [] }, F := F, gl := glob, N := 25, keep := [0, 1, 7, 21] }
@[reducible] noncomputable def fn_strings_Builder_Grow : Func := Tryd.f73
theorem wf_strings_Builder_Grow : FnOK SP fi_strings_Builder_Grow fn_strings_Builder_Grow 25 := ⟨Tryd.func73, by kernel_rfl, by kernel_rfl, Tryd.ntmps73⟩
@[reducible] def fi_strings_Builder_WriteString : Nat := 74
noncomputable def cf_strings_Builder_WriteString (F : Specs) : Cf := { E := { tab := tab, imm := [] }, F := F, gl := glob, N := 19, keep := [0, 1, 4, 5] }
@[reducible] noncomputable def fn_strings_Builder_WriteString : Func := Tryd.f74
theorem wf_strings_Builder_WriteString : FnOK SP fi_strings_Builder_WriteString fn_strings_Builder_WriteString 19 := ⟨Tryd.func74, by kernel_rfl, by kernel_rfl, Tryd.ntmps74⟩
@[reducible] def fi_strings_Builder_String : Nat := 75
noncomputable def cf_strings_Builder_String (F : Specs) : Cf := { E := { tab := tab, imm := [] }, F := F, gl := glob, N := 14, keep := [0, 2] }
@[reducible] noncomputable def fn_strings_Builder_String : Func := Tryd.f75
theorem wf_strings_Builder_String : FnOK SP fi_strings_Builder_String fn_strings_Builder_String 14 := ⟨Tryd.func75, by kernel_rfl, by kernel_rfl, Tryd.ntmps75⟩
@[reducible] def fi_slices_AppendSeq_sl_string_string : Nat := 76
noncomputable def cf_slices_AppendSeq_sl_string_string (F : Specs) : Cf := { E := { tab := tab, imm := [] }, F := F, gl := glob, N := 13, keep := [0, 1, 2, 4, 5, 6, 7] }
@[reducible] noncomputable def fn_slices_AppendSeq_sl_string_string : Func := Tryd.f76
theorem wf_slices_AppendSeq_sl_string_string : FnOK SP fi_slices_AppendSeq_sl_string_string fn_slices_AppendSeq_sl_string_string 13 := ⟨Tryd.func76, by kernel_rfl, by kernel_rfl, Tryd.ntmps76⟩
@[reducible] def fi_words_all_1 : Nat := 77
noncomputable def cf_words_all_1 (F : Specs) : Cf := { E := { tab := tab, imm := [2] }, F := F, gl := glob, N := 29, keep := [0, 1, 2, 3, 4, 5, 6, 9, 10, 11, 18, 25] }
@[reducible] noncomputable def fn_words_all_1 : Func := Tryd.f77
theorem wf_words_all_1 : FnOK SP fi_words_all_1 fn_words_all_1 29 := ⟨Tryd.func77, by kernel_rfl, by kernel_rfl, Tryd.ntmps77⟩
@[reducible] def fi_words_all_1_1 : Nat := 78
noncomputable def cf_words_all_1_1 (F : Specs) : Cf := { E := { tab := tab, imm := [] }, F := F, gl := glob, N := 15, keep := [0, 1, 2, 3] }
@[reducible] noncomputable def fn_words_all_1_1 : Func := Tryd.f78
theorem wf_words_all_1_1 : FnOK SP fi_words_all_1_1 fn_words_all_1_1 15 := ⟨Tryd.func78, by kernel_rfl, by kernel_rfl, Tryd.ntmps78⟩
@[reducible] def fi_words_lower : Nat := 79
noncomputable def cf_words_lower (F : Specs) : Cf := { E := { tab := tab, imm := [] }, F := F, gl := glob, N := 27, keep := [0, 2, 3, 13] }
@[reducible] noncomputable def fn_words_lower : Func := Tryd.f79
theorem wf_words_lower : FnOK SP fi_words_lower fn_words_lower 27 := ⟨Tryd.func79, by kernel_rfl, by kernel_rfl, Tryd.ntmps79⟩
@[reducible] def fi_slices_Sort_sl_string_string : Nat := 80
noncomputable def cf_slices_Sort_sl_string_string (F : Specs) : Cf := { E := { tab := tab, imm := [] }, F := F, gl := glob, N := 11, keep := [0, 2] }
@[reducible] noncomputable def fn_slices_Sort_sl_string_string : Func := Tryd.f80
theorem wf_slices_Sort_sl_string_string : FnOK SP fi_slices_Sort_sl_string_string fn_slices_Sort_sl_string_string 11 := ⟨Tryd.func80, by kernel_rfl, by kernel_rfl, Tryd.ntmps80⟩
@[reducible] def fi_ratio_reduced : Nat := 81
noncomputable def cf_ratio_reduced (F : Specs) : Cf := { E := { tab := tab, imm := [] }, F := F, gl := glob, N := 40, keep := [0, 1, 2, 6, 7, 8, 19, 27] }
@[reducible] noncomputable def fn_ratio_reduced : Func := Tryd.f81
theorem wf_ratio_reduced : FnOK SP fi_ratio_reduced fn_ratio_reduced 40 := ⟨Tryd.func81, by kernel_rfl, by kernel_rfl, Tryd.ntmps81⟩
@[reducible] def fi_slices_siftDownCmpFunc_api_Edge : Nat := 82
noncomputable def cf_slices_siftDownCmpFunc_api_Edge (F : Specs) : Cf := { E := { tab := tab, imm := [] }, F := F, gl := glob, N := 82, keep := [0, 1, 2, 3, 4, 10, 11, 18, 40, 58] }
@[reducible] noncomputable def fn_slices_siftDownCmpFunc_api_Edge : Func := Tryd.f82
theorem wf_slices_siftDownCmpFunc_api_Edge : FnOK SP fi_slices_siftDownCmpFunc_api_Edge fn_slices_siftDownCmpFunc_api_Edge 82 := ⟨Tryd.func82, by kernel_rfl, by kernel_rfl, Tryd.ntmps82⟩
@[reducible] def fi_slices_nextPowerOfTwo : Nat := 83
noncomputable def cf_slices_nextPowerOfTwo (F : Specs) : Cf := { E := { tab := tab, imm := [] }, F := F, gl := glob, N := 7, keep := [0, 2] }
@[reducible] noncomputable def fn_slices_nextPowerOfTwo : Func := Tryd.f83
theorem wf_slices_nextPowerOfTwo : FnOK SP fi_slices_nextPowerOfTwo fn_slices_nextPowerOfTwo 7 := ⟨Tryd.func83, by kernel_rfl, by kernel_rfl, Tryd.ntmps83⟩
@[reducible] def fi_slices_xorshift_Next : Nat := 84
noncomputable def cf_slices_xorshift_Next (F : Specs) : Cf := { E := { tab := tab, imm := [] }, F := F, gl := glob, N := 33, keep := [0, 2] }
@[reducible] noncomputable def fn_slices_xorshift_Next : Func := Tryd.f84
theorem wf_slices_xorshift_Next : FnOK SP fi_slices_xorshift_Next fn_slices_xorshift_Next 33 := ⟨Tryd.func84, by kernel_rfl, by kernel_rfl, Tryd.ntmps84⟩
@[reducible] def fi_slices_medianAdjacentCmpFunc_api_Edge : Nat := 85
noncomputable def cf_slices_medianAdjacentCmpFunc_api_Edge (F : Specs) : Cf := { E := { tab := tab, imm := [] }, F := F, gl := glob, N := 18, keep := [0, 1, 2, 3, 8] }
@[reducible] noncomputable def fn_slices_medianAdjacentCmpFunc_api_Edge : Func := Tryd.f85
theorem wf_slices_medianAdjacentCmpFunc_api_Edge : FnOK SP fi_slices_medianAdjacentCmpFunc_api_Edge fn_slices_medianAdjacentCmpFunc_api_Edge 18 := ⟨Tryd.func85, by kernel_rfl, by kernel_rfl, Tryd.ntmps85⟩
@[reducible] def fi_slices_medianCmpFunc_api_Edge : Nat := 86
noncomputable def cf_slices_medianCmpFunc_api_Edge (F : Specs) : Cf := { E := { tab := tab, imm := [] }, F := F, gl := glob, N := 41, keep := [0, 1, 2, 3, 4, 5, 12] }
@[reducible] noncomputable def fn_slices_medianCmpFunc_api_Edge : Func := Tryd.f86
theorem wf_slices_medianCmpFunc_api_Edge : FnOK SP fi_slices_medianCmpFunc_api_Edge fn_slices_medianCmpFunc_api_Edge 41 := ⟨Tryd.func86, by kernel_rfl, by kernel_rfl, Tryd.ntmps86⟩
@[reducible] def fi_strings_Builder_copyCheck : Nat := 87
noncomputable def cf_strings_Builder_copyCheck (F : Specs) : Cf := { E := { tab := tab, imm := [] }, F := F, gl := glob, N := 20, keep := [0, 6, 19] }
@[reducible] noncomputable def fn_strings_Builder_copyCheck : Func := Tryd.f87
theorem wf_strings_Builder_copyCheck : FnOK SP fi_strings_Builder_copyCheck fn_strings_Builder_copyCheck 20 := ⟨Tryd.func87, by kernel_rfl, by kernel_rfl, Tryd.ntmps87⟩
@[reducible] def fi_strings_Builder_grow : Nat := 88
noncomputable def cf_strings_Builder_grow (F : Specs) : Cf := { E := { tab := tab, imm := [] }, F := F, gl := glob, N := 30, keep := [0, 1, 4] }
@[reducible] noncomputable def fn_strings_Builder_grow : Func := Tryd.f88
theorem wf_strings_Builder_grow : FnOK SP fi_strings_Builder_grow fn_strings_Builder_grow 30 := ⟨Tryd.func88, by kernel_rfl, by kernel_rfl, Tryd.ntmps88⟩
@[reducible] def fi_slices_pdqsortOrdered_string : Nat := 89
noncomputable def cf_slices_pdqsortOrdered_string (F : Specs) : Cf := { E := { tab := tab, imm := [] }, F := F, gl := glob, N := 134, keep := [0, 1, 2, 3, 8, 9, 10, 11, 12, 13, 14, 15, 16, 17, 18, 23, 29, 35, 50, 68, 72, 87, 113] }
@[reducible] noncomputable def fn_slices_pdqsortOrdered_string : Func := Tryd.f89
theorem wf_slices_pdqsortOrdered_string : FnOK SP fi_slices_pdqsortOrdered_string fn_slices_pdqsortOrdered_string 134 := ⟨Tryd.func89, by kernel_rfl, by kernel_rfl, Tryd.ntmps89⟩
@[reducible] def fi_slices_order2CmpFunc_api_Edge : Nat := 90
noncomputable def cf_slices_order2CmpFunc_api_Edge (F : Specs) : Cf := { E := { tab := tab, imm := [] }, F := F, gl := glob, N := 32, keep := [0, 1, 2, 3, 4, 10, 11, 22] }
@[reducible] noncomputable def fn_slices_order2CmpFunc_api_Edge : Func := Tryd.f90
theorem wf_slices_order2CmpFunc_api_Edge : FnOK SP fi_slices_order2CmpFunc_api_Edge fn_slices_order2CmpFunc_api_Edge 32 := ⟨Tryd.func90, by kernel_rfl, by kernel_rfl, Tryd.ntmps90⟩
@[reducible] def fi_slices_insertionSortOrdered_string : Nat := 93
noncomputable def cf_slices_insertionSortOrdered_string (F : Specs) : Cf := { E := { tab := tab, imm := [] }, F := F, gl := glob, N := 49, keep := [0, 1, 2, 6, 7, 12, 30] }
@[reducible] noncomputable def fn_slices_insertionSortOrdered_string : Func := Tryd.f93
theorem wf_slices_insertionSortOrdered_string : FnOK SP fi_slices_insertionSortOrdered_string fn_slices_insertionSortOrdered_string 49 := ⟨Tryd.func93, by kernel_rfl, by kernel_rfl, Tryd.ntmps93⟩
@[reducible] def fi_slices_heapSortOrdered_string : Nat := 94
noncomputable def cf_slices_heapSortOrdered_string (F : Specs) : Cf := { E := { tab := tab, imm := [] }, F := F, gl := glob, N := 56, keep := [0, 1, 2, 6, 7, 8, 9, 10, 19, 30] }
@[reducible] noncomputable def fn_slices_heapSortOrdered_string : Func := Tryd.f94
theorem wf_slices_heapSortOrdered_string : FnOK SP fi_slices_heapSortOrdered_string fn_slices_heapSortOrdered_string 56 := ⟨Tryd.func94, by kernel_rfl, by kernel_rfl, Tryd.ntmps94⟩
@[reducible] def fi_slices_breakPatternsOrdered_string : Nat := 95
noncomputable def cf_slices_breakPatternsOrdered_string (F : Specs) : Cf := { E := { tab := tab, imm := [] }, F := F, gl := glob, N := 65, keep := [0, 1, 2, 6, 7, 8, 9, 10, 15, 33, 43] }
@[reducible] noncomputable def fn_slices_breakPatternsOrdered_string : Func := Tryd.f95
theorem wf_slices_breakPatternsOrdered_string : FnOK SP fi_slices_breakPatternsOrdered_string fn_slices_breakPatternsOrdered_string 65 := ⟨Tryd.func95, by kernel_rfl, by kernel_rfl, Tryd.ntmps95⟩
@[reducible] def fi_slices_choosePivotOrdered_string : Nat := 96
noncomputable def cf_slices_choosePivotOrdered_string (F : Specs) : Cf := { E := { tab := tab, imm := [] }, F := F, gl := glob, N := 57, keep := [0, 1, 2, 6, 7, 8, 9, 10, 11, 12, 32, 34, 49, 51, 54] }
@[reducible] noncomputable def fn_slices_choosePivotOrdered_string : Func := Tryd.f96
theorem wf_slices_choosePivotOrdered_string : FnOK SP fi_slices_choosePivotOrdered_string fn_slices_choosePivotOrdered_string 57 := ⟨Tryd.func96, by kernel_rfl, by kernel_rfl, Tryd.ntmps96⟩
@[reducible] def fi_slices_reverseRangeOrdered_string : Nat := 97
noncomputable def cf_slices_reverseRangeOrdered_string (F : Specs) : Cf := { E := { tab := tab, imm := [] }, F := F, gl := glob, N := 32, keep := [0, 1, 2, 6, 7, 13] }
@[reducible] noncomputable def fn_slices_reverseRangeOrdered_string : Func := Tryd.f97
theorem wf_slices_reverseRangeOrdered_string : FnOK SP fi_slices_reverseRangeOrdered_string fn_slices_reverseRangeOrdered_string 32 := ⟨Tryd.func97, by kernel_rfl, by kernel_rfl, Tryd.ntmps97⟩
@[reducible] def fi_slices_partialInsertionSortOrdered_string : Nat := 98
noncomputable def cf_slices_partialInsertionSortOrdered_string (F : Specs) : Cf := { E := { tab := tab, imm := [] }, F := F, gl := glob, N := 133, keep := [0, 1, 2, 6, 7, 8, 9, 10, 14, 32, 37, 41, 61, 65, 78, 98, 103, 116] }
@[reducible] noncomputable def fn_slices_partialInsertionSortOrdered_string : Func := Tryd.f98
theorem wf_slices_partialInsertionSortOrdered_string : FnOK SP fi_slices_partialInsertionSortOrdered_string fn_slices_partialInsertionSortOrdered_string 133 := ⟨Tryd.func98, by kernel_rfl, by kernel_rfl, Tryd.ntmps98⟩
@[reducible] def fi_cmp_Less_string : Nat := 99
noncomputable def cf_cmp_Less_string (F : Specs) : Cf := { E := { tab := tab, imm := [] }, F := F, gl := glob, N := 17, keep := [0, 1, 4] }
@[reducible] noncomputable def fn_cmp_Less_string : Func := Tryd.f99
theorem wf_cmp_Less_string : FnOK SP fi_cmp_Less_string fn_cmp_Less_string 17 := ⟨Tryd.func99, by kernel_rfl, by kernel_rfl, Tryd.ntmps99⟩
@[reducible] def fi_slices_partitionEqualOrdered_string : Nat := 100
noncomputable def cf_slices_partitionEqualOrdered_string (F : Specs) : Cf := { E := { tab := tab, imm := [] }, F := F, gl := glob, N := 84, keep := [0, 1, 2, 3, 8, 9, 10, 43, 59, 64] }
@[reducible] noncomputable def fn_slices_partitionEqualOrdered_string : Func := Tryd.f100
theorem wf_slices_partitionEqualOrdered_string : FnOK SP fi_slices_partitionEqualOrdered_string fn_slices_partitionEqualOrdered_string 84 := ⟨Tryd.func100, by kernel_rfl, by kernel_rfl, Tryd.ntmps100⟩
@[reducible] def fi_slices_partitionOrdered_string : Nat := 101
noncomputable def cf_slices_partitionOrdered_string (F : Specs) : Cf := { E := { tab := tab, imm := [] }, F := F, gl := glob, N := 168, keep := [0, 1, 2, 3, 8, 9, 10, 11, 43, 60, 65, 112, 129, 134] }
@[reducible] noncomputable def fn_slices_partitionOrdered_string : Func := Tryd.f101
theorem wf_slices_partitionOrdered_string : FnOK SP fi_slices_partitionOrdered_string fn_slices_partitionOrdered_string 168 := ⟨Tryd.func101, by kernel_rfl, by kernel_rfl, Tryd.ntmps101⟩
@[reducible] def fi_slices_siftDownOrdered_string : Nat := 102
noncomputable def cf_slices_siftDownOrdered_string (F : Specs) : Cf := { E := { tab := tab, imm := [] }, F := F, gl := glob, N := 76, keep := [0, 1, 2, 3, 8, 9, 16, 36, 52] }
@[reducible] noncomputable def fn_slices_siftDownOrdered_string : Func := Tryd.f102
theorem wf_slices_siftDownOrdered_string : FnOK SP fi_slices_siftDownOrdered_string fn_slices_siftDownOrdered_string 76 := ⟨Tryd.func102, by kernel_rfl, by kernel_rfl, Tryd.ntmps102⟩
@[reducible] def fi_slices_medianAdjacentOrdered_string : Nat := 103
noncomputable def cf_slices_medianAdjacentOrdered_string (F : Specs) : Cf := { E := { tab := tab, imm := [] }, F := F, gl := glob, N := 15, keep := [0, 1, 2, 6] }
@[reducible] noncomputable def fn_slices_medianAdjacentOrdered_string : Func := Tryd.f103
theorem wf_slices_medianAdjacentOrdered_string : FnOK SP fi_slices_medianAdjacentOrdered_string fn_slices_medianAdjacentOrdered_string 15 := ⟨Tryd.func103, by kernel_rfl, by kernel_rfl, Tryd.ntmps103⟩
@[reducible] def fi_slices_medianOrdered_string : Nat := 104
noncomputable def cf_slices_medianOrdered_string (F : Specs) : Cf := { E := { tab := tab, imm := [] }, F := F, gl := glob, N := 36, keep := [0, 1, 2, 3, 4, 10] }
@[reducible] noncomputable def fn_slices_medianOrdered_string : Func := Tryd.f104
theorem wf_slices_medianOrdered_string : FnOK SP fi_slices_medianOrdered_string fn_slices_medianOrdered_string 36 := ⟨Tryd.func104, by kernel_rfl, by kernel_rfl, Tryd.ntmps104⟩
@[reducible] def fi_cmp_isNaN_string : Nat := 105
noncomputable def cf_cmp_isNaN_string (F : Specs) : Cf := { E := { tab := tab, imm := [] }, F := F, gl := glob, N := 6, keep := [0, 2] }
@[reducible] noncomputable def fn_cmp_isNaN_string : Func := Tryd.f105
theorem wf_cmp_isNaN_string : FnOK SP fi_cmp_isNaN_string fn_cmp_isNaN_string 6 := ⟨Tryd.func105, by kernel_rfl, by kernel_rfl, Tryd.ntmps105⟩
@[reducible] def fi_slices_order2Ordered_string : Nat := 106
noncomputable def cf_slices_order2Ordered_string (F : Specs) : Cf := { E := { tab := tab, imm := [] }, F := F, gl := glob, N := 28, keep := [0, 1, 2, 3, 8, 9, 18] }
@[reducible] noncomputable def fn_slices_order2Ordered_string : Func := Tryd.f106
theorem wf_slices_order2Ordered_string : FnOK SP fi_slices_order2Ordered_string fn_slices_order2Ordered_string 28 := ⟨Tryd.func106, by kernel_rfl, by kernel_rfl, Tryd.ntmps106⟩
end Go.Gv
