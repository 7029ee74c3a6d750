/- The seat's table of types and numbers of functions, printed by a program. -/
import Derived.Test.YtbidlahhpmdenaaDoorGf
import Derived.Test.YtbidlahhpmdenaaDoorChecked
import Derived.Test.YtbidlahhpmdenaaDoorRows
import Derived.Lib.ItoaNum
set_option linter.all false
namespace Go.Gv
open Go Go.Proofs Go.Proofs.YtbidlahhpmdenaaDoor

noncomputable def glob : Glob := fun g => match g with | 0 => some ⟨.arr 20 (.int .u64), Lib.pow10Tab⟩ | _ => none
@[reducible] noncomputable def SP : Program := Tryd.prog
theorem mix_ok : SP.follows .mixedOrders = true := by kernel_rfl
def tab : List (Nat × (Ty × Nat)) := [(2, .int .i64, 8), (3, .int .i64, 8), (4, .bool, 1), (5, .int .u8, 1), (9, .str, 16), (20, .ot 1, 16), (22, .sl (.st (.cs (.int .i64) (.cs (.sl (.st (.cs (.int .i64) (.cs (.int .i64) (.nl))))) (.nl)))), 24), (23, .sl (.st (.cs (.int .i64) (.cs (.sl (.st (.cs (.int .i64) (.cs (.int .i64) (.nl))))) (.nl)))), 24), (24, .sl (.int .i64), 24), (27, .int .i64, 8), (39, .sl (.st (.cs (.int .i64) (.cs (.int .i64) (.nl)))), 24), (41, .st (.cs (.int .i64) (.cs (.sl (.st (.cs (.int .i64) (.cs (.int .i64) (.nl))))) (.nl))), 32), (43, .st (.cs (.int .i64) (.cs (.int .i64) (.nl))), 16), (46, .mp (.str) (.st (.cs (.int .i64) (.cs (.sl (.st (.cs (.int .i64) (.cs (.int .i64) (.nl))))) (.nl)))), 8), (54, .ot 0, 8), (57, .sl (.str), 24), (61, .sl (.sl (.st (.cs (.int .i64) (.cs (.sl (.st (.cs (.int .i64) (.cs (.int .i64) (.nl))))) (.nl))))), 24), (64, .ot 0, 8), (66, .ot 0, 8), (72, .ot 0, 8), (73, .ot 2, 8), (74, .sl (.int .u8), 24), (76, .st (.cs (.ot 2) (.cs (.sl (.int .u8)) (.nl))), 32), (79, .ot 1, 16), (86, .int .u64, 8), (87, .sl (.sl (.st (.cs (.int .i64) (.cs (.int .i64) (.nl))))), 24), (90, .ot 2, 8), (92, .int .i64, 8), (100, .int .u32, 4), (102, .int .u64, 8), (103, .arr 24 (.int .u8), 24), (110, .int .u64, 8), (114, .ot 2, 8), (118, .arr 20 (.int .u64), 160), (119, .arr 65 (.int .u8), 65), (120, .ot 2, 8), (123, .arr 32 (.int .u8), 32), (124, .arr 64 (.int .u8), 64)]
theorem tab_ok0 : (Env.mk tab [] []).ok SP = true := by kernel_rfl
theorem tab_ok {rows : List Nat} : ∀ imm, (Env.mk tab imm rows).ok SP = true := by intro imm; have h := tab_ok0; unfold Env.ok at h ⊢; exact h
@[reducible] def fi_law15_PolyMatchesReference : Nat := 3
noncomputable def cf_law15_PolyMatchesReference (F : Specs) : Cf := { E := { tab := tab, imm := [] }, F := F, gl := glob, N := 168, keep := [0, 1, 2, 3, 8, 9, 10, 11, 12, 13, 14, 15, 16, 17, 18, 19, 20, 21, 22, 23, 24, 25, 26, 27, 28, 29, 30, 44] }
@[reducible] noncomputable def fn_law15_PolyMatchesReference : Func := Tryd.f3
theorem wf_law15_PolyMatchesReference : FnOK SP fi_law15_PolyMatchesReference fn_law15_PolyMatchesReference 168 := ⟨Tryd.func3, by kernel_rfl, by kernel_rfl, Tryd.ntmps3⟩
@[reducible] def fi_law15_PolyForm : Nat := 4
noncomputable def cf_law15_PolyForm (F : Specs) : Cf := { E := { tab := tab, imm := [] }, F := F, gl := glob, N := 78, keep := [0, 1, 4, 5, 6, 7, 8, 9, 10, 19, 50] }
@[reducible] noncomputable def fn_law15_PolyForm : Func := Tryd.f4
theorem wf_law15_PolyForm : FnOK SP fi_law15_PolyForm fn_law15_PolyForm 78 := ⟨Tryd.func4, by kernel_rfl, by kernel_rfl, Tryd.ntmps4⟩
@[reducible] def fi_law15_PolyLaws : Nat := 5
noncomputable def cf_law15_PolyLaws (F : Specs) : Cf := { E := { tab := tab, imm := [] }, F := F, gl := glob, N := 196, keep := [0, 1, 2, 6, 7, 8, 9, 10, 11, 12, 13, 14, 15, 16, 17, 18, 19, 20, 21, 22, 23, 24, 25, 39, 84, 120, 145, 169] }
@[reducible] noncomputable def fn_law15_PolyLaws : Func := Tryd.f5
theorem wf_law15_PolyLaws : FnOK SP fi_law15_PolyLaws fn_law15_PolyLaws 196 := ⟨Tryd.func5, by kernel_rfl, by kernel_rfl, Tryd.ntmps5⟩
@[reducible] def fi_law15_PolyValues : Nat := 6
noncomputable def cf_law15_PolyValues (F : Specs) : Cf := { E := { tab := tab, imm := [] }, F := F, gl := glob, N := 137, keep := [0, 1, 2, 6, 7, 8, 9, 10, 11, 12, 13, 14, 15, 16, 17, 18, 19, 33, 64, 111] }
@[reducible] noncomputable def fn_law15_PolyValues : Func := Tryd.f6
theorem wf_law15_PolyValues : FnOK SP fi_law15_PolyValues fn_law15_PolyValues 137 := ⟨Tryd.func6, by kernel_rfl, by kernel_rfl, Tryd.ntmps6⟩
@[reducible] def fi_law15_PolyUnits : Nat := 7
noncomputable def cf_law15_PolyUnits (F : Specs) : Cf := { E := { tab := tab, imm := [] }, F := F, gl := glob, N := 86, keep := [0, 2, 3, 4, 5, 6, 7, 8, 9, 10, 11, 12, 13, 22] }
@[reducible] noncomputable def fn_law15_PolyUnits : Func := Tryd.f7
theorem wf_law15_PolyUnits : FnOK SP fi_law15_PolyUnits fn_law15_PolyUnits 86 := ⟨Tryd.func7, by kernel_rfl, by kernel_rfl, Tryd.ntmps7⟩
@[reducible] def fi_law15_PolyDeletes : Nat := 8
noncomputable def cf_law15_PolyDeletes (F : Specs) : Cf := { E := { tab := tab, imm := [] }, F := F, gl := glob, N := 132, keep := [0, 1, 2, 6, 7, 8, 9, 10, 11, 12, 13, 14, 15, 16, 17, 36, 52, 62, 80, 101] }
@[reducible] noncomputable def fn_law15_PolyDeletes : Func := Tryd.f8
theorem wf_law15_PolyDeletes : FnOK SP fi_law15_PolyDeletes fn_law15_PolyDeletes 132 := ⟨Tryd.func8, by kernel_rfl, by kernel_rfl, Tryd.ntmps8⟩
@[reducible] def fi_law15_PolyTexts : Nat := 9
noncomputable def cf_law15_PolyTexts (F : Specs) : Cf := { E := { tab := tab, imm := [] }, F := F, gl := glob, N := 43, keep := [0, 1, 4, 5, 24] }
@[reducible] noncomputable def fn_law15_PolyTexts : Func := Tryd.f9
theorem wf_law15_PolyTexts : FnOK SP fi_law15_PolyTexts fn_law15_PolyTexts 43 := ⟨Tryd.func9, by kernel_rfl, by kernel_rfl, Tryd.ntmps9⟩
@[reducible] def fi_law15_head : Nat := 10
noncomputable def cf_law15_head (F : Specs) : Cf := { E := { tab := tab, imm := [] }, F := F, gl := glob, N := 140, keep := [0, 1, 2, 3, 4, 5, 6, 7, 8, 9, 10, 11, 12, 13, 14, 15, 16, 17, 18, 20, 112] }
@[reducible] noncomputable def fn_law15_head : Func := Tryd.f10
theorem wf_law15_head : FnOK SP fi_law15_head fn_law15_head 140 := ⟨Tryd.func10, by kernel_rfl, by kernel_rfl, Tryd.ntmps10⟩
@[reducible] def fi_ref15_Small : Nat := 11
noncomputable def cf_ref15_Small (F : Specs) : Cf := { E := { tab := tab, imm := [] }, F := F, gl := glob, N := 23, keep := [0, 1, 4, 5, 9, 18] }
@[reducible] noncomputable def fn_ref15_Small : Func := Tryd.f11
theorem wf_ref15_Small : FnOK SP fi_ref15_Small fn_ref15_Small 23 := ⟨Tryd.func11, by kernel_rfl, by kernel_rfl, Tryd.ntmps11⟩
@[reducible] def fi_poly_Add : Nat := 12
noncomputable def cf_poly_Add (F : Specs) : Cf := { E := { tab := tab, imm := [] }, F := F, gl := glob, N := 35, keep := [0, 1, 4, 5, 6, 8, 16, 21, 22, 23, 24] }
@[reducible] noncomputable def fn_poly_Add : Func := Tryd.f12
theorem wf_poly_Add : FnOK SP fi_poly_Add fn_poly_Add 35 := ⟨Tryd.func12, by kernel_rfl, by kernel_rfl, Tryd.ntmps12⟩
@[reducible] def fi_ref15_Add : Nat := 13
noncomputable def cf_ref15_Add (F : Specs) : Cf := { E := { tab := tab, imm := [] }, F := F, gl := glob, N := 35, keep := [0, 1, 4, 5, 6, 7, 15, 22] }
@[reducible] noncomputable def fn_ref15_Add : Func := Tryd.f13
theorem wf_ref15_Add : FnOK SP fi_ref15_Add fn_ref15_Add 35 := ⟨Tryd.func13, by kernel_rfl, by kernel_rfl, Tryd.ntmps13⟩
@[reducible] def fi_poly_Mul : Nat := 14
noncomputable def cf_poly_Mul (F : Specs) : Cf := { E := { tab := tab, imm := [] }, F := F, gl := glob, N := 52, keep := [0, 1, 4, 5, 6, 8, 10, 18, 20, 21, 22, 23, 26, 27, 28, 29] }
@[reducible] noncomputable def fn_poly_Mul : Func := Tryd.f14
theorem wf_poly_Mul : FnOK SP fi_poly_Mul fn_poly_Mul 52 := ⟨Tryd.func14, by kernel_rfl, by kernel_rfl, Tryd.ntmps14⟩
@[reducible] def fi_ref15_Mul : Nat := 15
noncomputable def cf_ref15_Mul (F : Specs) : Cf := { E := { tab := tab, imm := [] }, F := F, gl := glob, N := 59, keep := [0, 1, 4, 5, 6, 7, 8, 16, 20, 26] }
@[reducible] noncomputable def fn_ref15_Mul : Func := Tryd.f15
theorem wf_ref15_Mul : FnOK SP fi_ref15_Mul fn_ref15_Mul 59 := ⟨Tryd.func15, by kernel_rfl, by kernel_rfl, Tryd.ntmps15⟩
@[reducible] def fi_poly_Const : Nat := 16
noncomputable def cf_poly_Const (F : Specs) : Cf := { E := { tab := tab, imm := [] }, F := F, gl := glob, N := 17, keep := [0, 2, 3, 4, 11] }
@[reducible] noncomputable def fn_poly_Const : Func := Tryd.f16
theorem wf_poly_Const : FnOK SP fi_poly_Const fn_poly_Const 17 := ⟨Tryd.func16, by kernel_rfl, by kernel_rfl, Tryd.ntmps16⟩
@[reducible] def fi_ref15_Const : Nat := 17
noncomputable def cf_ref15_Const (F : Specs) : Cf := { E := { tab := tab, imm := [] }, F := F, gl := glob, N := 15, keep := [0, 2, 3, 9, 11] }
@[reducible] noncomputable def fn_ref15_Const : Func := Tryd.f17
theorem wf_ref15_Const : FnOK SP fi_ref15_Const fn_ref15_Const 15 := ⟨Tryd.func17, by kernel_rfl, by kernel_rfl, Tryd.ntmps17⟩
@[reducible] def fi_poly_Var : Nat := 18
noncomputable def cf_poly_Var (F : Specs) : Cf := { E := { tab := tab, imm := [] }, F := F, gl := glob, N := 15, keep := [0, 2, 3, 9] }
@[reducible] noncomputable def fn_poly_Var : Func := Tryd.f18
theorem wf_poly_Var : FnOK SP fi_poly_Var fn_poly_Var 15 := ⟨Tryd.func18, by kernel_rfl, by kernel_rfl, Tryd.ntmps18⟩
@[reducible] def fi_ref15_Var : Nat := 19
noncomputable def cf_ref15_Var (F : Specs) : Cf := { E := { tab := tab, imm := [] }, F := F, gl := glob, N := 15, keep := [0, 2, 3, 9] }
@[reducible] noncomputable def fn_ref15_Var : Func := Tryd.f19
theorem wf_ref15_Var : FnOK SP fi_ref15_Var fn_ref15_Var 15 := ⟨Tryd.func19, by kernel_rfl, by kernel_rfl, Tryd.ntmps19⟩
@[reducible] def fi_poly_Eval : Nat := 20
noncomputable def cf_poly_Eval (F : Specs) : Cf := { E := { tab := tab, imm := [] }, F := F, gl := glob, N := 89, keep := [0, 1, 4, 5, 7, 8, 9, 11, 12, 14, 21, 22, 23, 24, 25, 44, 46, 47, 48, 49, 55, 56, 57, 58, 66, 68, 69, 70, 87] }
@[reducible] noncomputable def fn_poly_Eval : Func := Tryd.f20
theorem wf_poly_Eval : FnOK SP fi_poly_Eval fn_poly_Eval 89 := ⟨Tryd.func20, by kernel_rfl, by kernel_rfl, Tryd.ntmps20⟩
@[reducible] def fi_ref15_Eval : Nat := 21
noncomputable def cf_ref15_Eval (F : Specs) : Cf := { E := { tab := tab, imm := [] }, F := F, gl := glob, N := 78, keep := [0, 1, 4, 5, 6, 7, 8, 9, 10, 13, 17, 31, 35, 45, 59, 63, 76] }
@[reducible] noncomputable def fn_ref15_Eval : Func := Tryd.f21
theorem wf_ref15_Eval : FnOK SP fi_ref15_Eval fn_ref15_Eval 78 := ⟨Tryd.func21, by kernel_rfl, by kernel_rfl, Tryd.ntmps21⟩
@[reducible] def fi_ref15_Same : Nat := 22
noncomputable def cf_ref15_Same (F : Specs) : Cf := { E := { tab := tab, imm := [] }, F := F, gl := glob, N := 71, keep := [0, 1, 4, 5, 6, 11, 15, 43, 51, 70] }
@[reducible] noncomputable def fn_ref15_Same : Func := Tryd.f22
theorem wf_ref15_Same : FnOK SP fi_ref15_Same fn_ref15_Same 71 := ⟨Tryd.func22, by kernel_rfl, by kernel_rfl, Tryd.ntmps22⟩
@[reducible] def fi_poly_Valid : Nat := 23
noncomputable def cf_poly_Valid (F : Specs) : Cf := { E := { tab := tab, imm := [] }, F := F, gl := glob, N := 72, keep := [0, 2, 3, 4, 5, 7, 8, 9, 10, 11, 38, 40, 41, 42, 43, 64] }
@[reducible] noncomputable def fn_poly_Valid : Func := Tryd.f23
theorem wf_poly_Valid : FnOK SP fi_poly_Valid fn_poly_Valid 72 := ⟨Tryd.func23, by kernel_rfl, by kernel_rfl, Tryd.ntmps23⟩
@[reducible] def fi_ref15_Valid : Nat := 24
noncomputable def cf_ref15_Valid (F : Specs) : Cf := { E := { tab := tab, imm := [] }, F := F, gl := glob, N := 103, keep := [0, 2, 3, 4, 5, 8, 12, 47, 55, 102] }
@[reducible] noncomputable def fn_ref15_Valid : Func := Tryd.f24
theorem wf_ref15_Valid : FnOK SP fi_ref15_Valid fn_ref15_Valid 103 := ⟨Tryd.func24, by kernel_rfl, by kernel_rfl, Tryd.ntmps24⟩
@[reducible] def fi_poly_Text : Nat := 25
noncomputable def cf_poly_Text (F : Specs) : Cf := { E := { tab := tab, imm := [] }, F := F, gl := glob, N := 47, keep := [0, 2, 3, 5, 6, 7, 11, 15, 16, 17, 18, 24, 30] }
@[reducible] noncomputable def fn_poly_Text : Func := Tryd.f25
theorem wf_poly_Text : FnOK SP fi_poly_Text fn_poly_Text 47 := ⟨Tryd.func25, by kernel_rfl, by kernel_rfl, Tryd.ntmps25⟩
@[reducible] def fi_ref15_Text : Nat := 26
noncomputable def cf_ref15_Text (F : Specs) : Cf := { E := { tab := tab, imm := [] }, F := F, gl := glob, N := 86, keep := [0, 2, 3, 4, 5, 6, 9, 12, 16, 20, 35, 44, 51, 55, 74] }
@[reducible] noncomputable def fn_ref15_Text : Func := Tryd.f26
theorem wf_ref15_Text : FnOK SP fi_ref15_Text fn_ref15_Text 86 := ⟨Tryd.func26, by kernel_rfl, by kernel_rfl, Tryd.ntmps26⟩
@[reducible] def fi_slices_Concat_api_Poly_api_Monomial : Nat := 27
noncomputable def cf_slices_Concat_api_Poly_api_Monomial (F : Specs) : Cf := { E := { tab := tab, imm := [] }, F := F, gl := glob, N := 36, keep := [0, 2, 3, 5, 6, 8, 9, 10, 11, 12, 20, 25, 26, 27, 28] }
@[reducible] noncomputable def fn_slices_Concat_api_Poly_api_Monomial : Func := Tryd.f27
theorem wf_slices_Concat_api_Poly_api_Monomial : FnOK SP fi_slices_Concat_api_Poly_api_Monomial fn_slices_Concat_api_Poly_api_Monomial 36 := ⟨Tryd.func27, by kernel_rfl, by kernel_rfl, Tryd.ntmps27⟩
@[reducible] def fi_poly_sum_put : Nat := 28
noncomputable def cf_poly_sum_put (F : Specs) : Cf := { E := { tab := tab, imm := [] }, F := F, gl := glob, N := 20, keep := [0, 1, 3, 4] }
@[reducible] noncomputable def fn_poly_sum_put : Func := Tryd.f28
theorem wf_poly_sum_put : FnOK SP fi_poly_sum_put fn_poly_sum_put 20 := ⟨Tryd.func28, by kernel_rfl, by kernel_rfl, Tryd.ntmps28⟩
@[reducible] def fi_poly_sum_result : Nat := 29
noncomputable def cf_poly_sum_result (F : Specs) : Cf := { E := { tab := tab, imm := [] }, F := F, gl := glob, N := 31, keep := [0, 2, 3, 4, 6, 8, 10, 20, 27] }
@[reducible] noncomputable def fn_poly_sum_result : Func := Tryd.f29
theorem wf_poly_sum_result : FnOK SP fi_poly_sum_result fn_poly_sum_result 31 := ⟨Tryd.func29, by kernel_rfl, by kernel_rfl, Tryd.ntmps29⟩
@[reducible] def fi_ref15_put : Nat := 30
noncomputable def cf_ref15_put (F : Specs) : Cf := { E := { tab := tab, imm := [3] }, F := F, gl := glob, N := 85, keep := [0, 1, 3, 4, 5, 6, 7, 8, 9, 14, 27, 45, 69] }
@[reducible] noncomputable def fn_ref15_put : Func := Tryd.f30
theorem wf_ref15_put : FnOK SP fi_ref15_put fn_ref15_put 85 := ⟨Tryd.func30, by kernel_rfl, by kernel_rfl, Tryd.ntmps30⟩
@[reducible] def fi_ref15_done : Nat := 31
noncomputable def cf_ref15_done (F : Specs) : Cf := { E := { tab := tab, imm := [] }, F := F, gl := glob, N := 42, keep := [0, 2, 3, 4, 5, 9, 17, 25, 37, 40] }
@[reducible] noncomputable def fn_ref15_done : Func := Tryd.f31
theorem wf_ref15_done : FnOK SP fi_ref15_done fn_ref15_done 42 := ⟨Tryd.func31, by kernel_rfl, by kernel_rfl, Tryd.ntmps31⟩
@[reducible] def fi_poly_times : Nat := 32
noncomputable def cf_poly_times (F : Specs) : Cf := { E := { tab := tab, imm := [] }, F := F, gl := glob, N := 76, keep := [0, 1, 4, 5, 13, 35, 53] }
@[reducible] noncomputable def fn_poly_times : Func := Tryd.f32
theorem wf_poly_times : FnOK SP fi_poly_times fn_poly_times 76 := ⟨Tryd.func32, by kernel_rfl, by kernel_rfl, Tryd.ntmps32⟩
@[reducible] def fi_ref15_times : Nat := 33
noncomputable def cf_ref15_times (F : Specs) : Cf := { E := { tab := tab, imm := [] }, F := F, gl := glob, N := 101, keep := [0, 1, 4, 5, 6, 7, 17, 40, 66] }
@[reducible] noncomputable def fn_ref15_times : Func := Tryd.f33
theorem wf_ref15_times : FnOK SP fi_ref15_times fn_ref15_times 101 := ⟨Tryd.func33, by kernel_rfl, by kernel_rfl, Tryd.ntmps33⟩
@[reducible] def fi_slices_ContainsFunc_sl_int_int : Nat := 34
noncomputable def cf_slices_ContainsFunc_sl_int_int (F : Specs) : Cf := { E := { tab := tab, imm := [] }, F := F, gl := glob, N := 9, keep := [0, 1, 4] }
@[reducible] noncomputable def fn_slices_ContainsFunc_sl_int_int : Func := Tryd.f34
theorem wf_slices_ContainsFunc_sl_int_int : FnOK SP fi_slices_ContainsFunc_sl_int_int fn_slices_ContainsFunc_sl_int_int 9 := ⟨Tryd.func34, by kernel_rfl, by kernel_rfl, Tryd.ntmps34⟩
@[reducible] def fi_poly_Eval_1 : Nat := 35
noncomputable def cf_poly_Eval_1 (F : Specs) : Cf := { E := { tab := tab, imm := [] }, F := F, gl := glob, N := 9, keep := [0, 2] }
@[reducible] noncomputable def fn_poly_Eval_1 : Func := Tryd.f35
theorem wf_poly_Eval_1 : FnOK SP fi_poly_Eval_1 fn_poly_Eval_1 9 := ⟨Tryd.func35, by kernel_rfl, by kernel_rfl, Tryd.ntmps35⟩
@[reducible] def fi_ref15_value : Nat := 36
noncomputable def cf_ref15_value (F : Specs) : Cf := { E := { tab := tab, imm := [2] }, F := F, gl := glob, N := 58, keep := [0, 1, 2, 4, 5, 6, 7, 8, 13, 25, 32, 42] }
@[reducible] noncomputable def fn_ref15_value : Func := Tryd.f36
theorem wf_ref15_value : FnOK SP fi_ref15_value fn_ref15_value 58 := ⟨Tryd.func36, by kernel_rfl, by kernel_rfl, Tryd.ntmps36⟩
@[reducible] def fi_poly_order : Nat := 37
noncomputable def cf_poly_order (F : Specs) : Cf := { E := { tab := tab, imm := [] }, F := F, gl := glob, N := 8, keep := [0, 1, 4] }
@[reducible] noncomputable def fn_poly_order : Func := Tryd.f37
theorem wf_poly_order : FnOK SP fi_poly_order fn_poly_order 8 := ⟨Tryd.func37, by kernel_rfl, by kernel_rfl, Tryd.ntmps37⟩
@[reducible] def fi_ref15_Order : Nat := 38
noncomputable def cf_ref15_Order (F : Specs) : Cf := { E := { tab := tab, imm := [] }, F := F, gl := glob, N := 74, keep := [0, 1, 4, 5, 15, 54, 63, 68, 73] }
@[reducible] noncomputable def fn_ref15_Order : Func := Tryd.f38
theorem wf_ref15_Order : FnOK SP fi_ref15_Order fn_ref15_Order 74 := ⟨Tryd.func38, by kernel_rfl, by kernel_rfl, Tryd.ntmps38⟩
@[reducible] def fi_poly_factors : Nat := 39
noncomputable def cf_poly_factors (F : Specs) : Cf := { E := { tab := tab, imm := [] }, F := F, gl := glob, N := 33, keep := [0, 2, 3, 5, 6, 7, 8, 9, 10, 19] }
@[reducible] noncomputable def fn_poly_factors : Func := Tryd.f39
theorem wf_poly_factors : FnOK SP fi_poly_factors fn_poly_factors 33 := ⟨Tryd.func39, by kernel_rfl, by kernel_rfl, Tryd.ntmps39⟩
@[reducible] def fi_strconv_Itoa : Nat := 40
noncomputable def cf_strconv_Itoa (F : Specs) : Cf := { E := { tab := tab, imm := [] }, F := F, gl := glob, N := 5, keep := [0, 2] }
@[reducible] noncomputable def fn_strconv_Itoa : Func := Tryd.f40
theorem wf_strconv_Itoa : FnOK SP fi_strconv_Itoa fn_strconv_Itoa 5 := ⟨Tryd.func40, by kernel_rfl, by kernel_rfl, Tryd.ntmps40⟩
@[reducible] def fi_strings_Join : Nat := 41
noncomputable def cf_strings_Join (F : Specs) : Cf := { E := { tab := tab, imm := [] }, F := F, gl := glob, N := 75, keep := [0, 1, 4, 5, 7, 8, 10, 12, 13, 15, 22, 29, 39, 40, 41, 42, 49, 63, 64, 65, 66] }
@[reducible] noncomputable def fn_strings_Join : Func := Tryd.f41
theorem wf_strings_Join : FnOK SP fi_strings_Join fn_strings_Join 75 := ⟨Tryd.func41, by kernel_rfl, by kernel_rfl, Tryd.ntmps41⟩
@[reducible] def fi_ref15_Decimal : Nat := 42
noncomputable def cf_ref15_Decimal (F : Specs) : Cf := { E := { tab := tab, imm := [] }, F := F, gl := glob, N := 29, keep := [0, 2, 4] }
@[reducible] noncomputable def fn_ref15_Decimal : Func := Tryd.f42
theorem wf_ref15_Decimal : FnOK SP fi_ref15_Decimal fn_ref15_Decimal 29 := ⟨Tryd.func42, by kernel_rfl, by kernel_rfl, Tryd.ntmps42⟩
@[reducible] def fi_slices_Grow_api_Poly_api_Monomial : Nat := 43
noncomputable def cf_slices_Grow_api_Poly_api_Monomial (F : Specs) : Cf := { E := { tab := tab, imm := [] }, F := F, gl := glob, N := 27, keep := [0, 1, 4, 6, 16] }
@[reducible] noncomputable def fn_slices_Grow_api_Poly_api_Monomial : Func := Tryd.f43
theorem wf_slices_Grow_api_Poly_api_Monomial : FnOK SP fi_slices_Grow_api_Poly_api_Monomial fn_slices_Grow_api_Poly_api_Monomial 27 := ⟨Tryd.func43, by kernel_rfl, by kernel_rfl, Tryd.ntmps43⟩
@[reducible] def fi_slices_ContainsFunc_sl_api_Power_api_Power : Nat := 44
noncomputable def cf_slices_ContainsFunc_sl_api_Power_api_Power (F : Specs) : Cf := { E := { tab := tab, imm := [] }, F := F, gl := glob, N := 9, keep := [0, 1, 4] }
@[reducible] noncomputable def fn_slices_ContainsFunc_sl_api_Power_api_Power : Func := Tryd.f44
theorem wf_slices_ContainsFunc_sl_api_Power_api_Power : FnOK SP fi_slices_ContainsFunc_sl_api_Power_api_Power fn_slices_ContainsFunc_sl_api_Power_api_Power 9 := ⟨Tryd.func44, by kernel_rfl, by kernel_rfl, Tryd.ntmps44⟩
@[reducible] def fi_poly_sum_result_1 : Nat := 45
noncomputable def cf_poly_sum_result_1 (F : Specs) : Cf := { E := { tab := tab, imm := [1] }, F := F, gl := glob, N := 6, keep := [0, 1, 2] }
@[reducible] noncomputable def fn_poly_sum_result_1 : Func := Tryd.f45
theorem wf_poly_sum_result_1 : FnOK SP fi_poly_sum_result_1 fn_poly_sum_result_1 6 := ⟨Tryd.func45, by kernel_rfl, by kernel_rfl, Tryd.ntmps45⟩
@[reducible] def fi_slices_SortFunc_api_Poly_api_Monomial : Nat := 46
noncomputable def cf_slices_SortFunc_api_Poly_api_Monomial (F : Specs) : Cf := { E := { tab := tab, imm := [] }, F := F, gl := glob, N := 14, keep := [0, 1, 4] }
@[reducible] noncomputable def fn_slices_SortFunc_api_Poly_api_Monomial : Func := Tryd.f46
theorem wf_slices_SortFunc_api_Poly_api_Monomial : FnOK SP fi_slices_SortFunc_api_Poly_api_Monomial fn_slices_SortFunc_api_Poly_api_Monomial 14 := ⟨Tryd.func46, by kernel_rfl, by kernel_rfl, Tryd.ntmps46⟩
@[reducible] def fi_poly_sum_result_2 : Nat := 47
noncomputable def cf_poly_sum_result_2 (F : Specs) : Cf := { E := { tab := tab, imm := [2, 3] }, F := F, gl := glob, N := 10, keep := [0, 1, 2, 3, 4] }
@[reducible] noncomputable def fn_poly_sum_result_2 : Func := Tryd.f47
theorem wf_poly_sum_result_2 : FnOK SP fi_poly_sum_result_2 fn_poly_sum_result_2 10 := ⟨Tryd.func47, by kernel_rfl, by kernel_rfl, Tryd.ntmps47⟩
@[reducible] def fi_slices_Concat_sl_api_Power_api_Power : Nat := 48
noncomputable def cf_slices_Concat_sl_api_Power_api_Power (F : Specs) : Cf := { E := { tab := tab, imm := [] }, F := F, gl := glob, N := 36, keep := [0, 2, 3, 5, 6, 8, 9, 10, 11, 12, 20, 25, 26, 27, 28] }
@[reducible] noncomputable def fn_slices_Concat_sl_api_Power_api_Power : Func := Tryd.f48
theorem wf_slices_Concat_sl_api_Power_api_Power : FnOK SP fi_slices_Concat_sl_api_Power_api_Power fn_slices_Concat_sl_api_Power_api_Power 36 := ⟨Tryd.func48, by kernel_rfl, by kernel_rfl, Tryd.ntmps48⟩
@[reducible] def fi_slices_IndexFunc_sl_int_int : Nat := 49
noncomputable def cf_slices_IndexFunc_sl_int_int (F : Specs) : Cf := { E := { tab := tab, imm := [] }, F := F, gl := glob, N := 19, keep := [0, 1, 4, 5, 7, 8, 9, 16] }
@[reducible] noncomputable def fn_slices_IndexFunc_sl_int_int : Func := Tryd.f49
theorem wf_slices_IndexFunc_sl_int_int : FnOK SP fi_slices_IndexFunc_sl_int_int fn_slices_IndexFunc_sl_int_int 19 := ⟨Tryd.func49, by kernel_rfl, by kernel_rfl, Tryd.ntmps49⟩
@[reducible] def fi_slices_CompareFunc_sl_api_Power_sl_api_Power_api_Power_api_Power : Nat := 50
noncomputable def cf_slices_CompareFunc_sl_api_Power_sl_api_Power_api_Power_api_Power (F : Specs) : Cf := { E := { tab := tab, imm := [] }, F := F, gl := glob, N := 39, keep := [0, 1, 2, 6, 7, 8, 9, 10, 11, 12, 13, 14, 21, 31, 38] }
@[reducible] noncomputable def fn_slices_CompareFunc_sl_api_Power_sl_api_Power_api_Power_api_Power : Func := Tryd.f50
theorem wf_slices_CompareFunc_sl_api_Power_sl_api_Power_api_Power_api_Power : FnOK SP fi_slices_CompareFunc_sl_api_Power_sl_api_Power_api_Power_api_Power fn_slices_CompareFunc_sl_api_Power_sl_api_Power_api_Power_api_Power 39 := ⟨Tryd.func50, by kernel_rfl, by kernel_rfl, Tryd.ntmps50⟩
@[reducible] def fi_poly_order_1 : Nat := 51
noncomputable def cf_poly_order_1 (F : Specs) : Cf := { E := { tab := tab, imm := [2, 3] }, F := F, gl := glob, N := 17, keep := [0, 1, 2, 3, 4] }
@[reducible] noncomputable def fn_poly_order_1 : Func := Tryd.f51
theorem wf_poly_order_1 : FnOK SP fi_poly_order_1 fn_poly_order_1 17 := ⟨Tryd.func51, by kernel_rfl, by kernel_rfl, Tryd.ntmps51⟩
@[reducible] def fi_cmp_Or_int : Nat := 52
noncomputable def cf_cmp_Or_int (F : Specs) : Cf := { E := { tab := tab, imm := [] }, F := F, gl := glob, N := 18, keep := [0, 2, 3, 5, 6, 7, 8, 9, 14] }
@[reducible] noncomputable def fn_cmp_Or_int : Func := Tryd.f52
theorem wf_cmp_Or_int : FnOK SP fi_cmp_Or_int fn_cmp_Or_int 18 := ⟨Tryd.func52, by kernel_rfl, by kernel_rfl, Tryd.ntmps52⟩
@[reducible] def fi_cmp_Compare_int : Nat := 53
noncomputable def cf_cmp_Compare_int (F : Specs) : Cf := { E := { tab := tab, imm := [] }, F := F, gl := glob, N := 20, keep := [0, 1, 4, 5, 6, 11, 12, 13, 16, 19] }
@[reducible] noncomputable def fn_cmp_Compare_int : Func := Tryd.f53
theorem wf_cmp_Compare_int : FnOK SP fi_cmp_Compare_int fn_cmp_Compare_int 20 := ⟨Tryd.func53, by kernel_rfl, by kernel_rfl, Tryd.ntmps53⟩
@[reducible] def fi_i_strconv_Itoa : Nat := 54
noncomputable def cf_i_strconv_Itoa (F : Specs) : Cf := { E := { tab := tab, imm := [] }, F := F, gl := glob, N := 5, keep := [0, 2] }
@[reducible] noncomputable def fn_i_strconv_Itoa : Func := Tryd.f54
theorem wf_i_strconv_Itoa : FnOK SP fi_i_strconv_Itoa fn_i_strconv_Itoa 5 := ⟨Tryd.func54, by kernel_rfl, by kernel_rfl, Tryd.ntmps54⟩
@[reducible] def fi_strings_Builder_Grow : Nat := 55
noncomputable def cf_strings_Builder_Grow (F : Specs) : Cf := { E := { tab := tab, imm := [] }, F := F, gl := glob, N := 25, keep := [0, 1, 7, 21] }
@[reducible] noncomputable def fn_strings_Builder_Grow : Func := Tryd.f55
theorem wf_strings_Builder_Grow : FnOK SP fi_strings_Builder_Grow fn_strings_Builder_Grow 25 := ⟨Tryd.func55, by kernel_rfl, by kernel_rfl, Tryd.ntmps55⟩
@[reducible] def fi_strings_Builder_WriteString : Nat := 56
noncomputable def cf_strings_Builder_WriteString (F : Specs) : Cf := { E := { tab := tab, imm := [] }, F := F, gl := glob, N := 19, keep := [0, 1, 4, 5] }
@[reducible] noncomputable def fn_strings_Builder_WriteString : Func := Tryd.f56
theorem wf_strings_Builder_WriteString : FnOK SP fi_strings_Builder_WriteString fn_strings_Builder_WriteString 19 := ⟨Tryd.func56, by kernel_rfl, by kernel_rfl, Tryd.ntmps56⟩
@[reducible] def fi_strings_Builder_String : Nat := 57
noncomputable def cf_strings_Builder_String (F : Specs) : Cf := { E := { tab := tab, imm := [] }, F := F, gl := glob, N := 14, keep := [0, 2] }
@[reducible] noncomputable def fn_strings_Builder_String : Func := Tryd.f57
theorem wf_strings_Builder_String : FnOK SP fi_strings_Builder_String fn_strings_Builder_String 14 := ⟨Tryd.func57, by kernel_rfl, by kernel_rfl, Tryd.ntmps57⟩
@[reducible] def fi_ref15_digits : Nat := 58
noncomputable def cf_ref15_digits (F : Specs) : Cf := { E := { tab := tab, imm := [] }, F := F, gl := glob, N := 15, keep := [0, 2, 4] }
@[reducible] noncomputable def fn_ref15_digits : Func := Tryd.f58
theorem wf_ref15_digits : FnOK SP fi_ref15_digits fn_ref15_digits 15 := ⟨Tryd.func58, by kernel_rfl, by kernel_rfl, Tryd.ntmps58⟩
@[reducible] def fi_slices_IndexFunc_sl_api_Power_api_Power : Nat := 59
noncomputable def cf_slices_IndexFunc_sl_api_Power_api_Power (F : Specs) : Cf := { E := { tab := tab, imm := [] }, F := F, gl := glob, N := 19, keep := [0, 1, 4, 5, 7, 8, 9, 16] }
@[reducible] noncomputable def fn_slices_IndexFunc_sl_api_Power_api_Power : Func := Tryd.f59
theorem wf_slices_IndexFunc_sl_api_Power_api_Power : FnOK SP fi_slices_IndexFunc_sl_api_Power_api_Power fn_slices_IndexFunc_sl_api_Power_api_Power 19 := ⟨Tryd.func59, by kernel_rfl, by kernel_rfl, Tryd.ntmps59⟩
@[reducible] def fi_slices_pdqsortCmpFunc_api_Monomial : Nat := 60
noncomputable def cf_slices_pdqsortCmpFunc_api_Monomial (F : Specs) : Cf := { E := { tab := tab, imm := [] }, F := F, gl := glob, N := 148, keep := [0, 1, 2, 3, 4, 10, 11, 12, 13, 14, 15, 16, 17, 18, 19, 20, 25, 32, 39, 56, 75, 80, 97, 125] }
@[reducible] noncomputable def fn_slices_pdqsortCmpFunc_api_Monomial : Func := Tryd.f60
theorem wf_slices_pdqsortCmpFunc_api_Monomial : FnOK SP fi_slices_pdqsortCmpFunc_api_Monomial fn_slices_pdqsortCmpFunc_api_Monomial 148 := ⟨Tryd.func60, by kernel_rfl, by kernel_rfl, Tryd.ntmps60⟩
@[reducible] def fi_math_bits_Len : Nat := 61
noncomputable def cf_math_bits_Len (F : Specs) : Cf := { E := { tab := tab, imm := [] }, F := F, gl := glob, N := 8, keep := [0, 2] }
@[reducible] noncomputable def fn_math_bits_Len : Func := Tryd.f61
theorem wf_math_bits_Len : FnOK SP fi_math_bits_Len fn_math_bits_Len 8 := ⟨Tryd.func61, by kernel_rfl, by kernel_rfl, Tryd.ntmps61⟩
@[reducible] def fi_slices_Grow_sl_api_Power_api_Power : Nat := 62
noncomputable def cf_slices_Grow_sl_api_Power_api_Power (F : Specs) : Cf := { E := { tab := tab, imm := [] }, F := F, gl := glob, N := 27, keep := [0, 1, 4, 6, 16] }
@[reducible] noncomputable def fn_slices_Grow_sl_api_Power_api_Power : Func := Tryd.f62
theorem wf_slices_Grow_sl_api_Power_api_Power : FnOK SP fi_slices_Grow_sl_api_Power_api_Power fn_slices_Grow_sl_api_Power_api_Power 27 := ⟨Tryd.func62, by kernel_rfl, by kernel_rfl, Tryd.ntmps62⟩
@[reducible] def fi_cmp_isNaN_int : Nat := 63
noncomputable def cf_cmp_isNaN_int (F : Specs) : Cf := { E := { tab := tab, imm := [] }, F := F, gl := glob, N := 6, keep := [0, 2] }
@[reducible] noncomputable def fn_cmp_isNaN_int : Func := Tryd.f63
theorem wf_cmp_isNaN_int : FnOK SP fi_cmp_isNaN_int fn_cmp_isNaN_int 6 := ⟨Tryd.func63, by kernel_rfl, by kernel_rfl, Tryd.ntmps63⟩
@[reducible] def fi_i_strconv_FormatInt : Nat := 64
noncomputable def cf_i_strconv_FormatInt (F : Specs) : Cf := { E := { tab := tab, imm := [] }, F := F, gl := glob, N := 54, keep := [0, 1, 4, 5, 6, 7, 9, 11, 17, 23, 34] }
@[reducible] noncomputable def fn_i_strconv_FormatInt : Func := Tryd.f64
theorem wf_i_strconv_FormatInt : FnOK SP fi_i_strconv_FormatInt fn_i_strconv_FormatInt 54 := ⟨Tryd.func64, by kernel_rfl, by kernel_rfl, Tryd.ntmps64⟩
@[reducible] def fi_strings_Builder_copyCheck : Nat := 65
noncomputable def cf_strings_Builder_copyCheck (F : Specs) : Cf := { E := { tab := tab, imm := [] }, F := F, gl := glob, N := 20, keep := [0, 6, 19] }
@[reducible] noncomputable def fn_strings_Builder_copyCheck : Func := Tryd.f65
theorem wf_strings_Builder_copyCheck : FnOK SP fi_strings_Builder_copyCheck fn_strings_Builder_copyCheck 20 := ⟨Tryd.func65, by kernel_rfl, by kernel_rfl, Tryd.ntmps65⟩
@[reducible] def fi_strings_Builder_grow : Nat := 66
noncomputable def cf_strings_Builder_grow (F : Specs) : Cf := { E := { tab := tab, imm := [] }, F := F, gl := glob, N := 30, keep := [0, 1, 4] }
@[reducible] noncomputable def fn_strings_Builder_grow : Func := Tryd.f66
theorem wf_strings_Builder_grow : FnOK SP fi_strings_Builder_grow fn_strings_Builder_grow 30 := ⟨Tryd.func66, by kernel_rfl, by kernel_rfl, Tryd.ntmps66⟩
@[reducible] def fi_slices_insertionSortCmpFunc_api_Monomial : Nat := 67
noncomputable def cf_slices_insertionSortCmpFunc_api_Monomial (F : Specs) : Cf := { E := { tab := tab, imm := [] }, F := F, gl := glob, N := 53, keep := [0, 1, 2, 3, 8, 9, 14, 34] }
@[reducible] noncomputable def fn_slices_insertionSortCmpFunc_api_Monomial : Func := Tryd.f67
theorem wf_slices_insertionSortCmpFunc_api_Monomial : FnOK SP fi_slices_insertionSortCmpFunc_api_Monomial fn_slices_insertionSortCmpFunc_api_Monomial 53 := ⟨Tryd.func67, by kernel_rfl, by kernel_rfl, Tryd.ntmps67⟩
@[reducible] def fi_slices_heapSortCmpFunc_api_Monomial : Nat := 68
noncomputable def cf_slices_heapSortCmpFunc_api_Monomial (F : Specs) : Cf := { E := { tab := tab, imm := [] }, F := F, gl := glob, N := 60, keep := [0, 1, 2, 3, 8, 9, 10, 11, 12, 21, 33] }
@[reducible] noncomputable def fn_slices_heapSortCmpFunc_api_Monomial : Func := Tryd.f68
theorem wf_slices_heapSortCmpFunc_api_Monomial : FnOK SP fi_slices_heapSortCmpFunc_api_Monomial fn_slices_heapSortCmpFunc_api_Monomial 60 := ⟨Tryd.func68, by kernel_rfl, by kernel_rfl, Tryd.ntmps68⟩
@[reducible] def fi_slices_breakPatternsCmpFunc_api_Monomial : Nat := 69
noncomputable def cf_slices_breakPatternsCmpFunc_api_Monomial (F : Specs) : Cf := { E := { tab := tab, imm := [] }, F := F, gl := glob, N := 67, keep := [0, 1, 2, 8, 9, 10, 11, 12, 17, 35, 45] }
@[reducible] noncomputable def fn_slices_breakPatternsCmpFunc_api_Monomial : Func := Tryd.f69
theorem wf_slices_breakPatternsCmpFunc_api_Monomial : FnOK SP fi_slices_breakPatternsCmpFunc_api_Monomial fn_slices_breakPatternsCmpFunc_api_Monomial 67 := ⟨Tryd.func69, by kernel_rfl, by kernel_rfl, Tryd.ntmps69⟩
@[reducible] def fi_slices_choosePivotCmpFunc_api_Monomial : Nat := 70
noncomputable def cf_slices_choosePivotCmpFunc_api_Monomial (F : Specs) : Cf := { E := { tab := tab, imm := [] }, F := F, gl := glob, N := 63, keep := [0, 1, 2, 3, 8, 9, 10, 11, 12, 13, 14, 34, 36, 55, 57, 60] }
@[reducible] noncomputable def fn_slices_choosePivotCmpFunc_api_Monomial : Func := Tryd.f70
theorem wf_slices_choosePivotCmpFunc_api_Monomial : FnOK SP fi_slices_choosePivotCmpFunc_api_Monomial fn_slices_choosePivotCmpFunc_api_Monomial 63 := ⟨Tryd.func70, by kernel_rfl, by kernel_rfl, Tryd.ntmps70⟩
@[reducible] def fi_slices_reverseRangeCmpFunc_api_Monomial : Nat := 71
noncomputable def cf_slices_reverseRangeCmpFunc_api_Monomial (F : Specs) : Cf := { E := { tab := tab, imm := [] }, F := F, gl := glob, N := 34, keep := [0, 1, 2, 8, 9, 15] }
@[reducible] noncomputable def fn_slices_reverseRangeCmpFunc_api_Monomial : Func := Tryd.f71
theorem wf_slices_reverseRangeCmpFunc_api_Monomial : FnOK SP fi_slices_reverseRangeCmpFunc_api_Monomial fn_slices_reverseRangeCmpFunc_api_Monomial 34 := ⟨Tryd.func71, by kernel_rfl, by kernel_rfl, Tryd.ntmps71⟩
@[reducible] def fi_slices_partialInsertionSortCmpFunc_api_Monomial : Nat := 72
noncomputable def cf_slices_partialInsertionSortCmpFunc_api_Monomial (F : Specs) : Cf := { E := { tab := tab, imm := [] }, F := F, gl := glob, N := 141, keep := [0, 1, 2, 3, 8, 9, 10, 11, 12, 16, 36, 41, 45, 65, 69, 84, 104, 109, 124] }
@[reducible] noncomputable def fn_slices_partialInsertionSortCmpFunc_api_Monomial : Func := Tryd.f72
theorem wf_slices_partialInsertionSortCmpFunc_api_Monomial : FnOK SP fi_slices_partialInsertionSortCmpFunc_api_Monomial fn_slices_partialInsertionSortCmpFunc_api_Monomial 141 := ⟨Tryd.func72, by kernel_rfl, by kernel_rfl, Tryd.ntmps72⟩
@[reducible] def fi_slices_partitionEqualCmpFunc_api_Monomial : Nat := 73
noncomputable def cf_slices_partitionEqualCmpFunc_api_Monomial (F : Specs) : Cf := { E := { tab := tab, imm := [] }, F := F, gl := glob, N := 90, keep := [0, 1, 2, 3, 4, 10, 11, 12, 47, 65, 70] }
@[reducible] noncomputable def fn_slices_partitionEqualCmpFunc_api_Monomial : Func := Tryd.f73
theorem wf_slices_partitionEqualCmpFunc_api_Monomial : FnOK SP fi_slices_partitionEqualCmpFunc_api_Monomial fn_slices_partitionEqualCmpFunc_api_Monomial 90 := ⟨Tryd.func73, by kernel_rfl, by kernel_rfl, Tryd.ntmps73⟩
@[reducible] def fi_slices_partitionCmpFunc_api_Monomial : Nat := 74
noncomputable def cf_slices_partitionCmpFunc_api_Monomial (F : Specs) : Cf := { E := { tab := tab, imm := [] }, F := F, gl := glob, N := 178, keep := [0, 1, 2, 3, 4, 10, 11, 12, 13, 47, 66, 71, 120, 139, 144] }
@[reducible] noncomputable def fn_slices_partitionCmpFunc_api_Monomial : Func := Tryd.f74
theorem wf_slices_partitionCmpFunc_api_Monomial : FnOK SP fi_slices_partitionCmpFunc_api_Monomial fn_slices_partitionCmpFunc_api_Monomial 178 := ⟨Tryd.func74, by kernel_rfl, by kernel_rfl, Tryd.ntmps74⟩
@[reducible] def fi_math_bits_Len32 : Nat := 75
noncomputable def cf_math_bits_Len32 (F : Specs) : Cf := { E := { tab := tab, imm := [] }, F := F, gl := glob, N := 19, keep := [0, 2, 4, 8] }
@[reducible] noncomputable def fn_math_bits_Len32 : Func := Tryd.f75
theorem wf_math_bits_Len32 : FnOK SP fi_math_bits_Len32 fn_math_bits_Len32 19 := ⟨Tryd.func75, by kernel_rfl, by kernel_rfl, Tryd.ntmps75⟩
@[reducible] def fi_math_bits_Len64 : Nat := 76
noncomputable def cf_math_bits_Len64 (F : Specs) : Cf := { E := { tab := tab, imm := [] }, F := F, gl := glob, N := 25, keep := [0, 2, 4, 8, 14] }
@[reducible] noncomputable def fn_math_bits_Len64 : Func := Tryd.f76
theorem wf_math_bits_Len64 : FnOK SP fi_math_bits_Len64 fn_math_bits_Len64 25 := ⟨Tryd.func76, by kernel_rfl, by kernel_rfl, Tryd.ntmps76⟩
@[reducible] def fi_i_strconv_small : Nat := 77
noncomputable def cf_i_strconv_small (F : Specs) : Cf := { E := { tab := tab, imm := [] }, F := F, gl := glob, N := 15, keep := [0, 2, 4] }
@[reducible] noncomputable def fn_i_strconv_small : Func := Tryd.f77
theorem wf_i_strconv_small : FnOK SP fi_i_strconv_small fn_i_strconv_small 15 := ⟨Tryd.func77, by kernel_rfl, by kernel_rfl, Tryd.ntmps77⟩
@[reducible] def fi_i_strconv_numDigits : Nat := 78
noncomputable def cf_i_strconv_numDigits (F : Specs) : Cf := { E := { tab := tab, imm := [] }, F := F, gl := glob, N := 15, keep := [0, 2, 3] }
@[reducible] noncomputable def fn_i_strconv_numDigits : Func := Tryd.f78
theorem wf_i_strconv_numDigits : FnOK SP fi_i_strconv_numDigits fn_i_strconv_numDigits 15 := ⟨Tryd.func78, by kernel_rfl, by kernel_rfl, Tryd.ntmps78⟩
@[reducible] def fi_i_strconv_formatBase10 : Nat := 79
noncomputable def cf_i_strconv_formatBase10 (F : Specs) : Cf := { E := { tab := tab, imm := [] }, F := F, gl := glob, N := 167, keep := [0, 1, 4, 5, 6, 7, 8, 9, 10, 11, 12, 13, 14, 15, 16, 20, 99, 139, 161] }
@[reducible] noncomputable def fn_i_strconv_formatBase10 : Func := Tryd.f79
theorem wf_i_strconv_formatBase10 : FnOK SP fi_i_strconv_formatBase10 fn_i_strconv_formatBase10 167 := ⟨Tryd.func79, by kernel_rfl, by kernel_rfl, Tryd.ntmps79⟩
@[reducible] def fi_i_strconv_formatBits : Nat := 80
noncomputable def cf_i_strconv_formatBits (F : Specs) : Cf := { E := { tab := tab, imm := [] }, F := F, gl := glob, N := 102, keep := [0, 1, 2, 3, 4, 10, 11, 12, 13, 14, 15, 16, 17, 18, 28, 30, 34, 46, 68, 89, 94] }
@[reducible] noncomputable def fn_i_strconv_formatBits : Func := Tryd.f80
theorem wf_i_strconv_formatBits : FnOK SP fi_i_strconv_formatBits fn_i_strconv_formatBits 102 := ⟨Tryd.func80, by kernel_rfl, by kernel_rfl, Tryd.ntmps80⟩
@[reducible] def fi_slices_siftDownCmpFunc_api_Monomial : Nat := 83
noncomputable def cf_slices_siftDownCmpFunc_api_Monomial (F : Specs) : Cf := { E := { tab := tab, imm := [] }, F := F, gl := glob, N := 82, keep := [0, 1, 2, 3, 4, 10, 11, 18, 40, 58] }
@[reducible] noncomputable def fn_slices_siftDownCmpFunc_api_Monomial : Func := Tryd.f83
theorem wf_slices_siftDownCmpFunc_api_Monomial : FnOK SP fi_slices_siftDownCmpFunc_api_Monomial fn_slices_siftDownCmpFunc_api_Monomial 82 := ⟨Tryd.func83, by kernel_rfl, by kernel_rfl, Tryd.ntmps83⟩
@[reducible] def fi_slices_nextPowerOfTwo : Nat := 84
noncomputable def cf_slices_nextPowerOfTwo (F : Specs) : Cf := { E := { tab := tab, imm := [] }, F := F, gl := glob, N := 7, keep := [0, 2] }
@[reducible] noncomputable def fn_slices_nextPowerOfTwo : Func := Tryd.f84
theorem wf_slices_nextPowerOfTwo : FnOK SP fi_slices_nextPowerOfTwo fn_slices_nextPowerOfTwo 7 := ⟨Tryd.func84, by kernel_rfl, by kernel_rfl, Tryd.ntmps84⟩
@[reducible] def fi_slices_xorshift_Next : Nat := 85
noncomputable def cf_slices_xorshift_Next (F : Specs) : Cf := { E := { tab := tab, imm := [] }, F := F, gl := glob, N := 33, keep := [0, 2] }
@[reducible] noncomputable def fn_slices_xorshift_Next : Func := Tryd.f85
theorem wf_slices_xorshift_Next : FnOK SP fi_slices_xorshift_Next fn_slices_xorshift_Next 33 := ⟨Tryd.func85, by kernel_rfl, by kernel_rfl, Tryd.ntmps85⟩
@[reducible] def fi_slices_medianAdjacentCmpFunc_api_Monomial : Nat := 86
noncomputable def cf_slices_medianAdjacentCmpFunc_api_Monomial (F : Specs) : Cf := { E := { tab := tab, imm := [] }, F := F, gl := glob, N := 18, keep := [0, 1, 2, 3, 8] }
@[reducible] noncomputable def fn_slices_medianAdjacentCmpFunc_api_Monomial : Func := Tryd.f86
theorem wf_slices_medianAdjacentCmpFunc_api_Monomial : FnOK SP fi_slices_medianAdjacentCmpFunc_api_Monomial fn_slices_medianAdjacentCmpFunc_api_Monomial 18 := ⟨Tryd.func86, by kernel_rfl, by kernel_rfl, Tryd.ntmps86⟩
@[reducible] def fi_slices_medianCmpFunc_api_Monomial : Nat := 87
noncomputable def cf_slices_medianCmpFunc_api_Monomial (F : Specs) : Cf := { E := { tab := tab, imm := [] }, F := F, gl := glob, N := 41, keep := [0, 1, 2, 3, 4, 5, 12] }
@[reducible] noncomputable def fn_slices_medianCmpFunc_api_Monomial : Func := Tryd.f87
theorem wf_slices_medianCmpFunc_api_Monomial : FnOK SP fi_slices_medianCmpFunc_api_Monomial fn_slices_medianCmpFunc_api_Monomial 41 := ⟨Tryd.func87, by kernel_rfl, by kernel_rfl, Tryd.ntmps87⟩
@[reducible] def fi_i_strconv_log10Pow2 : Nat := 88
noncomputable def cf_i_strconv_log10Pow2 (F : Specs) : Cf := { E := { tab := tab, imm := [] }, F := F, gl := glob, N := 6, keep := [0, 2] }
@[reducible] noncomputable def fn_i_strconv_log10Pow2 : Func := Tryd.f88
theorem wf_i_strconv_log10Pow2 : FnOK SP fi_i_strconv_log10Pow2 fn_i_strconv_log10Pow2 6 := ⟨Tryd.func88, by kernel_rfl, by kernel_rfl, Tryd.ntmps88⟩
@[reducible] def fi_i_strconv_bool2_int : Nat := 89
noncomputable def cf_i_strconv_bool2_int (F : Specs) : Cf := { E := { tab := tab, imm := [] }, F := F, gl := glob, N := 4, keep := [0, 2, 3] }
@[reducible] noncomputable def fn_i_strconv_bool2_int : Func := Tryd.f89
theorem wf_i_strconv_bool2_int : FnOK SP fi_i_strconv_bool2_int fn_i_strconv_bool2_int 4 := ⟨Tryd.func89, by kernel_rfl, by kernel_rfl, Tryd.ntmps89⟩
@[reducible] def fi_i_strconv_isPowerOfTwo : Nat := 90
noncomputable def cf_i_strconv_isPowerOfTwo (F : Specs) : Cf := { E := { tab := tab, imm := [] }, F := F, gl := glob, N := 8, keep := [0, 2] }
@[reducible] noncomputable def fn_i_strconv_isPowerOfTwo : Func := Tryd.f90
theorem wf_i_strconv_isPowerOfTwo : FnOK SP fi_i_strconv_isPowerOfTwo fn_i_strconv_isPowerOfTwo 8 := ⟨Tryd.func90, by kernel_rfl, by kernel_rfl, Tryd.ntmps90⟩
@[reducible] def fi_math_bits_TrailingZeros : Nat := 91
noncomputable def cf_math_bits_TrailingZeros (F : Specs) : Cf := { E := { tab := tab, imm := [] }, F := F, gl := glob, N := 8, keep := [0, 2] }
@[reducible] noncomputable def fn_math_bits_TrailingZeros : Func := Tryd.f91
theorem wf_math_bits_TrailingZeros : FnOK SP fi_math_bits_TrailingZeros fn_math_bits_TrailingZeros 8 := ⟨Tryd.func91, by kernel_rfl, by kernel_rfl, Tryd.ntmps91⟩
@[reducible] def fi_slices_order2CmpFunc_api_Monomial : Nat := 92
noncomputable def cf_slices_order2CmpFunc_api_Monomial (F : Specs) : Cf := { E := { tab := tab, imm := [] }, F := F, gl := glob, N := 32, keep := [0, 1, 2, 3, 4, 10, 11, 22] }
@[reducible] noncomputable def fn_slices_order2CmpFunc_api_Monomial : Func := Tryd.f92
theorem wf_slices_order2CmpFunc_api_Monomial : FnOK SP fi_slices_order2CmpFunc_api_Monomial fn_slices_order2CmpFunc_api_Monomial 32 := ⟨Tryd.func92, by kernel_rfl, by kernel_rfl, Tryd.ntmps92⟩
@[reducible] def fi_math_bits_TrailingZeros32 : Nat := 93
noncomputable def cf_math_bits_TrailingZeros32 (F : Specs) : Cf := { E := { tab := tab, imm := [] }, F := F, gl := glob, N := 14, keep := [0, 2, 4] }
@[reducible] noncomputable def fn_math_bits_TrailingZeros32 : Func := Tryd.f93
theorem wf_math_bits_TrailingZeros32 : FnOK SP fi_math_bits_TrailingZeros32 fn_math_bits_TrailingZeros32 14 := ⟨Tryd.func93, by kernel_rfl, by kernel_rfl, Tryd.ntmps93⟩
@[reducible] def fi_math_bits_TrailingZeros64 : Nat := 94
noncomputable def cf_math_bits_TrailingZeros64 (F : Specs) : Cf := { E := { tab := tab, imm := [] }, F := F, gl := glob, N := 14, keep := [0, 2, 4] }
@[reducible] noncomputable def fn_math_bits_TrailingZeros64 : Func := Tryd.f94
theorem wf_math_bits_TrailingZeros64 : FnOK SP fi_math_bits_TrailingZeros64 fn_math_bits_TrailingZeros64 14 := ⟨Tryd.func94, by kernel_rfl, by kernel_rfl, Tryd.ntmps94⟩
end Go.Gv
