/- The seat's table of types and numbers of functions, printed by a program. -/
import Derived.Test.YtcioglingkccpaaGf
import Derived.Test.YtcioglingkccpaaChecked
import Derived.Test.YtcioglingkccpaaRows
set_option linter.all false
namespace Go.Gv
open Go Go.Proofs Go.Proofs.Ytcioglingkccpaa

noncomputable def glob : Glob := fun _ => none
@[reducible] noncomputable def SP : Program := Try.prog
theorem mix_ok : SP.follows .mixedOrders = true := by kernel_rfl
def tab : List (Nat × (Ty × Nat)) := [(3, .int .i64, 8), (4, .bool, 1), (5, .int .u8, 1), (9, .str, 16), (20, .ot 1, 16), (21, .int .i32, 4), (22, .sl (.str), 24), (23, .ot 0, 8), (30, .ot 0, 8), (32, .sl (.int .u8), 24), (37, .sl (.bool), 24), (42, .ot 0, 8), (44, .mp (.str) (.bool), 8), (46, .ot 2, 8), (48, .st (.cs (.ot 2) (.cs (.sl (.int .u8)) (.nl))), 32), (51, .ot 1, 16), (55, .ot 0, 8), (58, .ot 2, 8), (61, .int .u64, 8), (66, .int .i64, 8), (74, .int .u32, 4), (76, .int .u64, 8), (77, .int .u64, 8), (81, .ot 2, 8), (83, .ot 2, 8)]
theorem tab_ok0 : (Env.mk tab [] []).ok SP = true := by kernel_rfl
theorem tab_ok {rows : List Nat} : ∀ imm, (Env.mk tab imm rows).ok SP = true := by intro imm; have h := tab_ok0; unfold Env.ok at h ⊢; exact h
@[reducible] def fi_law03_WordsMatchesReference : Nat := 3
noncomputable def cf_law03_WordsMatchesReference (F : Specs) : Cf := { E := { tab := tab, imm := [] }, F := F, gl := glob, N := 60, keep := [0, 1, 2, 3, 8, 9, 10, 24] }
@[reducible] noncomputable def fn_law03_WordsMatchesReference : Func := Try.f3
theorem wf_law03_WordsMatchesReference : FnOK SP fi_law03_WordsMatchesReference fn_law03_WordsMatchesReference 60 := ⟨Try.func3, by kernel_rfl, by kernel_rfl, Try.ntmps3⟩
@[reducible] def fi_law03_WordsFold : Nat := 4
noncomputable def cf_law03_WordsFold (F : Specs) : Cf := { E := { tab := tab, imm := [] }, F := F, gl := glob, N := 85, keep := [0, 2, 3, 4, 5, 6, 7, 11, 18, 70] }
@[reducible] noncomputable def fn_law03_WordsFold : Func := Try.f4
theorem wf_law03_WordsFold : FnOK SP fi_law03_WordsFold fn_law03_WordsFold 85 := ⟨Try.func4, by kernel_rfl, by kernel_rfl, Try.ntmps4⟩
@[reducible] def fi_law03_WordsJoins : Nat := 5
noncomputable def cf_law03_WordsJoins (F : Specs) : Cf := { E := { tab := tab, imm := [] }, F := F, gl := glob, N := 73, keep := [0, 1, 2, 6, 7, 8, 9, 10, 11, 12, 26, 48] }
@[reducible] noncomputable def fn_law03_WordsJoins : Func := Try.f5
theorem wf_law03_WordsJoins : FnOK SP fi_law03_WordsJoins fn_law03_WordsJoins 73 := ⟨Try.func5, by kernel_rfl, by kernel_rfl, Try.ntmps5⟩
@[reducible] def fi_law03_WordsTokens : Nat := 6
noncomputable def cf_law03_WordsTokens (F : Specs) : Cf := { E := { tab := tab, imm := [] }, F := F, gl := glob, N := 72, keep := [0, 2, 3, 4, 5, 6, 7, 8, 12, 22, 31, 42, 51] }
@[reducible] noncomputable def fn_law03_WordsTokens : Func := Try.f6
theorem wf_law03_WordsTokens : FnOK SP fi_law03_WordsTokens fn_law03_WordsTokens 72 := ⟨Try.func6, by kernel_rfl, by kernel_rfl, Try.ntmps6⟩
@[reducible] def fi_law03_WordsGrams : Nat := 7
noncomputable def cf_law03_WordsGrams (F : Specs) : Cf := { E := { tab := tab, imm := [] }, F := F, gl := glob, N := 103, keep := [0, 1, 4, 5, 6, 7, 8, 9, 10, 11, 12, 13, 17, 31, 62, 68, 81, 86, 90, 97] }
@[reducible] noncomputable def fn_law03_WordsGrams : Func := Try.f7
theorem wf_law03_WordsGrams : FnOK SP fi_law03_WordsGrams fn_law03_WordsGrams 103 := ⟨Try.func7, by kernel_rfl, by kernel_rfl, Try.ntmps7⟩
@[reducible] def fi_law03_WordsCommon : Nat := 8
noncomputable def cf_law03_WordsCommon (F : Specs) : Cf := { E := { tab := tab, imm := [] }, F := F, gl := glob, N := 74, keep := [0, 1, 4, 5, 6, 7, 8, 9, 18] }
@[reducible] noncomputable def fn_law03_WordsCommon : Func := Try.f8
theorem wf_law03_WordsCommon : FnOK SP fi_law03_WordsCommon fn_law03_WordsCommon 74 := ⟨Try.func8, by kernel_rfl, by kernel_rfl, Try.ntmps8⟩
@[reducible] def fi_law03_WordsCase : Nat := 9
noncomputable def cf_law03_WordsCase (F : Specs) : Cf := { E := { tab := tab, imm := [] }, F := F, gl := glob, N := 61, keep := [0, 1, 4, 5, 6, 7, 8, 17, 22, 30, 37] }
@[reducible] noncomputable def fn_law03_WordsCase : Func := Try.f9
theorem wf_law03_WordsCase : FnOK SP fi_law03_WordsCase fn_law03_WordsCase 61 := ⟨Try.func9, by kernel_rfl, by kernel_rfl, Try.ntmps9⟩
@[reducible] def fi_law03_head : Nat := 10
noncomputable def cf_law03_head (F : Specs) : Cf := { E := { tab := tab, imm := [] }, F := F, gl := glob, N := 39, keep := [0, 1, 2] }
@[reducible] noncomputable def fn_law03_head : Func := Try.f10
theorem wf_law03_head : FnOK SP fi_law03_head fn_law03_head 39 := ⟨Try.func10, by kernel_rfl, by kernel_rfl, Try.ntmps10⟩
@[reducible] def fi_words_Fold : Nat := 11
noncomputable def cf_words_Fold (F : Specs) : Cf := { E := { tab := tab, imm := [] }, F := F, gl := glob, N := 7, keep := [0, 2] }
@[reducible] noncomputable def fn_words_Fold : Func := Try.f11
theorem wf_words_Fold : FnOK SP fi_words_Fold fn_words_Fold 7 := ⟨Try.func11, by kernel_rfl, by kernel_rfl, Try.ntmps11⟩
@[reducible] def fi_ref03_Fold : Nat := 12
noncomputable def cf_ref03_Fold (F : Specs) : Cf := { E := { tab := tab, imm := [] }, F := F, gl := glob, N := 25, keep := [0, 2, 3, 4, 5, 11, 15] }
@[reducible] noncomputable def fn_ref03_Fold : Func := Try.f12
theorem wf_ref03_Fold : FnOK SP fi_ref03_Fold fn_ref03_Fold 25 := ⟨Try.func12, by kernel_rfl, by kernel_rfl, Try.ntmps12⟩
@[reducible] def fi_ref03_Same : Nat := 13
noncomputable def cf_ref03_Same (F : Specs) : Cf := { E := { tab := tab, imm := [] }, F := F, gl := glob, N := 26, keep := [0, 1, 4, 5, 10, 14, 25] }
@[reducible] noncomputable def fn_ref03_Same : Func := Try.f13
theorem wf_ref03_Same : FnOK SP fi_ref03_Same fn_ref03_Same 26 := ⟨Try.func13, by kernel_rfl, by kernel_rfl, Try.ntmps13⟩
@[reducible] def fi_words_Tokens : Nat := 14
noncomputable def cf_words_Tokens (F : Specs) : Cf := { E := { tab := tab, imm := [] }, F := F, gl := glob, N := 13, keep := [0, 2, 3, 4, 7, 8] }
@[reducible] noncomputable def fn_words_Tokens : Func := Try.f14
theorem wf_words_Tokens : FnOK SP fi_words_Tokens fn_words_Tokens 13 := ⟨Try.func14, by kernel_rfl, by kernel_rfl, Try.ntmps14⟩
@[reducible] def fi_ref03_Tokens : Nat := 15
noncomputable def cf_ref03_Tokens (F : Specs) : Cf := { E := { tab := tab, imm := [] }, F := F, gl := glob, N := 6, keep := [0, 2] }
@[reducible] noncomputable def fn_ref03_Tokens : Func := Try.f15
theorem wf_ref03_Tokens : FnOK SP fi_ref03_Tokens fn_ref03_Tokens 6 := ⟨Try.func15, by kernel_rfl, by kernel_rfl, Try.ntmps15⟩
@[reducible] def fi_words_Grams : Nat := 16
noncomputable def cf_words_Grams (F : Specs) : Cf := { E := { tab := tab, imm := [] }, F := F, gl := glob, N := 45, keep := [0, 1, 4, 5, 6, 7, 19, 23, 31, 32, 33] }
@[reducible] noncomputable def fn_words_Grams : Func := Try.f16
theorem wf_words_Grams : FnOK SP fi_words_Grams fn_words_Grams 45 := ⟨Try.func16, by kernel_rfl, by kernel_rfl, Try.ntmps16⟩
@[reducible] def fi_ref03_Grams : Nat := 17
noncomputable def cf_ref03_Grams (F : Specs) : Cf := { E := { tab := tab, imm := [] }, F := F, gl := glob, N := 43, keep := [0, 1, 4, 5, 6, 7, 13, 17, 21, 29] }
@[reducible] noncomputable def fn_ref03_Grams : Func := Try.f17
theorem wf_ref03_Grams : FnOK SP fi_ref03_Grams fn_ref03_Grams 43 := ⟨Try.func17, by kernel_rfl, by kernel_rfl, Try.ntmps17⟩
@[reducible] def fi_words_Common : Nat := 18
noncomputable def cf_words_Common (F : Specs) : Cf := { E := { tab := tab, imm := [] }, F := F, gl := glob, N := 49, keep := [0, 1, 4, 5, 13, 21, 28, 38] }
@[reducible] noncomputable def fn_words_Common : Func := Try.f18
theorem wf_words_Common : FnOK SP fi_words_Common fn_words_Common 49 := ⟨Try.func18, by kernel_rfl, by kernel_rfl, Try.ntmps18⟩
@[reducible] def fi_ref03_Common : Nat := 19
noncomputable def cf_ref03_Common (F : Specs) : Cf := { E := { tab := tab, imm := [] }, F := F, gl := glob, N := 57, keep := [0, 1, 4, 5, 6, 7, 15, 19, 36, 53] }
@[reducible] noncomputable def fn_ref03_Common : Func := Try.f19
theorem wf_ref03_Common : FnOK SP fi_ref03_Common fn_ref03_Common 57 := ⟨Try.func19, by kernel_rfl, by kernel_rfl, Try.ntmps19⟩
@[reducible] def fi_ref03_Lower : Nat := 20
noncomputable def cf_ref03_Lower (F : Specs) : Cf := { E := { tab := tab, imm := [] }, F := F, gl := glob, N := 26, keep := [0, 2, 8, 24] }
@[reducible] noncomputable def fn_ref03_Lower : Func := Try.f20
theorem wf_ref03_Lower : FnOK SP fi_ref03_Lower fn_ref03_Lower 26 := ⟨Try.func20, by kernel_rfl, by kernel_rfl, Try.ntmps20⟩
@[reducible] def fi_ref03_Sorted : Nat := 21
noncomputable def cf_ref03_Sorted (F : Specs) : Cf := { E := { tab := tab, imm := [] }, F := F, gl := glob, N := 63, keep := [0, 2, 3, 4, 5, 6, 10, 27, 44] }
@[reducible] noncomputable def fn_ref03_Sorted : Func := Try.f21
theorem wf_ref03_Sorted : FnOK SP fi_ref03_Sorted fn_ref03_Sorted 63 := ⟨Try.func21, by kernel_rfl, by kernel_rfl, Try.ntmps21⟩
@[reducible] def fi_ref03_Words : Nat := 22
noncomputable def cf_ref03_Words (F : Specs) : Cf := { E := { tab := tab, imm := [] }, F := F, gl := glob, N := 37, keep := [0, 2, 3, 4, 5, 6, 10, 18, 25, 31] }
@[reducible] noncomputable def fn_ref03_Words : Func := Try.f22
theorem wf_ref03_Words : FnOK SP fi_ref03_Words fn_ref03_Words 37 := ⟨Try.func22, by kernel_rfl, by kernel_rfl, Try.ntmps22⟩
@[reducible] def fi_ref03_In : Nat := 23
noncomputable def cf_ref03_In (F : Specs) : Cf := { E := { tab := tab, imm := [] }, F := F, gl := glob, N := 18, keep := [0, 1, 4, 5, 9, 17] }
@[reducible] noncomputable def fn_ref03_In : Func := Try.f23
theorem wf_ref03_In : FnOK SP fi_ref03_In fn_ref03_In 18 := ⟨Try.func23, by kernel_rfl, by kernel_rfl, Try.ntmps23⟩
@[reducible] def fi_ref03_Increasing : Nat := 24
noncomputable def cf_ref03_Increasing (F : Specs) : Cf := { E := { tab := tab, imm := [] }, F := F, gl := glob, N := 20, keep := [0, 2, 3, 7, 19] }
@[reducible] noncomputable def fn_ref03_Increasing : Func := Try.f24
theorem wf_ref03_Increasing : FnOK SP fi_ref03_Increasing fn_ref03_Increasing 20 := ⟨Try.func24, by kernel_rfl, by kernel_rfl, Try.ntmps24⟩
@[reducible] def fi_strings_Join : Nat := 25
noncomputable def cf_strings_Join (F : Specs) : Cf := { E := { tab := tab, imm := [] }, F := F, gl := glob, N := 75, keep := [0, 1, 4, 5, 7, 8, 10, 12, 13, 15, 22, 29, 39, 40, 41, 42, 49, 63, 64, 65, 66] }
@[reducible] noncomputable def fn_strings_Join : Func := Try.f25
theorem wf_strings_Join : FnOK SP fi_strings_Join fn_strings_Join 75 := ⟨Try.func25, by kernel_rfl, by kernel_rfl, Try.ntmps25⟩
@[reducible] def fi_slices_Collect_string : Nat := 26
noncomputable def cf_slices_Collect_string (F : Specs) : Cf := { E := { tab := tab, imm := [] }, F := F, gl := glob, N := 5, keep := [0, 2] }
@[reducible] noncomputable def fn_slices_Collect_string : Func := Try.f26
theorem wf_slices_Collect_string : FnOK SP fi_slices_Collect_string fn_slices_Collect_string 5 := ⟨Try.func26, by kernel_rfl, by kernel_rfl, Try.ntmps26⟩
@[reducible] def fi_words_all : Nat := 27
noncomputable def cf_words_all (F : Specs) : Cf := { E := { tab := tab, imm := [1] }, F := F, gl := glob, N := 4, keep := [0, 1, 2] }
@[reducible] noncomputable def fn_words_all : Func := Try.f27
theorem wf_words_all : FnOK SP fi_words_all fn_words_all 4 := ⟨Try.func27, by kernel_rfl, by kernel_rfl, Try.ntmps27⟩
@[reducible] def fi_words_sorted : Nat := 28
noncomputable def cf_words_sorted (F : Specs) : Cf := { E := { tab := tab, imm := [] }, F := F, gl := glob, N := 18, keep := [0, 2, 3, 4, 6, 8] }
@[reducible] noncomputable def fn_words_sorted : Func := Try.f28
theorem wf_words_sorted : FnOK SP fi_words_sorted fn_words_sorted 18 := ⟨Try.func28, by kernel_rfl, by kernel_rfl, Try.ntmps28⟩
@[reducible] def fi_words_increasing : Nat := 29
noncomputable def cf_words_increasing (F : Specs) : Cf := { E := { tab := tab, imm := [] }, F := F, gl := glob, N := 20, keep := [0, 2, 3, 7, 19] }
@[reducible] noncomputable def fn_words_increasing : Func := Try.f29
theorem wf_words_increasing : FnOK SP fi_words_increasing fn_words_increasing 20 := ⟨Try.func29, by kernel_rfl, by kernel_rfl, Try.ntmps29⟩
@[reducible] def fi_strings_Builder_Grow : Nat := 30
noncomputable def cf_strings_Builder_Grow (F : Specs) : Cf := { E := { tab := tab, imm := [] }, F := F, gl := glob, N := 25, keep := [0, 1, 7, 21] }
@[reducible] noncomputable def fn_strings_Builder_Grow : Func := Try.f30
theorem wf_strings_Builder_Grow : FnOK SP fi_strings_Builder_Grow fn_strings_Builder_Grow 25 := ⟨Try.func30, by kernel_rfl, by kernel_rfl, Try.ntmps30⟩
@[reducible] def fi_strings_Builder_WriteString : Nat := 31
noncomputable def cf_strings_Builder_WriteString (F : Specs) : Cf := { E := { tab := tab, imm := [] }, F := F, gl := glob, N := 19, keep := [0, 1, 4, 5] }
@[reducible] noncomputable def fn_strings_Builder_WriteString : Func := Try.f31
theorem wf_strings_Builder_WriteString : FnOK SP fi_strings_Builder_WriteString fn_strings_Builder_WriteString 19 := ⟨Try.func31, by kernel_rfl, by kernel_rfl, Try.ntmps31⟩
@[reducible] def fi_strings_Builder_String : Nat := 32
noncomputable def cf_strings_Builder_String (F : Specs) : Cf := { E := { tab := tab, imm := [] }, F := F, gl := glob, N := 14, keep := [0, 2] }
@[reducible] noncomputable def fn_strings_Builder_String : Func := Try.f32
theorem wf_strings_Builder_String : FnOK SP fi_strings_Builder_String fn_strings_Builder_String 14 := ⟨Try.func32, by kernel_rfl, by kernel_rfl, Try.ntmps32⟩
@[reducible] def fi_slices_AppendSeq_sl_string_string : Nat := 33
noncomputable def cf_slices_AppendSeq_sl_string_string (F : Specs) : Cf := { E := { tab := tab, imm := [] }, F := F, gl := glob, N := 13, keep := [0, 1, 2, 4, 5, 6, 7] }
@[reducible] noncomputable def fn_slices_AppendSeq_sl_string_string : Func := Try.f33
theorem wf_slices_AppendSeq_sl_string_string : FnOK SP fi_slices_AppendSeq_sl_string_string fn_slices_AppendSeq_sl_string_string 13 := ⟨Try.func33, by kernel_rfl, by kernel_rfl, Try.ntmps33⟩
@[reducible] def fi_words_all_1 : Nat := 34
noncomputable def cf_words_all_1 (F : Specs) : Cf := { E := { tab := tab, imm := [2] }, F := F, gl := glob, N := 29, keep := [0, 1, 2, 3, 4, 5, 6, 9, 10, 11, 18, 25] }
@[reducible] noncomputable def fn_words_all_1 : Func := Try.f34
theorem wf_words_all_1 : FnOK SP fi_words_all_1 fn_words_all_1 29 := ⟨Try.func34, by kernel_rfl, by kernel_rfl, Try.ntmps34⟩
@[reducible] def fi_words_all_1_1 : Nat := 35
noncomputable def cf_words_all_1_1 (F : Specs) : Cf := { E := { tab := tab, imm := [] }, F := F, gl := glob, N := 15, keep := [0, 1, 2, 3] }
@[reducible] noncomputable def fn_words_all_1_1 : Func := Try.f35
theorem wf_words_all_1_1 : FnOK SP fi_words_all_1_1 fn_words_all_1_1 15 := ⟨Try.func35, by kernel_rfl, by kernel_rfl, Try.ntmps35⟩
@[reducible] def fi_words_lower : Nat := 36
noncomputable def cf_words_lower (F : Specs) : Cf := { E := { tab := tab, imm := [] }, F := F, gl := glob, N := 27, keep := [0, 2, 3, 13] }
@[reducible] noncomputable def fn_words_lower : Func := Try.f36
theorem wf_words_lower : FnOK SP fi_words_lower fn_words_lower 27 := ⟨Try.func36, by kernel_rfl, by kernel_rfl, Try.ntmps36⟩
@[reducible] def fi_slices_Sort_sl_string_string : Nat := 37
noncomputable def cf_slices_Sort_sl_string_string (F : Specs) : Cf := { E := { tab := tab, imm := [] }, F := F, gl := glob, N := 11, keep := [0, 2] }
@[reducible] noncomputable def fn_slices_Sort_sl_string_string : Func := Try.f37
theorem wf_slices_Sort_sl_string_string : FnOK SP fi_slices_Sort_sl_string_string fn_slices_Sort_sl_string_string 11 := ⟨Try.func37, by kernel_rfl, by kernel_rfl, Try.ntmps37⟩
@[reducible] def fi_strings_Builder_copyCheck : Nat := 38
noncomputable def cf_strings_Builder_copyCheck (F : Specs) : Cf := { E := { tab := tab, imm := [] }, F := F, gl := glob, N := 20, keep := [0, 6, 19] }
@[reducible] noncomputable def fn_strings_Builder_copyCheck : Func := Try.f38
theorem wf_strings_Builder_copyCheck : FnOK SP fi_strings_Builder_copyCheck fn_strings_Builder_copyCheck 20 := ⟨Try.func38, by kernel_rfl, by kernel_rfl, Try.ntmps38⟩
@[reducible] def fi_strings_Builder_grow : Nat := 39
noncomputable def cf_strings_Builder_grow (F : Specs) : Cf := { E := { tab := tab, imm := [] }, F := F, gl := glob, N := 30, keep := [0, 1, 4] }
@[reducible] noncomputable def fn_strings_Builder_grow : Func := Try.f39
theorem wf_strings_Builder_grow : FnOK SP fi_strings_Builder_grow fn_strings_Builder_grow 30 := ⟨Try.func39, by kernel_rfl, by kernel_rfl, Try.ntmps39⟩
@[reducible] def fi_slices_pdqsortOrdered_string : Nat := 40
noncomputable def cf_slices_pdqsortOrdered_string (F : Specs) : Cf := { E := { tab := tab, imm := [] }, F := F, gl := glob, N := 134, keep := [0, 1, 2, 3, 8, 9, 10, 11, 12, 13, 14, 15, 16, 17, 18, 23, 29, 35, 50, 68, 72, 87, 113] }
@[reducible] noncomputable def fn_slices_pdqsortOrdered_string : Func := Try.f40
theorem wf_slices_pdqsortOrdered_string : FnOK SP fi_slices_pdqsortOrdered_string fn_slices_pdqsortOrdered_string 134 := ⟨Try.func40, by kernel_rfl, by kernel_rfl, Try.ntmps40⟩
@[reducible] def fi_math_bits_Len : Nat := 41
noncomputable def cf_math_bits_Len (F : Specs) : Cf := { E := { tab := tab, imm := [] }, F := F, gl := glob, N := 8, keep := [0, 2] }
@[reducible] noncomputable def fn_math_bits_Len : Func := Try.f41
theorem wf_math_bits_Len : FnOK SP fi_math_bits_Len fn_math_bits_Len 8 := ⟨Try.func41, by kernel_rfl, by kernel_rfl, Try.ntmps41⟩
@[reducible] def fi_slices_insertionSortOrdered_string : Nat := 44
noncomputable def cf_slices_insertionSortOrdered_string (F : Specs) : Cf := { E := { tab := tab, imm := [] }, F := F, gl := glob, N := 49, keep := [0, 1, 2, 6, 7, 12, 30] }
@[reducible] noncomputable def fn_slices_insertionSortOrdered_string : Func := Try.f44
theorem wf_slices_insertionSortOrdered_string : FnOK SP fi_slices_insertionSortOrdered_string fn_slices_insertionSortOrdered_string 49 := ⟨Try.func44, by kernel_rfl, by kernel_rfl, Try.ntmps44⟩
@[reducible] def fi_slices_heapSortOrdered_string : Nat := 45
noncomputable def cf_slices_heapSortOrdered_string (F : Specs) : Cf := { E := { tab := tab, imm := [] }, F := F, gl := glob, N := 56, keep := [0, 1, 2, 6, 7, 8, 9, 10, 19, 30] }
@[reducible] noncomputable def fn_slices_heapSortOrdered_string : Func := Try.f45
theorem wf_slices_heapSortOrdered_string : FnOK SP fi_slices_heapSortOrdered_string fn_slices_heapSortOrdered_string 56 := ⟨Try.func45, by kernel_rfl, by kernel_rfl, Try.ntmps45⟩
@[reducible] def fi_slices_breakPatternsOrdered_string : Nat := 46
noncomputable def cf_slices_breakPatternsOrdered_string (F : Specs) : Cf := { E := { tab := tab, imm := [] }, F := F, gl := glob, N := 65, keep := [0, 1, 2, 6, 7, 8, 9, 10, 15, 33, 43] }
@[reducible] noncomputable def fn_slices_breakPatternsOrdered_string : Func := Try.f46
theorem wf_slices_breakPatternsOrdered_string : FnOK SP fi_slices_breakPatternsOrdered_string fn_slices_breakPatternsOrdered_string 65 := ⟨Try.func46, by kernel_rfl, by kernel_rfl, Try.ntmps46⟩
@[reducible] def fi_slices_choosePivotOrdered_string : Nat := 47
noncomputable def cf_slices_choosePivotOrdered_string (F : Specs) : Cf := { E := { tab := tab, imm := [] }, F := F, gl := glob, N := 57, keep := [0, 1, 2, 6, 7, 8, 9, 10, 11, 12, 32, 34, 49, 51, 54] }
@[reducible] noncomputable def fn_slices_choosePivotOrdered_string : Func := Try.f47
theorem wf_slices_choosePivotOrdered_string : FnOK SP fi_slices_choosePivotOrdered_string fn_slices_choosePivotOrdered_string 57 := ⟨Try.func47, by kernel_rfl, by kernel_rfl, Try.ntmps47⟩
@[reducible] def fi_slices_reverseRangeOrdered_string : Nat := 48
noncomputable def cf_slices_reverseRangeOrdered_string (F : Specs) : Cf := { E := { tab := tab, imm := [] }, F := F, gl := glob, N := 32, keep := [0, 1, 2, 6, 7, 13] }
@[reducible] noncomputable def fn_slices_reverseRangeOrdered_string : Func := Try.f48
theorem wf_slices_reverseRangeOrdered_string : FnOK SP fi_slices_reverseRangeOrdered_string fn_slices_reverseRangeOrdered_string 32 := ⟨Try.func48, by kernel_rfl, by kernel_rfl, Try.ntmps48⟩
@[reducible] def fi_slices_partialInsertionSortOrdered_string : Nat := 49
noncomputable def cf_slices_partialInsertionSortOrdered_string (F : Specs) : Cf := { E := { tab := tab, imm := [] }, F := F, gl := glob, N := 133, keep := [0, 1, 2, 6, 7, 8, 9, 10, 14, 32, 37, 41, 61, 65, 78, 98, 103, 116] }
@[reducible] noncomputable def fn_slices_partialInsertionSortOrdered_string : Func := Try.f49
theorem wf_slices_partialInsertionSortOrdered_string : FnOK SP fi_slices_partialInsertionSortOrdered_string fn_slices_partialInsertionSortOrdered_string 133 := ⟨Try.func49, by kernel_rfl, by kernel_rfl, Try.ntmps49⟩
@[reducible] def fi_cmp_Less_string : Nat := 50
noncomputable def cf_cmp_Less_string (F : Specs) : Cf := { E := { tab := tab, imm := [] }, F := F, gl := glob, N := 17, keep := [0, 1, 4] }
@[reducible] noncomputable def fn_cmp_Less_string : Func := Try.f50
theorem wf_cmp_Less_string : FnOK SP fi_cmp_Less_string fn_cmp_Less_string 17 := ⟨Try.func50, by kernel_rfl, by kernel_rfl, Try.ntmps50⟩
@[reducible] def fi_slices_partitionEqualOrdered_string : Nat := 51
noncomputable def cf_slices_partitionEqualOrdered_string (F : Specs) : Cf := { E := { tab := tab, imm := [] }, F := F, gl := glob, N := 84, keep := [0, 1, 2, 3, 8, 9, 10, 43, 59, 64] }
@[reducible] noncomputable def fn_slices_partitionEqualOrdered_string : Func := Try.f51
theorem wf_slices_partitionEqualOrdered_string : FnOK SP fi_slices_partitionEqualOrdered_string fn_slices_partitionEqualOrdered_string 84 := ⟨Try.func51, by kernel_rfl, by kernel_rfl, Try.ntmps51⟩
@[reducible] def fi_slices_partitionOrdered_string : Nat := 52
noncomputable def cf_slices_partitionOrdered_string (F : Specs) : Cf := { E := { tab := tab, imm := [] }, F := F, gl := glob, N := 168, keep := [0, 1, 2, 3, 8, 9, 10, 11, 43, 60, 65, 112, 129, 134] }
@[reducible] noncomputable def fn_slices_partitionOrdered_string : Func := Try.f52
theorem wf_slices_partitionOrdered_string : FnOK SP fi_slices_partitionOrdered_string fn_slices_partitionOrdered_string 168 := ⟨Try.func52, by kernel_rfl, by kernel_rfl, Try.ntmps52⟩
@[reducible] def fi_math_bits_Len32 : Nat := 53
noncomputable def cf_math_bits_Len32 (F : Specs) : Cf := { E := { tab := tab, imm := [] }, F := F, gl := glob, N := 19, keep := [0, 2, 4, 8] }
@[reducible] noncomputable def fn_math_bits_Len32 : Func := Try.f53
theorem wf_math_bits_Len32 : FnOK SP fi_math_bits_Len32 fn_math_bits_Len32 19 := ⟨Try.func53, by kernel_rfl, by kernel_rfl, Try.ntmps53⟩
@[reducible] def fi_math_bits_Len64 : Nat := 54
noncomputable def cf_math_bits_Len64 (F : Specs) : Cf := { E := { tab := tab, imm := [] }, F := F, gl := glob, N := 25, keep := [0, 2, 4, 8, 14] }
@[reducible] noncomputable def fn_math_bits_Len64 : Func := Try.f54
theorem wf_math_bits_Len64 : FnOK SP fi_math_bits_Len64 fn_math_bits_Len64 25 := ⟨Try.func54, by kernel_rfl, by kernel_rfl, Try.ntmps54⟩
@[reducible] def fi_slices_siftDownOrdered_string : Nat := 55
noncomputable def cf_slices_siftDownOrdered_string (F : Specs) : Cf := { E := { tab := tab, imm := [] }, F := F, gl := glob, N := 76, keep := [0, 1, 2, 3, 8, 9, 16, 36, 52] }
@[reducible] noncomputable def fn_slices_siftDownOrdered_string : Func := Try.f55
theorem wf_slices_siftDownOrdered_string : FnOK SP fi_slices_siftDownOrdered_string fn_slices_siftDownOrdered_string 76 := ⟨Try.func55, by kernel_rfl, by kernel_rfl, Try.ntmps55⟩
@[reducible] def fi_slices_nextPowerOfTwo : Nat := 56
noncomputable def cf_slices_nextPowerOfTwo (F : Specs) : Cf := { E := { tab := tab, imm := [] }, F := F, gl := glob, N := 7, keep := [0, 2] }
@[reducible] noncomputable def fn_slices_nextPowerOfTwo : Func := Try.f56
theorem wf_slices_nextPowerOfTwo : FnOK SP fi_slices_nextPowerOfTwo fn_slices_nextPowerOfTwo 7 := ⟨Try.func56, by kernel_rfl, by kernel_rfl, Try.ntmps56⟩
@[reducible] def fi_slices_xorshift_Next : Nat := 57
noncomputable def cf_slices_xorshift_Next (F : Specs) : Cf := { E := { tab := tab, imm := [] }, F := F, gl := glob, N := 33, keep := [0, 2] }
@[reducible] noncomputable def fn_slices_xorshift_Next : Func := Try.f57
theorem wf_slices_xorshift_Next : FnOK SP fi_slices_xorshift_Next fn_slices_xorshift_Next 33 := ⟨Try.func57, by kernel_rfl, by kernel_rfl, Try.ntmps57⟩
@[reducible] def fi_slices_medianAdjacentOrdered_string : Nat := 58
noncomputable def cf_slices_medianAdjacentOrdered_string (F : Specs) : Cf := { E := { tab := tab, imm := [] }, F := F, gl := glob, N := 15, keep := [0, 1, 2, 6] }
@[reducible] noncomputable def fn_slices_medianAdjacentOrdered_string : Func := Try.f58
theorem wf_slices_medianAdjacentOrdered_string : FnOK SP fi_slices_medianAdjacentOrdered_string fn_slices_medianAdjacentOrdered_string 15 := ⟨Try.func58, by kernel_rfl, by kernel_rfl, Try.ntmps58⟩
@[reducible] def fi_slices_medianOrdered_string : Nat := 59
noncomputable def cf_slices_medianOrdered_string (F : Specs) : Cf := { E := { tab := tab, imm := [] }, F := F, gl := glob, N := 36, keep := [0, 1, 2, 3, 4, 10] }
@[reducible] noncomputable def fn_slices_medianOrdered_string : Func := Try.f59
theorem wf_slices_medianOrdered_string : FnOK SP fi_slices_medianOrdered_string fn_slices_medianOrdered_string 36 := ⟨Try.func59, by kernel_rfl, by kernel_rfl, Try.ntmps59⟩
@[reducible] def fi_cmp_isNaN_string : Nat := 60
noncomputable def cf_cmp_isNaN_string (F : Specs) : Cf := { E := { tab := tab, imm := [] }, F := F, gl := glob, N := 6, keep := [0, 2] }
@[reducible] noncomputable def fn_cmp_isNaN_string : Func := Try.f60
theorem wf_cmp_isNaN_string : FnOK SP fi_cmp_isNaN_string fn_cmp_isNaN_string 6 := ⟨Try.func60, by kernel_rfl, by kernel_rfl, Try.ntmps60⟩
@[reducible] def fi_slices_order2Ordered_string : Nat := 61
noncomputable def cf_slices_order2Ordered_string (F : Specs) : Cf := { E := { tab := tab, imm := [] }, F := F, gl := glob, N := 28, keep := [0, 1, 2, 3, 8, 9, 18] }
@[reducible] noncomputable def fn_slices_order2Ordered_string : Func := Try.f61
theorem wf_slices_order2Ordered_string : FnOK SP fi_slices_order2Ordered_string fn_slices_order2Ordered_string 28 := ⟨Try.func61, by kernel_rfl, by kernel_rfl, Try.ntmps61⟩
end Go.Gv
