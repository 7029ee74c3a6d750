/- The seat's table of types and numbers of functions, printed by a program. -/
import Derived.Test.YtklcfpomppgblaaGreatDoorGg
import Derived.Test.YtklcfpomppgblaaGreatDoorChecked
import Derived.Test.YtklcfpomppgblaaGreatDoorRows
import Derived.Lib.ItoaNum
set_option linter.all false
namespace Go.Gv
open Go Go.Proofs Go.Proofs.YtklcfpomppgblaaGreatDoor

noncomputable def glob : Glob := fun g => match g with | 0 => some ⟨.arr 8 .str, ([[], [100, 101, 108, 105, 118, 101, 114], [100, 101, 99, 105, 100, 101], [112, 114, 111, 103, 114, 97, 109], [99, 104, 97, 110, 103, 101], [117, 110, 100, 111], [100, 105, 115, 111, 119, 110], [101, 114, 97, 115, 101]] : List (List UInt8))⟩ | 4 => some ⟨.arr 20 (.int .u64), Lib.pow10Tab⟩ | _ => none
@[reducible] noncomputable def SP : Program := Tryz.prog
theorem mix_ok : SP.follows .mixedOrders = true := by kernel_rfl
def tab : List (Nat × (Ty × Nat)) := [(1, .fn, 8), (2, .int .i64, 8), (3, .int .i64, 8), (4, .bool, 1), (5, .int .u8, 1), (9, .str, 16), (20, .ifc 3 (.int .i64) (.ifc 9 (.str) (.ifc 50 (.st (.cs (.int .i64) (.cs (.str) (.cs (.str) (.nl))))) (.ifc 54 (.st (.cs (.int .i64) (.cs (.int .i64) (.nl)))) .ni))), 16), (21, .int .i32, 4), (22, .sl (.st (.cs (.int .i64) (.cs (.sl (.st (.cs (.int .i64) (.cs (.st (.cs (.int .i64) (.cs (.int .i64) (.nl)))) (.cs (.st (.cs (.int .i64) (.cs (.int .i64) (.cs (.int .i64) (.cs (.int .i64) (.cs (.str) (.cs (.str) (.cs (.sl (.st (.cs (.str) (.cs (.st (.cs (.int .i64) (.cs (.int .i64) (.cs (.str) (.nl))))) (.nl))))) (.cs (.str) (.nl)))))))))) (.cs (.st (.cs (.int .i64) (.cs (.st (.cs (.int .i64) (.cs (.str) (.cs (.str) (.nl))))) (.cs (.st (.cs (.int .i64) (.cs (.str) (.cs (.str) (.nl))))) (.nl))))) (.cs (.str) (.cs (.st (.cs (.int .i64) (.cs (.str) (.cs (.str) (.cs (.str) (.cs (.int .i64) (.cs (.st (.cs (.int .i64) (.cs (.int .i64) (.cs (.str) (.nl))))) (.nl)))))))) (.cs (.st (.cs (.int .i64) (.cs (.int .i64) (.nl)))) (.cs (.int .i64) (.cs (.str) (.nl)))))))))))) (.cs (.int .i64) (.nl))))), 24), (25, .ot 2, 8), (28, .sl (.st (.cs (.int .i64) (.cs (.st (.cs (.int .i64) (.cs (.int .i64) (.nl)))) (.cs (.st (.cs (.int .i64) (.cs (.int .i64) (.cs (.int .i64) (.cs (.int .i64) (.cs (.str) (.cs (.str) (.cs (.sl (.st (.cs (.str) (.cs (.st (.cs (.int .i64) (.cs (.int .i64) (.cs (.str) (.nl))))) (.nl))))) (.cs (.str) (.nl)))))))))) (.cs (.st (.cs (.int .i64) (.cs (.st (.cs (.int .i64) (.cs (.str) (.cs (.str) (.nl))))) (.cs (.st (.cs (.int .i64) (.cs (.str) (.cs (.str) (.nl))))) (.nl))))) (.cs (.str) (.cs (.st (.cs (.int .i64) (.cs (.str) (.cs (.str) (.cs (.str) (.cs (.int .i64) (.cs (.st (.cs (.int .i64) (.cs (.int .i64) (.cs (.str) (.nl))))) (.nl)))))))) (.cs (.st (.cs (.int .i64) (.cs (.int .i64) (.nl)))) (.cs (.int .i64) (.cs (.str) (.nl))))))))))), 24), (30, .st (.cs (.int .i64) (.cs (.sl (.st (.cs (.int .i64) (.cs (.st (.cs (.int .i64) (.cs (.int .i64) (.nl)))) (.cs (.st (.cs (.int .i64) (.cs (.int .i64) (.cs (.int .i64) (.cs (.int .i64) (.cs (.str) (.cs (.str) (.cs (.sl (.st (.cs (.str) (.cs (.st (.cs (.int .i64) (.cs (.int .i64) (.cs (.str) (.nl))))) (.nl))))) (.cs (.str) (.nl)))))))))) (.cs (.st (.cs (.int .i64) (.cs (.st (.cs (.int .i64) (.cs (.str) (.cs (.str) (.nl))))) (.cs (.st (.cs (.int .i64) (.cs (.str) (.cs (.str) (.nl))))) (.nl))))) (.cs (.str) (.cs (.st (.cs (.int .i64) (.cs (.str) (.cs (.str) (.cs (.str) (.cs (.int .i64) (.cs (.st (.cs (.int .i64) (.cs (.int .i64) (.cs (.str) (.nl))))) (.nl)))))))) (.cs (.st (.cs (.int .i64) (.cs (.int .i64) (.nl)))) (.cs (.int .i64) (.cs (.str) (.nl)))))))))))) (.cs (.int .i64) (.nl)))), 40), (31, .int .i64, 8), (38, .sl (.int .i64), 24), (39, .sl (.sl (.st (.cs (.int .i64) (.cs (.st (.cs (.int .i64) (.cs (.int .i64) (.nl)))) (.cs (.st (.cs (.int .i64) (.cs (.int .i64) (.cs (.int .i64) (.cs (.int .i64) (.cs (.str) (.cs (.str) (.cs (.sl (.st (.cs (.str) (.cs (.st (.cs (.int .i64) (.cs (.int .i64) (.cs (.str) (.nl))))) (.nl))))) (.cs (.str) (.nl)))))))))) (.cs (.st (.cs (.int .i64) (.cs (.st (.cs (.int .i64) (.cs (.str) (.cs (.str) (.nl))))) (.cs (.st (.cs (.int .i64) (.cs (.str) (.cs (.str) (.nl))))) (.nl))))) (.cs (.str) (.cs (.st (.cs (.int .i64) (.cs (.str) (.cs (.str) (.cs (.str) (.cs (.int .i64) (.cs (.st (.cs (.int .i64) (.cs (.int .i64) (.cs (.str) (.nl))))) (.nl)))))))) (.cs (.st (.cs (.int .i64) (.cs (.int .i64) (.nl)))) (.cs (.int .i64) (.cs (.str) (.nl)))))))))))), 24), (42, .sl (.int .u8), 24), (43, .sl (.bool), 24), (45, .sl (.st (.cs (.int .u8) (.cs (.int .i64) (.cs (.st (.cs (.int .i64) (.cs (.st (.cs (.int .i64) (.cs (.str) (.cs (.str) (.nl))))) (.cs (.st (.cs (.int .i64) (.cs (.str) (.cs (.str) (.nl))))) (.nl))))) (.cs (.st (.cs (.int .i64) (.cs (.int .i64) (.nl)))) (.nl)))))), 24), (47, .ot 2, 8), (50, .st (.cs (.int .i64) (.cs (.str) (.cs (.str) (.nl)))), 40), (52, .st (.cs (.int .i64) (.cs (.st (.cs (.int .i64) (.cs (.str) (.cs (.str) (.nl))))) (.cs (.st (.cs (.int .i64) (.cs (.str) (.cs (.str) (.nl))))) (.nl)))), 88), (54, .st (.cs (.int .i64) (.cs (.int .i64) (.nl))), 16), (56, .st (.cs (.int .u8) (.cs (.int .i64) (.cs (.st (.cs (.int .i64) (.cs (.st (.cs (.int .i64) (.cs (.str) (.cs (.str) (.nl))))) (.cs (.st (.cs (.int .i64) (.cs (.str) (.cs (.str) (.nl))))) (.nl))))) (.cs (.st (.cs (.int .i64) (.cs (.int .i64) (.nl)))) (.nl))))), 120), (57, .sl (.st (.cs (.int .i64) (.cs (.sl (.st (.cs (.int .u8) (.cs (.int .i64) (.cs (.st (.cs (.int .i64) (.cs (.st (.cs (.int .i64) (.cs (.str) (.cs (.str) (.nl))))) (.cs (.st (.cs (.int .i64) (.cs (.str) (.cs (.str) (.nl))))) (.nl))))) (.cs (.st (.cs (.int .i64) (.cs (.int .i64) (.nl)))) (.nl))))))) (.cs (.bool) (.nl))))), 24), (71, .st (.cs (.int .i64) (.cs (.sl (.st (.cs (.int .u8) (.cs (.int .i64) (.cs (.st (.cs (.int .i64) (.cs (.st (.cs (.int .i64) (.cs (.str) (.cs (.str) (.nl))))) (.cs (.st (.cs (.int .i64) (.cs (.str) (.cs (.str) (.nl))))) (.nl))))) (.cs (.st (.cs (.int .i64) (.cs (.int .i64) (.nl)))) (.nl))))))) (.cs (.bool) (.nl)))), 40), (74, .fn, 8), (75, .sl (.st (.cs (.str) (.cs (.st (.cs (.int .i64) (.cs (.int .i64) (.cs (.str) (.nl))))) (.nl)))), 24), (77, .st (.cs (.int .i64) (.cs (.int .i64) (.cs (.int .i64) (.cs (.int .i64) (.cs (.str) (.cs (.str) (.cs (.sl (.st (.cs (.str) (.cs (.st (.cs (.int .i64) (.cs (.int .i64) (.cs (.str) (.nl))))) (.nl))))) (.cs (.str) (.nl))))))))), 104), (79, .st (.cs (.int .i64) (.cs (.int .i64) (.cs (.str) (.nl)))), 32), (81, .st (.cs (.int .i64) (.cs (.str) (.cs (.str) (.cs (.str) (.cs (.int .i64) (.cs (.st (.cs (.int .i64) (.cs (.int .i64) (.cs (.str) (.nl))))) (.nl))))))), 96), (83, .st (.cs (.int .i64) (.cs (.st (.cs (.int .i64) (.cs (.int .i64) (.nl)))) (.cs (.st (.cs (.int .i64) (.cs (.int .i64) (.cs (.int .i64) (.cs (.int .i64) (.cs (.str) (.cs (.str) (.cs (.sl (.st (.cs (.str) (.cs (.st (.cs (.int .i64) (.cs (.int .i64) (.cs (.str) (.nl))))) (.nl))))) (.cs (.str) (.nl)))))))))) (.cs (.st (.cs (.int .i64) (.cs (.st (.cs (.int .i64) (.cs (.str) (.cs (.str) (.nl))))) (.cs (.st (.cs (.int .i64) (.cs (.str) (.cs (.str) (.nl))))) (.nl))))) (.cs (.str) (.cs (.st (.cs (.int .i64) (.cs (.str) (.cs (.str) (.cs (.str) (.cs (.int .i64) (.cs (.st (.cs (.int .i64) (.cs (.int .i64) (.cs (.str) (.nl))))) (.nl)))))))) (.cs (.st (.cs (.int .i64) (.cs (.int .i64) (.nl)))) (.cs (.int .i64) (.cs (.str) (.nl)))))))))), 368), (87, .mp (.int .i64) (.sl (.st (.cs (.int .i64) (.cs (.st (.cs (.int .i64) (.cs (.int .i64) (.nl)))) (.cs (.st (.cs (.int .i64) (.cs (.int .i64) (.cs (.int .i64) (.cs (.int .i64) (.cs (.str) (.cs (.str) (.cs (.sl (.st (.cs (.str) (.cs (.st (.cs (.int .i64) (.cs (.int .i64) (.cs (.str) (.nl))))) (.nl))))) (.cs (.str) (.nl)))))))))) (.cs (.st (.cs (.int .i64) (.cs (.st (.cs (.int .i64) (.cs (.str) (.cs (.str) (.nl))))) (.cs (.st (.cs (.int .i64) (.cs (.str) (.cs (.str) (.nl))))) (.nl))))) (.cs (.str) (.cs (.st (.cs (.int .i64) (.cs (.str) (.cs (.str) (.cs (.str) (.cs (.int .i64) (.cs (.st (.cs (.int .i64) (.cs (.int .i64) (.cs (.str) (.nl))))) (.nl)))))))) (.cs (.st (.cs (.int .i64) (.cs (.int .i64) (.nl)))) (.cs (.int .i64) (.cs (.str) (.nl)))))))))))), 8), (88, .mp (.int .i64) (.int .i64), 8), (90, .st (.cs (.int .i64) (.cs (.mp (.int .i64) (.sl (.st (.cs (.int .i64) (.cs (.st (.cs (.int .i64) (.cs (.int .i64) (.nl)))) (.cs (.st (.cs (.int .i64) (.cs (.int .i64) (.cs (.int .i64) (.cs (.int .i64) (.cs (.str) (.cs (.str) (.cs (.sl (.st (.cs (.str) (.cs (.st (.cs (.int .i64) (.cs (.int .i64) (.cs (.str) (.nl))))) (.nl))))) (.cs (.str) (.nl)))))))))) (.cs (.st (.cs (.int .i64) (.cs (.st (.cs (.int .i64) (.cs (.str) (.cs (.str) (.nl))))) (.cs (.st (.cs (.int .i64) (.cs (.str) (.cs (.str) (.nl))))) (.nl))))) (.cs (.str) (.cs (.st (.cs (.int .i64) (.cs (.str) (.cs (.str) (.cs (.str) (.cs (.int .i64) (.cs (.st (.cs (.int .i64) (.cs (.int .i64) (.cs (.str) (.nl))))) (.nl)))))))) (.cs (.st (.cs (.int .i64) (.cs (.int .i64) (.nl)))) (.cs (.int .i64) (.cs (.str) (.nl))))))))))))) (.cs (.int .i64) (.cs (.mp (.int .i64) (.int .i64)) (.nl))))), 32), (92, .mp (.int .i64) (.bool), 8), (94, .mp (.int .i64) (.ot 2), 8), (96, .st (.cs (.sl (.st (.cs (.int .i64) (.cs (.st (.cs (.int .i64) (.cs (.int .i64) (.nl)))) (.cs (.st (.cs (.int .i64) (.cs (.int .i64) (.cs (.int .i64) (.cs (.int .i64) (.cs (.str) (.cs (.str) (.cs (.sl (.st (.cs (.str) (.cs (.st (.cs (.int .i64) (.cs (.int .i64) (.cs (.str) (.nl))))) (.nl))))) (.cs (.str) (.nl)))))))))) (.cs (.st (.cs (.int .i64) (.cs (.st (.cs (.int .i64) (.cs (.str) (.cs (.str) (.nl))))) (.cs (.st (.cs (.int .i64) (.cs (.str) (.cs (.str) (.nl))))) (.nl))))) (.cs (.str) (.cs (.st (.cs (.int .i64) (.cs (.str) (.cs (.str) (.cs (.str) (.cs (.int .i64) (.cs (.st (.cs (.int .i64) (.cs (.int .i64) (.cs (.str) (.nl))))) (.nl)))))))) (.cs (.st (.cs (.int .i64) (.cs (.int .i64) (.nl)))) (.cs (.int .i64) (.cs (.str) (.nl)))))))))))) (.cs (.sl (.sl (.st (.cs (.int .i64) (.cs (.st (.cs (.int .i64) (.cs (.int .i64) (.nl)))) (.cs (.st (.cs (.int .i64) (.cs (.int .i64) (.cs (.int .i64) (.cs (.int .i64) (.cs (.str) (.cs (.str) (.cs (.sl (.st (.cs (.str) (.cs (.st (.cs (.int .i64) (.cs (.int .i64) (.cs (.str) (.nl))))) (.nl))))) (.cs (.str) (.nl)))))))))) (.cs (.st (.cs (.int .i64) (.cs (.st (.cs (.int .i64) (.cs (.str) (.cs (.str) (.nl))))) (.cs (.st (.cs (.int .i64) (.cs (.str) (.cs (.str) (.nl))))) (.nl))))) (.cs (.str) (.cs (.st (.cs (.int .i64) (.cs (.str) (.cs (.str) (.cs (.str) (.cs (.int .i64) (.cs (.st (.cs (.int .i64) (.cs (.int .i64) (.cs (.str) (.nl))))) (.nl)))))))) (.cs (.st (.cs (.int .i64) (.cs (.int .i64) (.nl)))) (.cs (.int .i64) (.cs (.str) (.nl))))))))))))) (.cs (.mp (.int .i64) (.ot 2)) (.cs (.int .i64) (.nl))))), 64), (97, .mp (.int .i64) (.st (.cs (.int .i64) (.cs (.sl (.st (.cs (.int .u8) (.cs (.int .i64) (.cs (.st (.cs (.int .i64) (.cs (.st (.cs (.int .i64) (.cs (.str) (.cs (.str) (.nl))))) (.cs (.st (.cs (.int .i64) (.cs (.str) (.cs (.str) (.nl))))) (.nl))))) (.cs (.st (.cs (.int .i64) (.cs (.int .i64) (.nl)))) (.nl))))))) (.cs (.bool) (.nl))))), 8), (98, .sl (.st (.cs (.st (.cs (.int .i64) (.cs (.st (.cs (.int .i64) (.cs (.int .i64) (.nl)))) (.cs (.st (.cs (.int .i64) (.cs (.int .i64) (.cs (.int .i64) (.cs (.int .i64) (.cs (.str) (.cs (.str) (.cs (.sl (.st (.cs (.str) (.cs (.st (.cs (.int .i64) (.cs (.int .i64) (.cs (.str) (.nl))))) (.nl))))) (.cs (.str) (.nl)))))))))) (.cs (.st (.cs (.int .i64) (.cs (.st (.cs (.int .i64) (.cs (.str) (.cs (.str) (.nl))))) (.cs (.st (.cs (.int .i64) (.cs (.str) (.cs (.str) (.nl))))) (.nl))))) (.cs (.str) (.cs (.st (.cs (.int .i64) (.cs (.str) (.cs (.str) (.cs (.str) (.cs (.int .i64) (.cs (.st (.cs (.int .i64) (.cs (.int .i64) (.cs (.str) (.nl))))) (.nl)))))))) (.cs (.st (.cs (.int .i64) (.cs (.int .i64) (.nl)))) (.cs (.int .i64) (.cs (.str) (.nl))))))))))) (.cs (.str) (.nl)))), 24), (102, .st (.cs (.st (.cs (.int .i64) (.cs (.st (.cs (.int .i64) (.cs (.int .i64) (.nl)))) (.cs (.st (.cs (.int .i64) (.cs (.int .i64) (.cs (.int .i64) (.cs (.int .i64) (.cs (.str) (.cs (.str) (.cs (.sl (.st (.cs (.str) (.cs (.st (.cs (.int .i64) (.cs (.int .i64) (.cs (.str) (.nl))))) (.nl))))) (.cs (.str) (.nl)))))))))) (.cs (.st (.cs (.int .i64) (.cs (.st (.cs (.int .i64) (.cs (.str) (.cs (.str) (.nl))))) (.cs (.st (.cs (.int .i64) (.cs (.str) (.cs (.str) (.nl))))) (.nl))))) (.cs (.str) (.cs (.st (.cs (.int .i64) (.cs (.str) (.cs (.str) (.cs (.str) (.cs (.int .i64) (.cs (.st (.cs (.int .i64) (.cs (.int .i64) (.cs (.str) (.nl))))) (.nl)))))))) (.cs (.st (.cs (.int .i64) (.cs (.int .i64) (.nl)))) (.cs (.int .i64) (.cs (.str) (.nl))))))))))) (.cs (.str) (.nl))), 384), (104, .fn, 8), (105, .fn, 8), (107, .fn, 8), (108, .ot 2, 8), (109, .sl (.ifc 115 (.st (.cs (.st (.cs (.int .i64) (.cs (.st (.cs (.int .i64) (.cs (.str) (.cs (.str) (.nl))))) (.cs (.st (.cs (.int .i64) (.cs (.str) (.cs (.str) (.nl))))) (.nl))))) (.nl))) (.ifc 120 (.st (.cs (.st (.cs (.int .i64) (.cs (.int .i64) (.nl)))) (.nl))) .ni)), 24), (111, .st (.cs (.int .i64) (.cs (.int .i64) (.cs (.sl (.ifc 115 (.st (.cs (.st (.cs (.int .i64) (.cs (.st (.cs (.int .i64) (.cs (.str) (.cs (.str) (.nl))))) (.cs (.st (.cs (.int .i64) (.cs (.str) (.cs (.str) (.nl))))) (.nl))))) (.nl))) (.ifc 120 (.st (.cs (.st (.cs (.int .i64) (.cs (.int .i64) (.nl)))) (.nl))) .ni))) (.nl)))), 40), (115, .st (.cs (.st (.cs (.int .i64) (.cs (.st (.cs (.int .i64) (.cs (.str) (.cs (.str) (.nl))))) (.cs (.st (.cs (.int .i64) (.cs (.str) (.cs (.str) (.nl))))) (.nl))))) (.nl)), 88), (116, .fn, 8), (120, .st (.cs (.st (.cs (.int .i64) (.cs (.int .i64) (.nl)))) (.nl)), 16), (122, .ifc 115 (.st (.cs (.st (.cs (.int .i64) (.cs (.st (.cs (.int .i64) (.cs (.str) (.cs (.str) (.nl))))) (.cs (.st (.cs (.int .i64) (.cs (.str) (.cs (.str) (.nl))))) (.nl))))) (.nl))) (.ifc 120 (.st (.cs (.st (.cs (.int .i64) (.cs (.int .i64) (.nl)))) (.nl))) .ni), 16), (124, .sl (.st (.cs (.int .i64) (.cs (.int .i64) (.cs (.int .i64) (.cs (.int .i64) (.cs (.str) (.cs (.str) (.cs (.sl (.st (.cs (.str) (.cs (.st (.cs (.int .i64) (.cs (.int .i64) (.cs (.str) (.nl))))) (.nl))))) (.cs (.str) (.nl)))))))))), 24), (125, .mp (.st (.cs (.int .i64) (.cs (.int .i64) (.nl)))) (.int .i64), 8), (126, .mp (.st (.cs (.int .i64) (.cs (.int .i64) (.nl)))) (.sl (.st (.cs (.int .i64) (.cs (.st (.cs (.int .i64) (.cs (.int .i64) (.nl)))) (.cs (.st (.cs (.int .i64) (.cs (.int .i64) (.cs (.int .i64) (.cs (.int .i64) (.cs (.str) (.cs (.str) (.cs (.sl (.st (.cs (.str) (.cs (.st (.cs (.int .i64) (.cs (.int .i64) (.cs (.str) (.nl))))) (.nl))))) (.cs (.str) (.nl)))))))))) (.cs (.st (.cs (.int .i64) (.cs (.st (.cs (.int .i64) (.cs (.str) (.cs (.str) (.nl))))) (.cs (.st (.cs (.int .i64) (.cs (.str) (.cs (.str) (.nl))))) (.nl))))) (.cs (.str) (.cs (.st (.cs (.int .i64) (.cs (.str) (.cs (.str) (.cs (.str) (.cs (.int .i64) (.cs (.st (.cs (.int .i64) (.cs (.int .i64) (.cs (.str) (.nl))))) (.nl)))))))) (.cs (.st (.cs (.int .i64) (.cs (.int .i64) (.nl)))) (.cs (.int .i64) (.cs (.str) (.nl)))))))))))), 8), (127, .mp (.st (.cs (.int .i64) (.cs (.int .i64) (.nl)))) (.bool), 8), (129, .arr 64 (.bool), 64), (131, .fn, 8), (142, .arr 8 (.str), 128), (145, .arr 4 (.str), 64), (150, .int .u64, 8), (156, .fn, 8), (159, .sl (.st (.cs (.int .i64) (.cs (.str) (.cs (.str) (.nl))))), 24), (161, .mp (.int .i64) (.sl (.st (.cs (.int .i64) (.cs (.int .i64) (.cs (.int .i64) (.cs (.int .i64) (.cs (.str) (.cs (.str) (.cs (.sl (.st (.cs (.str) (.cs (.st (.cs (.int .i64) (.cs (.int .i64) (.cs (.str) (.nl))))) (.nl))))) (.cs (.str) (.nl))))))))))), 8), (164, .st (.cs (.str) (.cs (.st (.cs (.int .i64) (.cs (.int .i64) (.cs (.str) (.nl))))) (.nl))), 48), (167, .sl (.ifc 3 (.int .i64) (.ifc 9 (.str) (.ifc 50 (.st (.cs (.int .i64) (.cs (.str) (.cs (.str) (.nl))))) (.ifc 54 (.st (.cs (.int .i64) (.cs (.int .i64) (.nl)))) .ni)))), 24), (168, .sl (.str), 24), (171, .arr 5 (.str), 80), (172, .ot 2, 8), (177, .int .i64, 8), (184, .int .u32, 4), (186, .int .u64, 8), (191, .ot 2, 8), (193, .st (.cs (.ot 2) (.cs (.sl (.int .u8)) (.nl))), 32), (196, .ot 1, 16), (198, .fn, 8), (206, .st (.cs (.int .i32) (.cs (.int .u32) (.nl))), 8), (212, .ot 1, 16), (216, .int .u64, 8), (220, .ot 2, 8), (222, .sl (.sl (.st (.cs (.int .i64) (.cs (.int .i64) (.cs (.int .i64) (.cs (.int .i64) (.cs (.str) (.cs (.str) (.cs (.sl (.st (.cs (.str) (.cs (.st (.cs (.int .i64) (.cs (.int .i64) (.cs (.str) (.nl))))) (.nl))))) (.cs (.str) (.nl))))))))))), 24), (223, .mp (.str) (.st (.cs (.int .i64) (.cs (.int .i64) (.cs (.int .i64) (.cs (.int .i64) (.cs (.str) (.cs (.str) (.cs (.sl (.st (.cs (.str) (.cs (.st (.cs (.int .i64) (.cs (.int .i64) (.cs (.str) (.nl))))) (.nl))))) (.cs (.str) (.nl)))))))))), 8), (225, .fn, 8), (227, .ot 2, 8), (228, .ot 2, 8), (230, .ot 2, 8), (234, .arr 24 (.int .u8), 24), (241, .ot 2, 8), (243, .ot 2, 8), (245, .ot 2, 8), (247, .ot 2, 8), (249, .arr 256 (.int .u8), 256), (250, .arr 256 (.int .u8), 256), (251, .ot 2, 8), (252, .arr 256 (.sl (.int .u8)), 6144), (254, .st (.cs (.arr 256 (.sl (.int .u8))) (.cs (.sl (.str)) (.nl))), 6168), (255, .ot 2, 8), (263, .arr 20 (.int .u64), 160), (264, .arr 65 (.int .u8), 65), (265, .ot 2, 8), (268, .ot 2, 8), (271, .st (.cs (.ot 2) (.cs (.str) (.nl))), 24), (272, .ot 2, 8), (273, .sl (.ot 2), 24), (275, .st (.cs (.str) (.cs (.int .i64) (.cs (.str) (.cs (.ot 2) (.cs (.sl (.ot 2)) (.nl)))))), 72), (277, .st (.cs (.st (.cs (.str) (.cs (.int .i64) (.cs (.str) (.cs (.ot 2) (.cs (.sl (.ot 2)) (.nl))))))) (.cs (.int .i64) (.cs (.arr 256 (.int .u8)) (.nl)))), 336), (281, .ot 2, 8), (283, .ot 2, 8), (287, .arr 256 (.int .i64), 2048), (289, .st (.cs (.str) (.cs (.arr 256 (.int .i64)) (.cs (.sl (.int .i64)) (.nl)))), 2088), (291, .arr 32 (.int .u8), 32), (292, .arr 64 (.int .u8), 64), (310, .sl (.int .u8), 24), (311, .ot 2, 8), (313, .ot 1, 16), (315, .ifc 321 (.st (.cs (.ot 1) (.nl))) .ni, 16), (321, .st (.cs (.ot 1) (.nl)), 16), (322, .fn, 8)]
theorem tab_ok0 : (Env.mk tab [] [] []).ok SP = true := by kernel_rfl
theorem tab_ok {rows wraps : List Nat} : ∀ imm, (Env.mk tab imm rows wraps).ok SP = true := by intro imm; have h := tab_ok0; unfold Env.ok at h ⊢; exact h
@[reducible] def fi_law48_SnapForever : Nat := 3
noncomputable def cf_law48_SnapForever (F : Specs) : Cf := { E := { tab := tab, imm := [] }, F := F, gl := glob, N := 107, keep := [0, 1, 4, 5, 6, 7, 8, 9, 10, 11, 12, 13, 14, 15, 16, 25, 31, 57, 61, 78] }
@[reducible] noncomputable def fn_law48_SnapForever : Func := Tryz.f3
theorem wf_law48_SnapForever : FnOK SP fi_law48_SnapForever fn_law48_SnapForever 107 := ⟨Tryz.func3, by kernel_rfl, by kernel_rfl, Tryz.ntmps3⟩
@[reducible] def fi_law48_SnapCollects : Nat := 4
noncomputable def cf_law48_SnapCollects (F : Specs) : Cf := { E := { tab := tab, imm := [] }, F := F, gl := glob, N := 129, keep := [0, 2, 3, 4, 5, 6, 7, 8, 9, 10, 11, 12, 13, 14, 15, 16, 17, 23, 29, 44, 47, 66, 79, 95, 98, 115] }
@[reducible] noncomputable def fn_law48_SnapCollects : Func := Tryz.f4
theorem wf_law48_SnapCollects : FnOK SP fi_law48_SnapCollects fn_law48_SnapCollects 129 := ⟨Tryz.func4, by kernel_rfl, by kernel_rfl, Tryz.ntmps4⟩
@[reducible] def fi_law48_SnapNumbers : Nat := 5
noncomputable def cf_law48_SnapNumbers (F : Specs) : Cf := { E := { tab := tab, imm := [] }, F := F, gl := glob, N := 109, keep := [0, 2, 3, 4, 5, 6, 7, 8, 9, 10, 11, 12, 15, 19, 25, 34, 40, 53, 79, 80, 90, 107] }
@[reducible] noncomputable def fn_law48_SnapNumbers : Func := Tryz.f5
theorem wf_law48_SnapNumbers : FnOK SP fi_law48_SnapNumbers fn_law48_SnapNumbers 109 := ⟨Tryz.func5, by kernel_rfl, by kernel_rfl, Tryz.ntmps5⟩
@[reducible] def fi_law49_SessionCancelled : Nat := 6
noncomputable def cf_law49_SessionCancelled (F : Specs) : Cf := { E := { tab := tab, imm := [] }, F := F, gl := glob, N := 52, keep := [0, 1, 4, 5, 6, 7, 8, 17, 24, 33] }
@[reducible] noncomputable def fn_law49_SessionCancelled : Func := Tryz.f6
theorem wf_law49_SessionCancelled : FnOK SP fi_law49_SessionCancelled fn_law49_SessionCancelled 52 := ⟨Tryz.func6, by kernel_rfl, by kernel_rfl, Tryz.ntmps6⟩
@[reducible] def fi_law49_SessionConflicts : Nat := 7
noncomputable def cf_law49_SessionConflicts (F : Specs) : Cf := { E := { tab := tab, imm := [11, 12, 13] }, F := F, gl := glob, N := 155, keep := [0, 1, 2, 3, 4, 5, 6, 11, 12, 13, 14, 15, 16, 17, 18, 19, 20, 21, 22, 23, 25, 26, 27, 36, 64, 123] }
@[reducible] noncomputable def fn_law49_SessionConflicts : Func := Tryz.f7
theorem wf_law49_SessionConflicts : FnOK SP fi_law49_SessionConflicts fn_law49_SessionConflicts 155 := ⟨Tryz.func7, by kernel_rfl, by kernel_rfl, Tryz.ntmps7⟩
@[reducible] def fi_law49_SessionSerial : Nat := 8
noncomputable def cf_law49_SessionSerial (F : Specs) : Cf := { E := { tab := tab, imm := [] }, F := F, gl := glob, N := 66, keep := [0, 1, 4, 5, 6, 7, 8, 9, 10, 11, 13, 22, 34, 57] }
@[reducible] noncomputable def fn_law49_SessionSerial : Func := Tryz.f8
theorem wf_law49_SessionSerial : FnOK SP fi_law49_SessionSerial fn_law49_SessionSerial 66 := ⟨Tryz.func8, by kernel_rfl, by kernel_rfl, Tryz.ntmps8⟩
@[reducible] def fi_law49_SessionClosed : Nat := 9
noncomputable def cf_law49_SessionClosed (F : Specs) : Cf := { E := { tab := tab, imm := [8, 9] }, F := F, gl := glob, N := 126, keep := [0, 1, 2, 3, 4, 8, 9, 10, 11, 12, 14, 16, 17, 19, 21, 22, 31, 45] }
@[reducible] noncomputable def fn_law49_SessionClosed : Func := Tryz.f9
theorem wf_law49_SessionClosed : FnOK SP fi_law49_SessionClosed fn_law49_SessionClosed 126 := ⟨Tryz.func9, by kernel_rfl, by kernel_rfl, Tryz.ntmps9⟩
@[reducible] def fi_law49_SessionInForce : Nat := 10
noncomputable def cf_law49_SessionInForce (F : Specs) : Cf := { E := { tab := tab, imm := [] }, F := F, gl := glob, N := 154, keep := [0, 1, 4, 5, 6, 7, 8, 9, 11, 12, 13, 14, 23, 30, 41, 53, 70, 77, 94, 98, 111, 123, 152] }
@[reducible] noncomputable def fn_law49_SessionInForce : Func := Tryz.f10
theorem wf_law49_SessionInForce : FnOK SP fi_law49_SessionInForce fn_law49_SessionInForce 154 := ⟨Tryz.func10, by kernel_rfl, by kernel_rfl, Tryz.ntmps10⟩
@[reducible] def fi_law48_head : Nat := 11
noncomputable def cf_law48_head (F : Specs) : Cf := { E := { tab := tab, imm := [] }, F := F, gl := glob, N := 139, keep := [0, 1, 2, 3, 4, 5, 6, 7, 8, 9, 10, 11, 12, 15, 16, 18, 19, 21, 22] }
@[reducible] noncomputable def fn_law48_head : Func := Tryz.f11
theorem wf_law48_head : FnOK SP fi_law48_head fn_law48_head 139 := ⟨Tryz.func11, by kernel_rfl, by kernel_rfl, Tryz.ntmps11⟩
@[reducible] def fi_law48_few : Nat := 12
noncomputable def cf_law48_few (F : Specs) : Cf := { E := { tab := tab, imm := [] }, F := F, gl := glob, N := 20, keep := [0, 2, 3, 7, 16] }
@[reducible] noncomputable def fn_law48_few : Func := Tryz.f12
theorem wf_law48_few : FnOK SP fi_law48_few fn_law48_few 20 := ⟨Tryz.func12, by kernel_rfl, by kernel_rfl, Tryz.ntmps12⟩
@[reducible] def fi_snap_New : Nat := 13
noncomputable def cf_snap_New (F : Specs) : Cf := { E := { tab := tab, imm := [] }, F := F, gl := glob, N := 6, keep := [0] }
@[reducible] noncomputable def fn_snap_New : Func := Tryz.f13
theorem wf_snap_New : FnOK SP fi_snap_New fn_snap_New 6 := ⟨Tryz.func13, by kernel_rfl, by kernel_rfl, Tryz.ntmps13⟩
@[reducible] def fi_law48_do : Nat := 14
noncomputable def cf_law48_do (F : Specs) : Cf := { E := { tab := tab, imm := [3] }, F := F, gl := glob, N := 30, keep := [0, 1, 3, 5, 10, 16, 20, 26] }
@[reducible] noncomputable def fn_law48_do : Func := Tryz.f14
theorem wf_law48_do : FnOK SP fi_law48_do fn_law48_do 30 := ⟨Tryz.func14, by kernel_rfl, by kernel_rfl, Tryz.ntmps14⟩
@[reducible] def fi_snap_Snap_Open : Nat := 15
noncomputable def cf_snap_Snap_Open (F : Specs) : Cf := { E := { tab := tab, imm := [] }, F := F, gl := glob, N := 37, keep := [0, 2, 3, 4, 7] }
@[reducible] noncomputable def fn_snap_Snap_Open : Func := Tryz.f15
theorem wf_snap_Snap_Open : FnOK SP fi_snap_Snap_Open fn_snap_Snap_Open 37 := ⟨Tryz.func15, by kernel_rfl, by kernel_rfl, Tryz.ntmps15⟩
@[reducible] def fi_snap_Snap_Read : Nat := 16
noncomputable def cf_snap_Snap_Read (F : Specs) : Cf := { E := { tab := tab, imm := [] }, F := F, gl := glob, N := 30, keep := [0, 1, 4, 5, 6, 7, 8, 10, 21] }
@[reducible] noncomputable def fn_snap_Snap_Read : Func := Tryz.f16
theorem wf_snap_Snap_Read : FnOK SP fi_snap_Snap_Read fn_snap_Snap_Read 30 := ⟨Tryz.func16, by kernel_rfl, by kernel_rfl, Tryz.ntmps16⟩
@[reducible] def fi_ref13_Lists : Nat := 17
noncomputable def cf_ref13_Lists (F : Specs) : Cf := { E := { tab := tab, imm := [] }, F := F, gl := glob, N := 27, keep := [0, 1, 4, 5, 10, 14, 26] }
@[reducible] noncomputable def fn_ref13_Lists : Func := Tryz.f17
theorem wf_ref13_Lists : FnOK SP fi_ref13_Lists fn_ref13_Lists 27 := ⟨Tryz.func17, by kernel_rfl, by kernel_rfl, Tryz.ntmps17⟩
@[reducible] def fi_snap_Snap_Collect : Nat := 18
noncomputable def cf_snap_Snap_Collect (F : Specs) : Cf := { E := { tab := tab, imm := [] }, F := F, gl := glob, N := 49, keep := [0, 2, 3, 5, 6, 8, 19, 21, 30, 32, 38] }
@[reducible] noncomputable def fn_snap_Snap_Collect : Func := Tryz.f18
theorem wf_snap_Snap_Collect : FnOK SP fi_snap_Snap_Collect fn_snap_Snap_Collect 49 := ⟨Tryz.func18, by kernel_rfl, by kernel_rfl, Tryz.ntmps18⟩
@[reducible] def fi_snap_Snap_Close : Nat := 19
noncomputable def cf_snap_Snap_Close (F : Specs) : Cf := { E := { tab := tab, imm := [] }, F := F, gl := glob, N := 25, keep := [0, 1, 4, 6, 8, 19] }
@[reducible] noncomputable def fn_snap_Snap_Close : Func := Tryz.f19
theorem wf_snap_Snap_Close : FnOK SP fi_snap_Snap_Close fn_snap_Snap_Close 25 := ⟨Tryz.func19, by kernel_rfl, by kernel_rfl, Tryz.ntmps19⟩
@[reducible] def fi_law49_head : Nat := 20
noncomputable def cf_law49_head (F : Specs) : Cf := { E := { tab := tab, imm := [] }, F := F, gl := glob, N := 170, keep := [0, 1, 2, 3, 4, 5, 6, 7, 8, 9, 11, 12, 14, 15, 17, 18, 19, 20, 21, 104] }
@[reducible] noncomputable def fn_law49_head : Func := Tryz.f20
theorem wf_law49_head : FnOK SP fi_law49_head fn_law49_head 170 := ⟨Tryz.func20, by kernel_rfl, by kernel_rfl, Tryz.ntmps20⟩
@[reducible] def fi_ref13_Few : Nat := 21
noncomputable def cf_ref13_Few (F : Specs) : Cf := { E := { tab := tab, imm := [] }, F := F, gl := glob, N := 33, keep := [0, 1, 4, 5, 9, 13, 32] }
@[reducible] noncomputable def fn_ref13_Few : Func := Tryz.f21
theorem wf_ref13_Few : FnOK SP fi_ref13_Few fn_ref13_Few 33 := ⟨Tryz.func21, by kernel_rfl, by kernel_rfl, Tryz.ntmps21⟩
@[reducible] def fi_session_New : Nat := 22
noncomputable def cf_session_New (F : Specs) : Cf := { E := { tab := tab, imm := [] }, F := F, gl := glob, N := 8, keep := [0, 2] }
@[reducible] noncomputable def fn_session_New : Func := Tryz.f22
theorem wf_session_New : FnOK SP fi_session_New fn_session_New 8 := ⟨Tryz.func22, by kernel_rfl, by kernel_rfl, Tryz.ntmps22⟩
@[reducible] def fi_law49_play : Nat := 23
noncomputable def cf_law49_play (F : Specs) : Cf := { E := { tab := tab, imm := [] }, F := F, gl := glob, N := 112, keep := [0, 1, 4, 5, 6, 7, 8, 9, 10, 11, 13, 18, 31, 32, 42, 48, 56, 69, 77, 90, 100, 105] }
@[reducible] noncomputable def fn_law49_play : Func := Tryz.f23
theorem wf_law49_play : FnOK SP fi_law49_play fn_law49_play 112 := ⟨Tryz.func23, by kernel_rfl, by kernel_rfl, Tryz.ntmps23⟩
@[reducible] def fi_session_Desk_Events : Nat := 24
noncomputable def cf_session_Desk_Events (F : Specs) : Cf := { E := { tab := tab, imm := [] }, F := F, gl := glob, N := 10, keep := [0, 2, 4] }
@[reducible] noncomputable def fn_session_Desk_Events : Func := Tryz.f24
theorem wf_session_Desk_Events : FnOK SP fi_session_Desk_Events fn_session_Desk_Events 10 := ⟨Tryz.func24, by kernel_rfl, by kernel_rfl, Tryz.ntmps24⟩
@[reducible] def fi_ledger_Merge : Nat := 25
noncomputable def cf_ledger_Merge (F : Specs) : Cf := { E := { tab := tab, imm := [] }, F := F, gl := glob, N := 49, keep := [0, 1, 4, 5, 7, 8, 9, 11, 15, 16, 17, 18, 24, 36, 37, 38, 39] }
@[reducible] noncomputable def fn_ledger_Merge : Func := Tryz.f25
theorem wf_ledger_Merge : FnOK SP fi_ledger_Merge fn_ledger_Merge 49 := ⟨Tryz.func25, by kernel_rfl, by kernel_rfl, Tryz.ntmps25⟩
@[reducible] def fi_session_Desk_Open : Nat := 26
noncomputable def cf_session_Desk_Open (F : Specs) : Cf := { E := { tab := tab, imm := [] }, F := F, gl := glob, N := 51, keep := [0, 1, 4, 5, 6, 17] }
@[reducible] noncomputable def fn_session_Desk_Open : Func := Tryz.f26
theorem wf_session_Desk_Open : FnOK SP fi_session_Desk_Open fn_session_Desk_Open 51 := ⟨Tryz.func26, by kernel_rfl, by kernel_rfl, Tryz.ntmps26⟩
@[reducible] def fi_session_Desk_Decide : Nat := 27
noncomputable def cf_session_Desk_Decide (F : Specs) : Cf := { E := { tab := tab, imm := [5] }, F := F, gl := glob, N := 29, keep := [0, 1, 2, 5, 6, 7, 8, 16, 23] }
@[reducible] noncomputable def fn_session_Desk_Decide : Func := Tryz.f27
theorem wf_session_Desk_Decide : FnOK SP fi_session_Desk_Decide fn_session_Desk_Decide 29 := ⟨Tryz.func27, by kernel_rfl, by kernel_rfl, Tryz.ntmps27⟩
@[reducible] def fi_session_Desk_Undo : Nat := 28
noncomputable def cf_session_Desk_Undo (F : Specs) : Cf := { E := { tab := tab, imm := [5] }, F := F, gl := glob, N := 32, keep := [0, 1, 2, 5, 6, 7, 8, 9, 17, 26] }
@[reducible] noncomputable def fn_session_Desk_Undo : Func := Tryz.f28
theorem wf_session_Desk_Undo : FnOK SP fi_session_Desk_Undo fn_session_Desk_Undo 32 := ⟨Tryz.func28, by kernel_rfl, by kernel_rfl, Tryz.ntmps28⟩
@[reducible] def fi_session_Desk_Commit : Nat := 29
noncomputable def cf_session_Desk_Commit (F : Specs) : Cf := { E := { tab := tab, imm := [] }, F := F, gl := glob, N := 130, keep := [0, 1, 4, 5, 6, 7, 9, 11, 12, 14, 15, 17, 25, 35, 36, 37, 38, 44, 45, 46, 47, 52, 58, 59, 60, 61, 77, 81, 82, 83, 84] }
@[reducible] noncomputable def fn_session_Desk_Commit : Func := Tryz.f29
theorem wf_session_Desk_Commit : FnOK SP fi_session_Desk_Commit fn_session_Desk_Commit 130 := ⟨Tryz.func29, by kernel_rfl, by kernel_rfl, Tryz.ntmps29⟩
@[reducible] def fi_law49_fill : Nat := 30
noncomputable def cf_law49_fill (F : Specs) : Cf := { E := { tab := tab, imm := [3] }, F := F, gl := glob, N := 62, keep := [0, 1, 3, 4, 5, 6, 7, 8, 9, 23, 33] }
@[reducible] noncomputable def fn_law49_fill : Func := Tryz.f30
theorem wf_law49_fill : FnOK SP fi_law49_fill fn_law49_fill 62 := ⟨Tryz.func30, by kernel_rfl, by kernel_rfl, Tryz.ntmps30⟩
@[reducible] def fi_session_Desk_Cancel : Nat := 31
noncomputable def cf_session_Desk_Cancel (F : Specs) : Cf := { E := { tab := tab, imm := [] }, F := F, gl := glob, N := 21, keep := [0, 1, 4, 6, 14] }
@[reducible] noncomputable def fn_session_Desk_Cancel : Func := Tryz.f31
theorem wf_session_Desk_Cancel : FnOK SP fi_session_Desk_Cancel fn_session_Desk_Cancel 21 := ⟨Tryz.func31, by kernel_rfl, by kernel_rfl, Tryz.ntmps31⟩
@[reducible] def fi_ledger_Live : Nat := 32
noncomputable def cf_ledger_Live (F : Specs) : Cf := { E := { tab := tab, imm := [] }, F := F, gl := glob, N := 109, keep := [0, 2, 3, 4, 5, 6, 8, 9, 10, 11, 12, 14, 15, 16, 17, 19, 24, 25, 26, 27, 31, 32, 39, 60, 61, 62, 63, 73, 80, 85, 86, 87, 90, 93, 94, 95, 96] }
@[reducible] noncomputable def fn_ledger_Live : Func := Tryz.f32
theorem wf_ledger_Live : FnOK SP fi_ledger_Live fn_ledger_Live 109 := ⟨Tryz.func32, by kernel_rfl, by kernel_rfl, Tryz.ntmps32⟩
@[reducible] def fi_ledger_Valid : Nat := 33
noncomputable def cf_ledger_Valid (F : Specs) : Cf := { E := { tab := tab, imm := [1] }, F := F, gl := glob, N := 146, keep := [0, 1, 2, 3, 4, 5, 9, 10, 17, 49, 56, 63, 78, 84, 92] }
@[reducible] noncomputable def fn_ledger_Valid : Func := Tryz.f33
theorem wf_ledger_Valid : FnOK SP fi_ledger_Valid fn_ledger_Valid 146 := ⟨Tryz.func33, by kernel_rfl, by kernel_rfl, Tryz.ntmps33⟩
@[reducible] def fi_law49_has : Nat := 34
noncomputable def cf_law49_has (F : Specs) : Cf := { E := { tab := tab, imm := [3] }, F := F, gl := glob, N := 12, keep := [0, 1, 3, 4] }
@[reducible] noncomputable def fn_law49_has : Func := Tryz.f34
theorem wf_law49_has : FnOK SP fi_law49_has fn_law49_has 12 := ⟨Tryz.func34, by kernel_rfl, by kernel_rfl, Tryz.ntmps34⟩
@[reducible] def fi_snap_Snap_Write : Nat := 35
noncomputable def cf_snap_Snap_Write (F : Specs) : Cf := { E := { tab := tab, imm := [] }, F := F, gl := glob, N := 47, keep := [0, 1, 4, 5, 6, 12, 26] }
@[reducible] noncomputable def fn_snap_Snap_Write : Func := Tryz.f35
theorem wf_snap_Snap_Write : FnOK SP fi_snap_Snap_Write fn_snap_Snap_Write 47 := ⟨Tryz.func35, by kernel_rfl, by kernel_rfl, Tryz.ntmps35⟩
@[reducible] def fi_law48_erase : Nat := 36
noncomputable def cf_law48_erase (F : Specs) : Cf := { E := { tab := tab, imm := [] }, F := F, gl := glob, N := 9, keep := [0, 1, 4] }
@[reducible] noncomputable def fn_law48_erase : Func := Tryz.f36
theorem wf_law48_erase : FnOK SP fi_law48_erase fn_law48_erase 9 := ⟨Tryz.func36, by kernel_rfl, by kernel_rfl, Tryz.ntmps36⟩
@[reducible] def fi_slices_Clone_sl_api_Event_api_Event : Nat := 37
noncomputable def cf_slices_Clone_sl_api_Event_api_Event (F : Specs) : Cf := { E := { tab := tab, imm := [] }, F := F, gl := glob, N := 8, keep := [0, 2, 4] }
@[reducible] noncomputable def fn_slices_Clone_sl_api_Event_api_Event : Func := Tryz.f37
theorem wf_slices_Clone_sl_api_Event_api_Event : FnOK SP fi_slices_Clone_sl_api_Event_api_Event fn_slices_Clone_sl_api_Event_api_Event 8 := ⟨Tryz.func37, by kernel_rfl, by kernel_rfl, Tryz.ntmps37⟩
@[reducible] def fi_ref13_Same : Nat := 38
noncomputable def cf_ref13_Same (F : Specs) : Cf := { E := { tab := tab, imm := [2, 3] }, F := F, gl := glob, N := 66, keep := [0, 1, 2, 3, 4] }
@[reducible] noncomputable def fn_ref13_Same : Func := Tryz.f38
theorem wf_ref13_Same : FnOK SP fi_ref13_Same fn_ref13_Same 66 := ⟨Tryz.func38, by kernel_rfl, by kernel_rfl, Tryz.ntmps38⟩
@[reducible] def fi_law49_key : Nat := 39
noncomputable def cf_law49_key (F : Specs) : Cf := { E := { tab := tab, imm := [] }, F := F, gl := glob, N := 5, keep := [0, 2] }
@[reducible] noncomputable def fn_law49_key : Func := Tryz.f39
theorem wf_law49_key : FnOK SP fi_law49_key fn_law49_key 5 := ⟨Tryz.func39, by kernel_rfl, by kernel_rfl, Tryz.ntmps39⟩
@[reducible] def fi_slices_Concat_sl_api_Event_api_Event : Nat := 40
noncomputable def cf_slices_Concat_sl_api_Event_api_Event (F : Specs) : Cf := { E := { tab := tab, imm := [] }, F := F, gl := glob, N := 36, keep := [0, 2, 3, 5, 6, 8, 9, 10, 11, 12, 20, 25, 26, 27, 28] }
@[reducible] noncomputable def fn_slices_Concat_sl_api_Event_api_Event : Func := Tryz.f40
theorem wf_slices_Concat_sl_api_Event_api_Event : FnOK SP fi_slices_Concat_sl_api_Event_api_Event fn_slices_Concat_sl_api_Event_api_Event 36 := ⟨Tryz.func40, by kernel_rfl, by kernel_rfl, Tryz.ntmps40⟩
@[reducible] def fi_ledger_Text : Nat := 41
noncomputable def cf_ledger_Text (F : Specs) : Cf := { E := { tab := tab, imm := [1] }, F := F, gl := glob, N := 127, keep := [0, 1, 2, 3, 4, 7, 13, 14, 24, 47, 59, 93, 105] }
@[reducible] noncomputable def fn_ledger_Text : Func := Tryz.f41
theorem wf_ledger_Text : FnOK SP fi_ledger_Text fn_ledger_Text 127 := ⟨Tryz.func41, by kernel_rfl, by kernel_rfl, Tryz.ntmps41⟩
@[reducible] def fi_slices_SortFunc_sl_ledger_entry_ledger_entry : Nat := 42
noncomputable def cf_slices_SortFunc_sl_ledger_entry_ledger_entry (F : Specs) : Cf := { E := { tab := tab, imm := [] }, F := F, gl := glob, N := 14, keep := [0, 1, 4] }
@[reducible] noncomputable def fn_slices_SortFunc_sl_ledger_entry_ledger_entry : Func := Tryz.f42
theorem wf_slices_SortFunc_sl_ledger_entry_ledger_entry : FnOK SP fi_slices_SortFunc_sl_ledger_entry_ledger_entry fn_slices_SortFunc_sl_ledger_entry_ledger_entry 14 := ⟨Tryz.func42, by kernel_rfl, by kernel_rfl, Tryz.ntmps42⟩
@[reducible] def fi_ledger_entry_compare : Nat := 43
noncomputable def cf_ledger_entry_compare (F : Specs) : Cf := { E := { tab := tab, imm := [2, 3] }, F := F, gl := glob, N := 45, keep := [0, 1, 2, 3, 4, 5, 6, 7] }
@[reducible] noncomputable def fn_ledger_entry_compare : Func := Tryz.f43
theorem wf_ledger_entry_compare : FnOK SP fi_ledger_entry_compare fn_ledger_entry_compare 45 := ⟨Tryz.func43, by kernel_rfl, by kernel_rfl, Tryz.ntmps43⟩
@[reducible] def fi_slices_CompactFunc_sl_ledger_entry_ledger_entry : Nat := 44
noncomputable def cf_slices_CompactFunc_sl_ledger_entry_ledger_entry (F : Specs) : Cf := { E := { tab := tab, imm := [] }, F := F, gl := glob, N := 66, keep := [0, 1, 4, 5, 6, 7, 10, 15, 28, 35, 49] }
@[reducible] noncomputable def fn_slices_CompactFunc_sl_ledger_entry_ledger_entry : Func := Tryz.f44
theorem wf_slices_CompactFunc_sl_ledger_entry_ledger_entry : FnOK SP fi_slices_CompactFunc_sl_ledger_entry_ledger_entry fn_slices_CompactFunc_sl_ledger_entry_ledger_entry 66 := ⟨Tryz.func44, by kernel_rfl, by kernel_rfl, Tryz.ntmps44⟩
@[reducible] def fi_ledger_Merge_1 : Nat := 45
noncomputable def cf_ledger_Merge_1 (F : Specs) : Cf := { E := { tab := tab, imm := [2, 3] }, F := F, gl := glob, N := 10, keep := [0, 1, 2, 3, 4] }
@[reducible] noncomputable def fn_ledger_Merge_1 : Func := Tryz.f45
theorem wf_ledger_Merge_1 : FnOK SP fi_ledger_Merge_1 fn_ledger_Merge_1 10 := ⟨Tryz.func45, by kernel_rfl, by kernel_rfl, Tryz.ntmps45⟩
@[reducible] def fi_session_Desk_find : Nat := 46
noncomputable def cf_session_Desk_find (F : Specs) : Cf := { E := { tab := tab, imm := [] }, F := F, gl := glob, N := 22, keep := [0, 1, 4, 5, 6, 7, 9, 20] }
@[reducible] noncomputable def fn_session_Desk_find : Func := Tryz.f46
theorem wf_session_Desk_find : FnOK SP fi_session_Desk_find fn_session_Desk_find 22 := ⟨Tryz.func46, by kernel_rfl, by kernel_rfl, Tryz.ntmps46⟩
@[reducible] def fi_session_choice_event : Nat := 47
noncomputable def cf_session_choice_event (F : Specs) : Cf := { E := { tab := tab, imm := [2, 3] }, F := F, gl := glob, N := 9, keep := [0, 1, 2, 3, 4] }
@[reducible] noncomputable def fn_session_choice_event : Func := Tryz.f47
theorem wf_session_choice_event : FnOK SP fi_session_choice_event fn_session_choice_event 9 := ⟨Tryz.func47, by kernel_rfl, by kernel_rfl, Tryz.ntmps47⟩
@[reducible] def fi_session_work_add : Nat := 48
noncomputable def cf_session_work_add (F : Specs) : Cf := { E := { tab := tab, imm := [3] }, F := F, gl := glob, N := 31, keep := [0, 1, 3, 4, 5, 7, 14] }
@[reducible] noncomputable def fn_session_work_add : Func := Tryz.f48
theorem wf_session_work_add : FnOK SP fi_session_work_add fn_session_work_add 31 := ⟨Tryz.func48, by kernel_rfl, by kernel_rfl, Tryz.ntmps48⟩
@[reducible] def fi_session_Desk_Undo_1 : Nat := 49
noncomputable def cf_session_Desk_Undo_1 (F : Specs) : Cf := { E := { tab := tab, imm := [2] }, F := F, gl := glob, N := 18, keep := [0, 1, 2, 3] }
@[reducible] noncomputable def fn_session_Desk_Undo_1 : Func := Tryz.f49
theorem wf_session_Desk_Undo_1 : FnOK SP fi_session_Desk_Undo_1 fn_session_Desk_Undo_1 18 := ⟨Tryz.func49, by kernel_rfl, by kernel_rfl, Tryz.ntmps49⟩
@[reducible] def fi_slices_ContainsFunc_sl_api_Event_api_Event : Nat := 50
noncomputable def cf_slices_ContainsFunc_sl_api_Event_api_Event (F : Specs) : Cf := { E := { tab := tab, imm := [] }, F := F, gl := glob, N := 9, keep := [0, 1, 4] }
@[reducible] noncomputable def fn_slices_ContainsFunc_sl_api_Event_api_Event : Func := Tryz.f50
theorem wf_slices_ContainsFunc_sl_api_Event_api_Event : FnOK SP fi_slices_ContainsFunc_sl_api_Event_api_Event fn_slices_ContainsFunc_sl_api_Event_api_Event 9 := ⟨Tryz.func50, by kernel_rfl, by kernel_rfl, Tryz.ntmps50⟩
@[reducible] def fi_session_Desk_Commit_1 : Nat := 51
noncomputable def cf_session_Desk_Commit_1 (F : Specs) : Cf := { E := { tab := tab, imm := [2] }, F := F, gl := glob, N := 7, keep := [0, 1, 2, 3] }
@[reducible] noncomputable def fn_session_Desk_Commit_1 : Func := Tryz.f51
theorem wf_session_Desk_Commit_1 : FnOK SP fi_session_Desk_Commit_1 fn_session_Desk_Commit_1 7 := ⟨Tryz.func51, by kernel_rfl, by kernel_rfl, Tryz.ntmps51⟩
@[reducible] def fi_session_stale : Nat := 52
noncomputable def cf_session_stale (F : Specs) : Cf := { E := { tab := tab, imm := [3] }, F := F, gl := glob, N := 49, keep := [0, 1, 3, 4, 5, 6, 7, 8, 10, 11, 37, 38] }
@[reducible] noncomputable def fn_session_stale : Func := Tryz.f52
theorem wf_session_stale : FnOK SP fi_session_stale fn_session_stale 49 := ⟨Tryz.func52, by kernel_rfl, by kernel_rfl, Tryz.ntmps52⟩
@[reducible] def fi_ledger_Live_1 : Nat := 53
noncomputable def cf_ledger_Live_1 (F : Specs) : Cf := { E := { tab := tab, imm := [5] }, F := F, gl := glob, N := 38, keep := [0, 1, 2, 3, 4, 5, 6, 7, 8, 11, 16, 25] }
@[reducible] noncomputable def fn_ledger_Live_1 : Func := Tryz.f53
theorem wf_ledger_Live_1 : FnOK SP fi_ledger_Live_1 fn_ledger_Live_1 38 := ⟨Tryz.func53, by kernel_rfl, by kernel_rfl, Tryz.ntmps53⟩
@[reducible] def fi_feed_Counted : Nat := 54
noncomputable def cf_feed_Counted (F : Specs) : Cf := { E := { tab := tab, imm := [] }, F := F, gl := glob, N := 28, keep := [0, 1, 4, 5, 6, 16] }
@[reducible] noncomputable def fn_feed_Counted : Func := Tryz.f54
theorem wf_feed_Counted : FnOK SP fi_feed_Counted fn_feed_Counted 28 := ⟨Tryz.func54, by kernel_rfl, by kernel_rfl, Tryz.ntmps54⟩
@[reducible] def fi_feed_Valid : Nat := 55
noncomputable def cf_feed_Valid (F : Specs) : Cf := { E := { tab := tab, imm := [1] }, F := F, gl := glob, N := 120, keep := [0, 1, 2, 3, 5, 23, 25, 26, 48, 51, 56, 93, 95, 96, 97, 98, 116] }
@[reducible] noncomputable def fn_feed_Valid : Func := Tryz.f55
theorem wf_feed_Valid : FnOK SP fi_feed_Valid fn_feed_Valid 120 := ⟨Tryz.func55, by kernel_rfl, by kernel_rfl, Tryz.ntmps55⟩
@[reducible] def fi_ledger_key : Nat := 56
noncomputable def cf_ledger_key (F : Specs) : Cf := { E := { tab := tab, imm := [1] }, F := F, gl := glob, N := 16, keep := [0, 1, 2] }
@[reducible] noncomputable def fn_ledger_key : Func := Tryz.f56
theorem wf_ledger_key : FnOK SP fi_ledger_key fn_ledger_key 16 := ⟨Tryz.func56, by kernel_rfl, by kernel_rfl, Tryz.ntmps56⟩
@[reducible] def fi_ledger_compareKeys : Nat := 57
noncomputable def cf_ledger_compareKeys (F : Specs) : Cf := { E := { tab := tab, imm := [2, 3] }, F := F, gl := glob, N := 22, keep := [0, 1, 2, 3, 4] }
@[reducible] noncomputable def fn_ledger_compareKeys : Func := Tryz.f57
theorem wf_ledger_compareKeys : FnOK SP fi_ledger_compareKeys fn_ledger_compareKeys 22 := ⟨Tryz.func57, by kernel_rfl, by kernel_rfl, Tryz.ntmps57⟩
@[reducible] def fi_ledger_change : Nat := 58
noncomputable def cf_ledger_change (F : Specs) : Cf := { E := { tab := tab, imm := [1] }, F := F, gl := glob, N := 115, keep := [0, 1, 2, 3, 4, 42, 43, 61, 79, 97] }
@[reducible] noncomputable def fn_ledger_change : Func := Tryz.f58
theorem wf_ledger_change : FnOK SP fi_ledger_change fn_ledger_change 115 := ⟨Tryz.func58, by kernel_rfl, by kernel_rfl, Tryz.ntmps58⟩
@[reducible] def fi_ledger_ident : Nat := 59
noncomputable def cf_ledger_ident (F : Specs) : Cf := { E := { tab := tab, imm := [1] }, F := F, gl := glob, N := 16, keep := [0, 1, 2] }
@[reducible] noncomputable def fn_ledger_ident : Func := Tryz.f59
theorem wf_ledger_ident : FnOK SP fi_ledger_ident fn_ledger_ident 16 := ⟨Tryz.func59, by kernel_rfl, by kernel_rfl, Tryz.ntmps59⟩
@[reducible] def fi_ledger_compareIds : Nat := 60
noncomputable def cf_ledger_compareIds (F : Specs) : Cf := { E := { tab := tab, imm := [2, 3] }, F := F, gl := glob, N := 17, keep := [0, 1, 2, 3, 4] }
@[reducible] noncomputable def fn_ledger_compareIds : Func := Tryz.f60
theorem wf_ledger_compareIds : FnOK SP fi_ledger_compareIds fn_ledger_compareIds 17 := ⟨Tryz.func60, by kernel_rfl, by kernel_rfl, Tryz.ntmps60⟩
@[reducible] def fi_ledger_source : Nat := 61
noncomputable def cf_ledger_source (F : Specs) : Cf := { E := { tab := tab, imm := [] }, F := F, gl := glob, N := 9, keep := [0, 2] }
@[reducible] noncomputable def fn_ledger_source : Func := Tryz.f61
theorem wf_ledger_source : FnOK SP fi_ledger_source fn_ledger_source 9 := ⟨Tryz.func61, by kernel_rfl, by kernel_rfl, Tryz.ntmps61⟩
@[reducible] def fi_ledger_identifier : Nat := 62
noncomputable def cf_ledger_identifier (F : Specs) : Cf := { E := { tab := tab, imm := [] }, F := F, gl := glob, N := 5, keep := [0, 2] }
@[reducible] noncomputable def fn_ledger_identifier : Func := Tryz.f62
theorem wf_ledger_identifier : FnOK SP fi_ledger_identifier fn_ledger_identifier 5 := ⟨Tryz.func62, by kernel_rfl, by kernel_rfl, Tryz.ntmps62⟩
@[reducible] def fi_ledger_bare : Nat := 63
noncomputable def cf_ledger_bare (F : Specs) : Cf := { E := { tab := tab, imm := [1] }, F := F, gl := glob, N := 42, keep := [0, 1, 2] }
@[reducible] noncomputable def fn_ledger_bare : Func := Tryz.f63
theorem wf_ledger_bare : FnOK SP fi_ledger_bare fn_ledger_bare 42 := ⟨Tryz.func63, by kernel_rfl, by kernel_rfl, Tryz.ntmps63⟩
@[reducible] def fi_ref13_Without : Nat := 64
noncomputable def cf_ref13_Without (F : Specs) : Cf := { E := { tab := tab, imm := [3] }, F := F, gl := glob, N := 28, keep := [0, 1, 3, 4, 5, 6, 10, 19] }
@[reducible] noncomputable def fn_ref13_Without : Func := Tryz.f64
theorem wf_ref13_Without : FnOK SP fi_ref13_Without fn_ref13_Without 28 := ⟨Tryz.func64, by kernel_rfl, by kernel_rfl, Tryz.ntmps64⟩
@[reducible] def fi_snap_Snap_Write_1 : Nat := 65
noncomputable def cf_snap_Snap_Write_1 (F : Specs) : Cf := { E := { tab := tab, imm := [1] }, F := F, gl := glob, N := 6, keep := [0, 1, 2] }
@[reducible] noncomputable def fn_snap_Snap_Write_1 : Func := Tryz.f65
theorem wf_snap_Snap_Write_1 : FnOK SP fi_snap_Snap_Write_1 fn_snap_Snap_Write_1 6 := ⟨Tryz.func65, by kernel_rfl, by kernel_rfl, Tryz.ntmps65⟩
@[reducible] def fi_ref11_Same : Nat := 66
noncomputable def cf_ref11_Same (F : Specs) : Cf := { E := { tab := tab, imm := [2, 3] }, F := F, gl := glob, N := 80, keep := [0, 1, 2, 3, 4, 5, 61, 66, 79] }
@[reducible] noncomputable def fn_ref11_Same : Func := Tryz.f66
theorem wf_ref11_Same : FnOK SP fi_ref11_Same fn_ref11_Same 80 := ⟨Tryz.func66, by kernel_rfl, by kernel_rfl, Tryz.ntmps66⟩
@[reducible] def fi_slices_Grow_sl_api_Event_api_Event : Nat := 67
noncomputable def cf_slices_Grow_sl_api_Event_api_Event (F : Specs) : Cf := { E := { tab := tab, imm := [] }, F := F, gl := glob, N := 27, keep := [0, 1, 4, 6, 16] }
@[reducible] noncomputable def fn_slices_Grow_sl_api_Event_api_Event : Func := Tryz.f67
theorem wf_slices_Grow_sl_api_Event_api_Event : FnOK SP fi_slices_Grow_sl_api_Event_api_Event fn_slices_Grow_sl_api_Event_api_Event 27 := ⟨Tryz.func67, by kernel_rfl, by kernel_rfl, Tryz.ntmps67⟩
@[reducible] def fi_ledger_join : Nat := 68
noncomputable def cf_ledger_join (F : Specs) : Cf := { E := { tab := tab, imm := [] }, F := F, gl := glob, N := 66, keep := [0, 2, 3, 5, 6, 7, 8, 9, 10, 11, 12, 13, 16, 18, 19, 26, 27, 33, 34, 47, 48] }
@[reducible] noncomputable def fn_ledger_join : Func := Tryz.f68
theorem wf_ledger_join : FnOK SP fi_ledger_join fn_ledger_join 66 := ⟨Tryz.func68, by kernel_rfl, by kernel_rfl, Tryz.ntmps68⟩
@[reducible] def fi_feed_Text : Nat := 69
noncomputable def cf_feed_Text (F : Specs) : Cf := { E := { tab := tab, imm := [1] }, F := F, gl := glob, N := 57, keep := [0, 1, 2, 3, 5, 8, 22, 38, 39, 40, 41] }
@[reducible] noncomputable def fn_feed_Text : Func := Tryz.f69
theorem wf_feed_Text : FnOK SP fi_feed_Text fn_feed_Text 57 := ⟨Tryz.func69, by kernel_rfl, by kernel_rfl, Tryz.ntmps69⟩
@[reducible] def fi_cmp_Or_string : Nat := 70
noncomputable def cf_cmp_Or_string (F : Specs) : Cf := { E := { tab := tab, imm := [] }, F := F, gl := glob, N := 18, keep := [0, 2, 3, 5, 6, 7, 8, 9, 14] }
@[reducible] noncomputable def fn_cmp_Or_string : Func := Tryz.f70
theorem wf_cmp_Or_string : FnOK SP fi_cmp_Or_string fn_cmp_Or_string 18 := ⟨Tryz.func70, by kernel_rfl, by kernel_rfl, Tryz.ntmps70⟩
@[reducible] def fi_value_Text : Nat := 71
noncomputable def cf_value_Text (F : Specs) : Cf := { E := { tab := tab, imm := [1] }, F := F, gl := glob, N := 34, keep := [0, 1, 2, 5, 7, 8, 17, 22, 28] }
@[reducible] noncomputable def fn_value_Text : Func := Tryz.f71
theorem wf_value_Text : FnOK SP fi_value_Text fn_value_Text 34 := ⟨Tryz.func71, by kernel_rfl, by kernel_rfl, Tryz.ntmps71⟩
@[reducible] def fi_slices_pdqsortCmpFunc_ledger_entry : Nat := 72
noncomputable def cf_slices_pdqsortCmpFunc_ledger_entry (F : Specs) : Cf := { E := { tab := tab, imm := [] }, F := F, gl := glob, N := 148, keep := [0, 1, 2, 3, 4, 10, 11, 12, 13, 14, 15, 16, 17, 18, 19, 20, 25, 32, 39, 56, 75, 80, 97, 125] }
@[reducible] noncomputable def fn_slices_pdqsortCmpFunc_ledger_entry : Func := Tryz.f72
theorem wf_slices_pdqsortCmpFunc_ledger_entry : FnOK SP fi_slices_pdqsortCmpFunc_ledger_entry fn_slices_pdqsortCmpFunc_ledger_entry 148 := ⟨Tryz.func72, by kernel_rfl, by kernel_rfl, Tryz.ntmps72⟩
@[reducible] def fi_math_bits_Len : Nat := 73
noncomputable def cf_math_bits_Len (F : Specs) : Cf := { E := { tab := tab, imm := [] }, F := F, gl := glob, N := 8, keep := [0, 2] }
@[reducible] noncomputable def fn_math_bits_Len : Func := Tryz.f73
theorem wf_math_bits_Len : FnOK SP fi_math_bits_Len fn_math_bits_Len 8 := ⟨Tryz.func73, by kernel_rfl, by kernel_rfl, Tryz.ntmps73⟩
@[reducible] def fi_ledger_entry_compare_1 : Nat := 74
noncomputable def cf_ledger_entry_compare_1 (F : Specs) : Cf := { E := { tab := tab, imm := [1] }, F := F, gl := glob, N := 7, keep := [0, 1, 2, 6] }
@[reducible] noncomputable def fn_ledger_entry_compare_1 : Func := Tryz.f74
theorem wf_ledger_entry_compare_1 : FnOK SP fi_ledger_entry_compare_1 fn_ledger_entry_compare_1 7 := ⟨Tryz.func74, by kernel_rfl, by kernel_rfl, Tryz.ntmps74⟩
@[reducible] def fi_cmp_Or_int : Nat := 75
noncomputable def cf_cmp_Or_int (F : Specs) : Cf := { E := { tab := tab, imm := [] }, F := F, gl := glob, N := 18, keep := [0, 2, 3, 5, 6, 7, 8, 9, 14] }
@[reducible] noncomputable def fn_cmp_Or_int : Func := Tryz.f75
theorem wf_cmp_Or_int : FnOK SP fi_cmp_Or_int fn_cmp_Or_int 18 := ⟨Tryz.func75, by kernel_rfl, by kernel_rfl, Tryz.ntmps75⟩
@[reducible] def fi_cmp_Compare_int : Nat := 76
noncomputable def cf_cmp_Compare_int (F : Specs) : Cf := { E := { tab := tab, imm := [] }, F := F, gl := glob, N := 20, keep := [0, 1, 4, 5, 6, 11, 12, 13, 16, 19] }
@[reducible] noncomputable def fn_cmp_Compare_int : Func := Tryz.f76
theorem wf_cmp_Compare_int : FnOK SP fi_cmp_Compare_int fn_cmp_Compare_int 20 := ⟨Tryz.func76, by kernel_rfl, by kernel_rfl, Tryz.ntmps76⟩
@[reducible] def fi_cmp_Compare_string : Nat := 77
noncomputable def cf_cmp_Compare_string (F : Specs) : Cf := { E := { tab := tab, imm := [] }, F := F, gl := glob, N := 20, keep := [0, 1, 4, 5, 6, 11, 12, 13, 16, 19] }
@[reducible] noncomputable def fn_cmp_Compare_string : Func := Tryz.f77
theorem wf_cmp_Compare_string : FnOK SP fi_cmp_Compare_string fn_cmp_Compare_string 20 := ⟨Tryz.func77, by kernel_rfl, by kernel_rfl, Tryz.ntmps77⟩
@[reducible] def fi_session_work_add_1 : Nat := 78
noncomputable def cf_session_work_add_1 (F : Specs) : Cf := { E := { tab := tab, imm := [] }, F := F, gl := glob, N := 42, keep := [0, 1, 3, 4, 5, 6, 8, 10, 11, 37, 38] }
@[reducible] noncomputable def fn_session_work_add_1 : Func := Tryz.f78
theorem wf_session_work_add_1 : FnOK SP fi_session_work_add_1 fn_session_work_add_1 42 := ⟨Tryz.func78, by kernel_rfl, by kernel_rfl, Tryz.ntmps78⟩
@[reducible] def fi_slices_ContainsFunc_sl_session_item_session_item : Nat := 79
noncomputable def cf_slices_ContainsFunc_sl_session_item_session_item (F : Specs) : Cf := { E := { tab := tab, imm := [] }, F := F, gl := glob, N := 9, keep := [0, 1, 4] }
@[reducible] noncomputable def fn_slices_ContainsFunc_sl_session_item_session_item : Func := Tryz.f79
theorem wf_slices_ContainsFunc_sl_session_item_session_item : FnOK SP fi_slices_ContainsFunc_sl_session_item_session_item fn_slices_ContainsFunc_sl_session_item_session_item 9 := ⟨Tryz.func79, by kernel_rfl, by kernel_rfl, Tryz.ntmps79⟩
@[reducible] def fi_slices_IndexFunc_sl_api_Event_api_Event : Nat := 80
noncomputable def cf_slices_IndexFunc_sl_api_Event_api_Event (F : Specs) : Cf := { E := { tab := tab, imm := [] }, F := F, gl := glob, N := 19, keep := [0, 1, 4, 5, 7, 8, 9, 16] }
@[reducible] noncomputable def fn_slices_IndexFunc_sl_api_Event_api_Event : Func := Tryz.f80
theorem wf_slices_IndexFunc_sl_api_Event_api_Event : FnOK SP fi_slices_IndexFunc_sl_api_Event_api_Event fn_slices_IndexFunc_sl_api_Event_api_Event 19 := ⟨Tryz.func80, by kernel_rfl, by kernel_rfl, Tryz.ntmps80⟩
@[reducible] def fi_slices_Contains_sl_api_Key_api_Key : Nat := 81
noncomputable def cf_slices_Contains_sl_api_Key_api_Key (F : Specs) : Cf := { E := { tab := tab, imm := [3] }, F := F, gl := glob, N := 9, keep := [0, 1, 3, 4] }
@[reducible] noncomputable def fn_slices_Contains_sl_api_Key_api_Key : Func := Tryz.f81
theorem wf_slices_Contains_sl_api_Key_api_Key : FnOK SP fi_slices_Contains_sl_api_Key_api_Key fn_slices_Contains_sl_api_Key_api_Key 9 := ⟨Tryz.func81, by kernel_rfl, by kernel_rfl, Tryz.ntmps81⟩
@[reducible] def fi_feed_of : Nat := 82
noncomputable def cf_feed_of (F : Specs) : Cf := { E := { tab := tab, imm := [3] }, F := F, gl := glob, N := 30, keep := [0, 1, 3, 4, 5, 7, 12, 13, 14, 15] }
@[reducible] noncomputable def fn_feed_of : Func := Tryz.f82
theorem wf_feed_of : FnOK SP fi_feed_of fn_feed_of 30 := ⟨Tryz.func82, by kernel_rfl, by kernel_rfl, Tryz.ntmps82⟩
@[reducible] def fi_feed_name : Nat := 83
noncomputable def cf_feed_name (F : Specs) : Cf := { E := { tab := tab, imm := [] }, F := F, gl := glob, N := 20, keep := [0, 2] }
@[reducible] noncomputable def fn_feed_name : Func := Tryz.f83
theorem wf_feed_name : FnOK SP fi_feed_name fn_feed_name 20 := ⟨Tryz.func83, by kernel_rfl, by kernel_rfl, Tryz.ntmps83⟩
@[reducible] def fi_feed_identifier : Nat := 84
noncomputable def cf_feed_identifier (F : Specs) : Cf := { E := { tab := tab, imm := [] }, F := F, gl := glob, N := 5, keep := [0, 2] }
@[reducible] noncomputable def fn_feed_identifier : Func := Tryz.f84
theorem wf_feed_identifier : FnOK SP fi_feed_identifier fn_feed_identifier 5 := ⟨Tryz.func84, by kernel_rfl, by kernel_rfl, Tryz.ntmps84⟩
@[reducible] def fi_value_Valid : Nat := 85
noncomputable def cf_value_Valid (F : Specs) : Cf := { E := { tab := tab, imm := [1] }, F := F, gl := glob, N := 39, keep := [0, 1, 2, 3, 4, 12, 14, 15, 17, 22, 23, 25, 27] }
@[reducible] noncomputable def fn_value_Valid : Func := Tryz.f85
theorem wf_value_Valid : FnOK SP fi_value_Valid fn_value_Valid 39 := ⟨Tryz.func85, by kernel_rfl, by kernel_rfl, Tryz.ntmps85⟩
@[reducible] def fi_ledger_name : Nat := 86
noncomputable def cf_ledger_name (F : Specs) : Cf := { E := { tab := tab, imm := [] }, F := F, gl := glob, N := 11, keep := [0, 2] }
@[reducible] noncomputable def fn_ledger_name : Func := Tryz.f86
theorem wf_ledger_name : FnOK SP fi_ledger_name fn_ledger_name 11 := ⟨Tryz.func86, by kernel_rfl, by kernel_rfl, Tryz.ntmps86⟩
@[reducible] def fi_ledger_consists : Nat := 87
noncomputable def cf_ledger_consists (F : Specs) : Cf := { E := { tab := tab, imm := [] }, F := F, gl := glob, N := 25, keep := [0, 1, 4, 5, 7, 8, 9, 16] }
@[reducible] noncomputable def fn_ledger_consists : Func := Tryz.f87
theorem wf_ledger_consists : FnOK SP fi_ledger_consists fn_ledger_consists 25 := ⟨Tryz.func87, by kernel_rfl, by kernel_rfl, Tryz.ntmps87⟩
@[reducible] def fi_strconv_Itoa : Nat := 88
noncomputable def cf_strconv_Itoa (F : Specs) : Cf := { E := { tab := tab, imm := [] }, F := F, gl := glob, N := 5, keep := [0, 2] }
@[reducible] noncomputable def fn_strconv_Itoa : Func := Tryz.f88
theorem wf_strconv_Itoa : FnOK SP fi_strconv_Itoa fn_strconv_Itoa 5 := ⟨Tryz.func88, by kernel_rfl, by kernel_rfl, Tryz.ntmps88⟩
@[reducible] def fi_strings_Join : Nat := 89
noncomputable def cf_strings_Join (F : Specs) : Cf := { E := { tab := tab, imm := [] }, F := F, gl := glob, N := 75, keep := [0, 1, 4, 5, 7, 8, 10, 12, 13, 15, 22, 29, 39, 40, 41, 42, 49, 63, 64, 65, 66] }
@[reducible] noncomputable def fn_strings_Join : Func := Tryz.f89
theorem wf_strings_Join : FnOK SP fi_strings_Join fn_strings_Join 75 := ⟨Tryz.func89, by kernel_rfl, by kernel_rfl, Tryz.ntmps89⟩
@[reducible] def fi_strings_NewReplacer : Nat := 90
noncomputable def cf_strings_NewReplacer (F : Specs) : Cf := { E := { tab := tab, imm := [] }, F := F, gl := glob, N := 12, keep := [0, 2, 6] }
@[reducible] noncomputable def fn_strings_NewReplacer : Func := Tryz.f90
theorem wf_strings_NewReplacer : FnOK SP fi_strings_NewReplacer fn_strings_NewReplacer 12 := ⟨Tryz.func90, by kernel_rfl, by kernel_rfl, Tryz.ntmps90⟩
@[reducible] def fi_strings_Replacer_Replace : Nat := 91
noncomputable def cf_strings_Replacer_Replace (F : Specs) : Cf := { E := { tab := tab, imm := [] }, F := F, gl := glob, N := 17, keep := [0, 1, 4] }
@[reducible] noncomputable def fn_strings_Replacer_Replace : Func := Tryz.f91
theorem wf_strings_Replacer_Replace : FnOK SP fi_strings_Replacer_Replace fn_strings_Replacer_Replace 17 := ⟨Tryz.func91, by kernel_rfl, by kernel_rfl, Tryz.ntmps91⟩
@[reducible] def fi_strconv_FormatBool : Nat := 92
noncomputable def cf_strconv_FormatBool (F : Specs) : Cf := { E := { tab := tab, imm := [] }, F := F, gl := glob, N := 5, keep := [0, 2] }
@[reducible] noncomputable def fn_strconv_FormatBool : Func := Tryz.f92
theorem wf_strconv_FormatBool : FnOK SP fi_strconv_FormatBool fn_strconv_FormatBool 5 := ⟨Tryz.func92, by kernel_rfl, by kernel_rfl, Tryz.ntmps92⟩
@[reducible] def fi_slices_insertionSortCmpFunc_ledger_entry : Nat := 93
noncomputable def cf_slices_insertionSortCmpFunc_ledger_entry (F : Specs) : Cf := { E := { tab := tab, imm := [] }, F := F, gl := glob, N := 53, keep := [0, 1, 2, 3, 8, 9, 14, 34] }
@[reducible] noncomputable def fn_slices_insertionSortCmpFunc_ledger_entry : Func := Tryz.f93
theorem wf_slices_insertionSortCmpFunc_ledger_entry : FnOK SP fi_slices_insertionSortCmpFunc_ledger_entry fn_slices_insertionSortCmpFunc_ledger_entry 53 := ⟨Tryz.func93, by kernel_rfl, by kernel_rfl, Tryz.ntmps93⟩
@[reducible] def fi_slices_heapSortCmpFunc_ledger_entry : Nat := 94
noncomputable def cf_slices_heapSortCmpFunc_ledger_entry (F : Specs) : Cf := { E := { tab := tab, imm := [] }, F := F, gl := glob, N := 60, keep := [0, 1, 2, 3, 8, 9, 10, 11, 12, 21, 33] }
@[reducible] noncomputable def fn_slices_heapSortCmpFunc_ledger_entry : Func := Tryz.f94
theorem wf_slices_heapSortCmpFunc_ledger_entry : FnOK SP fi_slices_heapSortCmpFunc_ledger_entry fn_slices_heapSortCmpFunc_ledger_entry 60 := ⟨Tryz.func94, by kernel_rfl, by kernel_rfl, Tryz.ntmps94⟩
@[reducible] def fi_slices_breakPatternsCmpFunc_ledger_entry : Nat := 95
noncomputable def cf_slices_breakPatternsCmpFunc_ledger_entry (F : Specs) : Cf := { E := { tab := tab, imm := [] }, F := F, gl := glob, N := 67, keep := [0, 1, 2, 8, 9, 10, 11, 12, 17, 35, 45] }
@[reducible] noncomputable def fn_slices_breakPatternsCmpFunc_ledger_entry : Func := Tryz.f95
theorem wf_slices_breakPatternsCmpFunc_ledger_entry : FnOK SP fi_slices_breakPatternsCmpFunc_ledger_entry fn_slices_breakPatternsCmpFunc_ledger_entry 67 := ⟨Tryz.func95, by kernel_rfl, by kernel_rfl, Tryz.ntmps95⟩
@[reducible] def fi_slices_choosePivotCmpFunc_ledger_entry : Nat := 96
noncomputable def cf_slices_choosePivotCmpFunc_ledger_entry (F : Specs) : Cf := { E := { tab := tab, imm := [] }, F := F, gl := glob, N := 63, keep := [0, 1, 2, 3, 8, 9, 10, 11, 12, 13, 14, 34, 36, 55, 57, 60] }
@[reducible] noncomputable def fn_slices_choosePivotCmpFunc_ledger_entry : Func := Tryz.f96
theorem wf_slices_choosePivotCmpFunc_ledger_entry : FnOK SP fi_slices_choosePivotCmpFunc_ledger_entry fn_slices_choosePivotCmpFunc_ledger_entry 63 := ⟨Tryz.func96, by kernel_rfl, by kernel_rfl, Tryz.ntmps96⟩
@[reducible] def fi_slices_reverseRangeCmpFunc_ledger_entry : Nat := 97
noncomputable def cf_slices_reverseRangeCmpFunc_ledger_entry (F : Specs) : Cf := { E := { tab := tab, imm := [] }, F := F, gl := glob, N := 34, keep := [0, 1, 2, 8, 9, 15] }
@[reducible] noncomputable def fn_slices_reverseRangeCmpFunc_ledger_entry : Func := Tryz.f97
theorem wf_slices_reverseRangeCmpFunc_ledger_entry : FnOK SP fi_slices_reverseRangeCmpFunc_ledger_entry fn_slices_reverseRangeCmpFunc_ledger_entry 34 := ⟨Tryz.func97, by kernel_rfl, by kernel_rfl, Tryz.ntmps97⟩
@[reducible] def fi_slices_partialInsertionSortCmpFunc_ledger_entry : Nat := 98
noncomputable def cf_slices_partialInsertionSortCmpFunc_ledger_entry (F : Specs) : Cf := { E := { tab := tab, imm := [] }, F := F, gl := glob, N := 141, keep := [0, 1, 2, 3, 8, 9, 10, 11, 12, 16, 36, 41, 45, 65, 69, 84, 104, 109, 124] }
@[reducible] noncomputable def fn_slices_partialInsertionSortCmpFunc_ledger_entry : Func := Tryz.f98
theorem wf_slices_partialInsertionSortCmpFunc_ledger_entry : FnOK SP fi_slices_partialInsertionSortCmpFunc_ledger_entry fn_slices_partialInsertionSortCmpFunc_ledger_entry 141 := ⟨Tryz.func98, by kernel_rfl, by kernel_rfl, Tryz.ntmps98⟩
@[reducible] def fi_slices_partitionEqualCmpFunc_ledger_entry : Nat := 99
noncomputable def cf_slices_partitionEqualCmpFunc_ledger_entry (F : Specs) : Cf := { E := { tab := tab, imm := [] }, F := F, gl := glob, N := 90, keep := [0, 1, 2, 3, 4, 10, 11, 12, 47, 65, 70] }
@[reducible] noncomputable def fn_slices_partitionEqualCmpFunc_ledger_entry : Func := Tryz.f99
theorem wf_slices_partitionEqualCmpFunc_ledger_entry : FnOK SP fi_slices_partitionEqualCmpFunc_ledger_entry fn_slices_partitionEqualCmpFunc_ledger_entry 90 := ⟨Tryz.func99, by kernel_rfl, by kernel_rfl, Tryz.ntmps99⟩
@[reducible] def fi_slices_partitionCmpFunc_ledger_entry : Nat := 100
noncomputable def cf_slices_partitionCmpFunc_ledger_entry (F : Specs) : Cf := { E := { tab := tab, imm := [] }, F := F, gl := glob, N := 178, keep := [0, 1, 2, 3, 4, 10, 11, 12, 13, 47, 66, 71, 120, 139, 144] }
@[reducible] noncomputable def fn_slices_partitionCmpFunc_ledger_entry : Func := Tryz.f100
theorem wf_slices_partitionCmpFunc_ledger_entry : FnOK SP fi_slices_partitionCmpFunc_ledger_entry fn_slices_partitionCmpFunc_ledger_entry 178 := ⟨Tryz.func100, by kernel_rfl, by kernel_rfl, Tryz.ntmps100⟩
@[reducible] def fi_math_bits_Len32 : Nat := 101
noncomputable def cf_math_bits_Len32 (F : Specs) : Cf := { E := { tab := tab, imm := [] }, F := F, gl := glob, N := 19, keep := [0, 2, 4, 8] }
@[reducible] noncomputable def fn_math_bits_Len32 : Func := Tryz.f101
theorem wf_math_bits_Len32 : FnOK SP fi_math_bits_Len32 fn_math_bits_Len32 19 := ⟨Tryz.func101, by kernel_rfl, by kernel_rfl, Tryz.ntmps101⟩
@[reducible] def fi_math_bits_Len64 : Nat := 102
noncomputable def cf_math_bits_Len64 (F : Specs) : Cf := { E := { tab := tab, imm := [] }, F := F, gl := glob, N := 25, keep := [0, 2, 4, 8, 14] }
@[reducible] noncomputable def fn_math_bits_Len64 : Func := Tryz.f102
theorem wf_math_bits_Len64 : FnOK SP fi_math_bits_Len64 fn_math_bits_Len64 25 := ⟨Tryz.func102, by kernel_rfl, by kernel_rfl, Tryz.ntmps102⟩
@[reducible] def fi_cmp_isNaN_int : Nat := 103
noncomputable def cf_cmp_isNaN_int (F : Specs) : Cf := { E := { tab := tab, imm := [] }, F := F, gl := glob, N := 6, keep := [0, 2] }
@[reducible] noncomputable def fn_cmp_isNaN_int : Func := Tryz.f103
theorem wf_cmp_isNaN_int : FnOK SP fi_cmp_isNaN_int fn_cmp_isNaN_int 6 := ⟨Tryz.func103, by kernel_rfl, by kernel_rfl, Tryz.ntmps103⟩
@[reducible] def fi_cmp_isNaN_string : Nat := 104
noncomputable def cf_cmp_isNaN_string (F : Specs) : Cf := { E := { tab := tab, imm := [] }, F := F, gl := glob, N := 6, keep := [0, 2] }
@[reducible] noncomputable def fn_cmp_isNaN_string : Func := Tryz.f104
theorem wf_cmp_isNaN_string : FnOK SP fi_cmp_isNaN_string fn_cmp_isNaN_string 6 := ⟨Tryz.func104, by kernel_rfl, by kernel_rfl, Tryz.ntmps104⟩
@[reducible] def fi_slices_IndexFunc_sl_session_item_session_item : Nat := 105
noncomputable def cf_slices_IndexFunc_sl_session_item_session_item (F : Specs) : Cf := { E := { tab := tab, imm := [] }, F := F, gl := glob, N := 19, keep := [0, 1, 4, 5, 7, 8, 9, 16] }
@[reducible] noncomputable def fn_slices_IndexFunc_sl_session_item_session_item : Func := Tryz.f105
theorem wf_slices_IndexFunc_sl_session_item_session_item : FnOK SP fi_slices_IndexFunc_sl_session_item_session_item fn_slices_IndexFunc_sl_session_item_session_item 19 := ⟨Tryz.func105, by kernel_rfl, by kernel_rfl, Tryz.ntmps105⟩
@[reducible] def fi_slices_Index_sl_api_Key_api_Key : Nat := 106
noncomputable def cf_slices_Index_sl_api_Key_api_Key (F : Specs) : Cf := { E := { tab := tab, imm := [3] }, F := F, gl := glob, N := 19, keep := [0, 1, 3, 4, 5, 7, 8, 9, 16] }
@[reducible] noncomputable def fn_slices_Index_sl_api_Key_api_Key : Func := Tryz.f106
theorem wf_slices_Index_sl_api_Key_api_Key : FnOK SP fi_slices_Index_sl_api_Key_api_Key fn_slices_Index_sl_api_Key_api_Key 19 := ⟨Tryz.func106, by kernel_rfl, by kernel_rfl, Tryz.ntmps106⟩
@[reducible] def fi_feed_sorted : Nat := 107
noncomputable def cf_feed_sorted (F : Specs) : Cf := { E := { tab := tab, imm := [] }, F := F, gl := glob, N := 54, keep := [0, 1, 4, 5, 7, 9, 10, 11, 13, 15, 16, 17, 18, 21, 22, 23, 24, 35, 42, 44] }
@[reducible] noncomputable def fn_feed_sorted : Func := Tryz.f107
theorem wf_feed_sorted : FnOK SP fi_feed_sorted fn_feed_sorted 54 := ⟨Tryz.func107, by kernel_rfl, by kernel_rfl, Tryz.ntmps107⟩
@[reducible] def fi_feed_of_1 : Nat := 108
noncomputable def cf_feed_of_1 (F : Specs) : Cf := { E := { tab := tab, imm := [2] }, F := F, gl := glob, N := 8, keep := [0, 1, 2, 3] }
@[reducible] noncomputable def fn_feed_of_1 : Func := Tryz.f108
theorem wf_feed_of_1 : FnOK SP fi_feed_of_1 fn_feed_of_1 8 := ⟨Tryz.func108, by kernel_rfl, by kernel_rfl, Tryz.ntmps108⟩
@[reducible] def fi_feed_word : Nat := 109
noncomputable def cf_feed_word (F : Specs) : Cf := { E := { tab := tab, imm := [] }, F := F, gl := glob, N := 50, keep := [0, 1, 4, 6, 8, 9, 10, 11, 41] }
@[reducible] noncomputable def fn_feed_word : Func := Tryz.f109
theorem wf_feed_word : FnOK SP fi_feed_word fn_feed_word 50 := ⟨Tryz.func109, by kernel_rfl, by kernel_rfl, Tryz.ntmps109⟩
@[reducible] def fi_strings_IndexByte : Nat := 110
noncomputable def cf_strings_IndexByte (F : Specs) : Cf := { E := { tab := tab, imm := [] }, F := F, gl := glob, N := 8, keep := [0, 1, 4] }
@[reducible] noncomputable def fn_strings_IndexByte : Func := Tryz.f110
theorem wf_strings_IndexByte : FnOK SP fi_strings_IndexByte fn_strings_IndexByte 8 := ⟨Tryz.func110, by kernel_rfl, by kernel_rfl, Tryz.ntmps110⟩
@[reducible] def fi_i_strconv_Itoa : Nat := 111
noncomputable def cf_i_strconv_Itoa (F : Specs) : Cf := { E := { tab := tab, imm := [] }, F := F, gl := glob, N := 5, keep := [0, 2] }
@[reducible] noncomputable def fn_i_strconv_Itoa : Func := Tryz.f111
theorem wf_i_strconv_Itoa : FnOK SP fi_i_strconv_Itoa fn_i_strconv_Itoa 5 := ⟨Tryz.func111, by kernel_rfl, by kernel_rfl, Tryz.ntmps111⟩
@[reducible] def fi_strings_Builder_Grow : Nat := 112
noncomputable def cf_strings_Builder_Grow (F : Specs) : Cf := { E := { tab := tab, imm := [] }, F := F, gl := glob, N := 25, keep := [0, 1, 7, 21] }
@[reducible] noncomputable def fn_strings_Builder_Grow : Func := Tryz.f112
theorem wf_strings_Builder_Grow : FnOK SP fi_strings_Builder_Grow fn_strings_Builder_Grow 25 := ⟨Tryz.func112, by kernel_rfl, by kernel_rfl, Tryz.ntmps112⟩
@[reducible] def fi_strings_Builder_WriteString : Nat := 113
noncomputable def cf_strings_Builder_WriteString (F : Specs) : Cf := { E := { tab := tab, imm := [] }, F := F, gl := glob, N := 19, keep := [0, 1, 4, 5] }
@[reducible] noncomputable def fn_strings_Builder_WriteString : Func := Tryz.f113
theorem wf_strings_Builder_WriteString : FnOK SP fi_strings_Builder_WriteString fn_strings_Builder_WriteString 19 := ⟨Tryz.func113, by kernel_rfl, by kernel_rfl, Tryz.ntmps113⟩
@[reducible] def fi_strings_Builder_String : Nat := 114
noncomputable def cf_strings_Builder_String (F : Specs) : Cf := { E := { tab := tab, imm := [] }, F := F, gl := glob, N := 14, keep := [0, 2] }
@[reducible] noncomputable def fn_strings_Builder_String : Func := Tryz.f114
theorem wf_strings_Builder_String : FnOK SP fi_strings_Builder_String fn_strings_Builder_String 14 := ⟨Tryz.func114, by kernel_rfl, by kernel_rfl, Tryz.ntmps114⟩
@[reducible] def fi_sync_Once_Do : Nat := 115
noncomputable def cf_sync_Once_Do (F : Specs) : Cf := { E := { tab := tab, imm := [] }, F := F, gl := glob, N := 12, keep := [0, 1, 8] }
@[reducible] noncomputable def fn_sync_Once_Do : Func := Tryz.f115
theorem wf_sync_Once_Do : FnOK SP fi_sync_Once_Do fn_sync_Once_Do 12 := ⟨Tryz.func115, by kernel_rfl, by kernel_rfl, Tryz.ntmps115⟩
@[reducible] def fi_strings_Replacer_buildOnce : Nat := 116
noncomputable def cf_strings_Replacer_buildOnce (F : Specs) : Cf := { E := { tab := tab, imm := [] }, F := F, gl := glob, N := 10, keep := [0] }
@[reducible] noncomputable def fn_strings_Replacer_buildOnce : Func := Tryz.f116
theorem wf_strings_Replacer_buildOnce : FnOK SP fi_strings_Replacer_buildOnce fn_strings_Replacer_buildOnce 10 := ⟨Tryz.func116, by kernel_rfl, by kernel_rfl, Tryz.ntmps116⟩
@[reducible] def fi_i_strconv_FormatBool : Nat := 117
noncomputable def cf_i_strconv_FormatBool (F : Specs) : Cf := { E := { tab := tab, imm := [] }, F := F, gl := glob, N := 4, keep := [0, 2, 3] }
@[reducible] noncomputable def fn_i_strconv_FormatBool : Func := Tryz.f117
theorem wf_i_strconv_FormatBool : FnOK SP fi_i_strconv_FormatBool fn_i_strconv_FormatBool 4 := ⟨Tryz.func117, by kernel_rfl, by kernel_rfl, Tryz.ntmps117⟩
@[reducible] def fi_slices_siftDownCmpFunc_ledger_entry : Nat := 118
noncomputable def cf_slices_siftDownCmpFunc_ledger_entry (F : Specs) : Cf := { E := { tab := tab, imm := [] }, F := F, gl := glob, N := 82, keep := [0, 1, 2, 3, 4, 10, 11, 18, 40, 58] }
@[reducible] noncomputable def fn_slices_siftDownCmpFunc_ledger_entry : Func := Tryz.f118
theorem wf_slices_siftDownCmpFunc_ledger_entry : FnOK SP fi_slices_siftDownCmpFunc_ledger_entry fn_slices_siftDownCmpFunc_ledger_entry 82 := ⟨Tryz.func118, by kernel_rfl, by kernel_rfl, Tryz.ntmps118⟩
@[reducible] def fi_slices_nextPowerOfTwo : Nat := 119
noncomputable def cf_slices_nextPowerOfTwo (F : Specs) : Cf := { E := { tab := tab, imm := [] }, F := F, gl := glob, N := 7, keep := [0, 2] }
@[reducible] noncomputable def fn_slices_nextPowerOfTwo : Func := Tryz.f119
theorem wf_slices_nextPowerOfTwo : FnOK SP fi_slices_nextPowerOfTwo fn_slices_nextPowerOfTwo 7 := ⟨Tryz.func119, by kernel_rfl, by kernel_rfl, Tryz.ntmps119⟩
@[reducible] def fi_slices_xorshift_Next : Nat := 120
noncomputable def cf_slices_xorshift_Next (F : Specs) : Cf := { E := { tab := tab, imm := [] }, F := F, gl := glob, N := 33, keep := [0, 2] }
@[reducible] noncomputable def fn_slices_xorshift_Next : Func := Tryz.f120
theorem wf_slices_xorshift_Next : FnOK SP fi_slices_xorshift_Next fn_slices_xorshift_Next 33 := ⟨Tryz.func120, by kernel_rfl, by kernel_rfl, Tryz.ntmps120⟩
@[reducible] def fi_slices_medianAdjacentCmpFunc_ledger_entry : Nat := 121
noncomputable def cf_slices_medianAdjacentCmpFunc_ledger_entry (F : Specs) : Cf := { E := { tab := tab, imm := [] }, F := F, gl := glob, N := 18, keep := [0, 1, 2, 3, 8] }
@[reducible] noncomputable def fn_slices_medianAdjacentCmpFunc_ledger_entry : Func := Tryz.f121
theorem wf_slices_medianAdjacentCmpFunc_ledger_entry : FnOK SP fi_slices_medianAdjacentCmpFunc_ledger_entry fn_slices_medianAdjacentCmpFunc_ledger_entry 18 := ⟨Tryz.func121, by kernel_rfl, by kernel_rfl, Tryz.ntmps121⟩
@[reducible] def fi_slices_medianCmpFunc_ledger_entry : Nat := 122
noncomputable def cf_slices_medianCmpFunc_ledger_entry (F : Specs) : Cf := { E := { tab := tab, imm := [] }, F := F, gl := glob, N := 41, keep := [0, 1, 2, 3, 4, 5, 12] }
@[reducible] noncomputable def fn_slices_medianCmpFunc_ledger_entry : Func := Tryz.f122
theorem wf_slices_medianCmpFunc_ledger_entry : FnOK SP fi_slices_medianCmpFunc_ledger_entry fn_slices_medianCmpFunc_ledger_entry 41 := ⟨Tryz.func122, by kernel_rfl, by kernel_rfl, Tryz.ntmps122⟩
@[reducible] def fi_slices_SortFunc_sl_api_Delivery_api_Delivery : Nat := 123
noncomputable def cf_slices_SortFunc_sl_api_Delivery_api_Delivery (F : Specs) : Cf := { E := { tab := tab, imm := [] }, F := F, gl := glob, N := 14, keep := [0, 1, 4] }
@[reducible] noncomputable def fn_slices_SortFunc_sl_api_Delivery_api_Delivery : Func := Tryz.f123
theorem wf_slices_SortFunc_sl_api_Delivery_api_Delivery : FnOK SP fi_slices_SortFunc_sl_api_Delivery_api_Delivery fn_slices_SortFunc_sl_api_Delivery_api_Delivery 14 := ⟨Tryz.func123, by kernel_rfl, by kernel_rfl, Tryz.ntmps123⟩
@[reducible] def fi_feed_order : Nat := 124
noncomputable def cf_feed_order (F : Specs) : Cf := { E := { tab := tab, imm := [2, 3] }, F := F, gl := glob, N := 22, keep := [0, 1, 2, 3, 4] }
@[reducible] noncomputable def fn_feed_order : Func := Tryz.f124
theorem wf_feed_order : FnOK SP fi_feed_order fn_feed_order 22 := ⟨Tryz.func124, by kernel_rfl, by kernel_rfl, Tryz.ntmps124⟩
@[reducible] def fi_i_stringslite_IndexByte : Nat := 125
noncomputable def cf_i_stringslite_IndexByte (F : Specs) : Cf := { E := { tab := tab, imm := [] }, F := F, gl := glob, N := 8, keep := [0, 1, 4] }
@[reducible] noncomputable def fn_i_stringslite_IndexByte : Func := Tryz.f125
theorem wf_i_stringslite_IndexByte : FnOK SP fi_i_stringslite_IndexByte fn_i_stringslite_IndexByte 8 := ⟨Tryz.func125, by kernel_rfl, by kernel_rfl, Tryz.ntmps125⟩
@[reducible] def fi_i_strconv_FormatInt : Nat := 126
noncomputable def cf_i_strconv_FormatInt (F : Specs) : Cf := { E := { tab := tab, imm := [] }, F := F, gl := glob, N := 54, keep := [0, 1, 4, 5, 6, 7, 9, 11, 17, 23, 34] }
@[reducible] noncomputable def fn_i_strconv_FormatInt : Func := Tryz.f126
theorem wf_i_strconv_FormatInt : FnOK SP fi_i_strconv_FormatInt fn_i_strconv_FormatInt 54 := ⟨Tryz.func126, by kernel_rfl, by kernel_rfl, Tryz.ntmps126⟩
@[reducible] def fi_strings_Builder_copyCheck : Nat := 127
noncomputable def cf_strings_Builder_copyCheck (F : Specs) : Cf := { E := { tab := tab, imm := [] }, F := F, gl := glob, N := 20, keep := [0, 6, 19] }
@[reducible] noncomputable def fn_strings_Builder_copyCheck : Func := Tryz.f127
theorem wf_strings_Builder_copyCheck : FnOK SP fi_strings_Builder_copyCheck fn_strings_Builder_copyCheck 20 := ⟨Tryz.func127, by kernel_rfl, by kernel_rfl, Tryz.ntmps127⟩
@[reducible] def fi_strings_Builder_grow : Nat := 128
noncomputable def cf_strings_Builder_grow (F : Specs) : Cf := { E := { tab := tab, imm := [] }, F := F, gl := glob, N := 30, keep := [0, 1, 4] }
@[reducible] noncomputable def fn_strings_Builder_grow : Func := Tryz.f128
theorem wf_strings_Builder_grow : FnOK SP fi_strings_Builder_grow fn_strings_Builder_grow 30 := ⟨Tryz.func128, by kernel_rfl, by kernel_rfl, Tryz.ntmps128⟩
@[reducible] def fi_sync_atomic_Bool_Load : Nat := 129
noncomputable def cf_sync_atomic_Bool_Load (F : Specs) : Cf := { E := { tab := tab, imm := [] }, F := F, gl := glob, N := 8, keep := [0, 2] }
@[reducible] noncomputable def fn_sync_atomic_Bool_Load : Func := Tryz.f129
theorem wf_sync_atomic_Bool_Load : FnOK SP fi_sync_atomic_Bool_Load fn_sync_atomic_Bool_Load 8 := ⟨Tryz.func129, by kernel_rfl, by kernel_rfl, Tryz.ntmps129⟩
@[reducible] def fi_sync_Once_doSlow : Nat := 130
noncomputable def cf_sync_Once_doSlow (F : Specs) : Cf := { E := { tab := tab, imm := [] }, F := F, gl := glob, N := 21, keep := [0, 1, 15] }
@[reducible] noncomputable def fn_sync_Once_doSlow : Func := Tryz.f130
theorem wf_sync_Once_doSlow : FnOK SP fi_sync_Once_doSlow fn_sync_Once_doSlow 21 := ⟨Tryz.func130, by kernel_rfl, by kernel_rfl, Tryz.ntmps130⟩
@[reducible] def fi_strings_Replacer_build : Nat := 131
noncomputable def cf_strings_Replacer_build (F : Specs) : Cf := { E := { tab := tab, imm := [] }, F := F, gl := glob, N := 132, keep := [0, 2, 3, 4, 5, 6, 7, 8, 9, 10, 11, 12, 13, 14, 28, 40, 48, 58, 59, 61, 62, 73, 100, 117] }
@[reducible] noncomputable def fn_strings_Replacer_build : Func := Tryz.f131
theorem wf_strings_Replacer_build : FnOK SP fi_strings_Replacer_build fn_strings_Replacer_build 132 := ⟨Tryz.func131, by kernel_rfl, by kernel_rfl, Tryz.ntmps131⟩
@[reducible] def fi_slices_order2CmpFunc_ledger_entry : Nat := 132
noncomputable def cf_slices_order2CmpFunc_ledger_entry (F : Specs) : Cf := { E := { tab := tab, imm := [] }, F := F, gl := glob, N := 32, keep := [0, 1, 2, 3, 4, 10, 11, 22] }
@[reducible] noncomputable def fn_slices_order2CmpFunc_ledger_entry : Func := Tryz.f132
theorem wf_slices_order2CmpFunc_ledger_entry : FnOK SP fi_slices_order2CmpFunc_ledger_entry fn_slices_order2CmpFunc_ledger_entry 32 := ⟨Tryz.func132, by kernel_rfl, by kernel_rfl, Tryz.ntmps132⟩
@[reducible] def fi_slices_pdqsortCmpFunc_api_Delivery : Nat := 133
noncomputable def cf_slices_pdqsortCmpFunc_api_Delivery (F : Specs) : Cf := { E := { tab := tab, imm := [] }, F := F, gl := glob, N := 148, keep := [0, 1, 2, 3, 4, 10, 11, 12, 13, 14, 15, 16, 17, 18, 19, 20, 25, 32, 39, 56, 75, 80, 97, 125] }
@[reducible] noncomputable def fn_slices_pdqsortCmpFunc_api_Delivery : Func := Tryz.f133
theorem wf_slices_pdqsortCmpFunc_api_Delivery : FnOK SP fi_slices_pdqsortCmpFunc_api_Delivery fn_slices_pdqsortCmpFunc_api_Delivery 148 := ⟨Tryz.func133, by kernel_rfl, by kernel_rfl, Tryz.ntmps133⟩
@[reducible] def fi_i_strconv_small : Nat := 135
noncomputable def cf_i_strconv_small (F : Specs) : Cf := { E := { tab := tab, imm := [] }, F := F, gl := glob, N := 15, keep := [0, 2, 4] }
@[reducible] noncomputable def fn_i_strconv_small : Func := Tryz.f135
theorem wf_i_strconv_small : FnOK SP fi_i_strconv_small fn_i_strconv_small 15 := ⟨Tryz.func135, by kernel_rfl, by kernel_rfl, Tryz.ntmps135⟩
@[reducible] def fi_i_strconv_numDigits : Nat := 136
noncomputable def cf_i_strconv_numDigits (F : Specs) : Cf := { E := { tab := tab, imm := [] }, F := F, gl := glob, N := 15, keep := [0, 2, 3] }
@[reducible] noncomputable def fn_i_strconv_numDigits : Func := Tryz.f136
theorem wf_i_strconv_numDigits : FnOK SP fi_i_strconv_numDigits fn_i_strconv_numDigits 15 := ⟨Tryz.func136, by kernel_rfl, by kernel_rfl, Tryz.ntmps136⟩
@[reducible] def fi_i_strconv_formatBase10 : Nat := 137
noncomputable def cf_i_strconv_formatBase10 (F : Specs) : Cf := { E := { tab := tab, imm := [] }, F := F, gl := glob, N := 167, keep := [0, 1, 4, 5, 6, 7, 8, 9, 10, 11, 12, 13, 14, 15, 16, 20, 99, 139, 161] }
@[reducible] noncomputable def fn_i_strconv_formatBase10 : Func := Tryz.f137
theorem wf_i_strconv_formatBase10 : FnOK SP fi_i_strconv_formatBase10 fn_i_strconv_formatBase10 167 := ⟨Tryz.func137, by kernel_rfl, by kernel_rfl, Tryz.ntmps137⟩
@[reducible] def fi_i_strconv_formatBits : Nat := 138
noncomputable def cf_i_strconv_formatBits (F : Specs) : Cf := { E := { tab := tab, imm := [] }, F := F, gl := glob, N := 102, keep := [0, 1, 2, 3, 4, 10, 11, 12, 13, 14, 15, 16, 17, 18, 28, 30, 34, 46, 68, 89, 94] }
@[reducible] noncomputable def fn_i_strconv_formatBits : Func := Tryz.f138
theorem wf_i_strconv_formatBits : FnOK SP fi_i_strconv_formatBits fn_i_strconv_formatBits 102 := ⟨Tryz.func138, by kernel_rfl, by kernel_rfl, Tryz.ntmps138⟩
@[reducible] def fi_sync_Mutex_Lock : Nat := 142
noncomputable def cf_sync_Mutex_Lock (F : Specs) : Cf := { E := { tab := tab, imm := [] }, F := F, gl := glob, N := 6, keep := [0] }
@[reducible] noncomputable def fn_sync_Mutex_Lock : Func := Tryz.f142
theorem wf_sync_Mutex_Lock : FnOK SP fi_sync_Mutex_Lock fn_sync_Mutex_Lock 6 := ⟨Tryz.func142, by kernel_rfl, by kernel_rfl, Tryz.ntmps142⟩
@[reducible] def fi_sync_Mutex_Unlock : Nat := 143
noncomputable def cf_sync_Mutex_Unlock (F : Specs) : Cf := { E := { tab := tab, imm := [] }, F := F, gl := glob, N := 6, keep := [0] }
@[reducible] noncomputable def fn_sync_Mutex_Unlock : Func := Tryz.f143
theorem wf_sync_Mutex_Unlock : FnOK SP fi_sync_Mutex_Unlock fn_sync_Mutex_Unlock 6 := ⟨Tryz.func143, by kernel_rfl, by kernel_rfl, Tryz.ntmps143⟩
@[reducible] def fi_sync_atomic_Bool_Store : Nat := 144
noncomputable def cf_sync_atomic_Bool_Store (F : Specs) : Cf := { E := { tab := tab, imm := [] }, F := F, gl := glob, N := 10, keep := [0, 1] }
@[reducible] noncomputable def fn_sync_atomic_Bool_Store : Func := Tryz.f144
theorem wf_sync_atomic_Bool_Store : FnOK SP fi_sync_atomic_Bool_Store fn_sync_atomic_Bool_Store 10 := ⟨Tryz.func144, by kernel_rfl, by kernel_rfl, Tryz.ntmps144⟩
@[reducible] def fi_strings_makeSingleStringReplacer : Nat := 145
noncomputable def cf_strings_makeSingleStringReplacer (F : Specs) : Cf := { E := { tab := tab, imm := [] }, F := F, gl := glob, N := 10, keep := [0, 1, 4] }
@[reducible] noncomputable def fn_strings_makeSingleStringReplacer : Func := Tryz.f145
theorem wf_strings_makeSingleStringReplacer : FnOK SP fi_strings_makeSingleStringReplacer fn_strings_makeSingleStringReplacer 10 := ⟨Tryz.func145, by kernel_rfl, by kernel_rfl, Tryz.ntmps145⟩
@[reducible] def fi_strings_makeGenericReplacer : Nat := 146
noncomputable def cf_strings_makeGenericReplacer (F : Specs) : Cf := { E := { tab := tab, imm := [] }, F := F, gl := glob, N := 117, keep := [0, 2, 3, 4, 5, 6, 8, 9, 10, 11, 12, 17, 27, 40, 41, 42, 57, 58, 59, 63, 95] }
@[reducible] noncomputable def fn_strings_makeGenericReplacer : Func := Tryz.f146
theorem wf_strings_makeGenericReplacer : FnOK SP fi_strings_makeGenericReplacer fn_strings_makeGenericReplacer 117 := ⟨Tryz.func146, by kernel_rfl, by kernel_rfl, Tryz.ntmps146⟩
@[reducible] def fi_slices_insertionSortCmpFunc_api_Delivery : Nat := 147
noncomputable def cf_slices_insertionSortCmpFunc_api_Delivery (F : Specs) : Cf := { E := { tab := tab, imm := [] }, F := F, gl := glob, N := 53, keep := [0, 1, 2, 3, 8, 9, 14, 34] }
@[reducible] noncomputable def fn_slices_insertionSortCmpFunc_api_Delivery : Func := Tryz.f147
theorem wf_slices_insertionSortCmpFunc_api_Delivery : FnOK SP fi_slices_insertionSortCmpFunc_api_Delivery fn_slices_insertionSortCmpFunc_api_Delivery 53 := ⟨Tryz.func147, by kernel_rfl, by kernel_rfl, Tryz.ntmps147⟩
@[reducible] def fi_slices_heapSortCmpFunc_api_Delivery : Nat := 148
noncomputable def cf_slices_heapSortCmpFunc_api_Delivery (F : Specs) : Cf := { E := { tab := tab, imm := [] }, F := F, gl := glob, N := 60, keep := [0, 1, 2, 3, 8, 9, 10, 11, 12, 21, 33] }
@[reducible] noncomputable def fn_slices_heapSortCmpFunc_api_Delivery : Func := Tryz.f148
theorem wf_slices_heapSortCmpFunc_api_Delivery : FnOK SP fi_slices_heapSortCmpFunc_api_Delivery fn_slices_heapSortCmpFunc_api_Delivery 60 := ⟨Tryz.func148, by kernel_rfl, by kernel_rfl, Tryz.ntmps148⟩
@[reducible] def fi_slices_breakPatternsCmpFunc_api_Delivery : Nat := 149
noncomputable def cf_slices_breakPatternsCmpFunc_api_Delivery (F : Specs) : Cf := { E := { tab := tab, imm := [] }, F := F, gl := glob, N := 67, keep := [0, 1, 2, 8, 9, 10, 11, 12, 17, 35, 45] }
@[reducible] noncomputable def fn_slices_breakPatternsCmpFunc_api_Delivery : Func := Tryz.f149
theorem wf_slices_breakPatternsCmpFunc_api_Delivery : FnOK SP fi_slices_breakPatternsCmpFunc_api_Delivery fn_slices_breakPatternsCmpFunc_api_Delivery 67 := ⟨Tryz.func149, by kernel_rfl, by kernel_rfl, Tryz.ntmps149⟩
@[reducible] def fi_slices_choosePivotCmpFunc_api_Delivery : Nat := 150
noncomputable def cf_slices_choosePivotCmpFunc_api_Delivery (F : Specs) : Cf := { E := { tab := tab, imm := [] }, F := F, gl := glob, N := 63, keep := [0, 1, 2, 3, 8, 9, 10, 11, 12, 13, 14, 34, 36, 55, 57, 60] }
@[reducible] noncomputable def fn_slices_choosePivotCmpFunc_api_Delivery : Func := Tryz.f150
theorem wf_slices_choosePivotCmpFunc_api_Delivery : FnOK SP fi_slices_choosePivotCmpFunc_api_Delivery fn_slices_choosePivotCmpFunc_api_Delivery 63 := ⟨Tryz.func150, by kernel_rfl, by kernel_rfl, Tryz.ntmps150⟩
@[reducible] def fi_slices_reverseRangeCmpFunc_api_Delivery : Nat := 151
noncomputable def cf_slices_reverseRangeCmpFunc_api_Delivery (F : Specs) : Cf := { E := { tab := tab, imm := [] }, F := F, gl := glob, N := 34, keep := [0, 1, 2, 8, 9, 15] }
@[reducible] noncomputable def fn_slices_reverseRangeCmpFunc_api_Delivery : Func := Tryz.f151
theorem wf_slices_reverseRangeCmpFunc_api_Delivery : FnOK SP fi_slices_reverseRangeCmpFunc_api_Delivery fn_slices_reverseRangeCmpFunc_api_Delivery 34 := ⟨Tryz.func151, by kernel_rfl, by kernel_rfl, Tryz.ntmps151⟩
@[reducible] def fi_slices_partialInsertionSortCmpFunc_api_Delivery : Nat := 152
noncomputable def cf_slices_partialInsertionSortCmpFunc_api_Delivery (F : Specs) : Cf := { E := { tab := tab, imm := [] }, F := F, gl := glob, N := 141, keep := [0, 1, 2, 3, 8, 9, 10, 11, 12, 16, 36, 41, 45, 65, 69, 84, 104, 109, 124] }
@[reducible] noncomputable def fn_slices_partialInsertionSortCmpFunc_api_Delivery : Func := Tryz.f152
theorem wf_slices_partialInsertionSortCmpFunc_api_Delivery : FnOK SP fi_slices_partialInsertionSortCmpFunc_api_Delivery fn_slices_partialInsertionSortCmpFunc_api_Delivery 141 := ⟨Tryz.func152, by kernel_rfl, by kernel_rfl, Tryz.ntmps152⟩
@[reducible] def fi_slices_partitionEqualCmpFunc_api_Delivery : Nat := 153
noncomputable def cf_slices_partitionEqualCmpFunc_api_Delivery (F : Specs) : Cf := { E := { tab := tab, imm := [] }, F := F, gl := glob, N := 90, keep := [0, 1, 2, 3, 4, 10, 11, 12, 47, 65, 70] }
@[reducible] noncomputable def fn_slices_partitionEqualCmpFunc_api_Delivery : Func := Tryz.f153
theorem wf_slices_partitionEqualCmpFunc_api_Delivery : FnOK SP fi_slices_partitionEqualCmpFunc_api_Delivery fn_slices_partitionEqualCmpFunc_api_Delivery 90 := ⟨Tryz.func153, by kernel_rfl, by kernel_rfl, Tryz.ntmps153⟩
@[reducible] def fi_slices_partitionCmpFunc_api_Delivery : Nat := 154
noncomputable def cf_slices_partitionCmpFunc_api_Delivery (F : Specs) : Cf := { E := { tab := tab, imm := [] }, F := F, gl := glob, N := 178, keep := [0, 1, 2, 3, 4, 10, 11, 12, 13, 47, 66, 71, 120, 139, 144] }
@[reducible] noncomputable def fn_slices_partitionCmpFunc_api_Delivery : Func := Tryz.f154
theorem wf_slices_partitionCmpFunc_api_Delivery : FnOK SP fi_slices_partitionCmpFunc_api_Delivery fn_slices_partitionCmpFunc_api_Delivery 178 := ⟨Tryz.func154, by kernel_rfl, by kernel_rfl, Tryz.ntmps154⟩
@[reducible] def fi_i_strconv_log10Pow2 : Nat := 155
noncomputable def cf_i_strconv_log10Pow2 (F : Specs) : Cf := { E := { tab := tab, imm := [] }, F := F, gl := glob, N := 6, keep := [0, 2] }
@[reducible] noncomputable def fn_i_strconv_log10Pow2 : Func := Tryz.f155
theorem wf_i_strconv_log10Pow2 : FnOK SP fi_i_strconv_log10Pow2 fn_i_strconv_log10Pow2 6 := ⟨Tryz.func155, by kernel_rfl, by kernel_rfl, Tryz.ntmps155⟩
@[reducible] def fi_i_strconv_bool2_int : Nat := 156
noncomputable def cf_i_strconv_bool2_int (F : Specs) : Cf := { E := { tab := tab, imm := [] }, F := F, gl := glob, N := 4, keep := [0, 2, 3] }
@[reducible] noncomputable def fn_i_strconv_bool2_int : Func := Tryz.f156
theorem wf_i_strconv_bool2_int : FnOK SP fi_i_strconv_bool2_int fn_i_strconv_bool2_int 4 := ⟨Tryz.func156, by kernel_rfl, by kernel_rfl, Tryz.ntmps156⟩
@[reducible] def fi_i_strconv_isPowerOfTwo : Nat := 157
noncomputable def cf_i_strconv_isPowerOfTwo (F : Specs) : Cf := { E := { tab := tab, imm := [] }, F := F, gl := glob, N := 8, keep := [0, 2] }
@[reducible] noncomputable def fn_i_strconv_isPowerOfTwo : Func := Tryz.f157
theorem wf_i_strconv_isPowerOfTwo : FnOK SP fi_i_strconv_isPowerOfTwo fn_i_strconv_isPowerOfTwo 8 := ⟨Tryz.func157, by kernel_rfl, by kernel_rfl, Tryz.ntmps157⟩
@[reducible] def fi_math_bits_TrailingZeros : Nat := 158
noncomputable def cf_math_bits_TrailingZeros (F : Specs) : Cf := { E := { tab := tab, imm := [] }, F := F, gl := glob, N := 8, keep := [0, 2] }
@[reducible] noncomputable def fn_math_bits_TrailingZeros : Func := Tryz.f158
theorem wf_math_bits_TrailingZeros : FnOK SP fi_math_bits_TrailingZeros fn_math_bits_TrailingZeros 8 := ⟨Tryz.func158, by kernel_rfl, by kernel_rfl, Tryz.ntmps158⟩
@[reducible] def fi_i_sync_Mutex_Lock : Nat := 159
noncomputable def cf_i_sync_Mutex_Lock (F : Specs) : Cf := { E := { tab := tab, imm := [] }, F := F, gl := glob, N := 13, keep := [0, 6] }
@[reducible] noncomputable def fn_i_sync_Mutex_Lock : Func := Tryz.f159
theorem wf_i_sync_Mutex_Lock : FnOK SP fi_i_sync_Mutex_Lock fn_i_sync_Mutex_Lock 13 := ⟨Tryz.func159, by kernel_rfl, by kernel_rfl, Tryz.ntmps159⟩
@[reducible] def fi_i_sync_Mutex_Unlock : Nat := 160
noncomputable def cf_i_sync_Mutex_Unlock (F : Specs) : Cf := { E := { tab := tab, imm := [] }, F := F, gl := glob, N := 21, keep := [0, 2, 16] }
@[reducible] noncomputable def fn_i_sync_Mutex_Unlock : Func := Tryz.f160
theorem wf_i_sync_Mutex_Unlock : FnOK SP fi_i_sync_Mutex_Unlock fn_i_sync_Mutex_Unlock 21 := ⟨Tryz.func160, by kernel_rfl, by kernel_rfl, Tryz.ntmps160⟩
@[reducible] def fi_sync_atomic_b32 : Nat := 162
noncomputable def cf_sync_atomic_b32 (F : Specs) : Cf := { E := { tab := tab, imm := [] }, F := F, gl := glob, N := 4, keep := [0, 2, 3] }
@[reducible] noncomputable def fn_sync_atomic_b32 : Func := Tryz.f162
theorem wf_sync_atomic_b32 : FnOK SP fi_sync_atomic_b32 fn_sync_atomic_b32 4 := ⟨Tryz.func162, by kernel_rfl, by kernel_rfl, Tryz.ntmps162⟩
@[reducible] def fi_strings_makeStringFinder : Nat := 163
noncomputable def cf_strings_makeStringFinder (F : Specs) : Cf := { E := { tab := tab, imm := [] }, F := F, gl := glob, N := 107, keep := [0, 2, 3, 4, 5, 6, 7, 8, 9, 10, 20, 21, 33, 49, 57, 73, 92] }
@[reducible] noncomputable def fn_strings_makeStringFinder : Func := Tryz.f163
theorem wf_strings_makeStringFinder : FnOK SP fi_strings_makeStringFinder fn_strings_makeStringFinder 107 := ⟨Tryz.func163, by kernel_rfl, by kernel_rfl, Tryz.ntmps163⟩
@[reducible] def fi_strings_trieNode_add : Nat := 164
noncomputable def cf_strings_trieNode_add (F : Specs) : Cf := { E := { tab := tab, imm := [] }, F := F, gl := glob, N := 241, keep := [0, 1, 2, 3, 4, 10, 11, 12, 13, 14, 16, 21, 34, 47, 59, 66, 79, 85, 189, 204] }
@[reducible] noncomputable def fn_strings_trieNode_add : Func := Tryz.f164
theorem wf_strings_trieNode_add : FnOK SP fi_strings_trieNode_add fn_strings_trieNode_add 241 := ⟨Tryz.func164, by kernel_rfl, by kernel_rfl, Tryz.ntmps164⟩
@[reducible] def fi_slices_siftDownCmpFunc_api_Delivery : Nat := 165
noncomputable def cf_slices_siftDownCmpFunc_api_Delivery (F : Specs) : Cf := { E := { tab := tab, imm := [] }, F := F, gl := glob, N := 82, keep := [0, 1, 2, 3, 4, 10, 11, 18, 40, 58] }
@[reducible] noncomputable def fn_slices_siftDownCmpFunc_api_Delivery : Func := Tryz.f165
theorem wf_slices_siftDownCmpFunc_api_Delivery : FnOK SP fi_slices_siftDownCmpFunc_api_Delivery fn_slices_siftDownCmpFunc_api_Delivery 82 := ⟨Tryz.func165, by kernel_rfl, by kernel_rfl, Tryz.ntmps165⟩
@[reducible] def fi_slices_medianAdjacentCmpFunc_api_Delivery : Nat := 166
noncomputable def cf_slices_medianAdjacentCmpFunc_api_Delivery (F : Specs) : Cf := { E := { tab := tab, imm := [] }, F := F, gl := glob, N := 18, keep := [0, 1, 2, 3, 8] }
@[reducible] noncomputable def fn_slices_medianAdjacentCmpFunc_api_Delivery : Func := Tryz.f166
theorem wf_slices_medianAdjacentCmpFunc_api_Delivery : FnOK SP fi_slices_medianAdjacentCmpFunc_api_Delivery fn_slices_medianAdjacentCmpFunc_api_Delivery 18 := ⟨Tryz.func166, by kernel_rfl, by kernel_rfl, Tryz.ntmps166⟩
@[reducible] def fi_slices_medianCmpFunc_api_Delivery : Nat := 167
noncomputable def cf_slices_medianCmpFunc_api_Delivery (F : Specs) : Cf := { E := { tab := tab, imm := [] }, F := F, gl := glob, N := 41, keep := [0, 1, 2, 3, 4, 5, 12] }
@[reducible] noncomputable def fn_slices_medianCmpFunc_api_Delivery : Func := Tryz.f167
theorem wf_slices_medianCmpFunc_api_Delivery : FnOK SP fi_slices_medianCmpFunc_api_Delivery fn_slices_medianCmpFunc_api_Delivery 41 := ⟨Tryz.func167, by kernel_rfl, by kernel_rfl, Tryz.ntmps167⟩
@[reducible] def fi_math_bits_TrailingZeros32 : Nat := 168
noncomputable def cf_math_bits_TrailingZeros32 (F : Specs) : Cf := { E := { tab := tab, imm := [] }, F := F, gl := glob, N := 14, keep := [0, 2, 4] }
@[reducible] noncomputable def fn_math_bits_TrailingZeros32 : Func := Tryz.f168
theorem wf_math_bits_TrailingZeros32 : FnOK SP fi_math_bits_TrailingZeros32 fn_math_bits_TrailingZeros32 14 := ⟨Tryz.func168, by kernel_rfl, by kernel_rfl, Tryz.ntmps168⟩
@[reducible] def fi_math_bits_TrailingZeros64 : Nat := 169
noncomputable def cf_math_bits_TrailingZeros64 (F : Specs) : Cf := { E := { tab := tab, imm := [] }, F := F, gl := glob, N := 14, keep := [0, 2, 4] }
@[reducible] noncomputable def fn_math_bits_TrailingZeros64 : Func := Tryz.f169
theorem wf_math_bits_TrailingZeros64 : FnOK SP fi_math_bits_TrailingZeros64 fn_math_bits_TrailingZeros64 14 := ⟨Tryz.func169, by kernel_rfl, by kernel_rfl, Tryz.ntmps169⟩
@[reducible] def fi_i_sync_Mutex_lockSlow : Nat := 174
noncomputable def cf_i_sync_Mutex_lockSlow (F : Specs) : Cf := { E := { tab := tab, imm := [] }, F := F, gl := glob, N := 139, keep := [0, 2, 3, 4, 5, 6, 7, 8, 9, 20, 41, 52, 57, 65, 68, 71, 80, 83, 87, 107, 115, 123] }
@[reducible] noncomputable def fn_i_sync_Mutex_lockSlow : Func := Tryz.f174
theorem wf_i_sync_Mutex_lockSlow : FnOK SP fi_i_sync_Mutex_lockSlow fn_i_sync_Mutex_lockSlow 139 := ⟨Tryz.func174, by kernel_rfl, by kernel_rfl, Tryz.ntmps174⟩
@[reducible] def fi_i_sync_Mutex_unlockSlow : Nat := 177
noncomputable def cf_i_sync_Mutex_unlockSlow (F : Specs) : Cf := { E := { tab := tab, imm := [] }, F := F, gl := glob, N := 43, keep := [0, 1, 4, 8, 12, 21, 30] }
@[reducible] noncomputable def fn_i_sync_Mutex_unlockSlow : Func := Tryz.f177
theorem wf_i_sync_Mutex_unlockSlow : FnOK SP fi_i_sync_Mutex_unlockSlow fn_i_sync_Mutex_unlockSlow 43 := ⟨Tryz.func177, by kernel_rfl, by kernel_rfl, Tryz.ntmps177⟩
@[reducible] def fi_strings_HasPrefix : Nat := 178
noncomputable def cf_strings_HasPrefix (F : Specs) : Cf := { E := { tab := tab, imm := [] }, F := F, gl := glob, N := 8, keep := [0, 1, 4] }
@[reducible] noncomputable def fn_strings_HasPrefix : Func := Tryz.f178
theorem wf_strings_HasPrefix : FnOK SP fi_strings_HasPrefix fn_strings_HasPrefix 8 := ⟨Tryz.func178, by kernel_rfl, by kernel_rfl, Tryz.ntmps178⟩
@[reducible] def fi_strings_longestCommonSuffix : Nat := 179
noncomputable def cf_strings_longestCommonSuffix (F : Specs) : Cf := { E := { tab := tab, imm := [] }, F := F, gl := glob, N := 32, keep := [0, 1, 4, 14, 31] }
@[reducible] noncomputable def fn_strings_longestCommonSuffix : Func := Tryz.f179
theorem wf_strings_longestCommonSuffix : FnOK SP fi_strings_longestCommonSuffix fn_strings_longestCommonSuffix 32 := ⟨Tryz.func179, by kernel_rfl, by kernel_rfl, Tryz.ntmps179⟩
@[reducible] def fi_slices_order2CmpFunc_api_Delivery : Nat := 180
noncomputable def cf_slices_order2CmpFunc_api_Delivery (F : Specs) : Cf := { E := { tab := tab, imm := [] }, F := F, gl := glob, N := 32, keep := [0, 1, 2, 3, 4, 10, 11, 22] }
@[reducible] noncomputable def fn_slices_order2CmpFunc_api_Delivery : Func := Tryz.f180
theorem wf_slices_order2CmpFunc_api_Delivery : FnOK SP fi_slices_order2CmpFunc_api_Delivery fn_slices_order2CmpFunc_api_Delivery 32 := ⟨Tryz.func180, by kernel_rfl, by kernel_rfl, Tryz.ntmps180⟩
@[reducible] def fi_i_stringslite_HasPrefix : Nat := 188
noncomputable def cf_i_stringslite_HasPrefix (F : Specs) : Cf := { E := { tab := tab, imm := [] }, F := F, gl := glob, N := 18, keep := [0, 1, 4] }
@[reducible] noncomputable def fn_i_stringslite_HasPrefix : Func := Tryz.f188
theorem wf_i_stringslite_HasPrefix : FnOK SP fi_i_stringslite_HasPrefix fn_i_stringslite_HasPrefix 18 := ⟨Tryz.func188, by kernel_rfl, by kernel_rfl, Tryz.ntmps188⟩
@[reducible] def fi_session_reversal_event : Nat := 204
noncomputable def cf_session_reversal_event (F : Specs) : Cf := { E := { tab := tab, imm := [2, 3] }, F := F, gl := glob, N := 9, keep := [0, 1, 2, 3, 4] }
@[reducible] noncomputable def fn_session_reversal_event : Func := Tryz.f204
theorem wf_session_reversal_event : FnOK SP fi_session_reversal_event fn_session_reversal_event 9 := ⟨Tryz.func204, by kernel_rfl, by kernel_rfl, Tryz.ntmps204⟩
@[reducible] def fi_strings_singleStringReplacer_Replace : Nat := 206
noncomputable def cf_strings_singleStringReplacer_Replace (F : Specs) : Cf := { E := { tab := tab, imm := [] }, F := F, gl := glob, N := 59, keep := [0, 1, 4, 5, 6, 7, 8, 18, 52] }
@[reducible] noncomputable def fn_strings_singleStringReplacer_Replace : Func := Tryz.f206
theorem wf_strings_singleStringReplacer_Replace : FnOK SP fi_strings_singleStringReplacer_Replace fn_strings_singleStringReplacer_Replace 59 := ⟨Tryz.func206, by kernel_rfl, by kernel_rfl, Tryz.ntmps206⟩
@[reducible] def fi_strings_singleStringReplacer_WriteString : Nat := 207
noncomputable def cf_strings_singleStringReplacer_WriteString (F : Specs) : Cf := { E := { tab := tab, imm := [] }, F := F, gl := glob, N := 86, keep := [0, 1, 2, 6, 7, 8, 9, 10, 11, 23, 42, 59] }
@[reducible] noncomputable def fn_strings_singleStringReplacer_WriteString : Func := Tryz.f207
theorem wf_strings_singleStringReplacer_WriteString : FnOK SP fi_strings_singleStringReplacer_WriteString fn_strings_singleStringReplacer_WriteString 86 := ⟨Tryz.func207, by kernel_rfl, by kernel_rfl, Tryz.ntmps207⟩
@[reducible] def fi_strings_stringFinder_next : Nat := 208
noncomputable def cf_strings_stringFinder_next (F : Specs) : Cf := { E := { tab := tab, imm := [] }, F := F, gl := glob, N := 63, keep := [0, 1, 4, 5, 6, 16, 36, 42] }
@[reducible] noncomputable def fn_strings_stringFinder_next : Func := Tryz.f208
theorem wf_strings_stringFinder_next : FnOK SP fi_strings_stringFinder_next fn_strings_stringFinder_next 63 := ⟨Tryz.func208, by kernel_rfl, by kernel_rfl, Tryz.ntmps208⟩
@[reducible] def fi_strings_genericReplacer_Replace : Nat := 209
noncomputable def cf_strings_genericReplacer_Replace (F : Specs) : Cf := { E := { tab := tab, imm := [] }, F := F, gl := glob, N := 15, keep := [0, 1, 4, 5] }
@[reducible] noncomputable def fn_strings_genericReplacer_Replace : Func := Tryz.f209
theorem wf_strings_genericReplacer_Replace : FnOK SP fi_strings_genericReplacer_Replace fn_strings_genericReplacer_Replace 15 := ⟨Tryz.func209, by kernel_rfl, by kernel_rfl, Tryz.ntmps209⟩
@[reducible] def fi_strings_genericReplacer_WriteString : Nat := 210
noncomputable def cf_strings_genericReplacer_WriteString (F : Specs) : Cf := { E := { tab := tab, imm := [] }, F := F, gl := glob, N := 131, keep := [0, 1, 2, 6, 7, 8, 9, 10, 11, 12, 13, 14, 15, 16, 22, 34, 60, 78, 95, 106, 116] }
@[reducible] noncomputable def fn_strings_genericReplacer_WriteString : Func := Tryz.f210
theorem wf_strings_genericReplacer_WriteString : FnOK SP fi_strings_genericReplacer_WriteString fn_strings_genericReplacer_WriteString 131 := ⟨Tryz.func210, by kernel_rfl, by kernel_rfl, Tryz.ntmps210⟩
@[reducible] def fi_strings_getStringWriter : Nat := 211
noncomputable def cf_strings_getStringWriter (F : Specs) : Cf := { E := { tab := tab, imm := [] }, F := F, gl := glob, N := 16, keep := [0, 2, 3, 4, 11] }
@[reducible] noncomputable def fn_strings_getStringWriter : Func := Tryz.f211
theorem wf_strings_getStringWriter : FnOK SP fi_strings_getStringWriter fn_strings_getStringWriter 16 := ⟨Tryz.func211, by kernel_rfl, by kernel_rfl, Tryz.ntmps211⟩
@[reducible] def fi_strings_genericReplacer_lookup : Nat := 212
noncomputable def cf_strings_genericReplacer_lookup (F : Specs) : Cf := { E := { tab := tab, imm := [] }, F := F, gl := glob, N := 107, keep := [0, 1, 2, 6, 7, 8, 9, 10, 11, 12, 17, 34, 45, 50, 64, 88] }
@[reducible] noncomputable def fn_strings_genericReplacer_lookup : Func := Tryz.f212
theorem wf_strings_genericReplacer_lookup : FnOK SP fi_strings_genericReplacer_lookup fn_strings_genericReplacer_lookup 107 := ⟨Tryz.func212, by kernel_rfl, by kernel_rfl, Tryz.ntmps212⟩
@[reducible] def fi_strings_byteReplacer_Replace : Nat := 213
noncomputable def cf_strings_byteReplacer_Replace (F : Specs) : Cf := { E := { tab := tab, imm := [] }, F := F, gl := glob, N := 41, keep := [0, 1, 4, 5, 6, 7, 11, 23, 25, 37] }
@[reducible] noncomputable def fn_strings_byteReplacer_Replace : Func := Tryz.f213
theorem wf_strings_byteReplacer_Replace : FnOK SP fi_strings_byteReplacer_Replace fn_strings_byteReplacer_Replace 41 := ⟨Tryz.func213, by kernel_rfl, by kernel_rfl, Tryz.ntmps213⟩
@[reducible] def fi_strings_byteReplacer_WriteString : Nat := 214
noncomputable def cf_strings_byteReplacer_WriteString (F : Specs) : Cf := { E := { tab := tab, imm := [] }, F := F, gl := glob, N := 105, keep := [0, 1, 2, 6, 7, 8, 9, 10, 11, 12, 13, 14, 15, 16, 17, 23, 35, 38, 55, 79, 85, 101] }
@[reducible] noncomputable def fn_strings_byteReplacer_WriteString : Func := Tryz.f214
theorem wf_strings_byteReplacer_WriteString : FnOK SP fi_strings_byteReplacer_WriteString fn_strings_byteReplacer_WriteString 105 := ⟨Tryz.func214, by kernel_rfl, by kernel_rfl, Tryz.ntmps214⟩
@[reducible] def fi_strings_byteStringReplacer_Replace : Nat := 215
noncomputable def cf_strings_byteStringReplacer_Replace (F : Specs) : Cf := { E := { tab := tab, imm := [] }, F := F, gl := glob, N := 122, keep := [0, 1, 4, 5, 6, 8, 9, 10, 11, 12, 13, 14, 15, 26, 30, 31, 32, 33, 40, 58, 70, 82, 89, 101] }
@[reducible] noncomputable def fn_strings_byteStringReplacer_Replace : Func := Tryz.f215
theorem wf_strings_byteStringReplacer_Replace : FnOK SP fi_strings_byteStringReplacer_Replace fn_strings_byteStringReplacer_Replace 122 := ⟨Tryz.func215, by kernel_rfl, by kernel_rfl, Tryz.ntmps215⟩
@[reducible] def fi_strings_byteStringReplacer_WriteString : Nat := 216
noncomputable def cf_strings_byteStringReplacer_WriteString (F : Specs) : Cf := { E := { tab := tab, imm := [] }, F := F, gl := glob, N := 98, keep := [0, 1, 2, 6, 7, 8, 9, 10, 11, 12, 13, 14, 15, 16, 22, 34, 37, 54, 77, 83] }
@[reducible] noncomputable def fn_strings_byteStringReplacer_WriteString : Func := Tryz.f216
theorem wf_strings_byteStringReplacer_WriteString : FnOK SP fi_strings_byteStringReplacer_WriteString fn_strings_byteStringReplacer_WriteString 98 := ⟨Tryz.func216, by kernel_rfl, by kernel_rfl, Tryz.ntmps216⟩
@[reducible] def fi_strings_Count : Nat := 217
noncomputable def cf_strings_Count (F : Specs) : Cf := { E := { tab := tab, imm := [] }, F := F, gl := glob, N := 34, keep := [0, 1, 4, 5, 6, 9, 15, 24] }
@[reducible] noncomputable def fn_strings_Count : Func := Tryz.f217
theorem wf_strings_Count : FnOK SP fi_strings_Count fn_strings_Count 34 := ⟨Tryz.func217, by kernel_rfl, by kernel_rfl, Tryz.ntmps217⟩
@[reducible] def fi_unicode_utf8_RuneCountInString : Nat := 218
noncomputable def cf_unicode_utf8_RuneCountInString (F : Specs) : Cf := { E := { tab := tab, imm := [] }, F := F, gl := glob, N := 10, keep := [0, 2, 4, 6] }
@[reducible] noncomputable def fn_unicode_utf8_RuneCountInString : Func := Tryz.f218
theorem wf_unicode_utf8_RuneCountInString : FnOK SP fi_unicode_utf8_RuneCountInString fn_unicode_utf8_RuneCountInString 10 := ⟨Tryz.func218, by kernel_rfl, by kernel_rfl, Tryz.ntmps218⟩
@[reducible] def fi_strings_Index : Nat := 220
noncomputable def cf_strings_Index (F : Specs) : Cf := { E := { tab := tab, imm := [] }, F := F, gl := glob, N := 8, keep := [0, 1, 4] }
@[reducible] noncomputable def fn_strings_Index : Func := Tryz.f220
theorem wf_strings_Index : FnOK SP fi_strings_Index fn_strings_Index 8 := ⟨Tryz.func220, by kernel_rfl, by kernel_rfl, Tryz.ntmps220⟩
@[reducible] def fi_i_stringslite_Index : Nat := 221
noncomputable def cf_i_stringslite_Index (F : Specs) : Cf := { E := { tab := tab, imm := [] }, F := F, gl := glob, N := 143, keep := [0, 1, 4, 5, 6, 7, 8, 9, 10, 11, 12, 13, 16, 24, 31, 36, 59, 64, 73, 93, 107, 114, 132, 139] }
@[reducible] noncomputable def fn_i_stringslite_Index : Func := Tryz.f221
theorem wf_i_stringslite_Index : FnOK SP fi_i_stringslite_Index fn_i_stringslite_Index 143 := ⟨Tryz.func221, by kernel_rfl, by kernel_rfl, Tryz.ntmps221⟩
@[reducible] def fi_i_bytealg_Cutover : Nat := 223
noncomputable def cf_i_bytealg_Cutover (F : Specs) : Cf := { E := { tab := tab, imm := [] }, F := F, gl := glob, N := 6, keep := [0, 2] }
@[reducible] noncomputable def fn_i_bytealg_Cutover : Func := Tryz.f223
theorem wf_i_bytealg_Cutover : FnOK SP fi_i_bytealg_Cutover fn_i_bytealg_Cutover 6 := ⟨Tryz.func223, by kernel_rfl, by kernel_rfl, Tryz.ntmps223⟩
@[reducible] def fi_i_bytealg_IndexRabinKarp_string : Nat := 224
noncomputable def cf_i_bytealg_IndexRabinKarp_string (F : Specs) : Cf := { E := { tab := tab, imm := [] }, F := F, gl := glob, N := 81, keep := [0, 1, 4, 5, 6, 7, 8, 9, 10, 20, 39, 44, 77] }
@[reducible] noncomputable def fn_i_bytealg_IndexRabinKarp_string : Func := Tryz.f224
theorem wf_i_bytealg_IndexRabinKarp_string : FnOK SP fi_i_bytealg_IndexRabinKarp_string fn_i_bytealg_IndexRabinKarp_string 81 := ⟨Tryz.func224, by kernel_rfl, by kernel_rfl, Tryz.ntmps224⟩
@[reducible] def fi_i_bytealg_hashStr_string : Nat := 225
noncomputable def cf_i_bytealg_hashStr_string (F : Specs) : Cf := { E := { tab := tab, imm := [] }, F := F, gl := glob, N := 39, keep := [0, 2, 3, 4, 5, 6, 7, 8, 12, 25, 30] }
@[reducible] noncomputable def fn_i_bytealg_hashStr_string : Func := Tryz.f225
theorem wf_i_bytealg_hashStr_string : FnOK SP fi_i_bytealg_hashStr_string fn_i_bytealg_hashStr_string 39 := ⟨Tryz.func225, by kernel_rfl, by kernel_rfl, Tryz.ntmps225⟩
@[reducible] def fi_strings_appendSliceWriter_Write : Nat := 227
noncomputable def cf_strings_appendSliceWriter_Write (F : Specs) : Cf := { E := { tab := tab, imm := [] }, F := F, gl := glob, N := 15, keep := [0, 1, 4, 5] }
@[reducible] noncomputable def fn_strings_appendSliceWriter_Write : Func := Tryz.f227
theorem wf_strings_appendSliceWriter_Write : FnOK SP fi_strings_appendSliceWriter_Write fn_strings_appendSliceWriter_Write 15 := ⟨Tryz.func227, by kernel_rfl, by kernel_rfl, Tryz.ntmps227⟩
@[reducible] def fi_strings_appendSliceWriter_WriteString : Nat := 228
noncomputable def cf_strings_appendSliceWriter_WriteString (F : Specs) : Cf := { E := { tab := tab, imm := [] }, F := F, gl := glob, N := 15, keep := [0, 1, 4, 5] }
@[reducible] noncomputable def fn_strings_appendSliceWriter_WriteString : Func := Tryz.f228
theorem wf_strings_appendSliceWriter_WriteString : FnOK SP fi_strings_appendSliceWriter_WriteString fn_strings_appendSliceWriter_WriteString 15 := ⟨Tryz.func228, by kernel_rfl, by kernel_rfl, Tryz.ntmps228⟩
@[reducible] def fi_strings_stringWriter_WriteString : Nat := 229
noncomputable def cf_strings_stringWriter_WriteString (F : Specs) : Cf := { E := { tab := tab, imm := [2] }, F := F, gl := glob, N := 13, keep := [0, 1, 2, 4, 5] }
@[reducible] noncomputable def fn_strings_stringWriter_WriteString : Func := Tryz.f229
theorem wf_strings_stringWriter_WriteString : FnOK SP fi_strings_stringWriter_WriteString fn_strings_stringWriter_WriteString 13 := ⟨Tryz.func229, by kernel_rfl, by kernel_rfl, Tryz.ntmps229⟩
@[reducible] def fi_strings_Replacer_WriteString : Nat := 230
noncomputable def cf_strings_Replacer_WriteString (F : Specs) : Cf := { E := { tab := tab, imm := [] }, F := F, gl := glob, N := 23, keep := [0, 1, 2, 6, 7] }
@[reducible] noncomputable def fn_strings_Replacer_WriteString : Func := Tryz.f230
theorem wf_strings_Replacer_WriteString : FnOK SP fi_strings_Replacer_WriteString fn_strings_Replacer_WriteString 23 := ⟨Tryz.func230, by kernel_rfl, by kernel_rfl, Tryz.ntmps230⟩
end Go.Gv
