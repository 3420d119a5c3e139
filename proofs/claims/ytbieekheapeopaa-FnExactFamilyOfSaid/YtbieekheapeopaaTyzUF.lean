/- The types of this seat's program. Printed by tygen.py. -/
import Derived.Test.YtbieekheapeopaaGEzUF
import Derived.Test.YtbieekheapeopaaRows
namespace Go.Proofs.Ytbieekheapeopaa
def tyT : Ty := [(2, .sc (.int .i64), 8), (3, .sc (.int .i64), 8), (4, .sc .bool, 1), (5, .sc (.int .u8), 1), (21, .sc (.int .i32), 4), (22, .sc (.sl 2), 24), (23, .sc (.sl 22), 24), (25, .st [.sl 2, .sl 22] [(0, 22), (1, 23)], 48), (28, .st [.sl 2, .sl 22] [(0, 22), (1, 23)], 48), (43, .sc (.sl 105), 24), (47, .sc (.sl 95), 24), (53, .st [.sl 2, .sl 22] [(0, 22), (1, 23)], 48), (55, .st [.sl 2, .sl 22] [(0, 22), (1, 23)], 48), (57, .st [.sl 2, .sl 22, .sl 2] [(0, 55), (2, 22)], 72), (58, .sc (.sl 111), 24), (69, .sc (.sl 5), 24), (73, .sc (.int .u64), 8), (80, .st [.sl 2, .sl 2] [(0, 22), (1, 22)], 48), (95, .st [.sl 2, .sl 2] [(0, 22), (1, 22)], 48), (105, .st [.sl 2, .sl 2] [(0, 22), (1, 22)], 48), (111, .st [.int .i64, .sl 2] [(0, 2), (1, 22)], 32), (121, .sc (.sl 4), 24), (122, .sc (.int .u64), 8)]
theorem tyOk : TyOk Try.prog tyT := tyOk_of (by kernel_rfl)
theorem tyPos : TyPos tyT := tyPos_of (by kernel_rfl)
theorem tyMix : Try.prog.follows .mixedOrders = true := by kernel_rfl
theorem tk_2 : tk tyT 2 = some (.sc (.int .i64), 8) := rfl
theorem sz_2 : sz tyT 2 = 1 := rfl
theorem cks_2 : cks tyT 2 = [.int .i64] := rfl
theorem tk_3 : tk tyT 3 = some (.sc (.int .i64), 8) := rfl
theorem sz_3 : sz tyT 3 = 1 := rfl
theorem cks_3 : cks tyT 3 = [.int .i64] := rfl
theorem tk_4 : tk tyT 4 = some (.sc .bool, 1) := rfl
theorem sz_4 : sz tyT 4 = 1 := rfl
theorem cks_4 : cks tyT 4 = [.bool] := rfl
theorem tk_5 : tk tyT 5 = some (.sc (.int .u8), 1) := rfl
theorem sz_5 : sz tyT 5 = 1 := rfl
theorem cks_5 : cks tyT 5 = [.int .u8] := rfl
theorem tk_21 : tk tyT 21 = some (.sc (.int .i32), 4) := rfl
theorem sz_21 : sz tyT 21 = 1 := rfl
theorem cks_21 : cks tyT 21 = [.int .i32] := rfl
theorem tk_22 : tk tyT 22 = some (.sc (.sl 2), 24) := rfl
theorem sz_22 : sz tyT 22 = 1 := rfl
theorem cks_22 : cks tyT 22 = [.sl 2] := rfl
theorem tk_23 : tk tyT 23 = some (.sc (.sl 22), 24) := rfl
theorem sz_23 : sz tyT 23 = 1 := rfl
theorem cks_23 : cks tyT 23 = [.sl 22] := rfl
theorem tk_25 : tk tyT 25 = some (.st [.sl 2, .sl 22] [(0, 22), (1, 23)], 48) := rfl
theorem sz_25 : sz tyT 25 = 2 := rfl
theorem cks_25 : cks tyT 25 = [.sl 2, .sl 22] := rfl
theorem tk_28 : tk tyT 28 = some (.st [.sl 2, .sl 22] [(0, 22), (1, 23)], 48) := rfl
theorem sz_28 : sz tyT 28 = 2 := rfl
theorem cks_28 : cks tyT 28 = [.sl 2, .sl 22] := rfl
theorem tk_43 : tk tyT 43 = some (.sc (.sl 105), 24) := rfl
theorem sz_43 : sz tyT 43 = 1 := rfl
theorem cks_43 : cks tyT 43 = [.sl 105] := rfl
theorem tk_47 : tk tyT 47 = some (.sc (.sl 95), 24) := rfl
theorem sz_47 : sz tyT 47 = 1 := rfl
theorem cks_47 : cks tyT 47 = [.sl 95] := rfl
theorem tk_53 : tk tyT 53 = some (.st [.sl 2, .sl 22] [(0, 22), (1, 23)], 48) := rfl
theorem sz_53 : sz tyT 53 = 2 := rfl
theorem cks_53 : cks tyT 53 = [.sl 2, .sl 22] := rfl
theorem tk_55 : tk tyT 55 = some (.st [.sl 2, .sl 22] [(0, 22), (1, 23)], 48) := rfl
theorem sz_55 : sz tyT 55 = 2 := rfl
theorem cks_55 : cks tyT 55 = [.sl 2, .sl 22] := rfl
theorem tk_57 : tk tyT 57 = some (.st [.sl 2, .sl 22, .sl 2] [(0, 55), (2, 22)], 72) := rfl
theorem sz_57 : sz tyT 57 = 3 := rfl
theorem cks_57 : cks tyT 57 = [.sl 2, .sl 22, .sl 2] := rfl
theorem tk_58 : tk tyT 58 = some (.sc (.sl 111), 24) := rfl
theorem sz_58 : sz tyT 58 = 1 := rfl
theorem cks_58 : cks tyT 58 = [.sl 111] := rfl
theorem tk_69 : tk tyT 69 = some (.sc (.sl 5), 24) := rfl
theorem sz_69 : sz tyT 69 = 1 := rfl
theorem cks_69 : cks tyT 69 = [.sl 5] := rfl
theorem tk_73 : tk tyT 73 = some (.sc (.int .u64), 8) := rfl
theorem sz_73 : sz tyT 73 = 1 := rfl
theorem cks_73 : cks tyT 73 = [.int .u64] := rfl
theorem tk_80 : tk tyT 80 = some (.st [.sl 2, .sl 2] [(0, 22), (1, 22)], 48) := rfl
theorem sz_80 : sz tyT 80 = 2 := rfl
theorem cks_80 : cks tyT 80 = [.sl 2, .sl 2] := rfl
theorem tk_95 : tk tyT 95 = some (.st [.sl 2, .sl 2] [(0, 22), (1, 22)], 48) := rfl
theorem sz_95 : sz tyT 95 = 2 := rfl
theorem cks_95 : cks tyT 95 = [.sl 2, .sl 2] := rfl
theorem tk_105 : tk tyT 105 = some (.st [.sl 2, .sl 2] [(0, 22), (1, 22)], 48) := rfl
theorem sz_105 : sz tyT 105 = 2 := rfl
theorem cks_105 : cks tyT 105 = [.sl 2, .sl 2] := rfl
theorem tk_111 : tk tyT 111 = some (.st [.int .i64, .sl 2] [(0, 2), (1, 22)], 32) := rfl
theorem sz_111 : sz tyT 111 = 2 := rfl
theorem cks_111 : cks tyT 111 = [.int .i64, .sl 2] := rfl
theorem tk_121 : tk tyT 121 = some (.sc (.sl 4), 24) := rfl
theorem sz_121 : sz tyT 121 = 1 := rfl
theorem cks_121 : cks tyT 121 = [.sl 4] := rfl
theorem tk_122 : tk tyT 122 = some (.sc (.int .u64), 8) := rfl
theorem sz_122 : sz tyT 122 = 1 := rfl
theorem cks_122 : cks tyT 122 = [.int .u64] := rfl
attribute [push_cast] tk_2 sz_2 cks_2 tk_3 sz_3 cks_3 tk_4 sz_4 cks_4 tk_5 sz_5 cks_5 tk_21 sz_21 cks_21 tk_22 sz_22 cks_22 tk_23 sz_23 cks_23 tk_25 sz_25 cks_25 tk_28 sz_28 cks_28 tk_43 sz_43 cks_43 tk_47 sz_47 cks_47 tk_53 sz_53 cks_53 tk_55 sz_55 cks_55 tk_57 sz_57 cks_57 tk_58 sz_58 cks_58 tk_69 sz_69 cks_69 tk_73 sz_73 cks_73 tk_80 sz_80 cks_80 tk_95 sz_95 cks_95 tk_105 sz_105 cks_105 tk_111 sz_111 cks_111 tk_121 sz_121 cks_121 tk_122 sz_122 cks_122
end Go.Proofs.Ytbieekheapeopaa
