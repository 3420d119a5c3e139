/- The types of this seat's program. Printed by tygen.py. -/
import Derived.Test.YtfmkomllnojkjaaGE
import Derived.Test.YtfmkomllnojkjaaRows
namespace Go.Proofs.Ytfmkomllnojkjaa
def tyT : Ty := [(2, .sc (.int .i64), 8), (3, .sc (.int .i64), 8), (4, .sc .bool, 1), (5, .sc (.int .u8), 1), (21, .sc (.int .i32), 4), (22, .sc (.sl 2), 24), (23, .sc (.sl 22), 24), (25, .st [.sl 2, .sl 22] [(0, 22), (1, 23)], 48), (27, .st [.sl 2, .sl 22, .sl 22] [(0, 25), (2, 23)], 72), (30, .st [.sl 2, .sl 22] [(0, 22), (1, 23)], 48), (32, .st [.sl 2, .sl 22, .sl 22] [(0, 30), (2, 23)], 72), (41, .st [.sl 2, .sl 2] [(0, 22), (1, 22)], 48), (44, .st [.sl 2, .sl 2] [(0, 22), (1, 22)], 48), (54, .st [.int .i64, .int .i64] [(0, 2), (1, 2)], 16), (61, .st [.int .i64, .int .i64] [(0, 2), (1, 2)], 16), (65, .sc (.sl 54), 24)]
theorem tyOk : TyOk Try.prog tyT := tyOk_of (by kernel_rfl)
theorem tyPos : TyPos tyT := tyPos_of (by kernel_rfl)
theorem tyMix : Try.prog.follows .mixedOrders = true := by kernel_rfl
theorem tk_2 : tk tyT 2 = some (.sc (.int .i64), 8) := rfl
theorem sz_2 : sz tyT 2 = 1 := rfl
theorem cks_2 : cks tyT 2 = [.int .i64] := rfl
theorem tk_3 : tk tyT 3 = some (.sc (.int .i64), 8) := rfl
theorem sz_3 : sz tyT 3 = 1 := rfl
theorem cks_3 : cks tyT 3 = [.int .i64] := rfl
theorem tk_4 : tk tyT 4 = some (.sc .bool, 1) := rfl
theorem sz_4 : sz tyT 4 = 1 := rfl
theorem cks_4 : cks tyT 4 = [.bool] := rfl
theorem tk_5 : tk tyT 5 = some (.sc (.int .u8), 1) := rfl
theorem sz_5 : sz tyT 5 = 1 := rfl
theorem cks_5 : cks tyT 5 = [.int .u8] := rfl
theorem tk_21 : tk tyT 21 = some (.sc (.int .i32), 4) := rfl
theorem sz_21 : sz tyT 21 = 1 := rfl
theorem cks_21 : cks tyT 21 = [.int .i32] := rfl
theorem tk_22 : tk tyT 22 = some (.sc (.sl 2), 24) := rfl
theorem sz_22 : sz tyT 22 = 1 := rfl
theorem cks_22 : cks tyT 22 = [.sl 2] := rfl
theorem tk_23 : tk tyT 23 = some (.sc (.sl 22), 24) := rfl
theorem sz_23 : sz tyT 23 = 1 := rfl
theorem cks_23 : cks tyT 23 = [.sl 22] := rfl
theorem tk_25 : tk tyT 25 = some (.st [.sl 2, .sl 22] [(0, 22), (1, 23)], 48) := rfl
theorem sz_25 : sz tyT 25 = 2 := rfl
theorem cks_25 : cks tyT 25 = [.sl 2, .sl 22] := rfl
theorem tk_27 : tk tyT 27 = some (.st [.sl 2, .sl 22, .sl 22] [(0, 25), (2, 23)], 72) := rfl
theorem sz_27 : sz tyT 27 = 3 := rfl
theorem cks_27 : cks tyT 27 = [.sl 2, .sl 22, .sl 22] := rfl
theorem tk_30 : tk tyT 30 = some (.st [.sl 2, .sl 22] [(0, 22), (1, 23)], 48) := rfl
theorem sz_30 : sz tyT 30 = 2 := rfl
theorem cks_30 : cks tyT 30 = [.sl 2, .sl 22] := rfl
theorem tk_32 : tk tyT 32 = some (.st [.sl 2, .sl 22, .sl 22] [(0, 30), (2, 23)], 72) := rfl
theorem sz_32 : sz tyT 32 = 3 := rfl
theorem cks_32 : cks tyT 32 = [.sl 2, .sl 22, .sl 22] := rfl
theorem tk_41 : tk tyT 41 = some (.st [.sl 2, .sl 2] [(0, 22), (1, 22)], 48) := rfl
theorem sz_41 : sz tyT 41 = 2 := rfl
theorem cks_41 : cks tyT 41 = [.sl 2, .sl 2] := rfl
theorem tk_44 : tk tyT 44 = some (.st [.sl 2, .sl 2] [(0, 22), (1, 22)], 48) := rfl
theorem sz_44 : sz tyT 44 = 2 := rfl
theorem cks_44 : cks tyT 44 = [.sl 2, .sl 2] := rfl
theorem tk_54 : tk tyT 54 = some (.st [.int .i64, .int .i64] [(0, 2), (1, 2)], 16) := rfl
theorem sz_54 : sz tyT 54 = 2 := rfl
theorem cks_54 : cks tyT 54 = [.int .i64, .int .i64] := rfl
theorem tk_61 : tk tyT 61 = some (.st [.int .i64, .int .i64] [(0, 2), (1, 2)], 16) := rfl
theorem sz_61 : sz tyT 61 = 2 := rfl
theorem cks_61 : cks tyT 61 = [.int .i64, .int .i64] := rfl
theorem tk_65 : tk tyT 65 = some (.sc (.sl 54), 24) := rfl
theorem sz_65 : sz tyT 65 = 1 := rfl
theorem cks_65 : cks tyT 65 = [.sl 54] := rfl
attribute [push_cast] tk_2 sz_2 cks_2 tk_3 sz_3 cks_3 tk_4 sz_4 cks_4 tk_5 sz_5 cks_5 tk_21 sz_21 cks_21 tk_22 sz_22 cks_22 tk_23 sz_23 cks_23 tk_25 sz_25 cks_25 tk_27 sz_27 cks_27 tk_30 sz_30 cks_30 tk_32 sz_32 cks_32 tk_41 sz_41 cks_41 tk_44 sz_44 cks_44 tk_54 sz_54 cks_54 tk_61 sz_61 cks_61 tk_65 sz_65 cks_65
end Go.Proofs.Ytfmkomllnojkjaa
