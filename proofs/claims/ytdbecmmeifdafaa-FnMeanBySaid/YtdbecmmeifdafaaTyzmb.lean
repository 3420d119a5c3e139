/- The types of this seat's program. Printed by tygen.py. -/
import Derived.Test.YtdbecmmeifdafaaGEzmb
import Derived.Test.YtdbecmmeifdafaaRows
namespace Go.Proofs.Ytdbecmmeifdafaa
def tyT : Ty := [(2, .sc (.int .i64), 8), (3, .sc (.int .i64), 8), (4, .sc .bool, 1), (5, .sc (.int .u8), 1), (21, .sc (.int .i32), 4), (22, .sc (.sl 5), 24), (26, .sc (.int .u64), 8), (27, .sc (.sl 2), 24), (28, .sc (.sl 27), 24), (30, .st [.sl 2, .sl 27] [(0, 27), (1, 28)], 48), (32, .st [.sl 2, .sl 27, .sl 27] [(0, 30), (2, 28)], 72), (43, .st [.sl 2, .sl 2] [(0, 27), (1, 27)], 48), (46, .sc (.sl 50), 24), (50, .st [.int .i64, .int .i64] [(0, 2), (1, 2)], 16), (58, .sc (.sl 66), 24), (66, .st [.sl 2, .sl 2] [(0, 27), (1, 27)], 48), (69, .st [.sl 2, .sl 27, .sl 2] [(0, 30), (2, 27)], 72), (74, .st [.sl 2, .sl 2] [(0, 27), (1, 27)], 48), (79, .st [.sl 5, .int .i64, .int .u64] [(0, 22), (1, 3), (2, 26)], 40), (100, .sc (.sl 4), 24), (101, .sc (.int .u64), 8), (118, .st [.sl 5, .int .i64, .int .i64] [(0, 22), (1, 3), (2, 2)], 40)]
theorem tyOk : TyOk Try.prog tyT := tyOk_of (by kernel_rfl)
theorem tyPos : TyPos tyT := tyPos_of (by kernel_rfl)
theorem tyMix : Try.prog.follows .mixedOrders = true := by kernel_rfl
theorem tk_2 : tk tyT 2 = some (.sc (.int .i64), 8) := rfl
theorem sz_2 : sz tyT 2 = 1 := rfl
theorem cks_2 : cks tyT 2 = [.int .i64] := rfl
theorem tk_3 : tk tyT 3 = some (.sc (.int .i64), 8) := rfl
theorem sz_3 : sz tyT 3 = 1 := rfl
theorem cks_3 : cks tyT 3 = [.int .i64] := rfl
theorem tk_4 : tk tyT 4 = some (.sc .bool, 1) := rfl
theorem sz_4 : sz tyT 4 = 1 := rfl
theorem cks_4 : cks tyT 4 = [.bool] := rfl
theorem tk_5 : tk tyT 5 = some (.sc (.int .u8), 1) := rfl
theorem sz_5 : sz tyT 5 = 1 := rfl
theorem cks_5 : cks tyT 5 = [.int .u8] := rfl
theorem tk_21 : tk tyT 21 = some (.sc (.int .i32), 4) := rfl
theorem sz_21 : sz tyT 21 = 1 := rfl
theorem cks_21 : cks tyT 21 = [.int .i32] := rfl
theorem tk_22 : tk tyT 22 = some (.sc (.sl 5), 24) := rfl
theorem sz_22 : sz tyT 22 = 1 := rfl
theorem cks_22 : cks tyT 22 = [.sl 5] := rfl
theorem tk_26 : tk tyT 26 = some (.sc (.int .u64), 8) := rfl
theorem sz_26 : sz tyT 26 = 1 := rfl
theorem cks_26 : cks tyT 26 = [.int .u64] := rfl
theorem tk_27 : tk tyT 27 = some (.sc (.sl 2), 24) := rfl
theorem sz_27 : sz tyT 27 = 1 := rfl
theorem cks_27 : cks tyT 27 = [.sl 2] := rfl
theorem tk_28 : tk tyT 28 = some (.sc (.sl 27), 24) := rfl
theorem sz_28 : sz tyT 28 = 1 := rfl
theorem cks_28 : cks tyT 28 = [.sl 27] := rfl
theorem tk_30 : tk tyT 30 = some (.st [.sl 2, .sl 27] [(0, 27), (1, 28)], 48) := rfl
theorem sz_30 : sz tyT 30 = 2 := rfl
theorem cks_30 : cks tyT 30 = [.sl 2, .sl 27] := rfl
theorem tk_32 : tk tyT 32 = some (.st [.sl 2, .sl 27, .sl 27] [(0, 30), (2, 28)], 72) := rfl
theorem sz_32 : sz tyT 32 = 3 := rfl
theorem cks_32 : cks tyT 32 = [.sl 2, .sl 27, .sl 27] := rfl
theorem tk_43 : tk tyT 43 = some (.st [.sl 2, .sl 2] [(0, 27), (1, 27)], 48) := rfl
theorem sz_43 : sz tyT 43 = 2 := rfl
theorem cks_43 : cks tyT 43 = [.sl 2, .sl 2] := rfl
theorem tk_46 : tk tyT 46 = some (.sc (.sl 50), 24) := rfl
theorem sz_46 : sz tyT 46 = 1 := rfl
theorem cks_46 : cks tyT 46 = [.sl 50] := rfl
theorem tk_50 : tk tyT 50 = some (.st [.int .i64, .int .i64] [(0, 2), (1, 2)], 16) := rfl
theorem sz_50 : sz tyT 50 = 2 := rfl
theorem cks_50 : cks tyT 50 = [.int .i64, .int .i64] := rfl
theorem tk_58 : tk tyT 58 = some (.sc (.sl 66), 24) := rfl
theorem sz_58 : sz tyT 58 = 1 := rfl
theorem cks_58 : cks tyT 58 = [.sl 66] := rfl
theorem tk_66 : tk tyT 66 = some (.st [.sl 2, .sl 2] [(0, 27), (1, 27)], 48) := rfl
theorem sz_66 : sz tyT 66 = 2 := rfl
theorem cks_66 : cks tyT 66 = [.sl 2, .sl 2] := rfl
theorem tk_69 : tk tyT 69 = some (.st [.sl 2, .sl 27, .sl 2] [(0, 30), (2, 27)], 72) := rfl
theorem sz_69 : sz tyT 69 = 3 := rfl
theorem cks_69 : cks tyT 69 = [.sl 2, .sl 27, .sl 2] := rfl
theorem tk_74 : tk tyT 74 = some (.st [.sl 2, .sl 2] [(0, 27), (1, 27)], 48) := rfl
theorem sz_74 : sz tyT 74 = 2 := rfl
theorem cks_74 : cks tyT 74 = [.sl 2, .sl 2] := rfl
theorem tk_79 : tk tyT 79 = some (.st [.sl 5, .int .i64, .int .u64] [(0, 22), (1, 3), (2, 26)], 40) := rfl
theorem sz_79 : sz tyT 79 = 3 := rfl
theorem cks_79 : cks tyT 79 = [.sl 5, .int .i64, .int .u64] := rfl
theorem tk_100 : tk tyT 100 = some (.sc (.sl 4), 24) := rfl
theorem sz_100 : sz tyT 100 = 1 := rfl
theorem cks_100 : cks tyT 100 = [.sl 4] := rfl
theorem tk_101 : tk tyT 101 = some (.sc (.int .u64), 8) := rfl
theorem sz_101 : sz tyT 101 = 1 := rfl
theorem cks_101 : cks tyT 101 = [.int .u64] := rfl
theorem tk_118 : tk tyT 118 = some (.st [.sl 5, .int .i64, .int .i64] [(0, 22), (1, 3), (2, 2)], 40) := rfl
theorem sz_118 : sz tyT 118 = 3 := rfl
theorem cks_118 : cks tyT 118 = [.sl 5, .int .i64, .int .i64] := rfl
attribute [push_cast] tk_2 sz_2 cks_2 tk_3 sz_3 cks_3 tk_4 sz_4 cks_4 tk_5 sz_5 cks_5 tk_21 sz_21 cks_21 tk_22 sz_22 cks_22 tk_26 sz_26 cks_26 tk_27 sz_27 cks_27 tk_28 sz_28 cks_28 tk_30 sz_30 cks_30 tk_32 sz_32 cks_32 tk_43 sz_43 cks_43 tk_46 sz_46 cks_46 tk_50 sz_50 cks_50 tk_58 sz_58 cks_58 tk_66 sz_66 cks_66 tk_69 sz_69 cks_69 tk_74 sz_74 cks_74 tk_79 sz_79 cks_79 tk_100 sz_100 cks_100 tk_101 sz_101 cks_101 tk_118 sz_118 cks_118
end Go.Proofs.Ytdbecmmeifdafaa
