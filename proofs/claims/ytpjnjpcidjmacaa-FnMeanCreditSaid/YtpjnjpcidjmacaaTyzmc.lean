/- The types of this seat's program. Printed by tygen.py. -/
import Derived.Test.YtpjnjpcidjmacaaGEzmc
import Derived.Test.YtpjnjpcidjmacaaRows
namespace Go.Proofs.Ytpjnjpcidjmacaa
def tyT : Ty := [(2, .sc (.int .i64), 8), (3, .sc (.int .i64), 8), (4, .sc .bool, 1), (5, .sc (.int .u8), 1), (21, .sc (.int .i32), 4), (22, .sc (.sl 5), 24), (26, .sc (.int .u64), 8), (27, .sc (.sl 2), 24), (28, .sc (.sl 27), 24), (30, .st [.sl 2, .sl 27] [(0, 27), (1, 28)], 48), (32, .st [.sl 2, .sl 27, .sl 27] [(0, 30), (2, 28)], 72), (41, .st [.int .i64, .int .i64] [(0, 2), (1, 2)], 16), (51, .st [.sl 2, .sl 2] [(0, 27), (1, 27)], 48), (54, .sc (.sl 41), 24), (63, .sc (.sl 71), 24), (71, .st [.sl 2, .sl 2] [(0, 27), (1, 27)], 48), (73, .st [.sl 5, .int .i64, .int .u64] [(0, 22), (1, 3), (2, 26)], 40), (82, .sc (.int .u64), 8), (96, .sc (.sl 4), 24), (105, .st [.sl 5, .int .i64, .int .i64] [(0, 22), (1, 3), (2, 2)], 40)]
theorem tyOk : TyOk Try.prog tyT := tyOk_of (by kernel_rfl)
theorem tyPos : TyPos tyT := tyPos_of (by kernel_rfl)
theorem tyMix : Try.prog.follows .mixedOrders = true := by kernel_rfl
theorem tk_2 : tk tyT 2 = some (.sc (.int .i64), 8) := rfl
theorem sz_2 : sz tyT 2 = 1 := rfl
theorem cks_2 : cks tyT 2 = [.int .i64] := rfl
theorem tk_3 : tk tyT 3 = some (.sc (.int .i64), 8) := rfl
theorem sz_3 : sz tyT 3 = 1 := rfl
theorem cks_3 : cks tyT 3 = [.int .i64] := rfl
theorem tk_4 : tk tyT 4 = some (.sc .bool, 1) := rfl
theorem sz_4 : sz tyT 4 = 1 := rfl
theorem cks_4 : cks tyT 4 = [.bool] := rfl
theorem tk_5 : tk tyT 5 = some (.sc (.int .u8), 1) := rfl
theorem sz_5 : sz tyT 5 = 1 := rfl
theorem cks_5 : cks tyT 5 = [.int .u8] := rfl
theorem tk_21 : tk tyT 21 = some (.sc (.int .i32), 4) := rfl
theorem sz_21 : sz tyT 21 = 1 := rfl
theorem cks_21 : cks tyT 21 = [.int .i32] := rfl
theorem tk_22 : tk tyT 22 = some (.sc (.sl 5), 24) := rfl
theorem sz_22 : sz tyT 22 = 1 := rfl
theorem cks_22 : cks tyT 22 = [.sl 5] := rfl
theorem tk_26 : tk tyT 26 = some (.sc (.int .u64), 8) := rfl
theorem sz_26 : sz tyT 26 = 1 := rfl
theorem cks_26 : cks tyT 26 = [.int .u64] := rfl
theorem tk_27 : tk tyT 27 = some (.sc (.sl 2), 24) := rfl
theorem sz_27 : sz tyT 27 = 1 := rfl
theorem cks_27 : cks tyT 27 = [.sl 2] := rfl
theorem tk_28 : tk tyT 28 = some (.sc (.sl 27), 24) := rfl
theorem sz_28 : sz tyT 28 = 1 := rfl
theorem cks_28 : cks tyT 28 = [.sl 27] := rfl
theorem tk_30 : tk tyT 30 = some (.st [.sl 2, .sl 27] [(0, 27), (1, 28)], 48) := rfl
theorem sz_30 : sz tyT 30 = 2 := rfl
theorem cks_30 : cks tyT 30 = [.sl 2, .sl 27] := rfl
theorem tk_32 : tk tyT 32 = some (.st [.sl 2, .sl 27, .sl 27] [(0, 30), (2, 28)], 72) := rfl
theorem sz_32 : sz tyT 32 = 3 := rfl
theorem cks_32 : cks tyT 32 = [.sl 2, .sl 27, .sl 27] := rfl
theorem tk_41 : tk tyT 41 = some (.st [.int .i64, .int .i64] [(0, 2), (1, 2)], 16) := rfl
theorem sz_41 : sz tyT 41 = 2 := rfl
theorem cks_41 : cks tyT 41 = [.int .i64, .int .i64] := rfl
theorem tk_51 : tk tyT 51 = some (.st [.sl 2, .sl 2] [(0, 27), (1, 27)], 48) := rfl
theorem sz_51 : sz tyT 51 = 2 := rfl
theorem cks_51 : cks tyT 51 = [.sl 2, .sl 2] := rfl
theorem tk_54 : tk tyT 54 = some (.sc (.sl 41), 24) := rfl
theorem sz_54 : sz tyT 54 = 1 := rfl
theorem cks_54 : cks tyT 54 = [.sl 41] := rfl
theorem tk_63 : tk tyT 63 = some (.sc (.sl 71), 24) := rfl
theorem sz_63 : sz tyT 63 = 1 := rfl
theorem cks_63 : cks tyT 63 = [.sl 71] := rfl
theorem tk_71 : tk tyT 71 = some (.st [.sl 2, .sl 2] [(0, 27), (1, 27)], 48) := rfl
theorem sz_71 : sz tyT 71 = 2 := rfl
theorem cks_71 : cks tyT 71 = [.sl 2, .sl 2] := rfl
theorem tk_73 : tk tyT 73 = some (.st [.sl 5, .int .i64, .int .u64] [(0, 22), (1, 3), (2, 26)], 40) := rfl
theorem sz_73 : sz tyT 73 = 3 := rfl
theorem cks_73 : cks tyT 73 = [.sl 5, .int .i64, .int .u64] := rfl
theorem tk_82 : tk tyT 82 = some (.sc (.int .u64), 8) := rfl
theorem sz_82 : sz tyT 82 = 1 := rfl
theorem cks_82 : cks tyT 82 = [.int .u64] := rfl
theorem tk_96 : tk tyT 96 = some (.sc (.sl 4), 24) := rfl
theorem sz_96 : sz tyT 96 = 1 := rfl
theorem cks_96 : cks tyT 96 = [.sl 4] := rfl
theorem tk_105 : tk tyT 105 = some (.st [.sl 5, .int .i64, .int .i64] [(0, 22), (1, 3), (2, 2)], 40) := rfl
theorem sz_105 : sz tyT 105 = 3 := rfl
theorem cks_105 : cks tyT 105 = [.sl 5, .int .i64, .int .i64] := rfl
attribute [push_cast] tk_2 sz_2 cks_2 tk_3 sz_3 cks_3 tk_4 sz_4 cks_4 tk_5 sz_5 cks_5 tk_21 sz_21 cks_21 tk_22 sz_22 cks_22 tk_26 sz_26 cks_26 tk_27 sz_27 cks_27 tk_28 sz_28 cks_28 tk_30 sz_30 cks_30 tk_32 sz_32 cks_32 tk_41 sz_41 cks_41 tk_51 sz_51 cks_51 tk_54 sz_54 cks_54 tk_63 sz_63 cks_63 tk_71 sz_71 cks_71 tk_73 sz_73 cks_73 tk_82 sz_82 cks_82 tk_96 sz_96 cks_96 tk_105 sz_105 cks_105
end Go.Proofs.Ytpjnjpcidjmacaa
