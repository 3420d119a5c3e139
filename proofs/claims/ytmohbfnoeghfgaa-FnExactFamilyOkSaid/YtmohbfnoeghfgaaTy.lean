/- The types of this seat's program. Printed by tygen.py. -/
import Derived.Test.YtmohbfnoeghfgaaGE
import Derived.Test.YtmohbfnoeghfgaaRows
namespace Go.Proofs.Ytmohbfnoeghfgaa
def tyT : Ty := [(2, .sc (.int .i64), 8), (3, .sc (.int .i64), 8), (4, .sc .bool, 1), (5, .sc (.int .u8), 1), (21, .sc (.int .i32), 4), (22, .sc (.sl 2), 24), (23, .sc (.sl 22), 24), (25, .st [.sl 2, .sl 22] [(0, 22), (1, 23)], 48), (28, .st [.sl 2, .sl 22] [(0, 22), (1, 23)], 48), (43, .sc (.sl 82), 24), (47, .sc (.sl 84), 24), (53, .st [.sl 2, .sl 22] [(0, 22), (1, 23)], 48), (55, .st [.sl 2, .sl 22] [(0, 22), (1, 23)], 48), (57, .st [.sl 2, .sl 22, .sl 2] [(0, 55), (2, 22)], 72), (58, .sc (.sl 90), 24), (82, .st [.sl 2, .sl 2] [(0, 22), (1, 22)], 48), (84, .st [.sl 2, .sl 2] [(0, 22), (1, 22)], 48), (90, .st [.int .i64, .sl 2] [(0, 2), (1, 22)], 32), (102, .sc (.int .u64), 8), (125, .sc (.int .u64), 8)]
theorem tyOk : TyOk Try.prog tyT := tyOk_of (by kernel_rfl)
theorem tyPos : TyPos tyT := tyPos_of (by kernel_rfl)
theorem tyMix : Try.prog.follows .mixedOrders = true := by kernel_rfl
theorem tk_2 : tk tyT 2 = some (.sc (.int .i64), 8) := rfl
theorem sz_2 : sz tyT 2 = 1 := rfl
theorem cks_2 : cks tyT 2 = [.int .i64] := rfl
theorem tk_3 : tk tyT 3 = some (.sc (.int .i64), 8) := rfl
theorem sz_3 : sz tyT 3 = 1 := rfl
theorem cks_3 : cks tyT 3 = [.int .i64] := rfl
theorem tk_4 : tk tyT 4 = some (.sc .bool, 1) := rfl
theorem sz_4 : sz tyT 4 = 1 := rfl
theorem cks_4 : cks tyT 4 = [.bool] := rfl
theorem tk_5 : tk tyT 5 = some (.sc (.int .u8), 1) := rfl
theorem sz_5 : sz tyT 5 = 1 := rfl
theorem cks_5 : cks tyT 5 = [.int .u8] := rfl
theorem tk_21 : tk tyT 21 = some (.sc (.int .i32), 4) := rfl
theorem sz_21 : sz tyT 21 = 1 := rfl
theorem cks_21 : cks tyT 21 = [.int .i32] := rfl
theorem tk_22 : tk tyT 22 = some (.sc (.sl 2), 24) := rfl
theorem sz_22 : sz tyT 22 = 1 := rfl
theorem cks_22 : cks tyT 22 = [.sl 2] := rfl
theorem tk_23 : tk tyT 23 = some (.sc (.sl 22), 24) := rfl
theorem sz_23 : sz tyT 23 = 1 := rfl
theorem cks_23 : cks tyT 23 = [.sl 22] := rfl
theorem tk_25 : tk tyT 25 = some (.st [.sl 2, .sl 22] [(0, 22), (1, 23)], 48) := rfl
theorem sz_25 : sz tyT 25 = 2 := rfl
theorem cks_25 : cks tyT 25 = [.sl 2, .sl 22] := rfl
theorem tk_28 : tk tyT 28 = some (.st [.sl 2, .sl 22] [(0, 22), (1, 23)], 48) := rfl
theorem sz_28 : sz tyT 28 = 2 := rfl
theorem cks_28 : cks tyT 28 = [.sl 2, .sl 22] := rfl
theorem tk_43 : tk tyT 43 = some (.sc (.sl 82), 24) := rfl
theorem sz_43 : sz tyT 43 = 1 := rfl
theorem cks_43 : cks tyT 43 = [.sl 82] := rfl
theorem tk_47 : tk tyT 47 = some (.sc (.sl 84), 24) := rfl
theorem sz_47 : sz tyT 47 = 1 := rfl
theorem cks_47 : cks tyT 47 = [.sl 84] := rfl
theorem tk_53 : tk tyT 53 = some (.st [.sl 2, .sl 22] [(0, 22), (1, 23)], 48) := rfl
theorem sz_53 : sz tyT 53 = 2 := rfl
theorem cks_53 : cks tyT 53 = [.sl 2, .sl 22] := rfl
theorem tk_55 : tk tyT 55 = some (.st [.sl 2, .sl 22] [(0, 22), (1, 23)], 48) := rfl
theorem sz_55 : sz tyT 55 = 2 := rfl
theorem cks_55 : cks tyT 55 = [.sl 2, .sl 22] := rfl
theorem tk_57 : tk tyT 57 = some (.st [.sl 2, .sl 22, .sl 2] [(0, 55), (2, 22)], 72) := rfl
theorem sz_57 : sz tyT 57 = 3 := rfl
theorem cks_57 : cks tyT 57 = [.sl 2, .sl 22, .sl 2] := rfl
theorem tk_58 : tk tyT 58 = some (.sc (.sl 90), 24) := rfl
theorem sz_58 : sz tyT 58 = 1 := rfl
theorem cks_58 : cks tyT 58 = [.sl 90] := rfl
theorem tk_82 : tk tyT 82 = some (.st [.sl 2, .sl 2] [(0, 22), (1, 22)], 48) := rfl
theorem sz_82 : sz tyT 82 = 2 := rfl
theorem cks_82 : cks tyT 82 = [.sl 2, .sl 2] := rfl
theorem tk_84 : tk tyT 84 = some (.st [.sl 2, .sl 2] [(0, 22), (1, 22)], 48) := rfl
theorem sz_84 : sz tyT 84 = 2 := rfl
theorem cks_84 : cks tyT 84 = [.sl 2, .sl 2] := rfl
theorem tk_90 : tk tyT 90 = some (.st [.int .i64, .sl 2] [(0, 2), (1, 22)], 32) := rfl
theorem sz_90 : sz tyT 90 = 2 := rfl
theorem cks_90 : cks tyT 90 = [.int .i64, .sl 2] := rfl
theorem tk_102 : tk tyT 102 = some (.sc (.int .u64), 8) := rfl
theorem sz_102 : sz tyT 102 = 1 := rfl
theorem cks_102 : cks tyT 102 = [.int .u64] := rfl
theorem tk_125 : tk tyT 125 = some (.sc (.int .u64), 8) := rfl
theorem sz_125 : sz tyT 125 = 1 := rfl
theorem cks_125 : cks tyT 125 = [.int .u64] := rfl
attribute [push_cast] tk_2 sz_2 cks_2 tk_3 sz_3 cks_3 tk_4 sz_4 cks_4 tk_5 sz_5 cks_5 tk_21 sz_21 cks_21 tk_22 sz_22 cks_22 tk_23 sz_23 cks_23 tk_25 sz_25 cks_25 tk_28 sz_28 cks_28 tk_43 sz_43 cks_43 tk_47 sz_47 cks_47 tk_53 sz_53 cks_53 tk_55 sz_55 cks_55 tk_57 sz_57 cks_57 tk_58 sz_58 cks_58 tk_82 sz_82 cks_82 tk_84 sz_84 cks_84 tk_90 sz_90 cks_90 tk_102 sz_102 cks_102 tk_125 sz_125 cks_125
end Go.Proofs.Ytmohbfnoeghfgaa
