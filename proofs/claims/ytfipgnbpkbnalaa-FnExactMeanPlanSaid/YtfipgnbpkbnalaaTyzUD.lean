/- The types of this seat's program. Printed by tygen.py. -/
import Derived.Test.YtfipgnbpkbnalaaGEzUD
import Derived.Test.YtfipgnbpkbnalaaRows
namespace Go.Proofs.Ytfipgnbpkbnalaa
def tyT : Ty := [(2, .sc (.int .i64), 8), (3, .sc (.int .i64), 8), (4, .sc .bool, 1), (5, .sc (.int .u8), 1), (21, .sc (.int .i32), 4), (22, .sc (.sl 2), 24), (23, .sc (.sl 22), 24), (25, .st [.sl 2, .sl 22] [(0, 22), (1, 23)], 48), (27, .st [.sl 2, .sl 22, .sl 22] [(0, 25), (2, 23)], 72), (29, .sc (.sl 43), 24), (31, .st [.sl 2, .sl 22] [(0, 22), (1, 23)], 48), (33, .st [.sl 2, .sl 22, .sl 22] [(0, 31), (2, 23)], 72), (41, .st [.int .i64, .int .i64] [(0, 2), (1, 2)], 16), (43, .st [.int .i64, .int .i64] [(0, 2), (1, 2)], 16), (55, .st [.sl 2, .sl 22, .sl 2] [(0, 25), (2, 22)], 72), (59, .st [.sl 2, .sl 22, .sl 2] [(0, 31), (2, 22)], 72)]
theorem tyOk : TyOk Try.prog tyT := tyOk_of (by kernel_rfl)
theorem tyPos : TyPos tyT := tyPos_of (by kernel_rfl)
theorem tyMix : Try.prog.follows .mixedOrders = true := by kernel_rfl
theorem tk_2 : tk tyT 2 = some (.sc (.int .i64), 8) := rfl
theorem sz_2 : sz tyT 2 = 1 := rfl
theorem cks_2 : cks tyT 2 = [.int .i64] := rfl
theorem tk_3 : tk tyT 3 = some (.sc (.int .i64), 8) := rfl
theorem sz_3 : sz tyT 3 = 1 := rfl
theorem cks_3 : cks tyT 3 = [.int .i64] := rfl
theorem tk_4 : tk tyT 4 = some (.sc .bool, 1) := rfl
theorem sz_4 : sz tyT 4 = 1 := rfl
theorem cks_4 : cks tyT 4 = [.bool] := rfl
theorem tk_5 : tk tyT 5 = some (.sc (.int .u8), 1) := rfl
theorem sz_5 : sz tyT 5 = 1 := rfl
theorem cks_5 : cks tyT 5 = [.int .u8] := rfl
theorem tk_21 : tk tyT 21 = some (.sc (.int .i32), 4) := rfl
theorem sz_21 : sz tyT 21 = 1 := rfl
theorem cks_21 : cks tyT 21 = [.int .i32] := rfl
theorem tk_22 : tk tyT 22 = some (.sc (.sl 2), 24) := rfl
theorem sz_22 : sz tyT 22 = 1 := rfl
theorem cks_22 : cks tyT 22 = [.sl 2] := rfl
theorem tk_23 : tk tyT 23 = some (.sc (.sl 22), 24) := rfl
theorem sz_23 : sz tyT 23 = 1 := rfl
theorem cks_23 : cks tyT 23 = [.sl 22] := rfl
theorem tk_25 : tk tyT 25 = some (.st [.sl 2, .sl 22] [(0, 22), (1, 23)], 48) := rfl
theorem sz_25 : sz tyT 25 = 2 := rfl
theorem cks_25 : cks tyT 25 = [.sl 2, .sl 22] := rfl
theorem tk_27 : tk tyT 27 = some (.st [.sl 2, .sl 22, .sl 22] [(0, 25), (2, 23)], 72) := rfl
theorem sz_27 : sz tyT 27 = 3 := rfl
theorem cks_27 : cks tyT 27 = [.sl 2, .sl 22, .sl 22] := rfl
theorem tk_29 : tk tyT 29 = some (.sc (.sl 43), 24) := rfl
theorem sz_29 : sz tyT 29 = 1 := rfl
theorem cks_29 : cks tyT 29 = [.sl 43] := rfl
theorem tk_31 : tk tyT 31 = some (.st [.sl 2, .sl 22] [(0, 22), (1, 23)], 48) := rfl
theorem sz_31 : sz tyT 31 = 2 := rfl
theorem cks_31 : cks tyT 31 = [.sl 2, .sl 22] := rfl
theorem tk_33 : tk tyT 33 = some (.st [.sl 2, .sl 22, .sl 22] [(0, 31), (2, 23)], 72) := rfl
theorem sz_33 : sz tyT 33 = 3 := rfl
theorem cks_33 : cks tyT 33 = [.sl 2, .sl 22, .sl 22] := rfl
theorem tk_41 : tk tyT 41 = some (.st [.int .i64, .int .i64] [(0, 2), (1, 2)], 16) := rfl
theorem sz_41 : sz tyT 41 = 2 := rfl
theorem cks_41 : cks tyT 41 = [.int .i64, .int .i64] := rfl
theorem tk_43 : tk tyT 43 = some (.st [.int .i64, .int .i64] [(0, 2), (1, 2)], 16) := rfl
theorem sz_43 : sz tyT 43 = 2 := rfl
theorem cks_43 : cks tyT 43 = [.int .i64, .int .i64] := rfl
theorem tk_55 : tk tyT 55 = some (.st [.sl 2, .sl 22, .sl 2] [(0, 25), (2, 22)], 72) := rfl
theorem sz_55 : sz tyT 55 = 3 := rfl
theorem cks_55 : cks tyT 55 = [.sl 2, .sl 22, .sl 2] := rfl
theorem tk_59 : tk tyT 59 = some (.st [.sl 2, .sl 22, .sl 2] [(0, 31), (2, 22)], 72) := rfl
theorem sz_59 : sz tyT 59 = 3 := rfl
theorem cks_59 : cks tyT 59 = [.sl 2, .sl 22, .sl 2] := rfl
attribute [push_cast] tk_2 sz_2 cks_2 tk_3 sz_3 cks_3 tk_4 sz_4 cks_4 tk_5 sz_5 cks_5 tk_21 sz_21 cks_21 tk_22 sz_22 cks_22 tk_23 sz_23 cks_23 tk_25 sz_25 cks_25 tk_27 sz_27 cks_27 tk_29 sz_29 cks_29 tk_31 sz_31 cks_31 tk_33 sz_33 cks_33 tk_41 sz_41 cks_41 tk_43 sz_43 cks_43 tk_55 sz_55 cks_55 tk_59 sz_59 cks_59
end Go.Proofs.Ytfipgnbpkbnalaa
