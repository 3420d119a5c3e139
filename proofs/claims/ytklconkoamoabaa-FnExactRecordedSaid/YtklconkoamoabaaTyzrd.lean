/- The types of this seat's program. Printed by tygen.py. -/
import Derived.Test.YtklconkoamoabaaGEzrd
import Derived.Test.YtklconkoamoabaaRows
namespace Go.Proofs.Ytklconkoamoabaa
def tyT : Ty := [(2, .sc (.int .i64), 8), (3, .sc (.int .i64), 8), (4, .sc .bool, 1), (5, .sc (.int .u8), 1), (21, .sc (.int .i32), 4), (22, .sc (.sl 2), 24), (23, .sc (.sl 22), 24), (25, .st [.sl 2, .sl 22] [(0, 22), (1, 23)], 48), (27, .st [.sl 22, .sl 22] [(0, 23), (1, 23)], 48), (30, .sc (.sl 78), 24), (32, .st [.sl 2, .sl 22] [(0, 22), (1, 23)], 48), (34, .st [.sl 22, .sl 22] [(0, 23), (1, 23)], 48), (45, .st [.sl 2, .sl 22] [(0, 22), (1, 23)], 48), (48, .st [.sl 2, .sl 22, .sl 2] [(0, 32), (2, 22)], 72), (51, .st [.sl 2, .sl 22] [(0, 22), (1, 23)], 48), (58, .sc (.sl 95), 24), (61, .sc (.sl 99), 24), (78, .st [.int .i64, .sl 2] [(0, 2), (1, 22)], 32), (95, .st [.sl 2, .sl 2] [(0, 22), (1, 22)], 48), (99, .st [.sl 2, .sl 2] [(0, 22), (1, 22)], 48), (115, .sc (.sl 4), 24), (118, .st [.sl 2, .sl 2, .sl 22, .sl 22, .sl 2] [(0, 22), (1, 22), (2, 23), (3, 23), (4, 22)], 120), (133, .sc (.int .u64), 8), (140, .st [.sl 2, .sl 22, .sl 2, .sl 22] [(0, 48), (3, 23)], 96), (159, .sc (.int .u64), 8), (172, .sc (.sl 3), 24)]
theorem tyOk : TyOk Try.prog tyT := tyOk_of (by kernel_rfl)
theorem tyPos : TyPos tyT := tyPos_of (by kernel_rfl)
theorem tyMix : Try.prog.follows .mixedOrders = true := by kernel_rfl
theorem tk_2 : tk tyT 2 = some (.sc (.int .i64), 8) := rfl
theorem sz_2 : sz tyT 2 = 1 := rfl
theorem cks_2 : cks tyT 2 = [.int .i64] := rfl
theorem tk_3 : tk tyT 3 = some (.sc (.int .i64), 8) := rfl
theorem sz_3 : sz tyT 3 = 1 := rfl
theorem cks_3 : cks tyT 3 = [.int .i64] := rfl
theorem tk_4 : tk tyT 4 = some (.sc .bool, 1) := rfl
theorem sz_4 : sz tyT 4 = 1 := rfl
theorem cks_4 : cks tyT 4 = [.bool] := rfl
theorem tk_5 : tk tyT 5 = some (.sc (.int .u8), 1) := rfl
theorem sz_5 : sz tyT 5 = 1 := rfl
theorem cks_5 : cks tyT 5 = [.int .u8] := rfl
theorem tk_21 : tk tyT 21 = some (.sc (.int .i32), 4) := rfl
theorem sz_21 : sz tyT 21 = 1 := rfl
theorem cks_21 : cks tyT 21 = [.int .i32] := rfl
theorem tk_22 : tk tyT 22 = some (.sc (.sl 2), 24) := rfl
theorem sz_22 : sz tyT 22 = 1 := rfl
theorem cks_22 : cks tyT 22 = [.sl 2] := rfl
theorem tk_23 : tk tyT 23 = some (.sc (.sl 22), 24) := rfl
theorem sz_23 : sz tyT 23 = 1 := rfl
theorem cks_23 : cks tyT 23 = [.sl 22] := rfl
theorem tk_25 : tk tyT 25 = some (.st [.sl 2, .sl 22] [(0, 22), (1, 23)], 48) := rfl
theorem sz_25 : sz tyT 25 = 2 := rfl
theorem cks_25 : cks tyT 25 = [.sl 2, .sl 22] := rfl
theorem tk_27 : tk tyT 27 = some (.st [.sl 22, .sl 22] [(0, 23), (1, 23)], 48) := rfl
theorem sz_27 : sz tyT 27 = 2 := rfl
theorem cks_27 : cks tyT 27 = [.sl 22, .sl 22] := rfl
theorem tk_30 : tk tyT 30 = some (.sc (.sl 78), 24) := rfl
theorem sz_30 : sz tyT 30 = 1 := rfl
theorem cks_30 : cks tyT 30 = [.sl 78] := rfl
theorem tk_32 : tk tyT 32 = some (.st [.sl 2, .sl 22] [(0, 22), (1, 23)], 48) := rfl
theorem sz_32 : sz tyT 32 = 2 := rfl
theorem cks_32 : cks tyT 32 = [.sl 2, .sl 22] := rfl
theorem tk_34 : tk tyT 34 = some (.st [.sl 22, .sl 22] [(0, 23), (1, 23)], 48) := rfl
theorem sz_34 : sz tyT 34 = 2 := rfl
theorem cks_34 : cks tyT 34 = [.sl 22, .sl 22] := rfl
theorem tk_45 : tk tyT 45 = some (.st [.sl 2, .sl 22] [(0, 22), (1, 23)], 48) := rfl
theorem sz_45 : sz tyT 45 = 2 := rfl
theorem cks_45 : cks tyT 45 = [.sl 2, .sl 22] := rfl
theorem tk_48 : tk tyT 48 = some (.st [.sl 2, .sl 22, .sl 2] [(0, 32), (2, 22)], 72) := rfl
theorem sz_48 : sz tyT 48 = 3 := rfl
theorem cks_48 : cks tyT 48 = [.sl 2, .sl 22, .sl 2] := rfl
theorem tk_51 : tk tyT 51 = some (.st [.sl 2, .sl 22] [(0, 22), (1, 23)], 48) := rfl
theorem sz_51 : sz tyT 51 = 2 := rfl
theorem cks_51 : cks tyT 51 = [.sl 2, .sl 22] := rfl
theorem tk_58 : tk tyT 58 = some (.sc (.sl 95), 24) := rfl
theorem sz_58 : sz tyT 58 = 1 := rfl
theorem cks_58 : cks tyT 58 = [.sl 95] := rfl
theorem tk_61 : tk tyT 61 = some (.sc (.sl 99), 24) := rfl
theorem sz_61 : sz tyT 61 = 1 := rfl
theorem cks_61 : cks tyT 61 = [.sl 99] := rfl
theorem tk_78 : tk tyT 78 = some (.st [.int .i64, .sl 2] [(0, 2), (1, 22)], 32) := rfl
theorem sz_78 : sz tyT 78 = 2 := rfl
theorem cks_78 : cks tyT 78 = [.int .i64, .sl 2] := rfl
theorem tk_95 : tk tyT 95 = some (.st [.sl 2, .sl 2] [(0, 22), (1, 22)], 48) := rfl
theorem sz_95 : sz tyT 95 = 2 := rfl
theorem cks_95 : cks tyT 95 = [.sl 2, .sl 2] := rfl
theorem tk_99 : tk tyT 99 = some (.st [.sl 2, .sl 2] [(0, 22), (1, 22)], 48) := rfl
theorem sz_99 : sz tyT 99 = 2 := rfl
theorem cks_99 : cks tyT 99 = [.sl 2, .sl 2] := rfl
theorem tk_115 : tk tyT 115 = some (.sc (.sl 4), 24) := rfl
theorem sz_115 : sz tyT 115 = 1 := rfl
theorem cks_115 : cks tyT 115 = [.sl 4] := rfl
theorem tk_118 : tk tyT 118 = some (.st [.sl 2, .sl 2, .sl 22, .sl 22, .sl 2] [(0, 22), (1, 22), (2, 23), (3, 23), (4, 22)], 120) := rfl
theorem sz_118 : sz tyT 118 = 5 := rfl
theorem cks_118 : cks tyT 118 = [.sl 2, .sl 2, .sl 22, .sl 22, .sl 2] := rfl
theorem tk_133 : tk tyT 133 = some (.sc (.int .u64), 8) := rfl
theorem sz_133 : sz tyT 133 = 1 := rfl
theorem cks_133 : cks tyT 133 = [.int .u64] := rfl
theorem tk_140 : tk tyT 140 = some (.st [.sl 2, .sl 22, .sl 2, .sl 22] [(0, 48), (3, 23)], 96) := rfl
theorem sz_140 : sz tyT 140 = 4 := rfl
theorem cks_140 : cks tyT 140 = [.sl 2, .sl 22, .sl 2, .sl 22] := rfl
theorem tk_159 : tk tyT 159 = some (.sc (.int .u64), 8) := rfl
theorem sz_159 : sz tyT 159 = 1 := rfl
theorem cks_159 : cks tyT 159 = [.int .u64] := rfl
theorem tk_172 : tk tyT 172 = some (.sc (.sl 3), 24) := rfl
theorem sz_172 : sz tyT 172 = 1 := rfl
theorem cks_172 : cks tyT 172 = [.sl 3] := rfl
attribute [push_cast] tk_2 sz_2 cks_2 tk_3 sz_3 cks_3 tk_4 sz_4 cks_4 tk_5 sz_5 cks_5 tk_21 sz_21 cks_21 tk_22 sz_22 cks_22 tk_23 sz_23 cks_23 tk_25 sz_25 cks_25 tk_27 sz_27 cks_27 tk_30 sz_30 cks_30 tk_32 sz_32 cks_32 tk_34 sz_34 cks_34 tk_45 sz_45 cks_45 tk_48 sz_48 cks_48 tk_51 sz_51 cks_51 tk_58 sz_58 cks_58 tk_61 sz_61 cks_61 tk_78 sz_78 cks_78 tk_95 sz_95 cks_95 tk_99 sz_99 cks_99 tk_115 sz_115 cks_115 tk_118 sz_118 cks_118 tk_133 sz_133 cks_133 tk_140 sz_140 cks_140 tk_159 sz_159 cks_159 tk_172 sz_172 cks_172
end Go.Proofs.Ytklconkoamoabaa
