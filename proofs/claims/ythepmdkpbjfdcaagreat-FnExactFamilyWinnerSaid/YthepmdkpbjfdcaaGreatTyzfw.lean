/- The types of this seat's program. Printed by tygen.py. -/
import Derived.Test.YthepmdkpbjfdcaaGreatGEzfw
import Derived.Test.YthepmdkpbjfdcaaGreatRows
namespace Go.Proofs.YthepmdkpbjfdcaaGreat
def tyT :Ty:= [(2, .sc (.int .i64),8),(3, .sc (.int .i64),8),(4, .sc .bool,1),(5, .sc (.int .u8),1),(21, .sc (.int .i32),4),(22, .sc (.sl 2),24),(23, .sc (.sl 22),24),(25, .st [.sl 2, .sl 22] [(0,22),(1,23)],48),(27, .st [.sl 2, .sl 22] [(0,22),(1,23)],48),(31, .st [.sl 2, .sl 22] [(0,22),(1,23)],48),(33, .st [.sl 2, .sl 22] [(0,22),(1,23)],48),(38, .sc (.sl 5),24),(42, .sc (.int .u64),8),(44, .sc (.sl 93),24),(56, .sc (.sl 106),24),(59, .st [.sl 22, .sl 22] [(0,23),(1,23)],48),(72, .st [.sl 2, .sl 2] [(0,22),(1,22)],48),(80, .st [.sl 2, .sl 22, .sl 2] [(0,31),(2,22)],72),(81, .sc (.sl 112),24),(90, .st [.sl 5, .int .i64, .int .u64] [(0,38),(1,3),(2,42)],40),(91, .sc (.sl 4),24),(93, .st [.sl 2, .sl 2] [(0,22),(1,22)],48),(100, .sc (.int .u64),8),(106, .st [.sl 2, .sl 2] [(0,22),(1,22)],48),(108, .st [.sl 2, .sl 2] [(0,22),(1,22)],48),(112, .st [.int .i64, .sl 2] [(0,2),(1,22)],32),(130, .st [.sl 2, .sl 2, .sl 22, .sl 22, .sl 2] [(0,22),(1,22),(2,23),(3,23),(4,22)],120),(169, .st [.sl 2, .sl 22, .sl 2, .sl 22] [(0,80),(3,23)],96),(214, .sc (.sl 3),24)]
theorem zO :zx Tryz.prog tyT:=zIS (by kernel_rfl)
theorem zN :yO tyT:=zGn (by kernel_rfl)
theorem xj :Tryz.prog.follows .mixedOrders=true:=by kernel_rfl
theorem tk_2 :tk tyT 2=some (.sc (.int .i64),8):=rfl
theorem sz_2 :sz tyT 2=1:=rfl
theorem cks_2 :cks tyT 2= [.int .i64]:=rfl
theorem tk_3 :tk tyT 3=some (.sc (.int .i64),8):=rfl
theorem sz_3 :sz tyT 3=1:=rfl
theorem cks_3 :cks tyT 3= [.int .i64]:=rfl
theorem tk_4 :tk tyT 4=some (.sc .bool,1):=rfl
theorem sz_4 :sz tyT 4=1:=rfl
theorem cks_4 :cks tyT 4= [.bool]:=rfl
theorem tk_5 :tk tyT 5=some (.sc (.int .u8),1):=rfl
theorem sz_5 :sz tyT 5=1:=rfl
theorem cks_5 :cks tyT 5= [.int .u8]:=rfl
theorem tk_21 :tk tyT 21=some (.sc (.int .i32),4):=rfl
theorem sz_21 :sz tyT 21=1:=rfl
theorem zIr :cks tyT 21= [.int .i32]:=rfl
theorem tk_22 :tk tyT 22=some (.sc (.sl 2),24):=rfl
theorem zG7 :sz tyT 22=1:=rfl
theorem zIs :cks tyT 22= [.sl 2]:=rfl
theorem tk_23 :tk tyT 23=some (.sc (.sl 22),24):=rfl
theorem sz_23 :sz tyT 23=1:=rfl
theorem zIt :cks tyT 23= [.sl 22]:=rfl
theorem tk_25 :tk tyT 25=some (.st [.sl 2, .sl 22] [(0,22),(1,23)],48):=rfl
theorem sz_25 :sz tyT 25=2:=rfl
theorem zIu :cks tyT 25= [.sl 2, .sl 22]:=rfl
theorem tk_27 :tk tyT 27=some (.st [.sl 2, .sl 22] [(0,22),(1,23)],48):=rfl
theorem sz_27 :sz tyT 27=2:=rfl
theorem zIv :cks tyT 27= [.sl 2, .sl 22]:=rfl
theorem tk_31 :tk tyT 31=some (.st [.sl 2, .sl 22] [(0,22),(1,23)],48):=rfl
theorem sz_31 :sz tyT 31=2:=rfl
theorem zIw :cks tyT 31= [.sl 2, .sl 22]:=rfl
theorem tk_33 :tk tyT 33=some (.st [.sl 2, .sl 22] [(0,22),(1,23)],48):=rfl
theorem sz_33 :sz tyT 33=2:=rfl
theorem zIx :cks tyT 33= [.sl 2, .sl 22]:=rfl
theorem tk_38 :tk tyT 38=some (.sc (.sl 5),24):=rfl
theorem sz_38 :sz tyT 38=1:=rfl
theorem zIy :cks tyT 38= [.sl 5]:=rfl
theorem tk_42 :tk tyT 42=some (.sc (.int .u64),8):=rfl
theorem sz_42 :sz tyT 42=1:=rfl
theorem zIz :cks tyT 42= [.int .u64]:=rfl
theorem tk_44 :tk tyT 44=some (.sc (.sl 93),24):=rfl
theorem sz_44 :sz tyT 44=1:=rfl
theorem zI0 :cks tyT 44= [.sl 93]:=rfl
theorem tk_56 :tk tyT 56=some (.sc (.sl 106),24):=rfl
theorem sz_56 :sz tyT 56=1:=rfl
theorem zI1 :cks tyT 56= [.sl 106]:=rfl
theorem tk_59 :tk tyT 59=some (.st [.sl 22, .sl 22] [(0,23),(1,23)],48):=rfl
theorem sz_59 :sz tyT 59=2:=rfl
theorem zI2 :cks tyT 59= [.sl 22, .sl 22]:=rfl
theorem tk_72 :tk tyT 72=some (.st [.sl 2, .sl 2] [(0,22),(1,22)],48):=rfl
theorem sz_72 :sz tyT 72=2:=rfl
theorem zI3 :cks tyT 72= [.sl 2, .sl 2]:=rfl
theorem tk_80 :tk tyT 80=some (.st [.sl 2, .sl 22, .sl 2] [(0,31),(2,22)],72):=rfl
theorem sz_80 :sz tyT 80=3:=rfl
theorem zI4 :cks tyT 80= [.sl 2, .sl 22, .sl 2]:=rfl
theorem tk_81 :tk tyT 81=some (.sc (.sl 112),24):=rfl
theorem sz_81 :sz tyT 81=1:=rfl
theorem zI5 :cks tyT 81= [.sl 112]:=rfl
theorem tk_90 :tk tyT 90=some (.st [.sl 5, .int .i64, .int .u64] [(0,38),(1,3),(2,42)],40):=rfl
theorem sz_90 :sz tyT 90=3:=rfl
theorem zI6 :cks tyT 90= [.sl 5, .int .i64, .int .u64]:=rfl
theorem tk_91 :tk tyT 91=some (.sc (.sl 4),24):=rfl
theorem sz_91 :sz tyT 91=1:=rfl
theorem zI7 :cks tyT 91= [.sl 4]:=rfl
theorem tk_93 :tk tyT 93=some (.st [.sl 2, .sl 2] [(0,22),(1,22)],48):=rfl
theorem sz_93 :sz tyT 93=2:=rfl
theorem zI8 :cks tyT 93= [.sl 2, .sl 2]:=rfl
theorem zJx :tk tyT 100=some (.sc (.int .u64),8):=rfl
theorem zJq :sz tyT 100=1:=rfl
theorem zHO :cks tyT 100= [.int .u64]:=rfl
theorem zJy :tk tyT 106=some (.st [.sl 2, .sl 2] [(0,22),(1,22)],48):=rfl
theorem zJr :sz tyT 106=2:=rfl
theorem zHP :cks tyT 106= [.sl 2, .sl 2]:=rfl
theorem zJz :tk tyT 108=some (.st [.sl 2, .sl 2] [(0,22),(1,22)],48):=rfl
theorem zJs :sz tyT 108=2:=rfl
theorem zHQ :cks tyT 108= [.sl 2, .sl 2]:=rfl
theorem zJ0 :tk tyT 112=some (.st [.int .i64, .sl 2] [(0,2),(1,22)],32):=rfl
theorem zJt :sz tyT 112=2:=rfl
theorem zHR :cks tyT 112= [.int .i64, .sl 2]:=rfl
theorem zJ1 :tk tyT 130=some (.st [.sl 2, .sl 2, .sl 22, .sl 22, .sl 2] [(0,22),(1,22),(2,23),(3,23),(4,22)],120):=rfl
theorem zJu :sz tyT 130=5:=rfl
theorem zHS :cks tyT 130= [.sl 2, .sl 2, .sl 22, .sl 22, .sl 2]:=rfl
theorem zJ2 :tk tyT 169=some (.st [.sl 2, .sl 22, .sl 2, .sl 22] [(0,80),(3,23)],96):=rfl
theorem zJv :sz tyT 169=4:=rfl
theorem zHT :cks tyT 169= [.sl 2, .sl 22, .sl 2, .sl 22]:=rfl
theorem zJ3 :tk tyT 214=some (.sc (.sl 3),24):=rfl
theorem zJw :sz tyT 214=1:=rfl
theorem zHU :cks tyT 214= [.sl 3]:=rfl
attribute [push_cast] tk_2 sz_2 cks_2 tk_3 sz_3 cks_3 tk_4 sz_4 cks_4 tk_5 sz_5 cks_5 tk_21 sz_21 zIr tk_22 zG7 zIs tk_23 sz_23 zIt tk_25 sz_25 zIu tk_27 sz_27 zIv tk_31 sz_31 zIw tk_33 sz_33 zIx tk_38 sz_38 zIy tk_42 sz_42 zIz tk_44 sz_44 zI0 tk_56 sz_56 zI1 tk_59 sz_59 zI2 tk_72 sz_72 zI3 tk_80 sz_80 zI4 tk_81 sz_81 zI5 tk_90 sz_90 zI6 tk_91 sz_91 zI7 tk_93 sz_93 zI8 zJx zJq zHO zJy zJr zHP zJz zJs zHQ zJ0 zJt zHR zJ1 zJu zHS zJ2 zJv zHT zJ3 zJw zHU
end Go.Proofs.YthepmdkpbjfdcaaGreat
