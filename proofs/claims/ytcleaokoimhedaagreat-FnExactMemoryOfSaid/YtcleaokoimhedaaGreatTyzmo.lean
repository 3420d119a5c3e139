/- The types of this seat's program. Printed by tygen.py. -/
import Derived.Test.YtcleaokoimhedaaGreatGEzmo
import Derived.Test.YtcleaokoimhedaaGreatRows
namespace Go.Proofs.YtcleaokoimhedaaGreat
def tyT :Ty:= [(2, .sc (.int .i64),8),(3, .sc (.int .i64),8),(4, .sc .bool,1),(5, .sc (.int .u8),1),(21, .sc (.int .i32),4),(22, .sc (.sl 2),24),(23, .sc (.sl 22),24),(25, .st [.sl 2, .sl 22] [(0,22),(1,23)],48),(26, .sc (.sl 48),24),(30, .st [.sl 22, .sl 22] [(0,23),(1,23)],48),(33, .st [.sl 2, .sl 22] [(0,22),(1,23)],48),(35, .sc (.sl 64),24),(48, .st [.sl 2, .sl 2] [(0,22),(1,22)],48),(50, .st [.sl 2, .sl 22, .sl 2] [(0,33),(2,22)],72),(51, .sc (.sl 59),24),(55, .st [.sl 2, .sl 2] [(0,22),(1,22)],48),(59, .st [.int .i64, .sl 2] [(0,2),(1,22)],32),(64, .st [.sl 2, .sl 2] [(0,22),(1,22)],48),(96, .st [.sl 2, .sl 2, .sl 22, .sl 22, .sl 2] [(0,22),(1,22),(2,23),(3,23),(4,22)],120),(98, .sc (.sl 4),24),(106, .st [.sl 2, .sl 22, .sl 2, .sl 22] [(0,50),(3,23)],96),(125, .sc (.int .u64),8),(145, .sc (.int .u64),8),(146, .sc (.sl 3),24)]
theorem zO :zz Tryz.prog tyT:=zMS (by kernel_rfl)
theorem zN :yW tyT:=zKJ (by kernel_rfl)
theorem ya :Tryz.prog.follows .mixedOrders=true:=by kernel_rfl
theorem tk_2 :tk tyT 2=some (.sc (.int .i64),8):=rfl
theorem sz_2 :sz tyT 2=1:=rfl
theorem cks_2 :cks tyT 2= [.int .i64]:=rfl
theorem tk_3 :tk tyT 3=some (.sc (.int .i64),8):=rfl
theorem sz_3 :sz tyT 3=1:=rfl
theorem cks_3 :cks tyT 3= [.int .i64]:=rfl
theorem tk_4 :tk tyT 4=some (.sc .bool,1):=rfl
theorem sz_4 :sz tyT 4=1:=rfl
theorem cks_4 :cks tyT 4= [.bool]:=rfl
theorem tk_5 :tk tyT 5=some (.sc (.int .u8),1):=rfl
theorem sz_5 :sz tyT 5=1:=rfl
theorem cks_5 :cks tyT 5= [.int .u8]:=rfl
theorem tk_21 :tk tyT 21=some (.sc (.int .i32),4):=rfl
theorem sz_21 :sz tyT 21=1:=rfl
theorem zMs :cks tyT 21= [.int .i32]:=rfl
theorem tk_22 :tk tyT 22=some (.sc (.sl 2),24):=rfl
theorem zKh :sz tyT 22=1:=rfl
theorem zMt :cks tyT 22= [.sl 2]:=rfl
theorem tk_23 :tk tyT 23=some (.sc (.sl 22),24):=rfl
theorem sz_23 :sz tyT 23=1:=rfl
theorem zMu :cks tyT 23= [.sl 22]:=rfl
theorem tk_25 :tk tyT 25=some (.st [.sl 2, .sl 22] [(0,22),(1,23)],48):=rfl
theorem sz_25 :sz tyT 25=2:=rfl
theorem zMv :cks tyT 25= [.sl 2, .sl 22]:=rfl
theorem tk_26 :tk tyT 26=some (.sc (.sl 48),24):=rfl
theorem sz_26 :sz tyT 26=1:=rfl
theorem zMw :cks tyT 26= [.sl 48]:=rfl
theorem tk_30 :tk tyT 30=some (.st [.sl 22, .sl 22] [(0,23),(1,23)],48):=rfl
theorem sz_30 :sz tyT 30=2:=rfl
theorem zMx :cks tyT 30= [.sl 22, .sl 22]:=rfl
theorem tk_33 :tk tyT 33=some (.st [.sl 2, .sl 22] [(0,22),(1,23)],48):=rfl
theorem sz_33 :sz tyT 33=2:=rfl
theorem zMy :cks tyT 33= [.sl 2, .sl 22]:=rfl
theorem tk_35 :tk tyT 35=some (.sc (.sl 64),24):=rfl
theorem sz_35 :sz tyT 35=1:=rfl
theorem zMz :cks tyT 35= [.sl 64]:=rfl
theorem tk_48 :tk tyT 48=some (.st [.sl 2, .sl 2] [(0,22),(1,22)],48):=rfl
theorem zKi :sz tyT 48=2:=rfl
theorem zM0 :cks tyT 48= [.sl 2, .sl 2]:=rfl
theorem tk_50 :tk tyT 50=some (.st [.sl 2, .sl 22, .sl 2] [(0,33),(2,22)],72):=rfl
theorem sz_50 :sz tyT 50=3:=rfl
theorem zM1 :cks tyT 50= [.sl 2, .sl 22, .sl 2]:=rfl
theorem tk_51 :tk tyT 51=some (.sc (.sl 59),24):=rfl
theorem sz_51 :sz tyT 51=1:=rfl
theorem zM2 :cks tyT 51= [.sl 59]:=rfl
theorem tk_55 :tk tyT 55=some (.st [.sl 2, .sl 2] [(0,22),(1,22)],48):=rfl
theorem sz_55 :sz tyT 55=2:=rfl
theorem zM3 :cks tyT 55= [.sl 2, .sl 2]:=rfl
theorem tk_59 :tk tyT 59=some (.st [.int .i64, .sl 2] [(0,2),(1,22)],32):=rfl
theorem sz_59 :sz tyT 59=2:=rfl
theorem zM4 :cks tyT 59= [.int .i64, .sl 2]:=rfl
theorem tk_64 :tk tyT 64=some (.st [.sl 2, .sl 2] [(0,22),(1,22)],48):=rfl
theorem sz_64 :sz tyT 64=2:=rfl
theorem zM5 :cks tyT 64= [.sl 2, .sl 2]:=rfl
theorem tk_96 :tk tyT 96=some (.st [.sl 2, .sl 2, .sl 22, .sl 22, .sl 2] [(0,22),(1,22),(2,23),(3,23),(4,22)],120):=rfl
theorem sz_96 :sz tyT 96=5:=rfl
theorem zM6 :cks tyT 96= [.sl 2, .sl 2, .sl 22, .sl 22, .sl 2]:=rfl
theorem tk_98 :tk tyT 98=some (.sc (.sl 4),24):=rfl
theorem sz_98 :sz tyT 98=1:=rfl
theorem zM7 :cks tyT 98= [.sl 4]:=rfl
theorem zN4 :tk tyT 106=some (.st [.sl 2, .sl 22, .sl 2, .sl 22] [(0,50),(3,23)],96):=rfl
theorem zNy :sz tyT 106=4:=rfl
theorem zK7 :cks tyT 106= [.sl 2, .sl 22, .sl 2, .sl 22]:=rfl
theorem zN5 :tk tyT 125=some (.sc (.int .u64),8):=rfl
theorem zNz :sz tyT 125=1:=rfl
theorem zK8 :cks tyT 125= [.int .u64]:=rfl
theorem zN6 :tk tyT 145=some (.sc (.int .u64),8):=rfl
theorem zN0 :sz tyT 145=1:=rfl
theorem zK9 :cks tyT 145= [.int .u64]:=rfl
theorem zN7 :tk tyT 146=some (.sc (.sl 3),24):=rfl
theorem zN1 :sz tyT 146=1:=rfl
theorem zLA :cks tyT 146= [.sl 3]:=rfl
attribute [push_cast] tk_2 sz_2 cks_2 tk_3 sz_3 cks_3 tk_4 sz_4 cks_4 tk_5 sz_5 cks_5 tk_21 sz_21 zMs tk_22 zKh zMt tk_23 sz_23 zMu tk_25 sz_25 zMv tk_26 sz_26 zMw tk_30 sz_30 zMx tk_33 sz_33 zMy tk_35 sz_35 zMz tk_48 zKi zM0 tk_50 sz_50 zM1 tk_51 sz_51 zM2 tk_55 sz_55 zM3 tk_59 sz_59 zM4 tk_64 sz_64 zM5 tk_96 sz_96 zM6 tk_98 sz_98 zM7 zN4 zNy zK7 zN5 zNz zK8 zN6 zN0 zK9 zN7 zN1 zLA
end Go.Proofs.YtcleaokoimhedaaGreat
