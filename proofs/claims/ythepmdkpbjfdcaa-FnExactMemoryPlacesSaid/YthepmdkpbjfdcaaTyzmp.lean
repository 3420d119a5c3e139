/- The types of this seat's program. Printed by tygen.py. -/
import Derived.Test.YthepmdkpbjfdcaaGEzmp
import Derived.Test.YthepmdkpbjfdcaaRows
namespace Go.Proofs.Ythepmdkpbjfdcaa
def tyT :Ty:= [(2, .sc (.int .i64),8),(3, .sc (.int .i64),8),(4, .sc .bool,1),(5, .sc (.int .u8),1),(21, .sc (.int .i32),4),(22, .sc (.sl 2),24),(23, .sc (.sl 22),24),(25, .st [.sl 2, .sl 22] [(0,22),(1,23)],48),(26, .sc (.sl 82),24),(30, .st [.sl 2, .sl 22] [(0,22),(1,23)],48),(32, .sc (.sl 90),24),(38, .st [.sl 22, .sl 22] [(0,23),(1,23)],48),(40, .sc (.sl 102),24),(42, .st [.sl 22, .sl 22] [(0,23),(1,23)],48),(51, .sc (.sl 5),24),(58, .sc (.int .u64),8),(61, .st [.sl 2, .sl 2] [(0,22),(1,22)],48),(82, .st [.sl 2, .sl 2] [(0,22),(1,22)],48),(84, .st [.sl 2, .sl 22, .sl 2] [(0,30),(2,22)],72),(90, .st [.sl 2, .sl 2] [(0,22),(1,22)],48),(102, .st [.int .i64, .sl 2] [(0,2),(1,22)],32),(111, .st [.sl 5, .int .i64, .int .u64] [(0,51),(1,3),(2,58)],40),(113, .sc (.sl 4),24),(117, .sc (.int .u64),8),(128, .st [.sl 2, .sl 2, .sl 22, .sl 22, .sl 2] [(0,22),(1,22),(2,23),(3,23),(4,22)],120),(144, .st [.sl 5, .int .i64, .int .i64] [(0,51),(1,3),(2,2)],40),(168, .st [.sl 2, .sl 22, .sl 2, .sl 22] [(0,84),(3,23)],96),(176, .st [.sl 2, .sl 2] [(0,22),(1,22)],48),(216, .sc (.sl 3),24)]
theorem zO :zr Try.prog tyT:=zCG (by kernel_rfl)
theorem zN :yQ tyT:=zA1 (by kernel_rfl)
theorem qg :Try.prog.follows .mixedOrders=true:=by kernel_rfl
theorem tk_2 :tk tyT 2=some (.sc (.int .i64),8):=rfl
theorem sz_2 :sz tyT 2=1:=rfl
theorem cks_2 :cks tyT 2= [.int .i64]:=rfl
theorem tk_3 :tk tyT 3=some (.sc (.int .i64),8):=rfl
theorem sz_3 :sz tyT 3=1:=rfl
theorem cks_3 :cks tyT 3= [.int .i64]:=rfl
theorem tk_4 :tk tyT 4=some (.sc .bool,1):=rfl
theorem sz_4 :sz tyT 4=1:=rfl
theorem cks_4 :cks tyT 4= [.bool]:=rfl
theorem tk_5 :tk tyT 5=some (.sc (.int .u8),1):=rfl
theorem sz_5 :sz tyT 5=1:=rfl
theorem cks_5 :cks tyT 5= [.int .u8]:=rfl
theorem tk_21 :tk tyT 21=some (.sc (.int .i32),4):=rfl
theorem sz_21 :sz tyT 21=1:=rfl
theorem zCV :cks tyT 21= [.int .i32]:=rfl
theorem tk_22 :tk tyT 22=some (.sc (.sl 2),24):=rfl
theorem zBD :sz tyT 22=1:=rfl
theorem zCW :cks tyT 22= [.sl 2]:=rfl
theorem tk_23 :tk tyT 23=some (.sc (.sl 22),24):=rfl
theorem sz_23 :sz tyT 23=1:=rfl
theorem zCX :cks tyT 23= [.sl 22]:=rfl
theorem tk_25 :tk tyT 25=some (.st [.sl 2, .sl 22] [(0,22),(1,23)],48):=rfl
theorem sz_25 :sz tyT 25=2:=rfl
theorem zCY :cks tyT 25= [.sl 2, .sl 22]:=rfl
theorem tk_26 :tk tyT 26=some (.sc (.sl 82),24):=rfl
theorem sz_26 :sz tyT 26=1:=rfl
theorem zCZ :cks tyT 26= [.sl 82]:=rfl
theorem tk_30 :tk tyT 30=some (.st [.sl 2, .sl 22] [(0,22),(1,23)],48):=rfl
theorem sz_30 :sz tyT 30=2:=rfl
theorem zCa :cks tyT 30= [.sl 2, .sl 22]:=rfl
theorem tk_32 :tk tyT 32=some (.sc (.sl 90),24):=rfl
theorem sz_32 :sz tyT 32=1:=rfl
theorem zCb :cks tyT 32= [.sl 90]:=rfl
theorem tk_38 :tk tyT 38=some (.st [.sl 22, .sl 22] [(0,23),(1,23)],48):=rfl
theorem sz_38 :sz tyT 38=2:=rfl
theorem zCc :cks tyT 38= [.sl 22, .sl 22]:=rfl
theorem tk_40 :tk tyT 40=some (.sc (.sl 102),24):=rfl
theorem sz_40 :sz tyT 40=1:=rfl
theorem zCd :cks tyT 40= [.sl 102]:=rfl
theorem tk_42 :tk tyT 42=some (.st [.sl 22, .sl 22] [(0,23),(1,23)],48):=rfl
theorem sz_42 :sz tyT 42=2:=rfl
theorem zCe :cks tyT 42= [.sl 22, .sl 22]:=rfl
theorem tk_51 :tk tyT 51=some (.sc (.sl 5),24):=rfl
theorem sz_51 :sz tyT 51=1:=rfl
theorem zCf :cks tyT 51= [.sl 5]:=rfl
theorem tk_58 :tk tyT 58=some (.sc (.int .u64),8):=rfl
theorem sz_58 :sz tyT 58=1:=rfl
theorem zCg :cks tyT 58= [.int .u64]:=rfl
theorem tk_61 :tk tyT 61=some (.st [.sl 2, .sl 2] [(0,22),(1,22)],48):=rfl
theorem sz_61 :sz tyT 61=2:=rfl
theorem zCh :cks tyT 61= [.sl 2, .sl 2]:=rfl
theorem tk_82 :tk tyT 82=some (.st [.sl 2, .sl 2] [(0,22),(1,22)],48):=rfl
theorem sz_82 :sz tyT 82=2:=rfl
theorem zCi :cks tyT 82= [.sl 2, .sl 2]:=rfl
theorem tk_84 :tk tyT 84=some (.st [.sl 2, .sl 22, .sl 2] [(0,30),(2,22)],72):=rfl
theorem sz_84 :sz tyT 84=3:=rfl
theorem zCj :cks tyT 84= [.sl 2, .sl 22, .sl 2]:=rfl
theorem tk_90 :tk tyT 90=some (.st [.sl 2, .sl 2] [(0,22),(1,22)],48):=rfl
theorem sz_90 :sz tyT 90=2:=rfl
theorem zCk :cks tyT 90= [.sl 2, .sl 2]:=rfl
theorem zDT :tk tyT 102=some (.st [.int .i64, .sl 2] [(0,2),(1,22)],32):=rfl
theorem zDJ :sz tyT 102=2:=rfl
theorem zBQ :cks tyT 102= [.int .i64, .sl 2]:=rfl
theorem zDU :tk tyT 111=some (.st [.sl 5, .int .i64, .int .u64] [(0,51),(1,3),(2,58)],40):=rfl
theorem zDK :sz tyT 111=3:=rfl
theorem zBR :cks tyT 111= [.sl 5, .int .i64, .int .u64]:=rfl
theorem zDV :tk tyT 113=some (.sc (.sl 4),24):=rfl
theorem zDL :sz tyT 113=1:=rfl
theorem zBS :cks tyT 113= [.sl 4]:=rfl
theorem zDW :tk tyT 117=some (.sc (.int .u64),8):=rfl
theorem zDM :sz tyT 117=1:=rfl
theorem zBT :cks tyT 117= [.int .u64]:=rfl
theorem zDX :tk tyT 128=some (.st [.sl 2, .sl 2, .sl 22, .sl 22, .sl 2] [(0,22),(1,22),(2,23),(3,23),(4,22)],120):=rfl
theorem zDN :sz tyT 128=5:=rfl
theorem zBU :cks tyT 128= [.sl 2, .sl 2, .sl 22, .sl 22, .sl 2]:=rfl
theorem zDY :tk tyT 144=some (.st [.sl 5, .int .i64, .int .i64] [(0,51),(1,3),(2,2)],40):=rfl
theorem zDO :sz tyT 144=3:=rfl
theorem zBV :cks tyT 144= [.sl 5, .int .i64, .int .i64]:=rfl
theorem zDZ :tk tyT 168=some (.st [.sl 2, .sl 22, .sl 2, .sl 22] [(0,84),(3,23)],96):=rfl
theorem zDP :sz tyT 168=4:=rfl
theorem zBW :cks tyT 168= [.sl 2, .sl 22, .sl 2, .sl 22]:=rfl
theorem zDa :tk tyT 176=some (.st [.sl 2, .sl 2] [(0,22),(1,22)],48):=rfl
theorem zDQ :sz tyT 176=2:=rfl
theorem zBX :cks tyT 176= [.sl 2, .sl 2]:=rfl
theorem zDb :tk tyT 216=some (.sc (.sl 3),24):=rfl
theorem zDR :sz tyT 216=1:=rfl
theorem zBY :cks tyT 216= [.sl 3]:=rfl
attribute [push_cast] tk_2 sz_2 cks_2 tk_3 sz_3 cks_3 tk_4 sz_4 cks_4 tk_5 sz_5 cks_5 tk_21 sz_21 zCV tk_22 zBD zCW tk_23 sz_23 zCX tk_25 sz_25 zCY tk_26 sz_26 zCZ tk_30 sz_30 zCa tk_32 sz_32 zCb tk_38 sz_38 zCc tk_40 sz_40 zCd tk_42 sz_42 zCe tk_51 sz_51 zCf tk_58 sz_58 zCg tk_61 sz_61 zCh tk_82 sz_82 zCi tk_84 sz_84 zCj tk_90 sz_90 zCk zDT zDJ zBQ zDU zDK zBR zDV zDL zBS zDW zDM zBT zDX zDN zBU zDY zDO zBV zDZ zDP zBW zDa zDQ zBX zDb zDR zBY
end Go.Proofs.Ythepmdkpbjfdcaa
