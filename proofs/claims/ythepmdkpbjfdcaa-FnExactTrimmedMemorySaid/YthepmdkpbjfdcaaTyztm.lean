/- The types of this seat's program. Printed by tygen.py. -/
import Derived.Test.YthepmdkpbjfdcaaGEztm
import Derived.Test.YthepmdkpbjfdcaaRows
namespace Go.Proofs.Ythepmdkpbjfdcaa
def tyT :Ty:= [(2, .sc (.int .i64),8),(3, .sc (.int .i64),8),(4, .sc .bool,1),(5, .sc (.int .u8),1),(21, .sc (.int .i32),4),(22, .sc (.sl 2),24),(23, .sc (.sl 22),24),(25, .st [.sl 2, .sl 22] [(0,22),(1,23)],48),(26, .sc (.sl 82),24),(30, .st [.sl 2, .sl 22] [(0,22),(1,23)],48),(32, .sc (.sl 90),24),(38, .st [.sl 22, .sl 22] [(0,23),(1,23)],48),(40, .sc (.sl 102),24),(42, .st [.sl 22, .sl 22] [(0,23),(1,23)],48),(51, .sc (.sl 5),24),(58, .sc (.int .u64),8),(61, .st [.sl 2, .sl 2] [(0,22),(1,22)],48),(82, .st [.sl 2, .sl 2] [(0,22),(1,22)],48),(84, .st [.sl 2, .sl 22, .sl 2] [(0,30),(2,22)],72),(90, .st [.sl 2, .sl 2] [(0,22),(1,22)],48),(102, .st [.int .i64, .sl 2] [(0,2),(1,22)],32),(111, .st [.sl 5, .int .i64, .int .u64] [(0,51),(1,3),(2,58)],40),(113, .sc (.sl 4),24),(117, .sc (.int .u64),8),(128, .st [.sl 2, .sl 2, .sl 22, .sl 22, .sl 2] [(0,22),(1,22),(2,23),(3,23),(4,22)],120),(144, .st [.sl 5, .int .i64, .int .i64] [(0,51),(1,3),(2,2)],40),(168, .st [.sl 2, .sl 22, .sl 2, .sl 22] [(0,84),(3,23)],96),(176, .st [.sl 2, .sl 2] [(0,22),(1,22)],48),(216, .sc (.sl 3),24)]
theorem zO :zu Try.prog tyT:=zC5 (by kernel_rfl)
theorem zN :yR tyT:=zBl (by kernel_rfl)
theorem xM :Try.prog.follows .mixedOrders=true:=by kernel_rfl
theorem tk_2 :tk tyT 2=some (.sc (.int .i64),8):=rfl
theorem sz_2 :sz tyT 2=1:=rfl
theorem cks_2 :cks tyT 2= [.int .i64]:=rfl
theorem tk_3 :tk tyT 3=some (.sc (.int .i64),8):=rfl
theorem sz_3 :sz tyT 3=1:=rfl
theorem cks_3 :cks tyT 3= [.int .i64]:=rfl
theorem tk_4 :tk tyT 4=some (.sc .bool,1):=rfl
theorem sz_4 :sz tyT 4=1:=rfl
theorem cks_4 :cks tyT 4= [.bool]:=rfl
theorem tk_5 :tk tyT 5=some (.sc (.int .u8),1):=rfl
theorem sz_5 :sz tyT 5=1:=rfl
theorem cks_5 :cks tyT 5= [.int .u8]:=rfl
theorem tk_21 :tk tyT 21=some (.sc (.int .i32),4):=rfl
theorem sz_21 :sz tyT 21=1:=rfl
theorem zDJ :cks tyT 21= [.int .i32]:=rfl
theorem tk_22 :tk tyT 22=some (.sc (.sl 2),24):=rfl
theorem zBy :sz tyT 22=1:=rfl
theorem zDK :cks tyT 22= [.sl 2]:=rfl
theorem tk_23 :tk tyT 23=some (.sc (.sl 22),24):=rfl
theorem sz_23 :sz tyT 23=1:=rfl
theorem zDL :cks tyT 23= [.sl 22]:=rfl
theorem tk_25 :tk tyT 25=some (.st [.sl 2, .sl 22] [(0,22),(1,23)],48):=rfl
theorem sz_25 :sz tyT 25=2:=rfl
theorem zDM :cks tyT 25= [.sl 2, .sl 22]:=rfl
theorem tk_26 :tk tyT 26=some (.sc (.sl 82),24):=rfl
theorem sz_26 :sz tyT 26=1:=rfl
theorem zDN :cks tyT 26= [.sl 82]:=rfl
theorem tk_30 :tk tyT 30=some (.st [.sl 2, .sl 22] [(0,22),(1,23)],48):=rfl
theorem sz_30 :sz tyT 30=2:=rfl
theorem zDO :cks tyT 30= [.sl 2, .sl 22]:=rfl
theorem tk_32 :tk tyT 32=some (.sc (.sl 90),24):=rfl
theorem sz_32 :sz tyT 32=1:=rfl
theorem zDP :cks tyT 32= [.sl 90]:=rfl
theorem tk_38 :tk tyT 38=some (.st [.sl 22, .sl 22] [(0,23),(1,23)],48):=rfl
theorem sz_38 :sz tyT 38=2:=rfl
theorem zDQ :cks tyT 38= [.sl 22, .sl 22]:=rfl
theorem tk_40 :tk tyT 40=some (.sc (.sl 102),24):=rfl
theorem sz_40 :sz tyT 40=1:=rfl
theorem zDR :cks tyT 40= [.sl 102]:=rfl
theorem tk_42 :tk tyT 42=some (.st [.sl 22, .sl 22] [(0,23),(1,23)],48):=rfl
theorem sz_42 :sz tyT 42=2:=rfl
theorem zDS :cks tyT 42= [.sl 22, .sl 22]:=rfl
theorem tk_51 :tk tyT 51=some (.sc (.sl 5),24):=rfl
theorem sz_51 :sz tyT 51=1:=rfl
theorem zDT :cks tyT 51= [.sl 5]:=rfl
theorem tk_58 :tk tyT 58=some (.sc (.int .u64),8):=rfl
theorem sz_58 :sz tyT 58=1:=rfl
theorem zDU :cks tyT 58= [.int .u64]:=rfl
theorem tk_61 :tk tyT 61=some (.st [.sl 2, .sl 2] [(0,22),(1,22)],48):=rfl
theorem sz_61 :sz tyT 61=2:=rfl
theorem zDV :cks tyT 61= [.sl 2, .sl 2]:=rfl
theorem tk_82 :tk tyT 82=some (.st [.sl 2, .sl 2] [(0,22),(1,22)],48):=rfl
theorem sz_82 :sz tyT 82=2:=rfl
theorem zDW :cks tyT 82= [.sl 2, .sl 2]:=rfl
theorem tk_84 :tk tyT 84=some (.st [.sl 2, .sl 22, .sl 2] [(0,30),(2,22)],72):=rfl
theorem sz_84 :sz tyT 84=3:=rfl
theorem zDX :cks tyT 84= [.sl 2, .sl 22, .sl 2]:=rfl
theorem tk_90 :tk tyT 90=some (.st [.sl 2, .sl 2] [(0,22),(1,22)],48):=rfl
theorem sz_90 :sz tyT 90=2:=rfl
theorem zDY :cks tyT 90= [.sl 2, .sl 2]:=rfl
theorem zEG :tk tyT 102=some (.st [.int .i64, .sl 2] [(0,2),(1,22)],32):=rfl
theorem zD6 :sz tyT 102=2:=rfl
theorem zCB :cks tyT 102= [.int .i64, .sl 2]:=rfl
theorem zEH :tk tyT 111=some (.st [.sl 5, .int .i64, .int .u64] [(0,51),(1,3),(2,58)],40):=rfl
theorem zD7 :sz tyT 111=3:=rfl
theorem zCC :cks tyT 111= [.sl 5, .int .i64, .int .u64]:=rfl
theorem zEI :tk tyT 113=some (.sc (.sl 4),24):=rfl
theorem zD8 :sz tyT 113=1:=rfl
theorem zCD :cks tyT 113= [.sl 4]:=rfl
theorem zEJ :tk tyT 117=some (.sc (.int .u64),8):=rfl
theorem zD9 :sz tyT 117=1:=rfl
theorem zCE :cks tyT 117= [.int .u64]:=rfl
theorem zEK :tk tyT 128=some (.st [.sl 2, .sl 2, .sl 22, .sl 22, .sl 2] [(0,22),(1,22),(2,23),(3,23),(4,22)],120):=rfl
theorem zEA :sz tyT 128=5:=rfl
theorem zCF :cks tyT 128= [.sl 2, .sl 2, .sl 22, .sl 22, .sl 2]:=rfl
theorem zEL :tk tyT 144=some (.st [.sl 5, .int .i64, .int .i64] [(0,51),(1,3),(2,2)],40):=rfl
theorem zEB :sz tyT 144=3:=rfl
theorem zCG :cks tyT 144= [.sl 5, .int .i64, .int .i64]:=rfl
theorem zEM :tk tyT 168=some (.st [.sl 2, .sl 22, .sl 2, .sl 22] [(0,84),(3,23)],96):=rfl
theorem zEC :sz tyT 168=4:=rfl
theorem zCH :cks tyT 168= [.sl 2, .sl 22, .sl 2, .sl 22]:=rfl
theorem zEN :tk tyT 176=some (.st [.sl 2, .sl 2] [(0,22),(1,22)],48):=rfl
theorem zED :sz tyT 176=2:=rfl
theorem zCI :cks tyT 176= [.sl 2, .sl 2]:=rfl
theorem zEO :tk tyT 216=some (.sc (.sl 3),24):=rfl
theorem zEE :sz tyT 216=1:=rfl
theorem zCJ :cks tyT 216= [.sl 3]:=rfl
attribute [push_cast] tk_2 sz_2 cks_2 tk_3 sz_3 cks_3 tk_4 sz_4 cks_4 tk_5 sz_5 cks_5 tk_21 sz_21 zDJ tk_22 zBy zDK tk_23 sz_23 zDL tk_25 sz_25 zDM tk_26 sz_26 zDN tk_30 sz_30 zDO tk_32 sz_32 zDP tk_38 sz_38 zDQ tk_40 sz_40 zDR tk_42 sz_42 zDS tk_51 sz_51 zDT tk_58 sz_58 zDU tk_61 sz_61 zDV tk_82 sz_82 zDW tk_84 sz_84 zDX tk_90 sz_90 zDY zEG zD6 zCB zEH zD7 zCC zEI zD8 zCD zEJ zD9 zCE zEK zEA zCF zEL zEB zCG zEM zEC zCH zEN zED zCI zEO zEE zCJ
end Go.Proofs.Ythepmdkpbjfdcaa
