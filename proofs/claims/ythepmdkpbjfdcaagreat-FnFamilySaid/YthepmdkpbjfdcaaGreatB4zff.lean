/- The types of this seat's program. Printed by tygen.py. -/
import Derived.Test.YthepmdkpbjfdcaaGreatGEzff
import Derived.Test.YthepmdkpbjfdcaaGreatRows
import Derived.Laws.CopyRow
namespace Go.Proofs.YthepmdkpbjfdcaaGreat
def tyT :Ty:= [(2, .sc (.int .i64),8),(3, .sc (.int .i64),8),(4, .sc .bool,1),(5, .sc (.int .u8),1),(21, .sc (.int .i32),4),(22, .sc (.sl 2),24),(23, .sc (.sl 22),24),(25, .st [.sl 2, .sl 22] [(0,22),(1,23)],48),(27, .st [.sl 2, .sl 22] [(0,22),(1,23)],48),(31, .st [.sl 2, .sl 22] [(0,22),(1,23)],48),(33, .st [.sl 2, .sl 22] [(0,22),(1,23)],48),(38, .sc (.sl 5),24),(42, .sc (.int .u64),8),(44, .sc (.sl 93),24),(56, .sc (.sl 106),24),(59, .st [.sl 22, .sl 22] [(0,23),(1,23)],48),(72, .st [.sl 2, .sl 2] [(0,22),(1,22)],48),(80, .st [.sl 2, .sl 22, .sl 2] [(0,31),(2,22)],72),(81, .sc (.sl 112),24),(90, .st [.sl 5, .int .i64, .int .u64] [(0,38),(1,3),(2,42)],40),(91, .sc (.sl 4),24),(93, .st [.sl 2, .sl 2] [(0,22),(1,22)],48),(100, .sc (.int .u64),8),(106, .st [.sl 2, .sl 2] [(0,22),(1,22)],48),(108, .st [.sl 2, .sl 2] [(0,22),(1,22)],48),(112, .st [.int .i64, .sl 2] [(0,2),(1,22)],32),(130, .st [.sl 2, .sl 2, .sl 22, .sl 22, .sl 2] [(0,22),(1,22),(2,23),(3,23),(4,22)],120),(169, .st [.sl 2, .sl 22, .sl 2, .sl 22] [(0,80),(3,23)],96),(214, .sc (.sl 3),24)]
theorem zQ :yA Tryz.prog tyT:=zMV (by kernel_rfl)
theorem zN :yR tyT:=zKb (by kernel_rfl)
theorem xR :Tryz.prog.follows .mixedOrders=true:=by kernel_rfl
theorem tk_2 :tk tyT 2=some (.sc (.int .i64),8):=rfl
theorem sz_2 :sz tyT 2=1:=rfl
theorem cks_2 :cks tyT 2= [.int .i64]:=rfl
theorem tk_3 :tk tyT 3=some (.sc (.int .i64),8):=rfl
theorem sz_3 :sz tyT 3=1:=rfl
theorem cks_3 :cks tyT 3= [.int .i64]:=rfl
theorem tk_4 :tk tyT 4=some (.sc .bool,1):=rfl
theorem sz_4 :sz tyT 4=1:=rfl
theorem cks_4 :cks tyT 4= [.bool]:=rfl
theorem tk_5 :tk tyT 5=some (.sc (.int .u8),1):=rfl
theorem sz_5 :sz tyT 5=1:=rfl
theorem cks_5 :cks tyT 5= [.int .u8]:=rfl
theorem tk_21 :tk tyT 21=some (.sc (.int .i32),4):=rfl
theorem sz_21 :sz tyT 21=1:=rfl
theorem zM5 :cks tyT 21= [.int .i32]:=rfl
theorem tk_22 :tk tyT 22=some (.sc (.sl 2),24):=rfl
theorem sz_22 :sz tyT 22=1:=rfl
theorem zM6 :cks tyT 22= [.sl 2]:=rfl
theorem tk_23 :tk tyT 23=some (.sc (.sl 22),24):=rfl
theorem sz_23 :sz tyT 23=1:=rfl
theorem zM7 :cks tyT 23= [.sl 22]:=rfl
theorem tk_25 :tk tyT 25=some (.st [.sl 2, .sl 22] [(0,22),(1,23)],48):=rfl
theorem sz_25 :sz tyT 25=2:=rfl
theorem zM8 :cks tyT 25= [.sl 2, .sl 22]:=rfl
theorem tk_27 :tk tyT 27=some (.st [.sl 2, .sl 22] [(0,22),(1,23)],48):=rfl
theorem sz_27 :sz tyT 27=2:=rfl
theorem zM9 :cks tyT 27= [.sl 2, .sl 22]:=rfl
theorem tk_31 :tk tyT 31=some (.st [.sl 2, .sl 22] [(0,22),(1,23)],48):=rfl
theorem sz_31 :sz tyT 31=2:=rfl
theorem zNA :cks tyT 31= [.sl 2, .sl 22]:=rfl
theorem tk_33 :tk tyT 33=some (.st [.sl 2, .sl 22] [(0,22),(1,23)],48):=rfl
theorem sz_33 :sz tyT 33=2:=rfl
theorem zNB :cks tyT 33= [.sl 2, .sl 22]:=rfl
theorem tk_38 :tk tyT 38=some (.sc (.sl 5),24):=rfl
theorem sz_38 :sz tyT 38=1:=rfl
theorem zNC :cks tyT 38= [.sl 5]:=rfl
theorem tk_42 :tk tyT 42=some (.sc (.int .u64),8):=rfl
theorem sz_42 :sz tyT 42=1:=rfl
theorem zND :cks tyT 42= [.int .u64]:=rfl
theorem tk_44 :tk tyT 44=some (.sc (.sl 93),24):=rfl
theorem sz_44 :sz tyT 44=1:=rfl
theorem zNE :cks tyT 44= [.sl 93]:=rfl
theorem tk_56 :tk tyT 56=some (.sc (.sl 106),24):=rfl
theorem sz_56 :sz tyT 56=1:=rfl
theorem zNF :cks tyT 56= [.sl 106]:=rfl
theorem tk_59 :tk tyT 59=some (.st [.sl 22, .sl 22] [(0,23),(1,23)],48):=rfl
theorem sz_59 :sz tyT 59=2:=rfl
theorem zNG :cks tyT 59= [.sl 22, .sl 22]:=rfl
theorem tk_72 :tk tyT 72=some (.st [.sl 2, .sl 2] [(0,22),(1,22)],48):=rfl
theorem sz_72 :sz tyT 72=2:=rfl
theorem zNH :cks tyT 72= [.sl 2, .sl 2]:=rfl
theorem tk_80 :tk tyT 80=some (.st [.sl 2, .sl 22, .sl 2] [(0,31),(2,22)],72):=rfl
theorem sz_80 :sz tyT 80=3:=rfl
theorem zNI :cks tyT 80= [.sl 2, .sl 22, .sl 2]:=rfl
theorem tk_81 :tk tyT 81=some (.sc (.sl 112),24):=rfl
theorem sz_81 :sz tyT 81=1:=rfl
theorem zNJ :cks tyT 81= [.sl 112]:=rfl
theorem tk_90 :tk tyT 90=some (.st [.sl 5, .int .i64, .int .u64] [(0,38),(1,3),(2,42)],40):=rfl
theorem sz_90 :sz tyT 90=3:=rfl
theorem zNK :cks tyT 90= [.sl 5, .int .i64, .int .u64]:=rfl
theorem tk_91 :tk tyT 91=some (.sc (.sl 4),24):=rfl
theorem sz_91 :sz tyT 91=1:=rfl
theorem zNL :cks tyT 91= [.sl 4]:=rfl
theorem tk_93 :tk tyT 93=some (.st [.sl 2, .sl 2] [(0,22),(1,22)],48):=rfl
theorem sz_93 :sz tyT 93=2:=rfl
theorem zNM :cks tyT 93= [.sl 2, .sl 2]:=rfl
theorem zOF :tk tyT 100=some (.sc (.int .u64),8):=rfl
theorem zN7 :sz tyT 100=1:=rfl
theorem zLM :cks tyT 100= [.int .u64]:=rfl
theorem zOG :tk tyT 106=some (.st [.sl 2, .sl 2] [(0,22),(1,22)],48):=rfl
theorem zN8 :sz tyT 106=2:=rfl
theorem zLN :cks tyT 106= [.sl 2, .sl 2]:=rfl
theorem zOH :tk tyT 108=some (.st [.sl 2, .sl 2] [(0,22),(1,22)],48):=rfl
theorem zN9 :sz tyT 108=2:=rfl
theorem zLO :cks tyT 108= [.sl 2, .sl 2]:=rfl
theorem zOI :tk tyT 112=some (.st [.int .i64, .sl 2] [(0,2),(1,22)],32):=rfl
theorem zOA :sz tyT 112=2:=rfl
theorem zLP :cks tyT 112= [.int .i64, .sl 2]:=rfl
theorem zOJ :tk tyT 130=some (.st [.sl 2, .sl 2, .sl 22, .sl 22, .sl 2] [(0,22),(1,22),(2,23),(3,23),(4,22)],120):=rfl
theorem zOB :sz tyT 130=5:=rfl
theorem zLQ :cks tyT 130= [.sl 2, .sl 2, .sl 22, .sl 22, .sl 2]:=rfl
theorem zOK :tk tyT 169=some (.st [.sl 2, .sl 22, .sl 2, .sl 22] [(0,80),(3,23)],96):=rfl
theorem zOC :sz tyT 169=4:=rfl
theorem zLR :cks tyT 169= [.sl 2, .sl 22, .sl 2, .sl 22]:=rfl
theorem zOL :tk tyT 214=some (.sc (.sl 3),24):=rfl
theorem zOD :sz tyT 214=1:=rfl
theorem zLS :cks tyT 214= [.sl 3]:=rfl
attribute [push_cast] tk_2 sz_2 cks_2 tk_3 sz_3 cks_3 tk_4 sz_4 cks_4 tk_5 sz_5 cks_5 tk_21 sz_21 zM5 tk_22 sz_22 zM6 tk_23 sz_23 zM7 tk_25 sz_25 zM8 tk_27 sz_27 zM9 tk_31 sz_31 zNA tk_33 sz_33 zNB tk_38 sz_38 zNC tk_42 sz_42 zND tk_44 sz_44 zNE tk_56 sz_56 zNF tk_59 sz_59 zNG tk_72 sz_72 zNH tk_80 sz_80 zNI tk_81 sz_81 zNJ tk_90 sz_90 zNK tk_91 sz_91 zNL tk_93 sz_93 zNM zOF zN7 zLM zOG zN8 zLN zOH zN9 zLO zOI zOA zLP zOJ zOB zLQ zOK zOC zLR zOL zOD zLS
open Go.RowKit
set_option linter.unusedVariables false
set_option linter.unusedSimpArgs false
def gi (xs:List Int)(k:Nat):Int:=xs.getD k 0
def gl (rows:List (List Int))(k:Nat):List Int:=rows.getD k []
def gb (xs:List Bool)(k:Nat):Bool:=xs.getD k false
theorem wC {xs:List Int}{k:Nat}(h:k<xs.length):xs[k]? =some (gi xs k):=by
 unfold gi;rw [List.getD_eq_getElem?_getD,List.getElem?_eq_getElem h];rfl
theorem UG {xs:List (List Int)}{k:Nat}(h:k<xs.length):xs[k]? =some (gl xs k):=by
 unfold gl;rw [List.getD_eq_getElem?_getD,List.getElem?_eq_getElem h];rfl
theorem zKl {xs:List Bool}{k:Nat}(h:k<xs.length):xs[k]? =some (gb xs k):=by
 unfold gb;rw [List.getD_eq_getElem?_getD,List.getElem?_eq_getElem h];rfl
def dI (xs:List Int):List D:=xs.map (.int .i64)
def dB (xs:List Bool):List D:=xs.map .bool
def dII (xss:List (List Int)):List D:=xss.map fun r=> .lst 2 (dI r)
@[reducible] def DI (xs : List Int) : D := .lst 2 (dI xs)
@[reducible] def DII (xss : List (List Int)) : D := .lst 22 (dII xss)
theorem WL (xs:List Int):(dI xs).length=xs.length:=by simp [dI]
theorem zNj (xs:List Bool):(dB xs).length=xs.length:=by simp [dB]
theorem WM (xs:List (List Int)):(dII xs).length=xs.length:=by simp [dII]
theorem zLg (xs:List Int)(i:Nat):Ql (dI xs) i=gi xs i:=by
 unfold Ql dI gi
 rw [List.getElem?_map,List.getD_eq_getElem?_getD]
 cases xs[i]? <;>rfl
theorem zLf (xs:List Bool)(i:Nat):getB (dB xs) i=gb xs i:=by
 unfold getB dB gb
 rw [List.getElem?_map,List.getD_eq_getElem?_getD]
 cases xs[i]? <;>rfl
theorem ko (xs:List (List Int))(i:Nat):xh (dII xs) i=dI (gl xs i):=by
 unfold xh dII gl
 rw [List.getElem?_map,List.getD_eq_getElem?_getD]
 cases xs[i]? <;>rfl
theorem zP {xs:List (List Int)}{i:Nat}(h:i<xs.length):vG (dII xs) i=2:=by
 unfold vG dII
 rw [List.getElem?_map,List.getElem?_eq_getElem h]
 rfl
theorem zK4 (xs:List Int)(i:Nat):xq (.int .i64) (dI xs) i=(i<xs.length):=by
 unfold xq dI
 rw [List.getElem?_map]
 apply propext
 constructor
 ·rintro⟨n,h⟩
  rcases Nat.lt_or_ge i xs.length with h'|h'
  ·exact h'
  ·rw [List.getElem?_eq_none h']at h;cases h
 ·intro h;rw [List.getElem?_eq_getElem h];exact⟨_,rfl⟩
theorem zK3 (xs:List Bool)(i:Nat):xq .bool (dB xs) i=(i<xs.length):=by
 unfold xq dB
 rw [List.getElem?_map]
 apply propext
 constructor
 ·rintro⟨n,h⟩
  rcases Nat.lt_or_ge i xs.length with h'|h'
  ·exact h'
  ·rw [List.getElem?_eq_none h']at h;cases h
 ·intro h;rw [List.getElem?_eq_getElem h];exact⟨_,rfl⟩
theorem kU (xs:List (List Int))(i:Nat):xq (.sl 2) (dII xs) i=(i<xs.length):=by
 unfold xq dII
 rw [List.getElem?_map]
 apply propext
 constructor
 ·rintro⟨n,h⟩
  rcases Nat.lt_or_ge i xs.length with h'|h'
  ·exact h'
  ·rw [List.getElem?_eq_none h']at h;cases h
 ·intro h;rw [List.getElem?_eq_getElem h];exact⟨_,rfl⟩
theorem JK (xs:List (List Int))(i:Nat):zo (dII xs) [i]=(i<xs.length):=by
 apply propext
 simp only [zo,and_true]
 unfold dII
 rw [List.getElem?_map]
 constructor
 ·rintro⟨e,n,h⟩
  rcases Nat.lt_or_ge i xs.length with h'|h'
  ·exact h'
  ·rw [List.getElem?_eq_none h']at h;cases h
 ·intro h;rw [List.getElem?_eq_getElem h];exact⟨_,_,rfl⟩
theorem zG3 (xs:List D):zo xs []=True:=by simp [zo]
theorem zLU (xs:List Int)(n:Nat):(dI xs).drop n=dI (xs.drop n):=by simp [dI]
theorem zMQ (xs:List Int)(n:Nat):(dI xs).take n=dI (xs.take n):=by simp [dI]
theorem zJY (xs:List (List Int))(n:Nat):(dII xs).drop n=dII (xs.drop n):=by simp [dII]
theorem zKW (xs:List (List Int))(n:Nat):(dII xs).take n=dII (xs.take n):=by simp [dII]
theorem zMt (xs ys:List Int):dI xs++dI ys=dI (xs++ys):=by simp [dI]
theorem zJK (xs:List Int):(dI xs).all xu=true:=by simp [dI,xu]
theorem zJJ (xs:List Bool):(dB xs).all xu=true:=by simp [dB,xu]
theorem zN5 (xs:List Int)(i:Nat)(n:Int):(dI xs).set i (.int .i64 n)=dI (xs.set i n):=by simp [dI]
theorem zN4 (xs:List Bool)(i:Nat)(b:Bool):(dB xs).set i (.bool b)=dB (xs.set i b):=by simp [dB]
theorem zLD (xs:List Int)(n:Int):dI xs++ [D.int .i64 n]=dI (xs++ [n]):=by simp [dI]
theorem zN0 (n:Nat)(x:Int):List.replicate n (D.int .i64 x)=dI (List.replicate n x):=by simp [dI]
theorem zNz (n:Nat)(x:Bool):List.replicate n (D.bool x)=dB (List.replicate n x):=by simp [dB]
theorem zIy (n:Nat):((n:Int)).toNat=n:=Int.toNat_natCast n
def zf (s:List (Nat×AV)):List (Nat×AV)→Prop
 | []=>True
 |(k,v)::l=>(v= .dead∨lk s k=some v)∧zf s l
def ze {α:Type}(s:List (Nat×α)):List (Nat×α)→Prop
 | []=>True
 |(k,v)::l=>lk s k=some v∧ze s l
theorem zFY {s:List (Nat×AV)}: ∀{l:List (Nat×AV)},zf s l→∀k v,lk l k=some v→v= .dead∨lk s k=some v
 | [],_,k,v,h=>by simp [lk]at h
 |(j,u)::l,hc,k,v,h=>by
  simp only [zg]at h
  split at h
  ·rename_i e;subst e;cases h;exact hc.1
  ·exact zFY hc.2 k v h
theorem zAB {α:Type}{s:List (Nat×α)}: ∀{l:List (Nat×α)},ze s l→∀k v,lk l k=some v→lk s k=some v
 | [],_,k,v,h=>by simp [lk]at h
 |(j,u)::l,hc,k,v,h=>by
  simp only [zg]at h
  split at h
  ·rename_i e;subst e;cases h;exact hc.1
  ·exact zAB hc.2 k v h
theorem zX {st st':St}(h1:st'.n=st.n)(h2:zf st.s st'.s)(h3:ze st.b st'.b)(h4:ze st.r st'.r):Cov st st':=⟨h1,zFY h2,zAB h3,zAB h4⟩
theorem zIq (xs:List D)(i:Nat)(x:D):vJ xs [] i x=xs.set i x:=rfl
theorem zHH (k:Nat):((k:Int) - 1).toNat=k - 1:=by omega
theorem zHG (k:Nat):((k:Int)+1).toNat=k+1:=by omega
theorem zNb (e:TypeId)(ys l:List D):xh (.lst e ys::l) 0=ys:=rfl
theorem zNa (x:D)(l:List D)(i:Nat):xh (x::l) (i+1)=xh l i:=rfl
theorem zNX (e:TypeId)(ys l:List D):vG (.lst e ys::l) 0=e:=rfl
theorem zNW (x:D)(l:List D)(i:Nat):vG (x::l) (i+1)=vG l i:=rfl
theorem zNZ (k:IntKind)(n:Int)(l:List D):Ql (.int k n::l) 0=n:=rfl
theorem zNY (x:D)(l:List D)(i:Nat):Ql (x::l) (i+1)=Ql l i:=rfl
theorem zJ9 (e:TypeId)(ys l:List D)(q:List Nat):zo (.lst e ys::l) (0::q)=zo ys q:=by
 apply propext
 simp only [zo,List.getElem?_cons_zero]
 constructor
 ·rintro⟨e',ys',h,h2⟩;cases h;exact h2
 ·exact fun h=>⟨e,ys,rfl,h⟩
theorem zJ8 (x:D)(l:List D)(i:Nat)(q:List Nat):zo (x::l) ((i+1)::q)=zo l (i::q):=by
 simp only [zo,List.getElem?_cons_succ]
theorem zK7 (e e':TypeId)(ys l:List D):xq (.sl e) (.lst e' ys::l) 0=(e=e'):=by
 apply propext
 simp only [xq,List.getElem?_cons_zero]
 constructor
 ·rintro⟨ys',h⟩;cases h;rfl
 ·rintro rfl;exact⟨ys,rfl⟩
theorem zK6 (k k':IntKind)(n:Int)(l:List D):xq (.int k) (.int k' n::l) 0=(k=k'):=by
 apply propext
 simp only [xq,List.getElem?_cons_zero]
 constructor
 ·rintro⟨ys',h⟩;cases h;rfl
 ·rintro rfl;exact⟨n,rfl⟩
theorem zMj (c:CK)(x:D)(l:List D)(i:Nat):xq c (x::l) (i+1)=xq c l i:=by
 cases c<;>simp only [xq,List.getElem?_cons_succ]
attribute [push_cast] zNb zNa zNX zNW zNZ zNY zJ9 zJ8 zK7 zK6 zMj
attribute [push_cast] KL Zo Us zAZ qY Ze YM fpA ve fpB fpC Vk vi YN zB6 qN Decidable.not_not Int.zero_add Bool.true_or Bool.or_true Int.toNat_zero Int.toNat_one zHH zHG false_implies true_implies decide_eq_true_eq decide_eq_false_iff_not Bool.not_eq_true' Bool.not_eq_false' beq_iff_eq beq_eq_false_iff_ne bne_iff_ne bne_eq_false_iff_eq Int.add_zero Option.some_beq_none Zg Zx Jb epL XT.cells fewX ZG XV Yr ZF YO vB VC Zm WC mkF Wm shE arC IntKind.bits jC uh qf WN XW UW Yd VU apart qt wi VL wI vb zEA zEB few Xc UN Zf zCX Kj List.mem_cons List.not_mem_nil Option.isNone_some Option.isNone_none List.set_cons_zero List.singleton_append zIq wY zAb qL yg St.settle St.app St.start St.cut UA AV.cut AV.cutL Zk QB wj Vs Vt Yn YR Xo orE ZL repC vp VX O3.own Za vH ZY wu JE kz wM Vw Yo Vd qy Dl.skip Dl.wr fp AV.nm AV.nmL Op.operands Call.operands St.clean yu List.foldr_cons List.foldr_nil St.reset vf aop yG zw zKi qZ effM qv ev zg xI cv cv1 Uy ar Wp jG unE vn YY zDJ Ya onR Yf YU JB wq zAW zAX jV WE wS fieldsOf lay ZX zG3 JK yW vo Zn wa zB2 zK4 zK3 kU zLg zLf ko WL zNj WM zLU zMQ zJY zKW zMt zJK zJJ zN5 zN4 zLD zN0 zNz zIy hom qw zCB Yb vl wF St.put St.addR St.delR St.moveR St.appG appG zB9 zCA St.setR St.setB St.addB St.kill vx rm AV.kill AV.killL is1 noB zb WZ appE jU zCF zAT scE scD uM CK.zeroD TK.cells O3.isSh O3.isEx cellsOf xN zCH vk yv yi yX zu VT.cells xi qo szL Zl wP wb xe xf zR zS qR vZ YG XN UJ uy Option.map_some Option.map_none Option.getD_some Option.getD_none List.map_cons List.map_nil List.getElem?_cons_zero List.getElem?_cons_succ List.getElem?_nil List.getD_cons_zero List.getD_cons_succ List.headD_cons List.tail_cons List.cons_append List.nil_append List.append_nil List.length_cons List.length_nil List.drop_zero List.take_zero List.drop_succ_cons List.take_succ_cons List.filter_cons List.filter_nil List.contains_cons List.contains_nil List.all_cons List.all_nil List.take_length Int.natCast_add Int.natCast_one Int.natCast_zero Int.cast_ofNat_Int Nat.zero_add Nat.add_zero Nat.mul_one Nat.div_one Nat.sub_zero Nat.zero_le if_true if_false true_and and_true and_self true_or or_true false_or or_false not_true_eq_false not_false_eq_true implies_true forall_const Bool.true_and Bool.and_true Bool.false_and Bool.and_false Bool.or_false Bool.false_or Bool.not_true Bool.not_false Bool.false_eq_true beq_self_eq_true eq_self_iff_true Option.some.injEq id_eq List.toList_toArray decide_true decide_false ne_eq forall_eq
def pre (a:List Int)(k:Nat):List Int:=a.take k++List.replicate (a.length - k) 0
def iot (k:Int):Nat→List Int
 |0=> []
 |n+1=>iot k n++ [k+n]
theorem zFi (k:Int): ∀n,(iot k n).length=n
 |0=>rfl
 |n+1=>by simp [iot,zFi k n]
def zEM (rs:List (List Int)):Nat:=(rs.map List.length).sum
def mkR (k:Int):List (List Int)→List (List Int)
 | []=> []
 |r::rs=>iot k r.length::mkR (k+r.length) rs
theorem zL5 (k:Int)(rs:List (List Int)):(mkR k rs).length=rs.length:=by
 induction rs generalizing k with
 |nil=>rfl
 |cons r rs ih=>simp [mkR,ih]
def less (l:Int)(n:Nat):Int:=if l - n<0 then -1 else l - n
def LnI (B:Nat)(a:List Int):Prop:=a.length≤B
def Yk (B:Nat)(a:List (List Int)):Prop:=a.length≤B∧∀r∈a,r.length≤B
theorem LnI.mono {B C:Nat}(hB:B≤C){a:List Int}(h:LnI B a):LnI C a:=Nat.le_trans h hB
theorem Yk.mono {B C:Nat}(hB:B≤C){a:List (List Int)}(h:Yk B a):Yk C a:=⟨Nat.le_trans h.1 hB,fun r hr=>Nat.le_trans (h.2 r hr) hB⟩
theorem zHj {P:Go.Program}{τ:Ty}{Q:Go.Exit→St→Prop}{st:St}{ι:Type}{x y:Go.Code}(ds rs:List Nat)(L:ι→List (Nat×AV))(B:ι→List (Nat×List AV))(R:ι→List (Nat×zq))(I:ι→Prop)
  (hx: ∀K:St→Prop,(∀st',(∃j,I j∧Cov st' (st.reset ds rs (L j) (B j) (R j)))→K st')→awp P τ x (zR K Q) st) (hy: ∀j,I j→awp P τ y Q (st.reset ds rs (L j) (B j) (R j))):awp P τ (.seq x y) Q st:=
 zJS (fun j=>st.reset ds rs (L j) (B j) (R j)) I hx hy
theorem zKX (k:Int)(n:Nat):(iot k n).take n=iot k n:=List.take_of_length_le (by rw [zFi];exact Nat.le_refl _)
theorem zKY (k:Int)(xs:List (List Int)):(mkR k xs).take xs.length=mkR k xs:=List.take_of_length_le (by rw [zL5];exact Nat.le_refl _)
theorem zME :List.range 0= []:=rfl
theorem zMF :List.range 1= [0]:=rfl
theorem zMG :List.range 2= [0,1]:=rfl
attribute [push_cast] List.map_nil zME zMF zMG
attribute [push_cast] zKX zKY
open Go Go.RowKit
def St.settleB (ks:List CK)(b:Nat)(st:St):St:=
 match lk st.b b with
 |none=>st
 |some cells=>
  match lk (qw [] ks st (zb b 0) [] cells).1.b b with
  |none=>st
  |some cells'=>if cells'.length=(qw [] ks st (zb b 0) [] cells).2.length then(qw [] ks st (zb b 0) [] cells).1.setB b (qw [] ks st (zb b 0) [] cells).2 else st
theorem jS {α:Type}{a b:List α}(h:b.length=a.length):lay a 0 b=b:=by
 unfold lay
 rw [Nat.zero_add,h,List.drop_length]
 simp
theorem yx {P:Program}{τ:Ty}(ks:List CK)(b:Nat){c:Code}{Q:Exit→St→Prop}{st:St}(h:awp P τ c Q (st.settleB ks b)):awp P τ c Q st:=by
 unfold St.settleB at h
 split at h
 ·exact h
 ·rename_i cells hl
  split at h
  ·exact h
  ·rename_i cells' hl'
   split at h
   ·rename_i hlen
    intro lo w0 a w hr
    obtain⟨ow,hd,bk,hrr⟩:=hr
    obtain⟨cs,ty,g1,g2,g3⟩:=hrr.box b cells hl
    obtain⟨ow1,hd1,r1,r2⟩:=Xz [] ks st ow hd (zb b 0) [] cells [] cs hrr (by simp [za]) g3
    obtain⟨cs0,ty0,k1,k2,k3⟩:=r1.box b cells' hl'
    rw [List.nil_append]at r2
    have e0:cs0=cs:=by
     rw [g1]at k1
     simp only [Option.some.injEq,Obj.cells.injEq]at k1
     have :=k1.1
     simpa using this.symm
    subst e0
    have hrel:=Qx r1 hl' k1 (i:=0) (by omega) k3 r2
    rw [jS rfl,jS hlen.symm,setRow_self w _ _ _ _ k1]at hrel
    exact h lo w0 a w ⟨ow1,hd1,bk,hrel⟩
   ·exact h
attribute [push_cast] St.settleB
theorem zJM (xs:List (List Int))(r:List Int):dII xs++ [D.lst 2 (dI r)]=dII (xs++ [r]):=by simp [dII]
theorem zLE (xs ys:List (List Int)):dII xs++dII ys=dII (xs++ys):=by simp [dII]
theorem Ui {xs:List (List Int)}{k:Nat}(h:k<xs.length):xs.take (k+1)=xs.take k++ [gl xs k]:=by rw [List.take_add_one,UG h];rfl
attribute [push_cast] zJM zLE
structure Ar where
 owner:List Int
 next:List (List Int)
 deriving DecidableEq
def dAr (x:Ar):List D:= [DI x.owner,DII x.next]
structure Ar.Ln (B:Nat)(x:Ar):Prop where
 owner:LnI B x.owner
 next:Yk B x.next
def Ar.cnt (x:Ar):Nat:=x.owner.length+zEM x.next
theorem Ar.ln_mono {B C:Nat}(hB:B≤C){x:Ar}(h:x.Ln B):x.Ln C:=⟨LnI.mono hB h.owner,Yk.mono hB h.next⟩
structure Wt where
 a:Ar
 cost:List (List Int)
 deriving DecidableEq
structure Wt.Ln (B:Nat)(x:Wt):Prop where
 a:x.a.Ln B
 cost:Yk B x.cost
def Wt.cnt (x:Wt):Nat:=x.a.owner.length+zEM x.a.next+zEM x.cost
theorem Wt.ln_mono {B C:Nat}(hB:B≤C){x:Wt}(h:x.Ln B):x.Ln C:=⟨Ar.ln_mono hB h.a,Yk.mono hB h.cost⟩
structure Ls where
 stem:List Int
 loop:List Int
 deriving DecidableEq
structure Ls.Ln (B:Nat)(x:Ls):Prop where
 stem:LnI B x.stem
 loop:LnI B x.loop
def Ls.cnt (x:Ls):Nat:=x.stem.length+x.loop.length
theorem Ls.ln_mono {B C:Nat}(hB:B≤C){x:Ls}(h:x.Ln B):x.Ln C:=⟨LnI.mono hB h.stem,LnI.mono hB h.loop⟩
structure Fm where
 names:List Int
 sets:List (List Int)
 deriving DecidableEq
def dFm (x:Fm):List D:= [DI x.names,DII x.sets]
structure Fm.Ln (B:Nat)(x:Fm):Prop where
 names:LnI B x.names
 sets:Yk B x.sets
def Fm.cnt (x:Fm):Nat:=x.names.length+zEM x.sets
theorem Fm.ln_mono {B C:Nat}(hB:B≤C){x:Fm}(h:x.Ln B):x.Ln C:=⟨LnI.mono hB h.names,Yk.mono hB h.sets⟩
structure Pr where
 ask:List Int
 give:List Int
 deriving DecidableEq
structure Pr.Ln (B:Nat)(x:Pr):Prop where
 ask:LnI B x.ask
 give:LnI B x.give
def Pr.cnt (x:Pr):Nat:=x.ask.length+x.give.length
theorem Pr.ln_mono {B C:Nat}(hB:B≤C){x:Pr}(h:x.Ln B):x.Ln C:=⟨LnI.mono hB h.ask,LnI.mono hB h.give⟩
structure Hid (R:Prop):Prop where
 o:R
section
variable {Q:Exit→St→Prop}{x y:Code}{st:St}{R:Prop}
theorem θA (h0:R)(h:Hid R→∀K:St→Prop,(∀s,awp Tryz.prog tyT y Q s→K s)→awp Tryz.prog tyT x (zR K Q) st:=by
 intro hR K hK
 refine zM zQ zN [] rfl ?_
 push_cast [↓zK,↓zJ]
 repeat' (first|apply And.intro|(intro hz;push_cast at hz)|(refine⟨_,by with_reducible assumption,?_⟩;push_cast [↓zK,↓zJ]))
 all_goals first|(refine hK _ ?_;clear hK K;(repeat revert hz);exact hR.o)|exact gB|exact gA|exact zP (by omega)|exact zP (by push_cast;omega)):awp Tryz.prog tyT (.seq x y) Q st:=zL (h ⟨h0⟩)
theorem θB (h0:R)(h:Hid R→awp Tryz.prog tyT x Q st:=by
 intro hR
 refine zM zQ zN [] rfl ?_
 push_cast [↓zK,↓zJ]
 repeat' (first|apply And.intro|(intro hz;push_cast at hz)|(refine⟨_,by with_reducible assumption,?_⟩;push_cast [↓zK,↓zJ]))
 all_goals first|exact gB|exact gA|exact zP (by omega)|exact zP (by push_cast;omega)|((repeat revert hz);exact hR.o)):awp Tryz.prog tyT x Q st:=h ⟨h0⟩
theorem θL {id:Nat}{ops:List Oper}(h: ∀K:St→Prop,(∀s,awp Tryz.prog tyT y Q s→K s)→vf Tryz.prog tyT [] ops K ops st)(hd:yr st.n ops=true:=by exact rfl):awp Tryz.prog tyT (.seq (.region id ops.toArray false) y) Q st:=zL fun K hK=>zM zQ zN [] hd (h K hK)
theorem θD (n:Nat){all:List Oper}{al:List Nat}{Q:St→Prop}{os:List Oper}(h0:R)(h:Hid R→∀K:St→Prop,(∀s,vf Tryz.prog tyT al all Q (os.drop n) s→K s)→vf Tryz.prog tyT al all K (os.take n) st:=by
 intro hR K hK
 push_cast [↓zK,↓zJ]
 repeat' (first|apply And.intro|(intro hz;push_cast at hz)|(refine⟨_,by with_reducible assumption,?_⟩;push_cast [↓zK,↓zJ]))
 all_goals first|(refine hK _ ?_;clear hK K;(repeat revert hz);exact hR.o)|exact gB|exact gA|exact zP (by omega)|exact zP (by push_cast;omega)):vf Tryz.prog tyT al all Q os st:=zj n (h ⟨h0⟩)
theorem θE {all os:List Oper}{al:List Nat}{K:St→Prop}(hK: ∀s,awp Tryz.prog tyT y Q s→K s)(h0:R)(h:Hid R→(∀s,awp Tryz.prog tyT y Q s→K s)→vf Tryz.prog tyT al all K os st:=by
 intro hR hK
 push_cast [↓zK,↓zJ]
 repeat' (first|apply And.intro|(intro hz;push_cast at hz)|(refine⟨_,by with_reducible assumption,?_⟩;push_cast [↓zK,↓zJ]))
 all_goals first|(refine hK _ ?_;(repeat revert hz);exact hR.o)|exact gB|exact gA|exact zP (by omega)|exact zP (by push_cast;omega)):vf Tryz.prog tyT al all K os st:=h ⟨h0⟩ hK
theorem θN (h0:R)(h:Hid R→∀K:St→Prop,(∀s,awp Tryz.prog tyT y Q s→K s)→awp Tryz.prog tyT x (zR K Q) st:=by
 intro hR K hK
 refine zc false zQ zN ?_ rfl ?_
 ·kernel_rfl
 push_cast [↓zK,↓zJ]
 repeat' (first|(apply zO<;>(intro hz;push_cast at hz))|apply And.intro|(intro hz;push_cast at hz)|(refine⟨_,by with_reducible assumption,?_⟩;push_cast [↓zK,↓zJ]))
 all_goals first|(refine hK _ ?_;clear hK K;(repeat revert hz);exact hR.o)|exact gB|exact gA|exact zP (by omega)|exact zP (by push_cast;omega)):awp Tryz.prog tyT (.seq x y) Q st:=zL (h ⟨h0⟩)
theorem θN2 {S:Prop}(h0:R)(h1:S)(h:Hid R→Hid S→∀K:St→Prop,(∀s,awp Tryz.prog tyT y Q s→K s)→awp Tryz.prog tyT x (zR K Q) st:=by
 intro hR hS K hK
 refine zc false zQ zN ?_ rfl ?_
 ·kernel_rfl
 push_cast [↓zK,↓zJ]
 repeat' (first|(apply zO<;>(intro hz;push_cast at hz))|apply And.intro|(intro hz;push_cast at hz)|(refine⟨_,by with_reducible assumption,?_⟩;push_cast [↓zK,↓zJ]))
 all_goals first|(refine hK _ ?_;clear hK K;(repeat revert hz);first|exact hR.o|exact hS.o)|exact gB|exact gA|exact zP (by omega)|exact zP (by push_cast;omega)):awp Tryz.prog tyT (.seq x y) Q st:=zL (h ⟨h0⟩ ⟨h1⟩)
theorem θN3 {S T:Prop}(h0:R)(h1:S)(h2:T)(h:Hid R→Hid S→Hid T→∀K:St→Prop,(∀s,awp Tryz.prog tyT y Q s→K s)→awp Tryz.prog tyT x (zR K Q) st:=by
 intro hR hS hT K hK
 refine zc false zQ zN ?_ rfl ?_
 ·kernel_rfl
 push_cast [↓zK,↓zJ]
 repeat' (first|(apply zO<;>(intro hz;push_cast at hz))|apply And.intro|(intro hz;push_cast at hz)|(refine⟨_,by with_reducible assumption,?_⟩;push_cast [↓zK,↓zJ]))
 all_goals first|(refine hK _ ?_;clear hK K;(repeat revert hz);first|exact hR.o|exact hS.o|exact hT.o)|exact gB|exact gA|exact zP (by omega)|exact zP (by push_cast;omega)):awp Tryz.prog tyT (.seq x y) Q st:=zL (h ⟨h0⟩ ⟨h1⟩ ⟨h2⟩)
theorem θU {c:Operand}{b:Bool}{C D:Prop}(hx:C→awp Tryz.prog tyT x Q st)(hy:D→awp Tryz.prog tyT y Q st)(hc:ev st c= .bool b:=by exact rfl)(h1:b=true→C:=by intro hc;(try simp only [push_cast]at hc);exact hc)(h2:b=false→D:=by intro hc;(try simp only [push_cast]at hc);exact hc):awp Tryz.prog tyT (.cond c x y) Q st:=zU hc (fun h=>hx (h1 h)) fun h=>hy (h2 h)
theorem θH {f:FuncId}{fn:Func}{n:Nat}{ts:List Tmp}{args ress:List VT}(hfn:Tryz.prog.funcs[f]? =some fn)(hn:fn.ntmps=n)(h:awp Tryz.prog tyT x (RetQ tyT ts ress) (Zl tyT n args))(hname:(fn.name== "runtime.NumGoroutine")=false:=by kernel_rfl)(hb:fn.body=some x:=by exact rfl)(hres:fn.results=(ts.map ResultVar.tmp).toArray:=by exact rfl)(hl:args.length≤n:=by exact Nat.le_of_ble_eq_true rfl)(hfew:few args=true:=by exact rfl)(hs:szA tyT args:=by simp only [szA,List.mem_cons,List.not_mem_nil,or_false,forall_eq_or_imp,forall_eq,VT.cells,szL];try decide):Fn Tryz.prog tyT f args ress:=zy hfn hname hb hres (by rw [hn];exact hl) hfew hs (by rw [hn];exact h)
theorem θC {C:Prop}(hC:C)(h0:R)(h:Hid R→∀K:St→Prop,(∀s,awp Tryz.prog tyT y Q s→K s)→awp Tryz.prog tyT x (zR K Q) st:=by
 intro hR K hK
 refine zM zQ zN [] rfl ?_
 push_cast [↓zK,↓zJ]
 repeat' (first|apply And.intro|(intro hz;push_cast at hz)|(refine⟨_,hC,?_⟩;push_cast [↓zK,↓zJ])|(refine⟨_,by with_reducible assumption,?_⟩;push_cast [↓zK,↓zJ]))
 all_goals first|(refine hK _ ?_;clear hK K;(repeat revert hz);exact hR.o)|exact gB|exact gA|exact zP (by omega)|exact zP (by push_cast;omega)):awp Tryz.prog tyT (.seq x y) Q st:=zL (h ⟨h0⟩)
theorem θC2 {C D:Prop}(hC:C)(hD:D)(h0:R)(h:Hid R→∀K:St→Prop,(∀s,awp Tryz.prog tyT y Q s→K s)→awp Tryz.prog tyT x (zR K Q) st:=by
 intro hR K hK
 refine zM zQ zN [] rfl ?_
 push_cast [↓zK,↓zJ]
 repeat' (first|apply And.intro|(intro hz;push_cast at hz)|(refine⟨_,hC,?_⟩;push_cast [↓zK,↓zJ])|(refine⟨_,hD,?_⟩;push_cast [↓zK,↓zJ])|(refine⟨_,by with_reducible assumption,?_⟩;push_cast [↓zK,↓zJ]))
 all_goals first|(refine hK _ ?_;clear hK K;(repeat revert hz);exact hR.o)|exact gB|exact gA|exact zP (by omega)|exact zP (by push_cast;omega)):awp Tryz.prog tyT (.seq x y) Q st:=zL (h ⟨h0⟩)
theorem θX {s s':St}(h1:s'.n=s.n:=by exact rfl)(h2:zf s.s s'.s:=by push_cast [zf,ze,↓zK,↓zJ])(h3:ze s.b s'.b:=by push_cast [zf,ze,↓zK,↓zJ])(h4:ze s.r s'.r:=by push_cast [zf,ze,↓zK,↓zJ]):Cov s s':=zX h1 h2 h3 h4
end
end Go.Proofs.YthepmdkpbjfdcaaGreat
