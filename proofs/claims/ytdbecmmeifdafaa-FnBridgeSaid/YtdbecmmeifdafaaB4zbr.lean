/- The types of this seat's program. Printed by tygen.py. -/
import Derived.Test.YtdbecmmeifdafaaGEzbr
import Derived.Test.YtdbecmmeifdafaaRows
import Derived.Laws.CopyRow
namespace Go.Proofs.Ytdbecmmeifdafaa
def tyT :Ty:= [(2, .sc (.int .i64),8),(3, .sc (.int .i64),8),(4, .sc .bool,1),(5, .sc (.int .u8),1),(21, .sc (.int .i32),4),(22, .sc (.sl 5),24),(26, .sc (.int .u64),8),(27, .sc (.sl 2),24),(28, .sc (.sl 27),24),(30, .st [.sl 2, .sl 27] [(0,27),(1,28)],48),(32, .st [.sl 2, .sl 27, .sl 27] [(0,30),(2,28)],72),(43, .st [.sl 2, .sl 2] [(0,27),(1,27)],48),(46, .sc (.sl 50),24),(50, .st [.int .i64, .int .i64] [(0,2),(1,2)],16),(58, .sc (.sl 66),24),(66, .st [.sl 2, .sl 2] [(0,27),(1,27)],48),(69, .st [.sl 2, .sl 27, .sl 2] [(0,30),(2,27)],72),(74, .st [.sl 2, .sl 2] [(0,27),(1,27)],48),(79, .st [.sl 5, .int .i64, .int .u64] [(0,22),(1,3),(2,26)],40),(100, .sc (.sl 4),24),(101, .sc (.int .u64),8),(118, .st [.sl 5, .int .i64, .int .i64] [(0,22),(1,3),(2,2)],40),(127, .st [.sl 2, .sl 2, .sl 27, .sl 27, .sl 2] [(0,27),(1,27),(2,28),(3,28),(4,27)],120)]
theorem zP :yB Try.prog tyT:=zIJ (by kernel_rfl)
theorem zN :yd tyT:=zG2 (by kernel_rfl)
theorem yj :Try.prog.follows .mixedOrders=true:=by kernel_rfl
theorem tk_2 :tk tyT 2=some (.sc (.int .i64),8):=rfl
theorem sz_2 :sz tyT 2=1:=rfl
theorem cks_2 :cks tyT 2= [.int .i64]:=rfl
theorem tk_3 :tk tyT 3=some (.sc (.int .i64),8):=rfl
theorem sz_3 :sz tyT 3=1:=rfl
theorem cks_3 :cks tyT 3= [.int .i64]:=rfl
theorem tk_4 :tk tyT 4=some (.sc .bool,1):=rfl
theorem sz_4 :sz tyT 4=1:=rfl
theorem cks_4 :cks tyT 4= [.bool]:=rfl
theorem tk_5 :tk tyT 5=some (.sc (.int .u8),1):=rfl
theorem sz_5 :sz tyT 5=1:=rfl
theorem cks_5 :cks tyT 5= [.int .u8]:=rfl
theorem tk_21 :tk tyT 21=some (.sc (.int .i32),4):=rfl
theorem sz_21 :sz tyT 21=1:=rfl
theorem zJG :cks tyT 21= [.int .i32]:=rfl
theorem tk_22 :tk tyT 22=some (.sc (.sl 5),24):=rfl
theorem sz_22 :sz tyT 22=1:=rfl
theorem zJf :cks tyT 22= [.sl 5]:=rfl
theorem tk_26 :tk tyT 26=some (.sc (.int .u64),8):=rfl
theorem sz_26 :sz tyT 26=1:=rfl
theorem zI0 :cks tyT 26= [.int .u64]:=rfl
theorem tk_27 :tk tyT 27=some (.sc (.sl 2),24):=rfl
theorem sz_27 :sz tyT 27=1:=rfl
theorem zJb :cks tyT 27= [.sl 2]:=rfl
theorem tk_28 :tk tyT 28=some (.sc (.sl 27),24):=rfl
theorem sz_28 :sz tyT 28=1:=rfl
theorem zJd :cks tyT 28= [.sl 27]:=rfl
theorem tk_30 :tk tyT 30=some (.st [.sl 2, .sl 27] [(0,27),(1,28)],48):=rfl
theorem sz_30 :sz tyT 30=2:=rfl
theorem zJj :cks tyT 30= [.sl 2, .sl 27]:=rfl
theorem tk_32 :tk tyT 32=some (.st [.sl 2, .sl 27, .sl 27] [(0,30),(2,28)],72):=rfl
theorem sz_32 :sz tyT 32=3:=rfl
theorem zIu :cks tyT 32= [.sl 2, .sl 27, .sl 27]:=rfl
theorem tk_43 :tk tyT 43=some (.st [.sl 2, .sl 2] [(0,27),(1,27)],48):=rfl
theorem sz_43 :sz tyT 43=2:=rfl
theorem zJp :cks tyT 43= [.sl 2, .sl 2]:=rfl
theorem tk_46 :tk tyT 46=some (.sc (.sl 50),24):=rfl
theorem sz_46 :sz tyT 46=1:=rfl
theorem zJH :cks tyT 46= [.sl 50]:=rfl
theorem tk_50 :tk tyT 50=some (.st [.int .i64, .int .i64] [(0,2),(1,2)],16):=rfl
theorem sz_50 :sz tyT 50=2:=rfl
theorem zJI :cks tyT 50= [.int .i64, .int .i64]:=rfl
theorem tk_58 :tk tyT 58=some (.sc (.sl 66),24):=rfl
theorem sz_58 :sz tyT 58=1:=rfl
theorem zIm :cks tyT 58= [.sl 66]:=rfl
theorem tk_66 :tk tyT 66=some (.st [.sl 2, .sl 2] [(0,27),(1,27)],48):=rfl
theorem sz_66 :sz tyT 66=2:=rfl
theorem zI4 :cks tyT 66= [.sl 2, .sl 2]:=rfl
theorem tk_69 :tk tyT 69=some (.st [.sl 2, .sl 27, .sl 2] [(0,30),(2,27)],72):=rfl
theorem sz_69 :sz tyT 69=3:=rfl
theorem zJc :cks tyT 69= [.sl 2, .sl 27, .sl 2]:=rfl
theorem tk_74 :tk tyT 74=some (.st [.sl 2, .sl 2] [(0,27),(1,27)],48):=rfl
theorem sz_74 :sz tyT 74=2:=rfl
theorem zI9 :cks tyT 74= [.sl 2, .sl 2]:=rfl
theorem tk_79 :tk tyT 79=some (.st [.sl 5, .int .i64, .int .u64] [(0,22),(1,3),(2,26)],40):=rfl
theorem sz_79 :sz tyT 79=3:=rfl
theorem zJ4 :cks tyT 79= [.sl 5, .int .i64, .int .u64]:=rfl
theorem zJY :tk tyT 100=some (.sc (.sl 4),24):=rfl
theorem zIk :sz tyT 100=1:=rfl
theorem zHY :cks tyT 100= [.sl 4]:=rfl
theorem zIp :tk tyT 101=some (.sc (.int .u64),8):=rfl
theorem zIi :sz tyT 101=1:=rfl
theorem zHP :cks tyT 101= [.int .u64]:=rfl
theorem zIj :tk tyT 118=some (.st [.sl 5, .int .i64, .int .i64] [(0,22),(1,3),(2,2)],40):=rfl
theorem zJ2 :sz tyT 118=3:=rfl
theorem zHh :cks tyT 118= [.sl 5, .int .i64, .int .i64]:=rfl
theorem zIs :tk tyT 127=some (.st [.sl 2, .sl 2, .sl 27, .sl 27, .sl 2] [(0,27),(1,27),(2,28),(3,28),(4,27)],120):=rfl
theorem zI7 :sz tyT 127=5:=rfl
theorem zHS :cks tyT 127= [.sl 2, .sl 2, .sl 27, .sl 27, .sl 2]:=rfl
attribute [push_cast] tk_2 sz_2 cks_2 tk_3 sz_3 cks_3 tk_4 sz_4 cks_4 tk_5 sz_5 cks_5 tk_21 sz_21 zJG tk_22 sz_22 zJf tk_26 sz_26 zI0 tk_27 sz_27 zJb tk_28 sz_28 zJd tk_30 sz_30 zJj tk_32 sz_32 zIu tk_43 sz_43 zJp tk_46 sz_46 zJH tk_50 sz_50 zJI tk_58 sz_58 zIm tk_66 sz_66 zI4 tk_69 sz_69 zJc tk_74 sz_74 zI9 tk_79 sz_79 zJ4 zJY zIk zHY zIp zIi zHP zIj zJ2 zHh zIs zI7 zHS
open Go.RowKit
set_option linter.unusedVariables false
set_option linter.unusedSimpArgs false
def gi (xs:List Int)(k:Nat):Int:=xs.getD k 0
def gl (rows:List (List Int))(k:Nat):List Int:=rows.getD k []
def gb (xs:List Bool)(k:Nat):Bool:=xs.getD k false
theorem vb {xs:List Int}{k:Nat}(h:k<xs.length):xs[k]? =some (gi xs k):=by
 unfold gi;rw [List.getD_eq_getElem?_getD,List.getElem?_eq_getElem h];rfl
theorem Wr {xs:List (List Int)}{k:Nat}(h:k<xs.length):xs[k]? =some (gl xs k):=by
 unfold gl;rw [List.getD_eq_getElem?_getD,List.getElem?_eq_getElem h];rfl
theorem zG9 {xs:List Bool}{k:Nat}(h:k<xs.length):xs[k]? =some (gb xs k):=by
 unfold gb;rw [List.getD_eq_getElem?_getD,List.getElem?_eq_getElem h];rfl
def dI (xs:List Int):List D:=xs.map (.int .i64)
def dB (xs:List Bool):List D:=xs.map .bool
def dII (xss:List (List Int)):List D:=xss.map fun r=> .lst 2 (dI r)
@[reducible] def DI (xs : List Int) : D := .lst 2 (dI xs)
@[reducible] def DII (xss : List (List Int)) : D := .lst 27 (dII xss)
theorem zED (xs:List Int):(dI xs).length=xs.length:=by simp [dI]
theorem zJC (xs:List Bool):(dB xs).length=xs.length:=by simp [dB]
theorem YH (xs:List (List Int)):(dII xs).length=xs.length:=by simp [dII]
theorem zHZ (xs:List Int)(i:Nat):YK (dI xs) i=gi xs i:=by
 unfold YK dI gi
 rw [List.getElem?_map,List.getD_eq_getElem?_getD]
 cases xs[i]? <;>rfl
theorem zHv (xs:List Bool)(i:Nat):getB (dB xs) i=gb xs i:=by
 unfold getB dB gb
 rw [List.getElem?_map,List.getD_eq_getElem?_getD]
 cases xs[i]? <;>rfl
theorem zGt (xs:List (List Int))(i:Nat):xl (dII xs) i=dI (gl xs i):=by
 unfold xl dII gl
 rw [List.getElem?_map,List.getD_eq_getElem?_getD]
 cases xs[i]? <;>rfl
theorem zQ {xs:List (List Int)}{i:Nat}(h:i<xs.length):vS (dII xs) i=2:=by
 unfold vS dII
 rw [List.getElem?_map,List.getElem?_eq_getElem h]
 rfl
theorem zHX (xs:List Int)(i:Nat):xi (.int .i64) (dI xs) i=(i<xs.length):=by
 unfold xi dI
 rw [List.getElem?_map]
 apply propext
 constructor
 ·rintro⟨n,h⟩
  rcases Nat.lt_or_ge i xs.length with h'|h'
  ·exact h'
  ·rw [List.getElem?_eq_none h']at h;cases h
 ·intro h;rw [List.getElem?_eq_getElem h];exact⟨_,rfl⟩
theorem zHQ (xs:List Bool)(i:Nat):xi .bool (dB xs) i=(i<xs.length):=by
 unfold xi dB
 rw [List.getElem?_map]
 apply propext
 constructor
 ·rintro⟨n,h⟩
  rcases Nat.lt_or_ge i xs.length with h'|h'
  ·exact h'
  ·rw [List.getElem?_eq_none h']at h;cases h
 ·intro h;rw [List.getElem?_eq_getElem h];exact⟨_,rfl⟩
theorem zGi (xs:List (List Int))(i:Nat):xi (.sl 2) (dII xs) i=(i<xs.length):=by
 unfold xi dII
 rw [List.getElem?_map]
 apply propext
 constructor
 ·rintro⟨n,h⟩
  rcases Nat.lt_or_ge i xs.length with h'|h'
  ·exact h'
  ·rw [List.getElem?_eq_none h']at h;cases h
 ·intro h;rw [List.getElem?_eq_getElem h];exact⟨_,rfl⟩
theorem zDK (xs:List (List Int))(i:Nat):zl (dII xs) [i]=(i<xs.length):=by
 apply propext
 simp only [zl,and_true]
 unfold dII
 rw [List.getElem?_map]
 constructor
 ·rintro⟨e,n,h⟩
  rcases Nat.lt_or_ge i xs.length with h'|h'
  ·exact h'
  ·rw [List.getElem?_eq_none h']at h;cases h
 ·intro h;rw [List.getElem?_eq_getElem h];exact⟨_,_,rfl⟩
theorem zDV (xs:List D):zl xs []=True:=by simp [zl]
theorem zH7 (xs:List Int)(n:Nat):(dI xs).drop n=dI (xs.drop n):=by simp [dI]
theorem zHT (xs:List Int)(n:Nat):(dI xs).take n=dI (xs.take n):=by simp [dI]
theorem zF8 (xs:List (List Int))(n:Nat):(dII xs).drop n=dII (xs.drop n):=by simp [dII]
theorem zFr (xs:List (List Int))(n:Nat):(dII xs).take n=dII (xs.take n):=by simp [dII]
theorem zIl (xs ys:List Int):dI xs++dI ys=dI (xs++ys):=by simp [dI]
theorem zF9 (xs:List Int):(dI xs).all xq=true:=by simp [dI,xq]
theorem zGp (xs:List Bool):(dB xs).all xq=true:=by simp [dB,xq]
theorem zJa (xs:List Int)(i:Nat)(n:Int):(dI xs).set i (.int .i64 n)=dI (xs.set i n):=by simp [dI]
theorem zJA (xs:List Bool)(i:Nat)(b:Bool):(dB xs).set i (.bool b)=dB (xs.set i b):=by simp [dB]
theorem zHr (xs:List Int)(n:Int):dI xs++ [D.int .i64 n]=dI (xs++ [n]):=by simp [dI]
theorem zJh (n:Nat)(x:Int):List.replicate n (D.int .i64 x)=dI (List.replicate n x):=by simp [dI]
theorem zJm (n:Nat)(x:Bool):List.replicate n (D.bool x)=dB (List.replicate n x):=by simp [dB]
theorem zEv (n:Nat):((n:Int)).toNat=n:=Int.toNat_natCast n
def zc (s:List (Nat×AV)):List (Nat×AV)→Prop
 | []=>True
 |(k,v)::l=>(v= .dead∨lk s k=some v)∧zc s l
def zb {α:Type}(s:List (Nat×α)):List (Nat×α)→Prop
 | []=>True
 |(k,v)::l=>lk s k=some v∧zb s l
theorem zCc {s:List (Nat×AV)}: ∀{l:List (Nat×AV)},zc s l→∀k v,lk l k=some v→v= .dead∨lk s k=some v
 | [],_,k,v,h=>by simp [lk]at h
 |(j,u)::l,hc,k,v,h=>by
  simp only [zh]at h
  split at h
  ·rename_i e;subst e;cases h;exact hc.1
  ·exact zCc hc.2 k v h
theorem kC {α:Type}{s:List (Nat×α)}: ∀{l:List (Nat×α)},zb s l→∀k v,lk l k=some v→lk s k=some v
 | [],_,k,v,h=>by simp [lk]at h
 |(j,u)::l,hc,k,v,h=>by
  simp only [zh]at h
  split at h
  ·rename_i e;subst e;cases h;exact hc.1
  ·exact kC hc.2 k v h
theorem zW {st st':St}(h1:st'.n=st.n)(h2:zc st.s st'.s)(h3:zb st.b st'.b)(h4:zb st.r st'.r):Cov st st':=⟨h1,zCc h2,kC h3,kC h4⟩
theorem zEn (xs:List D)(i:Nat)(x:D):qZ xs [] i x=xs.set i x:=rfl
theorem zDf (k:Nat):((k:Int) - 1).toNat=k - 1:=by omega
theorem zD7 (k:Nat):((k:Int)+1).toNat=k+1:=by omega
theorem zJy (e:TypeId)(ys l:List D):xl (.lst e ys::l) 0=ys:=rfl
theorem zIw (x:D)(l:List D)(i:Nat):xl (x::l) (i+1)=xl l i:=rfl
theorem zI3 (e:TypeId)(ys l:List D):vS (.lst e ys::l) 0=e:=rfl
theorem zJJ (x:D)(l:List D)(i:Nat):vS (x::l) (i+1)=vS l i:=rfl
theorem zIr (k:IntKind)(n:Int)(l:List D):YK (.int k n::l) 0=n:=rfl
theorem zI1 (x:D)(l:List D)(i:Nat):YK (x::l) (i+1)=YK l i:=rfl
theorem zG6 (e:TypeId)(ys l:List D)(q:List Nat):zl (.lst e ys::l) (0::q)=zl ys q:=by
 apply propext
 simp only [zl,List.getElem?_cons_zero]
 constructor
 ·rintro⟨e',ys',h,h2⟩;cases h;exact h2
 ·exact fun h=>⟨e,ys,rfl,h⟩
theorem zFx (x:D)(l:List D)(i:Nat)(q:List Nat):zl (x::l) ((i+1)::q)=zl l (i::q):=by
 simp only [zl,List.getElem?_cons_succ]
theorem zHj (e e':TypeId)(ys l:List D):xi (.sl e) (.lst e' ys::l) 0=(e=e'):=by
 apply propext
 simp only [xi,List.getElem?_cons_zero]
 constructor
 ·rintro⟨ys',h⟩;cases h;rfl
 ·rintro rfl;exact⟨ys,rfl⟩
theorem zIg (k k':IntKind)(n:Int)(l:List D):xi (.int k) (.int k' n::l) 0=(k=k'):=by
 apply propext
 simp only [xi,List.getElem?_cons_zero]
 constructor
 ·rintro⟨ys',h⟩;cases h;rfl
 ·rintro rfl;exact⟨n,rfl⟩
theorem zI8 (c:CK)(x:D)(l:List D)(i:Nat):xi c (x::l) (i+1)=xi c l i:=by
 cases c<;>simp only [xi,List.getElem?_cons_succ]
attribute [push_cast] zJy zIw zI3 zJJ zIr zI1 zG6 zFx zHj zIg zI8
attribute [push_cast] Wn wq kR jt Zh wo kb fpA ZP fpB fpC Zb UR xk Decidable.not_not Int.zero_add Bool.true_or Bool.or_true Int.toNat_zero Int.toNat_one zDf zD7 false_implies true_implies decide_eq_true_eq decide_eq_false_iff_not Bool.not_eq_true' Bool.not_eq_false' beq_iff_eq beq_eq_false_iff_ne bne_iff_ne bne_eq_false_iff_eq Int.add_zero Option.some_beq_none XT.cells ZS qT XW shE arC IntKind.bits vv XL cellAt JI ZN XY apart qI vy Xi vm zA9 Ur few Qg Ke wk WC XJ List.mem_cons List.not_mem_nil Option.isNone_some Option.isNone_none List.set_cons_zero List.singleton_append zEn vp kV qn yh St.settle St.app St.start St.cut jK AV.cut AV.cutL wj Yq vx QF QC Xs Zr Yb orE wR repC vD Xj O3.own wg qq we wM VP KM vM Xt YG Xu qQ Dl.skip Dl.wr fp AV.nm AV.nmL Op.operands Call.operands St.clean yv List.foldr_cons List.foldr_nil St.reset vN aop zz zo zHL qE effM qR ev zh yw cv cv1 jz ar Ve Wy unE qz Za Uu Zf onR ZX Ze Qk wG kQ kD JE Qf vi fieldsOf lay wU zDV zDK yU ve wx vl UY zHX zHQ zGi zHZ zHv zGt zED zJC YH zH7 zHT zF8 zFr zIl zF9 zGp zJa zJA zHr zJh zJm zEv hom qP UU ZU vF vV St.put St.addR St.delR St.moveR St.appG appG UW Ub St.setR St.setB St.addB St.kill QM rm AV.kill AV.killL is1 noB zZ Qd appE JF UV kG scE scD KB CK.zeroD TK.cells O3.isSh O3.isEx cellsOf yi US wB ye yf yO zr VT.cells xE qV szL wv vj ZW xI yy zR zS xn qj ZJ YN jm jk Option.map_some Option.map_none Option.getD_some Option.getD_none List.map_cons List.map_nil List.getElem?_cons_zero List.getElem?_cons_succ List.getElem?_nil List.getD_cons_zero List.getD_cons_succ List.headD_cons List.tail_cons List.cons_append List.nil_append List.append_nil List.length_cons List.length_nil List.drop_zero List.take_zero List.drop_succ_cons List.take_succ_cons List.filter_cons List.filter_nil List.contains_cons List.contains_nil List.all_cons List.all_nil List.take_length Int.natCast_add Int.natCast_one Int.natCast_zero Int.cast_ofNat_Int Nat.zero_add Nat.add_zero Nat.mul_one Nat.div_one Nat.sub_zero Nat.zero_le if_true if_false true_and and_true and_self true_or or_true false_or or_false not_true_eq_false not_false_eq_true implies_true forall_const Bool.true_and Bool.and_true Bool.false_and Bool.and_false Bool.or_false Bool.false_or Bool.not_true Bool.not_false Bool.false_eq_true beq_self_eq_true eq_self_iff_true Option.some.injEq id_eq List.toList_toArray decide_true decide_false ne_eq forall_eq
def pre (a:List Int)(k:Nat):List Int:=a.take k++List.replicate (a.length - k) 0
def iot (k:Int):Nat→List Int
 |0=> []
 |n+1=>iot k n++ [k+n]
theorem zCF (k:Int): ∀n,(iot k n).length=n
 |0=>rfl
 |n+1=>by simp [iot,zCF k n]
def Up (rs:List (List Int)):Nat:=(rs.map List.length).sum
def mkR (k:Int):List (List Int)→List (List Int)
 | []=> []
 |r::rs=>iot k r.length::mkR (k+r.length) rs
theorem zHc (k:Int)(rs:List (List Int)):(mkR k rs).length=rs.length:=by
 induction rs generalizing k with
 |nil=>rfl
 |cons r rs ih=>simp [mkR,ih]
def Zm (l:Int)(n:Nat):Int:=if l - n<0 then -1 else l - n
def LnI (B:Nat)(a:List Int):Prop:=a.length≤B
def QH (B:Nat)(a:List (List Int)):Prop:=a.length≤B∧∀r∈a,r.length≤B
theorem LnI.mono {B C:Nat}(hB:B≤C){a:List Int}(h:LnI B a):LnI C a:=Nat.le_trans h hB
theorem QH.mono {B C:Nat}(hB:B≤C){a:List (List Int)}(h:QH B a):QH C a:=⟨Nat.le_trans h.1 hB,fun r hr=>Nat.le_trans (h.2 r hr) hB⟩
theorem zFW {P:Go.Program}{τ:Ty}{Q:Go.Exit→St→Prop}{st:St}{ι:Type}{x y:Go.Code}(ds rs:List Nat)(L:ι→List (Nat×AV))(B:ι→List (Nat×List AV))(R:ι→List (Nat×zq))(I:ι→Prop)
  (hx: ∀K:St→Prop,(∀st',(∃j,I j∧Cov st' (st.reset ds rs (L j) (B j) (R j)))→K st')→awp P τ x (zR K Q) st) (hy: ∀j,I j→awp P τ y Q (st.reset ds rs (L j) (B j) (R j))):awp P τ (.seq x y) Q st:=
 zF5 (fun j=>st.reset ds rs (L j) (B j) (R j)) I hx hy
theorem zGv (k:Int)(n:Nat):(iot k n).take n=iot k n:=List.take_of_length_le (by rw [zCF];exact Nat.le_refl _)
theorem zGD (k:Int)(xs:List (List Int)):(mkR k xs).take xs.length=mkR k xs:=List.take_of_length_le (by rw [zHc];exact Nat.le_refl _)
theorem zIW :List.range 0= []:=rfl
theorem zIF :List.range 1= [0]:=rfl
theorem zIY :List.range 2= [0,1]:=rfl
attribute [push_cast] List.map_nil zIW zIF zIY
attribute [push_cast] zGv zGD
open Go Go.RowKit
def St.settleB (ks:List CK)(b:Nat)(st:St):St:=
 match lk st.b b with
 |none=>st
 |some cells=>
  match lk (qP [] ks st (zZ b 0) [] cells).1.b b with
  |none=>st
  |some cells'=>if cells'.length=(qP [] ks st (zZ b 0) [] cells).2.length then(qP [] ks st (zZ b 0) [] cells).1.setB b (qP [] ks st (zZ b 0) [] cells).2 else st
theorem JJ {α:Type}{a b:List α}(h:b.length=a.length):lay a 0 b=b:=by
 unfold lay
 rw [Nat.zero_add,h,List.drop_length]
 simp
theorem wi {P:Program}{τ:Ty}(ks:List CK)(b:Nat){c:Code}{Q:Exit→St→Prop}{st:St}(h:awp P τ c Q (st.settleB ks b)):awp P τ c Q st:=by
 unfold St.settleB at h
 split at h
 ·exact h
 ·rename_i cells hl
  split at h
  ·exact h
  ·rename_i cells' hl'
   split at h
   ·rename_i hlen
    intro lo w0 a w hr
    obtain⟨ow,hd,bk,hrr⟩:=hr
    obtain⟨cs,ty,g1,g2,g3⟩:=hrr.box b cells hl
    obtain⟨ow1,hd1,r1,r2⟩:=Yg [] ks st ow hd (zZ b 0) [] cells [] cs hrr (by simp [zY]) g3
    obtain⟨cs0,ty0,k1,k2,k3⟩:=r1.box b cells' hl'
    rw [List.nil_append]at r2
    have e0:cs0=cs:=by
     rw [g1]at k1
     simp only [Option.some.injEq,Obj.cells.injEq]at k1
     have :=k1.1
     simpa using this.symm
    subst e0
    have hrel:=XX r1 hl' k1 (i:=0) (by omega) k3 r2
    rw [JJ rfl,JJ hlen.symm,setRow_self w _ _ _ _ k1]at hrel
    exact h lo w0 a w ⟨ow1,hd1,bk,hrel⟩
   ·exact h
attribute [push_cast] St.settleB
theorem zFo (xs:List (List Int))(r:List Int):dII xs++ [D.lst 2 (dI r)]=dII (xs++ [r]):=by simp [dII]
theorem zIZ (xs ys:List (List Int)):dII xs++dII ys=dII (xs++ys):=by simp [dII]
theorem jG {xs:List (List Int)}{k:Nat}(h:k<xs.length):xs.take (k+1)=xs.take k++ [gl xs k]:=by rw [List.take_add_one,Wr h];rfl
theorem Kt {xs:List Int}{k:Nat}(h:k<xs.length):xs.take (k+1)=xs.take k++ [gi xs k]:=by rw [List.take_add_one,vb h];rfl
attribute [push_cast] zFo zIZ
structure Ar where
 owner:List Int
 next:List (List Int)
 deriving DecidableEq
def dAr (x:Ar):List D:= [DI x.owner,DII x.next]
structure Ar.Ln (B:Nat)(x:Ar):Prop where
 owner:LnI B x.owner
 next:QH B x.next
def Ar.cnt (x:Ar):Nat:=x.owner.length+Up x.next
structure Wt where
 a:Ar
 cost:List (List Int)
 deriving DecidableEq
def dWt (x:Wt):List D:= [DI x.a.owner,DII x.a.next,DII x.cost]
structure Wt.Ln (B:Nat)(x:Wt):Prop where
 a:x.a.Ln B
 cost:QH B x.cost
def Wt.cnt (x:Wt):Nat:=x.a.owner.length+Up x.a.next+Up x.cost
structure Ls where
 stem:List Int
 loop:List Int
 deriving DecidableEq
def dLs (x:Ls):List D:= [DI x.stem,DI x.loop]
structure Ls.Ln (B:Nat)(x:Ls):Prop where
 stem:LnI B x.stem
 loop:LnI B x.loop
def Ls.cnt (x:Ls):Nat:=x.stem.length+x.loop.length
structure Fm where
 names:List Int
 sets:List (List Int)
 deriving DecidableEq
structure Fm.Ln (B:Nat)(x:Fm):Prop where
 names:LnI B x.names
 sets:QH B x.sets
def Fm.cnt (x:Fm):Nat:=x.names.length+Up x.sets
structure Pr where
 ask:List Int
 give:List Int
 deriving DecidableEq
structure Pr.Ln (B:Nat)(x:Pr):Prop where
 ask:LnI B x.ask
 give:LnI B x.give
def Pr.cnt (x:Pr):Nat:=x.ask.length+x.give.length
end Go.Proofs.Ytdbecmmeifdafaa
