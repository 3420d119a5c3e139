/- The types of this seat's program. Printed by tygen.py. -/
import Derived.Test.YtggpbepdeilpgaaGEzmt
import Derived.Test.YtggpbepdeilpgaaRows
import Derived.Laws.CopyRow
namespace Go.Proofs.Ytggpbepdeilpgaa
def tyT :Ty:= [(2, .sc (.int .i64),8),(3, .sc (.int .i64),8),(4, .sc .bool,1),(5, .sc (.int .u8),1),(21, .sc (.int .i32),4),(22, .sc (.sl 2),24),(23, .sc (.sl 22),24),(25, .st [.sl 2, .sl 22] [(0,22),(1,23)],48),(26, .sc (.sl 68),24),(28, .st [.sl 22, .sl 22] [(0,23),(1,23)],48),(33, .st [.sl 2, .sl 22] [(0,22),(1,23)],48),(35, .sc (.sl 76),24),(37, .st [.sl 22, .sl 22] [(0,23),(1,23)],48),(43, .sc (.sl 5),24),(47, .sc (.int .u64),8),(58, .st [.sl 2, .sl 2] [(0,22),(1,22)],48),(68, .st [.sl 2, .sl 2] [(0,22),(1,22)],48),(72, .sc (.sl 78),24),(75, .sc (.sl 4),24),(76, .st [.sl 2, .sl 2] [(0,22),(1,22)],48),(78, .st [.int .i64, .sl 2] [(0,2),(1,22)],32),(90, .st [.sl 5, .int .i64, .int .u64] [(0,43),(1,3),(2,47)],40),(92, .sc (.int .u64),8)]
theorem zQ :zx Try.prog tyT:=zJg (by kernel_rfl)
theorem zO :yL tyT:=zHs (by kernel_rfl)
theorem xW :Try.prog.follows .mixedOrders=true:=by kernel_rfl
theorem tk_2 :tk tyT 2=some (.sc (.int .i64),8):=rfl
theorem sz_2 :sz tyT 2=1:=rfl
theorem cks_2 :cks tyT 2= [.int .i64]:=rfl
theorem tk_3 :tk tyT 3=some (.sc (.int .i64),8):=rfl
theorem sz_3 :sz tyT 3=1:=rfl
theorem cks_3 :cks tyT 3= [.int .i64]:=rfl
theorem tk_4 :tk tyT 4=some (.sc .bool,1):=rfl
theorem sz_4 :sz tyT 4=1:=rfl
theorem cks_4 :cks tyT 4= [.bool]:=rfl
theorem tk_5 :tk tyT 5=some (.sc (.int .u8),1):=rfl
theorem sz_5 :sz tyT 5=1:=rfl
theorem cks_5 :cks tyT 5= [.int .u8]:=rfl
theorem tk_21 :tk tyT 21=some (.sc (.int .i32),4):=rfl
theorem sz_21 :sz tyT 21=1:=rfl
theorem zJ3 :cks tyT 21= [.int .i32]:=rfl
theorem tk_22 :tk tyT 22=some (.sc (.sl 2),24):=rfl
theorem sz_22 :sz tyT 22=1:=rfl
theorem zJ4 :cks tyT 22= [.sl 2]:=rfl
theorem tk_23 :tk tyT 23=some (.sc (.sl 22),24):=rfl
theorem sz_23 :sz tyT 23=1:=rfl
theorem zJ5 :cks tyT 23= [.sl 22]:=rfl
theorem tk_25 :tk tyT 25=some (.st [.sl 2, .sl 22] [(0,22),(1,23)],48):=rfl
theorem sz_25 :sz tyT 25=2:=rfl
theorem zJ6 :cks tyT 25= [.sl 2, .sl 22]:=rfl
theorem tk_26 :tk tyT 26=some (.sc (.sl 68),24):=rfl
theorem sz_26 :sz tyT 26=1:=rfl
theorem zJ7 :cks tyT 26= [.sl 68]:=rfl
theorem tk_28 :tk tyT 28=some (.st [.sl 22, .sl 22] [(0,23),(1,23)],48):=rfl
theorem sz_28 :sz tyT 28=2:=rfl
theorem zJ8 :cks tyT 28= [.sl 22, .sl 22]:=rfl
theorem tk_33 :tk tyT 33=some (.st [.sl 2, .sl 22] [(0,22),(1,23)],48):=rfl
theorem sz_33 :sz tyT 33=2:=rfl
theorem zJ9 :cks tyT 33= [.sl 2, .sl 22]:=rfl
theorem tk_35 :tk tyT 35=some (.sc (.sl 76),24):=rfl
theorem sz_35 :sz tyT 35=1:=rfl
theorem zKA :cks tyT 35= [.sl 76]:=rfl
theorem tk_37 :tk tyT 37=some (.st [.sl 22, .sl 22] [(0,23),(1,23)],48):=rfl
theorem sz_37 :sz tyT 37=2:=rfl
theorem zKB :cks tyT 37= [.sl 22, .sl 22]:=rfl
theorem tk_43 :tk tyT 43=some (.sc (.sl 5),24):=rfl
theorem sz_43 :sz tyT 43=1:=rfl
theorem zKC :cks tyT 43= [.sl 5]:=rfl
theorem tk_47 :tk tyT 47=some (.sc (.int .u64),8):=rfl
theorem sz_47 :sz tyT 47=1:=rfl
theorem zKD :cks tyT 47= [.int .u64]:=rfl
theorem tk_58 :tk tyT 58=some (.st [.sl 2, .sl 2] [(0,22),(1,22)],48):=rfl
theorem sz_58 :sz tyT 58=2:=rfl
theorem zKE :cks tyT 58= [.sl 2, .sl 2]:=rfl
theorem tk_68 :tk tyT 68=some (.st [.sl 2, .sl 2] [(0,22),(1,22)],48):=rfl
theorem sz_68 :sz tyT 68=2:=rfl
theorem zKF :cks tyT 68= [.sl 2, .sl 2]:=rfl
theorem tk_72 :tk tyT 72=some (.sc (.sl 78),24):=rfl
theorem sz_72 :sz tyT 72=1:=rfl
theorem zKG :cks tyT 72= [.sl 78]:=rfl
theorem tk_75 :tk tyT 75=some (.sc (.sl 4),24):=rfl
theorem sz_75 :sz tyT 75=1:=rfl
theorem zKH :cks tyT 75= [.sl 4]:=rfl
theorem tk_76 :tk tyT 76=some (.st [.sl 2, .sl 2] [(0,22),(1,22)],48):=rfl
theorem sz_76 :sz tyT 76=2:=rfl
theorem zKI :cks tyT 76= [.sl 2, .sl 2]:=rfl
theorem tk_78 :tk tyT 78=some (.st [.int .i64, .sl 2] [(0,2),(1,22)],32):=rfl
theorem sz_78 :sz tyT 78=2:=rfl
theorem zKJ :cks tyT 78= [.int .i64, .sl 2]:=rfl
theorem tk_90 :tk tyT 90=some (.st [.sl 5, .int .i64, .int .u64] [(0,43),(1,3),(2,47)],40):=rfl
theorem sz_90 :sz tyT 90=3:=rfl
theorem zKK :cks tyT 90= [.sl 5, .int .i64, .int .u64]:=rfl
theorem tk_92 :tk tyT 92=some (.sc (.int .u64),8):=rfl
theorem sz_92 :sz tyT 92=1:=rfl
theorem zKL :cks tyT 92= [.int .u64]:=rfl
attribute [push_cast] tk_2 sz_2 cks_2 tk_3 sz_3 cks_3 tk_4 sz_4 cks_4 tk_5 sz_5 cks_5 tk_21 sz_21 zJ3 tk_22 sz_22 zJ4 tk_23 sz_23 zJ5 tk_25 sz_25 zJ6 tk_26 sz_26 zJ7 tk_28 sz_28 zJ8 tk_33 sz_33 zJ9 tk_35 sz_35 zKA tk_37 sz_37 zKB tk_43 sz_43 zKC tk_47 sz_47 zKD tk_58 sz_58 zKE tk_68 sz_68 zKF tk_72 sz_72 zKG tk_75 sz_75 zKH tk_76 sz_76 zKI tk_78 sz_78 zKJ tk_90 sz_90 zKK tk_92 sz_92 zKL
open Go.RowKit
set_option linter.unusedVariables false
set_option linter.unusedSimpArgs false
def gi (xs:List Int)(k:Nat):Int:=xs.getD k 0
def gl (rows:List (List Int))(k:Nat):List Int:=rows.getD k []
def gb (xs:List Bool)(k:Nat):Bool:=xs.getD k false
theorem Za {xs:List Int}{k:Nat}(h:k<xs.length):xs[k]? =some (gi xs k):=by
 unfold gi;rw [List.getD_eq_getElem?_getD,List.getElem?_eq_getElem h];rfl
theorem UV {xs:List (List Int)}{k:Nat}(h:k<xs.length):xs[k]? =some (gl xs k):=by
 unfold gl;rw [List.getD_eq_getElem?_getD,List.getElem?_eq_getElem h];rfl
theorem zH5 {xs:List Bool}{k:Nat}(h:k<xs.length):xs[k]? =some (gb xs k):=by
 unfold gb;rw [List.getD_eq_getElem?_getD,List.getElem?_eq_getElem h];rfl
def dI (xs:List Int):List D:=xs.map (.int .i64)
def dB (xs:List Bool):List D:=xs.map .bool
def dII (xss:List (List Int)):List D:=xss.map fun r=> .lst 2 (dI r)
@[reducible] def DI (xs : List Int) : D := .lst 2 (dI xs)
@[reducible] def DII (xss : List (List Int)) : D := .lst 22 (dII xss)
theorem Qg (xs:List Int):(dI xs).length=xs.length:=by simp [dI]
theorem zKe (xs:List Bool):(dB xs).length=xs.length:=by simp [dB]
theorem yw (xs:List (List Int)):(dII xs).length=xs.length:=by simp [dII]
theorem zI2 (xs:List Int)(i:Nat):XB (dI xs) i=gi xs i:=by
 unfold XB dI gi
 rw [List.getElem?_map,List.getD_eq_getElem?_getD]
 cases xs[i]? <;>rfl
theorem zI0 (xs:List Bool)(i:Nat):getB (dB xs) i=gb xs i:=by
 unfold getB dB gb
 rw [List.getElem?_map,List.getD_eq_getElem?_getD]
 cases xs[i]? <;>rfl
theorem KF (xs:List (List Int))(i:Nat):xD (dII xs) i=dI (gl xs i):=by
 unfold xD dII gl
 rw [List.getElem?_map,List.getD_eq_getElem?_getD]
 cases xs[i]? <;>rfl
theorem zN {xs:List (List Int)}{i:Nat}(h:i<xs.length):qi (dII xs) i=2:=by
 unfold qi dII
 rw [List.getElem?_map,List.getElem?_eq_getElem h]
 rfl
theorem zIT (xs:List Int)(i:Nat):xK (.int .i64) (dI xs) i=(i<xs.length):=by
 unfold xK dI
 rw [List.getElem?_map]
 apply propext
 constructor
 ·rintro⟨n,h⟩
  rcases Nat.lt_or_ge i xs.length with h'|h'
  ·exact h'
  ·rw [List.getElem?_eq_none h']at h;cases h
 ·intro h;rw [List.getElem?_eq_getElem h];exact⟨_,rfl⟩
theorem zIS (xs:List Bool)(i:Nat):xK .bool (dB xs) i=(i<xs.length):=by
 unfold xK dB
 rw [List.getElem?_map]
 apply propext
 constructor
 ·rintro⟨n,h⟩
  rcases Nat.lt_or_ge i xs.length with h'|h'
  ·exact h'
  ·rw [List.getElem?_eq_none h']at h;cases h
 ·intro h;rw [List.getElem?_eq_getElem h];exact⟨_,rfl⟩
theorem Js (xs:List (List Int))(i:Nat):xK (.sl 2) (dII xs) i=(i<xs.length):=by
 unfold xK dII
 rw [List.getElem?_map]
 apply propext
 constructor
 ·rintro⟨n,h⟩
  rcases Nat.lt_or_ge i xs.length with h'|h'
  ·exact h'
  ·rw [List.getElem?_eq_none h']at h;cases h
 ·intro h;rw [List.getElem?_eq_getElem h];exact⟨_,rfl⟩
theorem VY (xs:List (List Int))(i:Nat):zk (dII xs) [i]=(i<xs.length):=by
 apply propext
 simp only [zk,and_true]
 unfold dII
 rw [List.getElem?_map]
 constructor
 ·rintro⟨e,n,h⟩
  rcases Nat.lt_or_ge i xs.length with h'|h'
  ·exact h'
  ·rw [List.getElem?_eq_none h']at h;cases h
 ·intro h;rw [List.getElem?_eq_getElem h];exact⟨_,_,rfl⟩
theorem zEA (xs:List D):zk xs []=True:=by simp [zk]
theorem zIs (xs:List Int)(n:Nat):(dI xs).drop n=dI (xs.drop n):=by simp [dI]
theorem zJd (xs:List Int)(n:Nat):(dI xs).take n=dI (xs.take n):=by simp [dI]
theorem zGs (xs:List (List Int))(n:Nat):(dII xs).drop n=dII (xs.drop n):=by simp [dII]
theorem zHm (xs:List (List Int))(n:Nat):(dII xs).take n=dII (xs.take n):=by simp [dII]
theorem zJu (xs ys:List Int):dI xs++dI ys=dI (xs++ys):=by simp [dI]
theorem zGY (xs:List Int):(dI xs).all xS=true:=by simp [dI,xS]
theorem zGX (xs:List Bool):(dB xs).all xS=true:=by simp [dB,xS]
theorem zK7 (xs:List Int)(i:Nat)(n:Int):(dI xs).set i (.int .i64 n)=dI (xs.set i n):=by simp [dI]
theorem zK6 (xs:List Bool)(i:Nat)(b:Bool):(dB xs).set i (.bool b)=dB (xs.set i b):=by simp [dB]
theorem zKu (n:Int): [D.int .i64 n]=dI [n]:=rfl
theorem zIb (xs:List Int)(n:Int):dI xs++ [D.int .i64 n]=dI (xs++ [n]):=by simp [dI]
theorem zK1 (n:Nat)(x:Int):List.replicate n (D.int .i64 x)=dI (List.replicate n x):=by simp [dI]
theorem zK0 (n:Nat)(x:Bool):List.replicate n (D.bool x)=dB (List.replicate n x):=by simp [dB]
theorem zGG (n:Nat):((n:Int)).toNat=n:=Int.toNat_natCast n
def zg (s:List (Nat×AV)):List (Nat×AV)→Prop
 | []=>True
 |(k,v)::l=>(v= .dead∨lk s k=some v)∧zg s l
def zf {α:Type}(s:List (Nat×α)):List (Nat×α)→Prop
 | []=>True
 |(k,v)::l=>lk s k=some v∧zf s l
theorem zCg {s:List (Nat×AV)}: ∀{l:List (Nat×AV)},zg s l→∀k v,lk l k=some v→v= .dead∨lk s k=some v
 | [],_,k,v,h=>by simp [lk]at h
 |(j,u)::l,hc,k,v,h=>by
  simp only [zd]at h
  split at h
  ·rename_i e;subst e;cases h;exact hc.1
  ·exact zCg hc.2 k v h
theorem kI {α:Type}{s:List (Nat×α)}: ∀{l:List (Nat×α)},zf s l→∀k v,lk l k=some v→lk s k=some v
 | [],_,k,v,h=>by simp [lk]at h
 |(j,u)::l,hc,k,v,h=>by
  simp only [zd]at h
  split at h
  ·rename_i e;subst e;cases h;exact hc.1
  ·exact kI hc.2 k v h
theorem zX {st st':St}(h1:st'.n=st.n)(h2:zg st.s st'.s)(h3:zf st.b st'.b)(h4:zf st.r st'.r):Cov st st':=⟨h1,zCg h2,kI h3,kI h4⟩
theorem zF5 (xs:List D)(i:Nat)(x:D):qP xs [] i x=xs.set i x:=rfl
theorem zEM (k:Nat):((k:Int) - 1).toNat=k - 1:=by omega
theorem zEL (k:Nat):((k:Int)+1).toNat=k+1:=by omega
theorem zKV (e:TypeId)(ys l:List D):xD (.lst e ys::l) 0=ys:=rfl
theorem zKU (x:D)(l:List D)(i:Nat):xD (x::l) (i+1)=xD l i:=rfl
theorem zKR (e:TypeId)(ys l:List D):qi (.lst e ys::l) 0=e:=rfl
theorem zKQ (x:D)(l:List D)(i:Nat):qi (x::l) (i+1)=qi l i:=rfl
theorem zKT (k:IntKind)(n:Int)(l:List D):XB (.int k n::l) 0=n:=rfl
theorem zKS (x:D)(l:List D)(i:Nat):XB (x::l) (i+1)=XB l i:=rfl
theorem zHL (e:TypeId)(ys l:List D)(q:List Nat):zk (.lst e ys::l) (0::q)=zk ys q:=by
 apply propext
 simp only [zk,List.getElem?_cons_zero]
 constructor
 ·rintro⟨e',ys',h,h2⟩;cases h;exact h2
 ·exact fun h=>⟨e,ys,rfl,h⟩
theorem zHK (x:D)(l:List D)(i:Nat)(q:List Nat):zk (x::l) ((i+1)::q)=zk l (i::q):=by
 simp only [zk,List.getElem?_cons_succ]
theorem zIW (e e':TypeId)(ys l:List D):xK (.sl e) (.lst e' ys::l) 0=(e=e'):=by
 apply propext
 simp only [xK,List.getElem?_cons_zero]
 constructor
 ·rintro⟨ys',h⟩;cases h;rfl
 ·rintro rfl;exact⟨ys,rfl⟩
theorem zIV (k k':IntKind)(n:Int)(l:List D):xK (.int k) (.int k' n::l) 0=(k=k'):=by
 apply propext
 simp only [xK,List.getElem?_cons_zero]
 constructor
 ·rintro⟨ys',h⟩;cases h;rfl
 ·rintro rfl;exact⟨n,rfl⟩
theorem zJl (c:CK)(x:D)(l:List D)(i:Nat):xK c (x::l) (i+1)=xK c l i:=by
 cases c<;>simp only [xK,List.getElem?_cons_succ]
attribute [push_cast] zKV zKU zKR zKQ zKT zKS zHL zHK zIW zIV zJl
attribute [push_cast] WK ww ju ke vf wk Vw fpA vt fpB fpC QE wO ZR UQ xn Decidable.not_not Int.zero_add Bool.true_or Bool.or_true Int.toNat_zero Int.toNat_one zEM zEL false_implies true_implies decide_eq_true_eq decide_eq_false_iff_not Bool.not_eq_true' Bool.not_eq_false' beq_iff_eq beq_eq_false_iff_ne bne_iff_ne bne_eq_false_iff_eq Int.add_zero Option.some_beq_none XT.cells ZT qI XX JD mkF shE arC IntKind.bits Ww Kg wU Qh YM jS YT Xp apart qh wv VU vO vj zBS zBT few XI List.mem_cons List.not_mem_nil Option.isNone_some Option.isNone_none List.set_cons_zero List.singleton_append zF5 wm kh qO ya St.settle St.app St.start St.cut Kz AV.cut AV.cutL wn Yg vr QK QL QB Zl YX orE wR repC qx Xs O3.own wg qj ZS vz VW KK vT QS Zk QA qN Dl.skip Dl.wr fp AV.nm AV.nmL Op.operands Call.operands St.clean xQ List.foldr_cons List.foldr_nil St.reset vK aop yD zy zHz qA effM qF ev zd xJ cv cv1 jz ar VH Wz unE qu ZZ zAZ Zc onR Zg ZX VR vx ka kc JO QY vY fieldsOf lay wa zEA VY yI vF wt vg UN zIT zIS Js zI2 zI0 KF Qg zKe yw zIs zJd zGs zHm zJu zGY zGX zK7 zK6 zIb zK1 zK0 zGG hom vB JA ZA qe vI St.put St.addR St.delR St.moveR St.appG appG US UT St.setR St.setB St.addB St.kill wh rm AV.kill AV.killL is1 noB zb Qr appE JN UW kW scE scD KV CK.zeroD TK.cells O3.isSh O3.isEx cellsOf xC UY vp ye yi yR zv VT.cells xT qk szL wo vv XO xj xB zR zS xv wF Zy Xi jH Kv Option.map_some Option.map_none Option.getD_some Option.getD_none List.map_cons List.map_nil List.getElem?_cons_zero List.getElem?_cons_succ List.getElem?_nil List.getD_cons_zero List.getD_cons_succ List.headD_cons List.tail_cons List.cons_append List.nil_append List.append_nil List.length_cons List.length_nil List.drop_zero List.take_zero List.drop_succ_cons List.take_succ_cons List.filter_cons List.filter_nil List.contains_cons List.contains_nil List.all_cons List.all_nil List.take_length Int.natCast_add Int.natCast_one Int.natCast_zero Int.cast_ofNat_Int Nat.zero_add Nat.add_zero Nat.mul_one Nat.div_one Nat.sub_zero Nat.zero_le if_true if_false true_and and_true and_self true_or or_true false_or or_false not_true_eq_false not_false_eq_true implies_true forall_const Bool.true_and Bool.and_true Bool.false_and Bool.and_false Bool.or_false Bool.false_or Bool.not_true Bool.not_false Bool.false_eq_true beq_self_eq_true eq_self_iff_true Option.some.injEq id_eq List.toList_toArray decide_true decide_false ne_eq forall_eq
def pre (a:List Int)(k:Nat):List Int:=a.take k++List.replicate (a.length - k) 0
theorem zG5 {r:List (List Int)}{k:Nat}{x:List Int}(h:k<r.length):dII (List.take k r)++ [D.lst 2 (dI x)]++dII (List.drop (k+1) r)=dII (r.set k x):=by
 rw [List.set_eq_take_append_cons_drop,if_pos h]
 simp [dII]
def iot (k:Int):Nat→List Int
 |0=> []
 |n+1=>iot k n++ [k+n]
theorem zCv (k:Int): ∀n,(iot k n).length=n
 |0=>rfl
 |n+1=>by simp [iot,zCv k n]
def KY (rs:List (List Int)):Nat:=(rs.map List.length).sum
def mkR (k:Int):List (List Int)→List (List Int)
 | []=> []
 |r::rs=>iot k r.length::mkR (k+r.length) rs
theorem zJL (k:Int)(rs:List (List Int)):(mkR k rs).length=rs.length:=by
 induction rs generalizing k with
 |nil=>rfl
 |cons r rs ih=>simp [mkR,ih]
def less (l:Int)(n:Nat):Int:=if l - n<0 then -1 else l - n
def LnI (B:Nat)(a:List Int):Prop:=a.length≤B
def wb (B:Nat)(a:List (List Int)):Prop:=a.length≤B∧∀r∈a,r.length≤B
theorem LnI.mono {B C:Nat}(hB:B≤C){a:List Int}(h:LnI B a):LnI C a:=Nat.le_trans h hB
theorem wb.mono {B C:Nat}(hB:B≤C){a:List (List Int)}(h:wb B a):wb C a:=⟨Nat.le_trans h.1 hB,fun r hr=>Nat.le_trans (h.2 r hr) hB⟩
theorem zEo {P:Go.Program}{τ:Ty}{Q:Go.Exit→St→Prop}{st:St}{ι:Type}{x y:Go.Code}(ds rs:List Nat)(L:ι→List (Nat×AV))(B:ι→List (Nat×List AV))(R:ι→List (Nat×zr))(I:ι→Prop)
  (hx: ∀K:St→Prop,(∀st',(∃j,I j∧Cov st' (st.reset ds rs (L j) (B j) (R j)))→K st')→awp P τ x (zR K Q) st) (hy: ∀j,I j→awp P τ y Q (st.reset ds rs (L j) (B j) (R j))):awp P τ (.seq x y) Q st:=
 zGi (fun j=>st.reset ds rs (L j) (B j) (R j)) I hx hy
theorem zHn (k:Int)(n:Nat):(iot k n).take n=iot k n:=List.take_of_length_le (by rw [zCv];exact Nat.le_refl _)
theorem zHo (k:Int)(xs:List (List Int)):(mkR k xs).take xs.length=mkR k xs:=List.take_of_length_le (by rw [zJL];exact Nat.le_refl _)
theorem zJS :List.range 0= []:=rfl
theorem zJT :List.range 1= [0]:=rfl
theorem zJU :List.range 2= [0,1]:=rfl
attribute [push_cast] List.map_nil zJS zJT zJU
attribute [push_cast] zHn zHo
open Go Go.RowKit
def St.settleB (ks:List CK)(b:Nat)(st:St):St:=
 match lk st.b b with
 |none=>st
 |some cells=>
  match lk (vB [] ks st (zb b 0) [] cells).1.b b with
  |none=>st
  |some cells'=>if cells'.length=(vB [] ks st (zb b 0) [] cells).2.length then(vB [] ks st (zb b 0) [] cells).1.setB b (vB [] ks st (zb b 0) [] cells).2 else st
theorem zCz {α:Type}{a b:List α}(h:b.length=a.length):lay a 0 b=b:=by
 unfold lay
 rw [Nat.zero_add,h,List.drop_length]
 simp
theorem qT {P:Program}{τ:Ty}(ks:List CK)(b:Nat){c:Code}{Q:Exit→St→Prop}{st:St}(h:awp P τ c Q (st.settleB ks b)):awp P τ c Q st:=by
 unfold St.settleB at h
 split at h
 ·exact h
 ·rename_i cells hl
  split at h
  ·exact h
  ·rename_i cells' hl'
   split at h
   ·rename_i hlen
    intro lo w0 a w hr
    obtain⟨ow,hd,bk,hrr⟩:=hr
    obtain⟨cs,ty,g1,g2,g3⟩:=hrr.box b cells hl
    obtain⟨ow1,hd1,r1,r2⟩:=VM [] ks st ow hd (zb b 0) [] cells [] cs hrr (by simp [zY]) g3
    obtain⟨cs0,ty0,k1,k2,k3⟩:=r1.box b cells' hl'
    rw [List.nil_append]at r2
    have e0:cs0=cs:=by
     rw [g1]at k1
     simp only [Option.some.injEq,Obj.cells.injEq]at k1
     have :=k1.1
     simpa using this.symm
    subst e0
    have hrel:=YL r1 hl' k1 (i:=0) (by omega) k3 r2
    rw [zCz rfl,zCz hlen.symm,setRow_self w _ _ _ _ k1]at hrel
    exact h lo w0 a w ⟨ow1,hd1,bk,hrel⟩
   ·exact h
attribute [push_cast] St.settleB
theorem zGa (xs:List (List Int))(r:List Int):dII xs++ [D.lst 2 (dI r)]=dII (xs++ [r]):=by simp [dII]
theorem zIc (xs ys:List (List Int)):dII xs++dII ys=dII (xs++ys):=by simp [dII]
theorem jk {xs:List (List Int)}{k:Nat}(h:k<xs.length):xs.take (k+1)=xs.take k++ [gl xs k]:=by rw [List.take_add_one,UV h];rfl
attribute [push_cast] zGa zIc
structure Ar where
 owner:List Int
 next:List (List Int)
 deriving DecidableEq
def dAr (x:Ar):List D:= [DI x.owner,DII x.next]
structure Ar.Ln (B:Nat)(x:Ar):Prop where
 owner:LnI B x.owner
 next:wb B x.next
def Ar.cnt (x:Ar):Nat:=x.owner.length+KY x.next
theorem Ar.ln_mono {B C:Nat}(hB:B≤C){x:Ar}(h:x.Ln B):x.Ln C:=⟨LnI.mono hB h.owner,wb.mono hB h.next⟩
structure Wt where
 a:Ar
 cost:List (List Int)
 deriving DecidableEq
structure Wt.Ln (B:Nat)(x:Wt):Prop where
 a:x.a.Ln B
 cost:wb B x.cost
def Wt.cnt (x:Wt):Nat:=x.a.owner.length+KY x.a.next+KY x.cost
theorem Wt.ln_mono {B C:Nat}(hB:B≤C){x:Wt}(h:x.Ln B):x.Ln C:=⟨Ar.ln_mono hB h.a,wb.mono hB h.cost⟩
structure Ls where
 stem:List Int
 loop:List Int
 deriving DecidableEq
def dLs (x:Ls):List D:= [DI x.stem,DI x.loop]
structure Ls.Ln (B:Nat)(x:Ls):Prop where
 stem:LnI B x.stem
 loop:LnI B x.loop
def Ls.cnt (x:Ls):Nat:=x.stem.length+x.loop.length
theorem Ls.ln_mono {B C:Nat}(hB:B≤C){x:Ls}(h:x.Ln B):x.Ln C:=⟨LnI.mono hB h.stem,LnI.mono hB h.loop⟩
structure Fm where
 names:List Int
 sets:List (List Int)
 deriving DecidableEq
structure Fm.Ln (B:Nat)(x:Fm):Prop where
 names:LnI B x.names
 sets:wb B x.sets
def Fm.cnt (x:Fm):Nat:=x.names.length+KY x.sets
theorem Fm.ln_mono {B C:Nat}(hB:B≤C){x:Fm}(h:x.Ln B):x.Ln C:=⟨LnI.mono hB h.names,wb.mono hB h.sets⟩
structure Pr where
 ask:List Int
 give:List Int
 deriving DecidableEq
structure Pr.Ln (B:Nat)(x:Pr):Prop where
 ask:LnI B x.ask
 give:LnI B x.give
def Pr.cnt (x:Pr):Nat:=x.ask.length+x.give.length
theorem Pr.ln_mono {B C:Nat}(hB:B≤C){x:Pr}(h:x.Ln B):x.Ln C:=⟨LnI.mono hB h.ask,LnI.mono hB h.give⟩
end Go.Proofs.Ytggpbepdeilpgaa
