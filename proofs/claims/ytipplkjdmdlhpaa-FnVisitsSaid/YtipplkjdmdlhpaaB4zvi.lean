/- The types of this seat's program. Printed by tygen.py. -/
import Derived.Test.YtipplkjdmdlhpaaGEzvi
import Derived.Test.YtipplkjdmdlhpaaRows
import Derived.Laws.CopyRow
namespace Go.Proofs.Ytipplkjdmdlhpaa
def tyT :Ty:= [(2, .sc (.int .i64),8),(3, .sc (.int .i64),8),(4, .sc .bool,1),(5, .sc (.int .u8),1),(21, .sc (.int .i32),4),(22, .sc (.sl 5),24),(26, .sc (.int .u64),8),(27, .sc (.sl 2),24),(28, .sc (.sl 27),24),(30, .st [.sl 2, .sl 27] [(0,27),(1,28)],48),(32, .sc (.sl 64),24),(36, .st [.sl 2, .sl 27, .sl 2] [(0,30),(2,27)],72),(37, .sc (.sl 72),24),(43, .st [.sl 2, .sl 2] [(0,27),(1,27)],48),(52, .st [.sl 2, .sl 27] [(0,27),(1,28)],48),(61, .st [.sl 5, .int .i64, .int .u64] [(0,22),(1,3),(2,26)],40),(62, .sc (.sl 4),24),(64, .st [.sl 2, .sl 2] [(0,27),(1,27)],48),(65, .sc (.int .u64),8),(72, .st [.int .i64, .sl 2] [(0,2),(1,27)],32)]
theorem zP :yH Try.prog tyT:=zHp (by kernel_rfl)
theorem zN :yb tyT:=zGL (by kernel_rfl)
theorem yj :Try.prog.follows .mixedOrders=true:=by kernel_rfl
theorem tk_2 :tk tyT 2=some (.sc (.int .i64),8):=rfl
theorem sz_2 :sz tyT 2=1:=rfl
theorem cks_2 :cks tyT 2= [.int .i64]:=rfl
theorem tk_3 :tk tyT 3=some (.sc (.int .i64),8):=rfl
theorem sz_3 :sz tyT 3=1:=rfl
theorem cks_3 :cks tyT 3= [.int .i64]:=rfl
theorem tk_4 :tk tyT 4=some (.sc .bool,1):=rfl
theorem sz_4 :sz tyT 4=1:=rfl
theorem cks_4 :cks tyT 4= [.bool]:=rfl
theorem tk_5 :tk tyT 5=some (.sc (.int .u8),1):=rfl
theorem sz_5 :sz tyT 5=1:=rfl
theorem cks_5 :cks tyT 5= [.int .u8]:=rfl
theorem tk_21 :tk tyT 21=some (.sc (.int .i32),4):=rfl
theorem sz_21 :sz tyT 21=1:=rfl
theorem zII :cks tyT 21= [.int .i32]:=rfl
theorem tk_22 :tk tyT 22=some (.sc (.sl 5),24):=rfl
theorem sz_22 :sz tyT 22=1:=rfl
theorem zIJ :cks tyT 22= [.sl 5]:=rfl
theorem tk_26 :tk tyT 26=some (.sc (.int .u64),8):=rfl
theorem sz_26 :sz tyT 26=1:=rfl
theorem zIK :cks tyT 26= [.int .u64]:=rfl
theorem tk_27 :tk tyT 27=some (.sc (.sl 2),24):=rfl
theorem sz_27 :sz tyT 27=1:=rfl
theorem zIL :cks tyT 27= [.sl 2]:=rfl
theorem tk_28 :tk tyT 28=some (.sc (.sl 27),24):=rfl
theorem sz_28 :sz tyT 28=1:=rfl
theorem zIM :cks tyT 28= [.sl 27]:=rfl
theorem tk_30 :tk tyT 30=some (.st [.sl 2, .sl 27] [(0,27),(1,28)],48):=rfl
theorem sz_30 :sz tyT 30=2:=rfl
theorem zIN :cks tyT 30= [.sl 2, .sl 27]:=rfl
theorem tk_32 :tk tyT 32=some (.sc (.sl 64),24):=rfl
theorem sz_32 :sz tyT 32=1:=rfl
theorem zIO :cks tyT 32= [.sl 64]:=rfl
theorem tk_36 :tk tyT 36=some (.st [.sl 2, .sl 27, .sl 2] [(0,30),(2,27)],72):=rfl
theorem sz_36 :sz tyT 36=3:=rfl
theorem zIP :cks tyT 36= [.sl 2, .sl 27, .sl 2]:=rfl
theorem tk_37 :tk tyT 37=some (.sc (.sl 72),24):=rfl
theorem sz_37 :sz tyT 37=1:=rfl
theorem zIQ :cks tyT 37= [.sl 72]:=rfl
theorem tk_43 :tk tyT 43=some (.st [.sl 2, .sl 2] [(0,27),(1,27)],48):=rfl
theorem sz_43 :sz tyT 43=2:=rfl
theorem zIR :cks tyT 43= [.sl 2, .sl 2]:=rfl
theorem tk_52 :tk tyT 52=some (.st [.sl 2, .sl 27] [(0,27),(1,28)],48):=rfl
theorem sz_52 :sz tyT 52=2:=rfl
theorem zIS :cks tyT 52= [.sl 2, .sl 27]:=rfl
theorem tk_61 :tk tyT 61=some (.st [.sl 5, .int .i64, .int .u64] [(0,22),(1,3),(2,26)],40):=rfl
theorem sz_61 :sz tyT 61=3:=rfl
theorem zIT :cks tyT 61= [.sl 5, .int .i64, .int .u64]:=rfl
theorem tk_62 :tk tyT 62=some (.sc (.sl 4),24):=rfl
theorem sz_62 :sz tyT 62=1:=rfl
theorem zIU :cks tyT 62= [.sl 4]:=rfl
theorem tk_64 :tk tyT 64=some (.st [.sl 2, .sl 2] [(0,27),(1,27)],48):=rfl
theorem sz_64 :sz tyT 64=2:=rfl
theorem zIV :cks tyT 64= [.sl 2, .sl 2]:=rfl
theorem tk_65 :tk tyT 65=some (.sc (.int .u64),8):=rfl
theorem sz_65 :sz tyT 65=1:=rfl
theorem zIW :cks tyT 65= [.int .u64]:=rfl
theorem tk_72 :tk tyT 72=some (.st [.int .i64, .sl 2] [(0,2),(1,27)],32):=rfl
theorem sz_72 :sz tyT 72=2:=rfl
theorem zIX :cks tyT 72= [.int .i64, .sl 2]:=rfl
attribute [push_cast] tk_2 sz_2 cks_2 tk_3 sz_3 cks_3 tk_4 sz_4 cks_4 tk_5 sz_5 cks_5 tk_21 sz_21 zII tk_22 sz_22 zIJ tk_26 sz_26 zIK tk_27 sz_27 zIL tk_28 sz_28 zIM tk_30 sz_30 zIN tk_32 sz_32 zIO tk_36 sz_36 zIP tk_37 sz_37 zIQ tk_43 sz_43 zIR tk_52 sz_52 zIS tk_61 sz_61 zIT tk_62 sz_62 zIU tk_64 sz_64 zIV tk_65 sz_65 zIW tk_72 sz_72 zIX
open Go.RowKit
set_option linter.unusedVariables false
set_option linter.unusedSimpArgs false
def gi (xs:List Int)(k:Nat):Int:=xs.getD k 0
def gl (rows:List (List Int))(k:Nat):List Int:=rows.getD k []
def gb (xs:List Bool)(k:Nat):Bool:=xs.getD k false
theorem ZR {xs:List Int}{k:Nat}(h:k<xs.length):xs[k]? =some (gi xs k):=by
 unfold gi;rw [List.getD_eq_getElem?_getD,List.getElem?_eq_getElem h];rfl
theorem Kr {xs:List (List Int)}{k:Nat}(h:k<xs.length):xs[k]? =some (gl xs k):=by
 unfold gl;rw [List.getD_eq_getElem?_getD,List.getElem?_eq_getElem h];rfl
def dI (xs:List Int):List D:=xs.map (.int .i64)
def dB (xs:List Bool):List D:=xs.map .bool
def dII (xss:List (List Int)):List D:=xss.map fun r=> .lst 2 (dI r)
@[reducible] def DI (xs : List Int) : D := .lst 2 (dI xs)
@[reducible] def DII (xss : List (List Int)) : D := .lst 27 (dII xss)
theorem jA (xs:List Int):(dI xs).length=xs.length:=by simp [dI]
theorem zIu (xs:List Bool):(dB xs).length=xs.length:=by simp [dB]
theorem zHO (xs:List (List Int)):(dII xs).length=xs.length:=by simp [dII]
theorem zHC (xs:List Int)(i:Nat):Yq (dI xs) i=gi xs i:=by
 unfold Yq dI gi
 rw [List.getElem?_map,List.getD_eq_getElem?_getD]
 cases xs[i]? <;>rfl
theorem zHB (xs:List Bool)(i:Nat):getB (dB xs) i=gb xs i:=by
 unfold getB dB gb
 rw [List.getElem?_map,List.getD_eq_getElem?_getD]
 cases xs[i]? <;>rfl
theorem Jt (xs:List (List Int))(i:Nat):xK (dII xs) i=dI (gl xs i):=by
 unfold xK dII gl
 rw [List.getElem?_map,List.getD_eq_getElem?_getD]
 cases xs[i]? <;>rfl
theorem zQ {xs:List (List Int)}{i:Nat}(h:i<xs.length):qS (dII xs) i=2:=by
 unfold qS dII
 rw [List.getElem?_map,List.getElem?_eq_getElem h]
 rfl
theorem zGn (xs:List Int)(i:Nat):xS (.int .i64) (dI xs) i=(i<xs.length):=by
 unfold xS dI
 rw [List.getElem?_map]
 apply propext
 constructor
 ·rintro⟨n,h⟩
  rcases Nat.lt_or_ge i xs.length with h'|h'
  ·exact h'
  ·rw [List.getElem?_eq_none h']at h;cases h
 ·intro h;rw [List.getElem?_eq_getElem h];exact⟨_,rfl⟩
theorem zGm (xs:List Bool)(i:Nat):xS .bool (dB xs) i=(i<xs.length):=by
 unfold xS dB
 rw [List.getElem?_map]
 apply propext
 constructor
 ·rintro⟨n,h⟩
  rcases Nat.lt_or_ge i xs.length with h'|h'
  ·exact h'
  ·rw [List.getElem?_eq_none h']at h;cases h
 ·intro h;rw [List.getElem?_eq_getElem h];exact⟨_,rfl⟩
theorem Jj (xs:List (List Int))(i:Nat):xS (.sl 2) (dII xs) i=(i<xs.length):=by
 unfold xS dII
 rw [List.getElem?_map]
 apply propext
 constructor
 ·rintro⟨n,h⟩
  rcases Nat.lt_or_ge i xs.length with h'|h'
  ·exact h'
  ·rw [List.getElem?_eq_none h']at h;cases h
 ·intro h;rw [List.getElem?_eq_getElem h];exact⟨_,rfl⟩
theorem Qx (xs:List (List Int))(i:Nat):zm (dII xs) [i]=(i<xs.length):=by
 apply propext
 simp only [zm,and_true]
 unfold dII
 rw [List.getElem?_map]
 constructor
 ·rintro⟨e,n,h⟩
  rcases Nat.lt_or_ge i xs.length with h'|h'
  ·exact h'
  ·rw [List.getElem?_eq_none h']at h;cases h
 ·intro h;rw [List.getElem?_eq_getElem h];exact⟨_,_,rfl⟩
theorem zC8 (xs:List D):zm xs []=True:=by simp [zm]
theorem zG3 (xs:List Int)(n:Nat):(dI xs).drop n=dI (xs.drop n):=by simp [dI]
theorem zHm (xs:List Int)(n:Nat):(dI xs).take n=dI (xs.take n):=by simp [dI]
theorem zFV (xs:List (List Int))(n:Nat):(dII xs).drop n=dII (xs.drop n):=by simp [dII]
theorem zGH (xs:List (List Int))(n:Nat):(dII xs).take n=dII (xs.take n):=by simp [dII]
theorem zH7 (xs ys:List Int):dI xs++dI ys=dI (xs++ys):=by simp [dI]
theorem zFH (xs:List Int):(dI xs).all qE=true:=by simp [dI,qE]
theorem zFG (xs:List Bool):(dB xs).all qE=true:=by simp [dB,qE]
theorem zI9 (xs:List Int)(i:Nat)(n:Int):(dI xs).set i (.int .i64 n)=dI (xs.set i n):=by simp [dI]
theorem zI8 (xs:List Bool)(i:Nat)(b:Bool):(dB xs).set i (.bool b)=dB (xs.set i b):=by simp [dB]
theorem zGv (xs:List Int)(n:Int):dI xs++ [D.int .i64 n]=dI (xs++ [n]):=by simp [dI]
theorem zI7 (n:Nat)(x:Int):List.replicate n (D.int .i64 x)=dI (List.replicate n x):=by simp [dI]
theorem zI6 (n:Nat)(x:Bool):List.replicate n (D.bool x)=dB (List.replicate n x):=by simp [dB]
theorem zEz (n:Nat):((n:Int)).toNat=n:=Int.toNat_natCast n
def zf (s:List (Nat×AV)):List (Nat×AV)→Prop
 | []=>True
 |(k,v)::l=>(v= .dead∨lk s k=some v)∧zf s l
def ze {α:Type}(s:List (Nat×α)):List (Nat×α)→Prop
 | []=>True
 |(k,v)::l=>lk s k=some v∧ze s l
theorem zBx {s:List (Nat×AV)}: ∀{l:List (Nat×AV)},zf s l→∀k v,lk l k=some v→v= .dead∨lk s k=some v
 | [],_,k,v,h=>by simp [lk]at h
 |(j,u)::l,hc,k,v,h=>by
  simp only [zc]at h
  split at h
  ·rename_i e;subst e;cases h;exact hc.1
  ·exact zBx hc.2 k v h
theorem ji {α:Type}{s:List (Nat×α)}: ∀{l:List (Nat×α)},ze s l→∀k v,lk l k=some v→lk s k=some v
 | [],_,k,v,h=>by simp [lk]at h
 |(j,u)::l,hc,k,v,h=>by
  simp only [zc]at h
  split at h
  ·rename_i e;subst e;cases h;exact hc.1
  ·exact ji hc.2 k v h
theorem zY {st st':St}(h1:st'.n=st.n)(h2:zf st.s st'.s)(h3:ze st.b st'.b)(h4:ze st.r st'.r):Cov st st':=⟨h1,zBx h2,ji h3,ji h4⟩
theorem zEs (xs:List D)(i:Nat)(x:D):qf xs [] i x=xs.set i x:=rfl
theorem zDP (k:Nat):((k:Int) - 1).toNat=k - 1:=by omega
theorem zDO (k:Nat):((k:Int)+1).toNat=k+1:=by omega
theorem zIh (e:TypeId)(ys l:List D):xK (.lst e ys::l) 0=ys:=rfl
theorem zIg (x:D)(l:List D)(i:Nat):xK (x::l) (i+1)=xK l i:=rfl
theorem zId (e:TypeId)(ys l:List D):qS (.lst e ys::l) 0=e:=rfl
theorem zIc (x:D)(l:List D)(i:Nat):qS (x::l) (i+1)=qS l i:=rfl
theorem zIf (k:IntKind)(n:Int)(l:List D):Yq (.int k n::l) 0=n:=rfl
theorem zIe (x:D)(l:List D)(i:Nat):Yq (x::l) (i+1)=Yq l i:=rfl
theorem zFw (e:TypeId)(ys l:List D)(q:List Nat):zm (.lst e ys::l) (0::q)=zm ys q:=by
 apply propext
 simp only [zm,List.getElem?_cons_zero]
 constructor
 ·rintro⟨e',ys',h,h2⟩;cases h;exact h2
 ·exact fun h=>⟨e,ys,rfl,h⟩
theorem zFv (x:D)(l:List D)(i:Nat)(q:List Nat):zm (x::l) ((i+1)::q)=zm l (i::q):=by
 simp only [zm,List.getElem?_cons_succ]
theorem zGq (e e':TypeId)(ys l:List D):xS (.sl e) (.lst e' ys::l) 0=(e=e'):=by
 apply propext
 simp only [xS,List.getElem?_cons_zero]
 constructor
 ·rintro⟨ys',h⟩;cases h;rfl
 ·rintro rfl;exact⟨ys,rfl⟩
theorem zGp (k k':IntKind)(n:Int)(l:List D):xS (.int k) (.int k' n::l) 0=(k=k'):=by
 apply propext
 simp only [xS,List.getElem?_cons_zero]
 constructor
 ·rintro⟨ys',h⟩;cases h;rfl
 ·rintro rfl;exact⟨n,rfl⟩
theorem zHy (c:CK)(x:D)(l:List D)(i:Nat):xS c (x::l) (i+1)=xS c l i:=by
 cases c<;>simp only [xS,List.getElem?_cons_succ]
attribute [push_cast] zIh zIg zId zIc zIf zIe zFw zFv zGq zGp zHy
attribute [push_cast] Vu wl jd kE vZ wW Vh fpA qu fpB fpC Xk qy ZG um xw Decidable.not_not Int.zero_add Bool.true_or Bool.or_true Int.toNat_zero Int.toNat_one zDP zDO false_implies true_implies decide_eq_true_eq decide_eq_false_iff_not Bool.not_eq_true' Bool.not_eq_false' beq_iff_eq beq_eq_false_iff_ne bne_iff_ne bne_eq_false_iff_eq Int.add_zero Option.some_beq_none wZ wu VK epL XT.cells fewX wJ YA Ze wI ZH qa XL wh QD mkF Qf shE arC IntKind.bits We KV qJ QL YB jI ZW Xb apart qW vk XS vN qq zAl zAm few YG jB wX UL WQ List.mem_cons List.not_mem_nil Option.isNone_some Option.isNone_none List.set_cons_zero List.singleton_append zEs wY kG St.moveTo xr yc St.settle St.app St.start St.cut Kj AV.cut AV.cutL we YV vl Xs Xt Za ZK YM orE wN repC vF Xe O3.own wU qc wT vu Qs Jz vQ Xx Zb Xi qd Dl.skip Dl.wr fp AV.nm AV.nmL Op.operands Call.operands St.clean ym List.foldr_cons List.foldr_nil St.reset qw aop yI zu zGP qF effM qX ev zc xR cv cv1 jh ar Qi Wh unE vE ZQ zAC ZT onR ZX ZN Qq vr jw kC Wv QF vT fieldsOf lay wS zC8 Qx yZ vK wi va uj zGn zGm Jj zHC zHB Jt jA zIu zHO zG3 zHm zFV zGH zH7 zFH zFG zI9 zI8 zGv zI7 zI6 zEz hom xv ut ZU vD vM St.put St.addR St.delR St.moveR St.appG appG uq ur St.setR St.setB St.addB St.kill vJ rm AV.kill AV.killL is1 noB za QV appE Wu uw jt scE scD KJ CK.zeroD TK.cells O3.isSh O3.isEx cellsOf yy ux vB yo yd yX zt VT.cells xM qU szL wg vR vb xI xJ zR zS qC vW Zl YW Ku Kh Option.map_some Option.map_none Option.getD_some Option.getD_none List.map_cons List.map_nil List.getElem?_cons_zero List.getElem?_cons_succ List.getElem?_nil List.getD_cons_zero List.getD_cons_succ List.headD_cons List.tail_cons List.cons_append List.nil_append List.append_nil List.length_cons List.length_nil List.drop_zero List.take_zero List.drop_succ_cons List.take_succ_cons List.filter_cons List.filter_nil List.contains_cons List.contains_nil List.all_cons List.all_nil List.take_length Int.natCast_add Int.natCast_one Int.natCast_zero Int.cast_ofNat_Int Nat.zero_add Nat.add_zero Nat.mul_one Nat.div_one Nat.sub_zero Nat.zero_le if_true if_false true_and and_true and_self true_or or_true false_or or_false not_true_eq_false not_false_eq_true implies_true forall_const Bool.true_and Bool.and_true Bool.false_and Bool.and_false Bool.or_false Bool.false_or Bool.not_true Bool.not_false Bool.false_eq_true beq_self_eq_true eq_self_iff_true Option.some.injEq id_eq List.toList_toArray decide_true decide_false ne_eq forall_eq
def pre (a:List Int)(k:Nat):List Int:=a.take k++List.replicate (a.length - k) 0
def iot (k:Int):Nat→List Int
 |0=> []
 |n+1=>iot k n++ [k+n]
theorem zB4 (k:Int): ∀n,(iot k n).length=n
 |0=>rfl
 |n+1=>by simp [iot,zB4 k n]
def mkR (k:Int):List (List Int)→List (List Int)
 | []=> []
 |r::rs=>iot k r.length::mkR (k+r.length) rs
theorem zHV (k:Int)(rs:List (List Int)):(mkR k rs).length=rs.length:=by
 induction rs generalizing k with
 |nil=>rfl
 |cons r rs ih=>simp [mkR,ih]
def less (l:Int)(n:Nat):Int:=if l - n<0 then -1 else l - n
def LnI (B:Nat)(a:List Int):Prop:=a.length≤B
def ZD (B:Nat)(a:List (List Int)):Prop:=a.length≤B∧∀r∈a,r.length≤B
theorem LnI.mono {B C:Nat}(hB:B≤C){a:List Int}(h:LnI B a):LnI C a:=Nat.le_trans h hB
theorem ZD.mono {B C:Nat}(hB:B≤C){a:List (List Int)}(h:ZD B a):ZD C a:=⟨Nat.le_trans h.1 hB,fun r hr=>Nat.le_trans (h.2 r hr) hB⟩
theorem kc {P:Go.Program}{τ:Ty}{Q:Go.Exit→St→Prop}{st:St}{ι:Type}{x y:Go.Code}(ds rs:List Nat)(L:ι→List (Nat×AV))(B:ι→List (Nat×List AV))(R:ι→List (Nat×zo))(I:ι→Prop)
  (hx: ∀K:St→Prop,(∀st',(∃j,I j∧Cov st' (st.reset ds rs (L j) (B j) (R j)))→K st')→awp P τ x (zR K Q) st) (hy: ∀j,I j→awp P τ y Q (st.reset ds rs (L j) (B j) (R j))):awp P τ (.seq x y) Q st:=
 zFO (fun j=>st.reset ds rs (L j) (B j) (R j)) I hx hy
theorem zGI (k:Int)(n:Nat):(iot k n).take n=iot k n:=List.take_of_length_le (by rw [zB4];exact Nat.le_refl _)
theorem zGJ (k:Int)(xs:List (List Int)):(mkR k xs).take xs.length=mkR k xs:=List.take_of_length_le (by rw [zHV];exact Nat.le_refl _)
theorem zHb :List.range 0= []:=rfl
theorem zHc :List.range 1= [0]:=rfl
theorem zHd :List.range 2= [0,1]:=rfl
attribute [push_cast] List.map_nil zHb zHc zHd
attribute [push_cast] zGI zGJ
open Go Go.RowKit
def St.settleB (ks:List CK)(b:Nat)(st:St):St:=
 match lk st.b b with
 |none=>st
 |some cells=>
  match lk (xv [] ks st (za b 0) [] cells).1.b b with
  |none=>st
  |some cells'=>if cells'.length=(xv [] ks st (za b 0) [] cells).2.length then(xv [] ks st (za b 0) [] cells).1.setB b (xv [] ks st (za b 0) [] cells).2 else st
theorem Yf {α:Type}{a b:List α}(h:b.length=a.length):lay a 0 b=b:=by
 unfold lay
 rw [Nat.zero_add,h,List.drop_length]
 simp
theorem yv {P:Program}{τ:Ty}(ks:List CK)(b:Nat){c:Code}{Q:Exit→St→Prop}{st:St}(h:awp P τ c Q (st.settleB ks b)):awp P τ c Q st:=by
 unfold St.settleB at h
 split at h
 ·exact h
 ·rename_i cells hl
  split at h
  ·exact h
  ·rename_i cells' hl'
   split at h
   ·rename_i hlen
    intro lo w0 a w hr
    obtain⟨ow,hd,bk,hrr⟩:=hr
    obtain⟨cs,ty,g1,g2,g3⟩:=hrr.box b cells hl
    obtain⟨ow1,hd1,r1,r2⟩:=ZS [] ks st ow hd (za b 0) [] cells [] cs hrr (by simp [zZ]) g3
    obtain⟨cs0,ty0,k1,k2,k3⟩:=r1.box b cells' hl'
    rw [List.nil_append]at r2
    have e0:cs0=cs:=by
     rw [g1]at k1
     simp only [Option.some.injEq,Obj.cells.injEq]at k1
     have :=k1.1
     simpa using this.symm
    subst e0
    have hrel:=Zy r1 hl' k1 (i:=0) (by omega) k3 r2
    rw [Yf rfl,Yf hlen.symm,setRow_self w _ _ _ _ k1]at hrel
    exact h lo w0 a w ⟨ow1,hd1,bk,hrel⟩
   ·exact h
attribute [push_cast] St.settleB
theorem zFJ (xs:List (List Int))(r:List Int):dII xs++ [D.lst 2 (dI r)]=dII (xs++ [r]):=by simp [dII]
theorem zGw (xs ys:List (List Int)):dII xs++dII ys=dII (xs++ys):=by simp [dII]
theorem zDN {xs:List (List Int)}{k:Nat}(h:k<xs.length):xs.take (k+1)=xs.take k++ [gl xs k]:=by rw [List.take_add_one,Kr h];rfl
theorem zDM {xs:List Int}{k:Nat}(h:k<xs.length):xs.take (k+1)=xs.take k++ [gi xs k]:=by rw [List.take_add_one,ZR h];rfl
attribute [push_cast] zFJ zGw
structure Ar where
 owner:List Int
 next:List (List Int)
 deriving DecidableEq
def dAr (x:Ar):List D:= [DI x.owner,DII x.next]
structure Ar.Ln (B:Nat)(x:Ar):Prop where
 owner:LnI B x.owner
 next:ZD B x.next
theorem Ar.ln_mono {B C:Nat}(hB:B≤C){x:Ar}(h:x.Ln B):x.Ln C:=⟨LnI.mono hB h.owner,ZD.mono hB h.next⟩
structure Wt where
 a:Ar
 cost:List (List Int)
 deriving DecidableEq
structure Wt.Ln (B:Nat)(x:Wt):Prop where
 a:x.a.Ln B
 cost:ZD B x.cost
theorem Wt.ln_mono {B C:Nat}(hB:B≤C){x:Wt}(h:x.Ln B):x.Ln C:=⟨Ar.ln_mono hB h.a,ZD.mono hB h.cost⟩
structure Ls where
 stem:List Int
 loop:List Int
 deriving DecidableEq
def dLs (x:Ls):List D:= [DI x.stem,DI x.loop]
structure Ls.Ln (B:Nat)(x:Ls):Prop where
 stem:LnI B x.stem
 loop:LnI B x.loop
theorem Ls.ln_mono {B C:Nat}(hB:B≤C){x:Ls}(h:x.Ln B):x.Ln C:=⟨LnI.mono hB h.stem,LnI.mono hB h.loop⟩
structure Fm where
 names:List Int
 sets:List (List Int)
 deriving DecidableEq
def dFm (x:Fm):List D:= [DI x.names,DII x.sets]
structure Fm.Ln (B:Nat)(x:Fm):Prop where
 names:LnI B x.names
 sets:ZD B x.sets
theorem Fm.ln_mono {B C:Nat}(hB:B≤C){x:Fm}(h:x.Ln B):x.Ln C:=⟨LnI.mono hB h.names,ZD.mono hB h.sets⟩
structure Pr where
 ask:List Int
 give:List Int
 deriving DecidableEq
structure Pr.Ln (B:Nat)(x:Pr):Prop where
 ask:LnI B x.ask
 give:LnI B x.give
theorem Pr.ln_mono {B C:Nat}(hB:B≤C){x:Pr}(h:x.Ln B):x.Ln C:=⟨LnI.mono hB h.ask,LnI.mono hB h.give⟩
end Go.Proofs.Ytipplkjdmdlhpaa
