/- The types of this seat's program. Printed by tygen.py. -/
import Derived.Test.YtipplkjdmdlhpaaGEzrc
import Derived.Test.YtipplkjdmdlhpaaRows
import Derived.Laws.CopyRow
namespace Go.Proofs.Ytipplkjdmdlhpaa
def tyT :Ty:= [(2, .sc (.int .i64),8),(3, .sc (.int .i64),8),(4, .sc .bool,1),(5, .sc (.int .u8),1),(21, .sc (.int .i32),4),(22, .sc (.sl 5),24),(26, .sc (.int .u64),8),(27, .sc (.sl 2),24),(28, .sc (.sl 27),24),(30, .st [.sl 2, .sl 27] [(0,27),(1,28)],48),(32, .sc (.sl 64),24),(36, .st [.sl 2, .sl 27, .sl 2] [(0,30),(2,27)],72),(37, .sc (.sl 72),24),(43, .st [.sl 2, .sl 2] [(0,27),(1,27)],48),(52, .st [.sl 2, .sl 27] [(0,27),(1,28)],48),(61, .st [.sl 5, .int .i64, .int .u64] [(0,22),(1,3),(2,26)],40),(62, .sc (.sl 4),24),(64, .st [.sl 2, .sl 2] [(0,27),(1,27)],48),(65, .sc (.int .u64),8),(72, .st [.int .i64, .sl 2] [(0,2),(1,27)],32)]
theorem zQ :zz Try.prog tyT:=zHG (by kernel_rfl)
theorem zN :yO tyT:=zFn (by kernel_rfl)
theorem xC :Try.prog.follows .mixedOrders=true:=by kernel_rfl
theorem tk_2 :tk tyT 2=some (.sc (.int .i64),8):=rfl
theorem sz_2 :sz tyT 2=1:=rfl
theorem cks_2 :cks tyT 2= [.int .i64]:=rfl
theorem tk_3 :tk tyT 3=some (.sc (.int .i64),8):=rfl
theorem sz_3 :sz tyT 3=1:=rfl
theorem cks_3 :cks tyT 3= [.int .i64]:=rfl
theorem tk_4 :tk tyT 4=some (.sc .bool,1):=rfl
theorem sz_4 :sz tyT 4=1:=rfl
theorem cks_4 :cks tyT 4= [.bool]:=rfl
theorem tk_5 :tk tyT 5=some (.sc (.int .u8),1):=rfl
theorem sz_5 :sz tyT 5=1:=rfl
theorem cks_5 :cks tyT 5= [.int .u8]:=rfl
theorem tk_21 :tk tyT 21=some (.sc (.int .i32),4):=rfl
theorem sz_21 :sz tyT 21=1:=rfl
theorem zHe :cks tyT 21= [.int .i32]:=rfl
theorem tk_22 :tk tyT 22=some (.sc (.sl 5),24):=rfl
theorem sz_22 :sz tyT 22=1:=rfl
theorem zHf :cks tyT 22= [.sl 5]:=rfl
theorem tk_26 :tk tyT 26=some (.sc (.int .u64),8):=rfl
theorem sz_26 :sz tyT 26=1:=rfl
theorem zHg :cks tyT 26= [.int .u64]:=rfl
theorem tk_27 :tk tyT 27=some (.sc (.sl 2),24):=rfl
theorem sz_27 :sz tyT 27=1:=rfl
theorem zHh :cks tyT 27= [.sl 2]:=rfl
theorem tk_28 :tk tyT 28=some (.sc (.sl 27),24):=rfl
theorem sz_28 :sz tyT 28=1:=rfl
theorem zHi :cks tyT 28= [.sl 27]:=rfl
theorem tk_30 :tk tyT 30=some (.st [.sl 2, .sl 27] [(0,27),(1,28)],48):=rfl
theorem sz_30 :sz tyT 30=2:=rfl
theorem zHj :cks tyT 30= [.sl 2, .sl 27]:=rfl
theorem tk_32 :tk tyT 32=some (.sc (.sl 64),24):=rfl
theorem sz_32 :sz tyT 32=1:=rfl
theorem zHk :cks tyT 32= [.sl 64]:=rfl
theorem tk_36 :tk tyT 36=some (.st [.sl 2, .sl 27, .sl 2] [(0,30),(2,27)],72):=rfl
theorem sz_36 :sz tyT 36=3:=rfl
theorem zHl :cks tyT 36= [.sl 2, .sl 27, .sl 2]:=rfl
theorem tk_37 :tk tyT 37=some (.sc (.sl 72),24):=rfl
theorem sz_37 :sz tyT 37=1:=rfl
theorem zHm :cks tyT 37= [.sl 72]:=rfl
theorem tk_43 :tk tyT 43=some (.st [.sl 2, .sl 2] [(0,27),(1,27)],48):=rfl
theorem sz_43 :sz tyT 43=2:=rfl
theorem zHn :cks tyT 43= [.sl 2, .sl 2]:=rfl
theorem tk_52 :tk tyT 52=some (.st [.sl 2, .sl 27] [(0,27),(1,28)],48):=rfl
theorem sz_52 :sz tyT 52=2:=rfl
theorem zHo :cks tyT 52= [.sl 2, .sl 27]:=rfl
theorem tk_61 :tk tyT 61=some (.st [.sl 5, .int .i64, .int .u64] [(0,22),(1,3),(2,26)],40):=rfl
theorem sz_61 :sz tyT 61=3:=rfl
theorem zHp :cks tyT 61= [.sl 5, .int .i64, .int .u64]:=rfl
theorem tk_62 :tk tyT 62=some (.sc (.sl 4),24):=rfl
theorem sz_62 :sz tyT 62=1:=rfl
theorem zHq :cks tyT 62= [.sl 4]:=rfl
theorem tk_64 :tk tyT 64=some (.st [.sl 2, .sl 2] [(0,27),(1,27)],48):=rfl
theorem sz_64 :sz tyT 64=2:=rfl
theorem zHr :cks tyT 64= [.sl 2, .sl 2]:=rfl
theorem tk_65 :tk tyT 65=some (.sc (.int .u64),8):=rfl
theorem sz_65 :sz tyT 65=1:=rfl
theorem zHs :cks tyT 65= [.int .u64]:=rfl
theorem tk_72 :tk tyT 72=some (.st [.int .i64, .sl 2] [(0,2),(1,27)],32):=rfl
theorem sz_72 :sz tyT 72=2:=rfl
theorem zHt :cks tyT 72= [.int .i64, .sl 2]:=rfl
attribute [push_cast] tk_2 sz_2 cks_2 tk_3 sz_3 cks_3 tk_4 sz_4 cks_4 tk_5 sz_5 cks_5 tk_21 sz_21 zHe tk_22 sz_22 zHf tk_26 sz_26 zHg tk_27 sz_27 zHh tk_28 sz_28 zHi tk_30 sz_30 zHj tk_32 sz_32 zHk tk_36 sz_36 zHl tk_37 sz_37 zHm tk_43 sz_43 zHn tk_52 sz_52 zHo tk_61 sz_61 zHp tk_62 sz_62 zHq tk_64 sz_64 zHr tk_65 sz_65 zHs tk_72 sz_72 zHt
open Go.RowKit
set_option linter.unusedVariables false
set_option linter.unusedSimpArgs false
def gi (xs:List Int)(k:Nat):Int:=xs.getD k 0
def gl (rows:List (List Int))(k:Nat):List Int:=rows.getD k []
def gb (xs:List Bool)(k:Nat):Bool:=xs.getD k false
theorem wt {xs:List Int}{k:Nat}(h:k<xs.length):xs[k]? =some (gi xs k):=by
 unfold gi;rw [List.getD_eq_getElem?_getD,List.getElem?_eq_getElem h];rfl
theorem zCV {xs:List (List Int)}{k:Nat}(h:k<xs.length):xs[k]? =some (gl xs k):=by
 unfold gl;rw [List.getD_eq_getElem?_getD,List.getElem?_eq_getElem h];rfl
def dI (xs:List Int):List D:=xs.map (.int .i64)
def dB (xs:List Bool):List D:=xs.map .bool
def dII (xss:List (List Int)):List D:=xss.map fun r=> .lst 2 (dI r)
@[reducible] def DI (xs : List Int) : D := .lst 2 (dI xs)
@[reducible] def DII (xss : List (List Int)) : D := .lst 27 (dII xss)
theorem KZ (xs:List Int):(dI xs).length=xs.length:=by simp [dI]
theorem zIB (xs:List Bool):(dB xs).length=xs.length:=by simp [dB]
theorem zGp (xs:List (List Int)):(dII xs).length=xs.length:=by simp [dII]
theorem zGc (xs:List Int)(i:Nat):YW (dI xs) i=gi xs i:=by
 unfold YW dI gi
 rw [List.getElem?_map,List.getD_eq_getElem?_getD]
 cases xs[i]? <;>rfl
theorem zGb (xs:List Bool)(i:Nat):getB (dB xs) i=gb xs i:=by
 unfold getB dB gb
 rw [List.getElem?_map,List.getD_eq_getElem?_getD]
 cases xs[i]? <;>rfl
theorem JX (xs:List (List Int))(i:Nat):xF (dII xs) i=dI (gl xs i):=by
 unfold xF dII gl
 rw [List.getElem?_map,List.getD_eq_getElem?_getD]
 cases xs[i]? <;>rfl
theorem zP {xs:List (List Int)}{i:Nat}(h:i<xs.length):qg (dII xs) i=2:=by
 unfold qg dII
 rw [List.getElem?_map,List.getElem?_eq_getElem h]
 rfl
theorem xS (xs:List Int)(i:Nat):yV (.int .i64) (dI xs) i=(i<xs.length):=by
 unfold yV dI
 rw [List.getElem?_map]
 apply propext
 constructor
 ·rintro⟨n,h⟩
  rcases Nat.lt_or_ge i xs.length with h'|h'
  ·exact h'
  ·rw [List.getElem?_eq_none h']at h;cases h
 ·intro h;rw [List.getElem?_eq_getElem h];exact⟨_,rfl⟩
theorem zGD (xs:List Bool)(i:Nat):yV .bool (dB xs) i=(i<xs.length):=by
 unfold yV dB
 rw [List.getElem?_map]
 apply propext
 constructor
 ·rintro⟨n,h⟩
  rcases Nat.lt_or_ge i xs.length with h'|h'
  ·exact h'
  ·rw [List.getElem?_eq_none h']at h;cases h
 ·intro h;rw [List.getElem?_eq_getElem h];exact⟨_,rfl⟩
theorem JP (xs:List (List Int))(i:Nat):yV (.sl 2) (dII xs) i=(i<xs.length):=by
 unfold yV dII
 rw [List.getElem?_map]
 apply propext
 constructor
 ·rintro⟨n,h⟩
  rcases Nat.lt_or_ge i xs.length with h'|h'
  ·exact h'
  ·rw [List.getElem?_eq_none h']at h;cases h
 ·intro h;rw [List.getElem?_eq_getElem h];exact⟨_,rfl⟩
theorem Qh (xs:List (List Int))(i:Nat):zl (dII xs) [i]=(i<xs.length):=by
 apply propext
 simp only [zl,and_true]
 unfold dII
 rw [List.getElem?_map]
 constructor
 ·rintro⟨e,n,h⟩
  rcases Nat.lt_or_ge i xs.length with h'|h'
  ·exact h'
  ·rw [List.getElem?_eq_none h']at h;cases h
 ·intro h;rw [List.getElem?_eq_getElem h];exact⟨_,_,rfl⟩
theorem zCj (xs:List D):zl xs []=True:=by simp [zl]
theorem zGV (xs:List Int)(n:Nat):(dI xs).drop n=dI (xs.drop n):=by simp [dI]
theorem zHD (xs:List Int)(n:Nat):(dI xs).take n=dI (xs.take n):=by simp [dI]
theorem zE1 (xs:List (List Int))(n:Nat):(dII xs).drop n=dII (xs.drop n):=by simp [dII]
theorem zFi (xs:List (List Int))(n:Nat):(dII xs).take n=dII (xs.take n):=by simp [dII]
theorem zHT (xs ys:List Int):dI xs++dI ys=dI (xs++ys):=by simp [dI]
theorem yq (xs:List Int):(dI xs).all xU=true:=by simp [dI,xU]
theorem zEn (xs:List Bool):(dB xs).all xU=true:=by simp [dB,xU]
theorem zIT (xs:List Int)(i:Nat)(n:Int):(dI xs).set i (.int .i64 n)=dI (xs.set i n):=by simp [dI]
theorem zIS (xs:List Bool)(i:Nat)(b:Bool):(dB xs).set i (.bool b)=dB (xs.set i b):=by simp [dB]
theorem zGL (xs:List Int)(n:Int):dI xs++ [D.int .i64 n]=dI (xs++ [n]):=by simp [dI]
theorem zIQ (n:Nat)(x:Int):List.replicate n (D.int .i64 x)=dI (List.replicate n x):=by simp [dI]
theorem zIP (n:Nat)(x:Bool):List.replicate n (D.bool x)=dB (List.replicate n x):=by simp [dB]
theorem zEX (n:Nat):((n:Int)).toNat=n:=Int.toNat_natCast n
def zi (s:List (Nat×AV)):List (Nat×AV)→Prop
 | []=>True
 |(k,v)::l=>(v= .dead∨lk s k=some v)∧zi s l
def zh {α:Type}(s:List (Nat×α)):List (Nat×α)→Prop
 | []=>True
 |(k,v)::l=>lk s k=some v∧zh s l
theorem zBU {s:List (Nat×AV)}: ∀{l:List (Nat×AV)},zi s l→∀k v,lk l k=some v→v= .dead∨lk s k=some v
 | [],_,k,v,h=>by simp [lk]at h
 |(j,u)::l,hc,k,v,h=>by
  simp only [zc]at h
  split at h
  ·rename_i e;subst e;cases h;exact hc.1
  ·exact zBU hc.2 k v h
theorem jK {α:Type}{s:List (Nat×α)}: ∀{l:List (Nat×α)},zh s l→∀k v,lk l k=some v→lk s k=some v
 | [],_,k,v,h=>by simp [lk]at h
 |(j,u)::l,hc,k,v,h=>by
  simp only [zc]at h
  split at h
  ·rename_i e;subst e;cases h;exact hc.1
  ·exact jK hc.2 k v h
theorem zb {st st':St}(h1:st'.n=st.n)(h2:zi st.s st'.s)(h3:zh st.b st'.b)(h4:zh st.r st'.r):Cov st st':=⟨h1,zBU h2,jK h3,jK h4⟩
theorem zEN (xs:List D)(i:Nat)(x:D):qK xs [] i x=xs.set i x:=rfl
theorem zCw (k:Nat):((k:Int) - 1).toNat=k - 1:=by omega
theorem zCv (k:Nat):((k:Int)+1).toNat=k+1:=by omega
theorem zH3 (e:TypeId)(ys l:List D):xF (.lst e ys::l) 0=ys:=rfl
theorem zH2 (x:D)(l:List D)(i:Nat):xF (x::l) (i+1)=xF l i:=rfl
theorem zHz (e:TypeId)(ys l:List D):qg (.lst e ys::l) 0=e:=rfl
theorem zHy (x:D)(l:List D)(i:Nat):qg (x::l) (i+1)=qg l i:=rfl
theorem zH1 (k:IntKind)(n:Int)(l:List D):YW (.int k n::l) 0=n:=rfl
theorem zH0 (x:D)(l:List D)(i:Nat):YW (x::l) (i+1)=YW l i:=rfl
theorem zFN (e:TypeId)(ys l:List D)(q:List Nat):zl (.lst e ys::l) (0::q)=zl ys q:=by
 apply propext
 simp only [zl,List.getElem?_cons_zero]
 constructor
 ·rintro⟨e',ys',h,h2⟩;cases h;exact h2
 ·exact fun h=>⟨e,ys,rfl,h⟩
theorem zFM (x:D)(l:List D)(i:Nat)(q:List Nat):zl (x::l) ((i+1)::q)=zl l (i::q):=by
 simp only [zl,List.getElem?_cons_succ]
theorem zGG (e e':TypeId)(ys l:List D):yV (.sl e) (.lst e' ys::l) 0=(e=e'):=by
 apply propext
 simp only [yV,List.getElem?_cons_zero]
 constructor
 ·rintro⟨ys',h⟩;cases h;rfl
 ·rintro rfl;exact⟨ys,rfl⟩
theorem zGF (k k':IntKind)(n:Int)(l:List D):yV (.int k) (.int k' n::l) 0=(k=k'):=by
 apply propext
 simp only [yV,List.getElem?_cons_zero]
 constructor
 ·rintro⟨ys',h⟩;cases h;rfl
 ·rintro rfl;exact⟨n,rfl⟩
theorem zHK (c:CK)(x:D)(l:List D)(i:Nat):yV c (x::l) (i+1)=yV c l i:=by
 cases c<;>simp only [yV,List.getElem?_cons_succ]
attribute [push_cast] zH3 zH2 zHz zHy zH1 zH0 zFN zFM zGG zGF zHK
attribute [push_cast] Vb wS jD jZ vP wG VO fpA qd fpB fpC XO qj wh uA xk Decidable.not_not Int.zero_add Bool.true_or Bool.or_true Int.toNat_zero Int.toNat_one zCw zCv false_implies true_implies decide_eq_true_eq decide_eq_false_iff_not Bool.not_eq_true' Bool.not_eq_false' beq_iff_eq beq_eq_false_iff_ne bne_iff_ne bne_eq_false_iff_eq Int.add_zero Option.some_beq_none wJ wY Qv epL XT.cells fewX vw Ze ZH vv wi qO Yo wO Xk mkF QN shE arC IntKind.bits WK Jx xw Xs Zf Ki wy XB apart qJ vX Yu vC qc zAF zAG few Zj Ka wH Xg Zk List.mem_cons List.not_mem_nil Option.isNone_some Option.isNone_none List.set_cons_zero List.singleton_append zEN wI jb xg yX St.settle St.app St.start St.cut KM AV.cut AV.cutL wM YD vY XW XX ZD wk Zs orE vz repC qq XE O3.own wE qQ wD vj Qd Je vF Xb ZE XL qR Dl.skip Dl.wr fp AV.nm AV.nmL Op.operands Call.operands St.clean yi List.foldr_cons List.foldr_nil St.reset qf aop yB zr zFq xt effM qL ev zc xO cv cv1 jI ar QQ WN unE qo wq UR wu onR wz wn Qb vh jW jX WZ Xm vK fieldsOf lay wC zCj Qh yQ qz wP vQ kx xS zGD JP zGc zGb JX KZ zIB zGp zGV zHD zE1 zFi zHT yq zEn zIT zIS zGL zIQ zIP zEX hom qw uF ww qm vB St.put St.addR St.delR St.moveR St.appG appG uD uE St.setR St.setB St.addB St.kill qx rm AV.kill AV.killL is1 noB za QC appE WY uI jT scE scD Jm CK.zeroD TK.cells O3.isSh O3.isEx cellsOf yr uJ ql yk yY yR zq VT.cells xG qE szL wN vI vT xD xE zR zT xp vM ZO YE KT KK Option.map_some Option.map_none Option.getD_some Option.getD_none List.map_cons List.map_nil List.getElem?_cons_zero List.getElem?_cons_succ List.getElem?_nil List.getD_cons_zero List.getD_cons_succ List.headD_cons List.tail_cons List.cons_append List.nil_append List.append_nil List.length_cons List.length_nil List.drop_zero List.take_zero List.drop_succ_cons List.take_succ_cons List.filter_cons List.filter_nil List.contains_cons List.contains_nil List.all_cons List.all_nil List.take_length Int.natCast_add Int.natCast_one Int.natCast_zero Int.cast_ofNat_Int Nat.zero_add Nat.add_zero Nat.mul_one Nat.div_one Nat.sub_zero Nat.zero_le if_true if_false true_and and_true and_self true_or or_true false_or or_false not_true_eq_false not_false_eq_true implies_true forall_const Bool.true_and Bool.and_true Bool.false_and Bool.and_false Bool.or_false Bool.false_or Bool.not_true Bool.not_false Bool.false_eq_true beq_self_eq_true eq_self_iff_true Option.some.injEq id_eq List.toList_toArray decide_true decide_false ne_eq forall_eq
def pre (a:List Int)(k:Nat):List Int:=a.take k++List.replicate (a.length - k) 0
def iot (k:Int):Nat→List Int
 |0=> []
 |n+1=>iot k n++ [k+n]
theorem zBc (k:Int): ∀n,(iot k n).length=n
 |0=>rfl
 |n+1=>by simp [iot,zBc k n]
def mkR (k:Int):List (List Int)→List (List Int)
 | []=> []
 |r::rs=>iot k r.length::mkR (k+r.length) rs
theorem zGw (k:Int)(rs:List (List Int)):(mkR k rs).length=rs.length:=by
 induction rs generalizing k with
 |nil=>rfl
 |cons r rs ih=>simp [mkR,ih]
def less (l:Int)(n:Nat):Int:=if l - n<0 then -1 else l - n
def LnI (B:Nat)(a:List Int):Prop:=a.length≤B
def Zp (B:Nat)(a:List (List Int)):Prop:=a.length≤B∧∀r∈a,r.length≤B
theorem LnI.mono {B C:Nat}(hB:B≤C){a:List Int}(h:LnI B a):LnI C a:=Nat.le_trans h hB
theorem Zp.mono {B C:Nat}(hB:B≤C){a:List (List Int)}(h:Zp B a):Zp C a:=⟨Nat.le_trans h.1 hB,fun r hr=>Nat.le_trans (h.2 r hr) hB⟩
theorem zFj (k:Int)(n:Nat):(iot k n).take n=iot k n:=List.take_of_length_le (by rw [zBc];exact Nat.le_refl _)
theorem zFk (k:Int)(xs:List (List Int)):(mkR k xs).take xs.length=mkR k xs:=List.take_of_length_le (by rw [zGw];exact Nat.le_refl _)
theorem zG1 :List.range 0= []:=rfl
theorem zG2 :List.range 1= [0]:=rfl
theorem zG3 :List.range 2= [0,1]:=rfl
attribute [push_cast] List.map_nil zG1 zG2 zG3
attribute [push_cast] zFj zFk
open Go Go.RowKit
def St.settleB (ks:List CK)(b:Nat)(st:St):St:=
 match lk st.b b with
 |none=>st
 |some cells=>
  match lk (qw [] ks st (za b 0) [] cells).1.b b with
  |none=>st
  |some cells'=>if cells'.length=(qw [] ks st (za b 0) [] cells).2.length then(qw [] ks st (za b 0) [] cells).1.setB b (qw [] ks st (za b 0) [] cells).2 else st
theorem zBg {α:Type}{a b:List α}(h:b.length=a.length):lay a 0 b=b:=by
 unfold lay
 rw [Nat.zero_add,h,List.drop_length]
 simp
theorem xz {P:Program}{τ:Ty}(ks:List CK)(b:Nat){c:Code}{Q:Exit→St→Prop}{st:St}(h:awp P τ c Q (st.settleB ks b)):awp P τ c Q st:=by
 unfold St.settleB at h
 split at h
 ·exact h
 ·rename_i cells hl
  split at h
  ·exact h
  ·rename_i cells' hl'
   split at h
   ·rename_i hlen
    intro lo w0 a w hr
    obtain⟨ow,hd,bk,hrr⟩:=hr
    obtain⟨cs,ty,g1,g2,g3⟩:=hrr.box b cells hl
    obtain⟨ow1,hd1,r1,r2⟩:=QW [] ks st ow hd (za b 0) [] cells [] cs hrr (by simp [zY]) g3
    obtain⟨cs0,ty0,k1,k2,k3⟩:=r1.box b cells' hl'
    rw [List.nil_append]at r2
    have e0:cs0=cs:=by
     rw [g1]at k1
     simp only [Option.some.injEq,Obj.cells.injEq]at k1
     have :=k1.1
     simpa using this.symm
    subst e0
    have hrel:=VN r1 hl' k1 (i:=0) (by omega) k3 r2
    rw [zBg rfl,zBg hlen.symm,setRow_self w _ _ _ _ k1]at hrel
    exact h lo w0 a w ⟨ow1,hd1,bk,hrel⟩
   ·exact h
attribute [push_cast] St.settleB
theorem zEp (xs:List (List Int))(r:List Int):dII xs++ [D.lst 2 (dI r)]=dII (xs++ [r]):=by simp [dII]
theorem zGM (xs ys:List (List Int)):dII xs++dII ys=dII (xs++ys):=by simp [dII]
theorem zCu {xs:List (List Int)}{k:Nat}(h:k<xs.length):xs.take (k+1)=xs.take k++ [gl xs k]:=by rw [List.take_add_one,zCV h];rfl
theorem Qx {xs:List Int}{k:Nat}(h:k<xs.length):xs.take (k+1)=xs.take k++ [gi xs k]:=by rw [List.take_add_one,wt h];rfl
attribute [push_cast] zEp zGM
structure Ar where
 owner:List Int
 next:List (List Int)
 deriving DecidableEq
def dAr (x:Ar):List D:= [DI x.owner,DII x.next]
structure Ar.Ln (B:Nat)(x:Ar):Prop where
 owner:LnI B x.owner
 next:Zp B x.next
theorem Ar.ln_mono {B C:Nat}(hB:B≤C){x:Ar}(h:x.Ln B):x.Ln C:=⟨LnI.mono hB h.owner,Zp.mono hB h.next⟩
structure Wt where
 a:Ar
 cost:List (List Int)
 deriving DecidableEq
structure Wt.Ln (B:Nat)(x:Wt):Prop where
 a:x.a.Ln B
 cost:Zp B x.cost
theorem Wt.ln_mono {B C:Nat}(hB:B≤C){x:Wt}(h:x.Ln B):x.Ln C:=⟨Ar.ln_mono hB h.a,Zp.mono hB h.cost⟩
structure Ls where
 stem:List Int
 loop:List Int
 deriving DecidableEq
def dLs (x:Ls):List D:= [DI x.stem,DI x.loop]
structure Ls.Ln (B:Nat)(x:Ls):Prop where
 stem:LnI B x.stem
 loop:LnI B x.loop
theorem Ls.ln_mono {B C:Nat}(hB:B≤C){x:Ls}(h:x.Ln B):x.Ln C:=⟨LnI.mono hB h.stem,LnI.mono hB h.loop⟩
structure Fm where
 names:List Int
 sets:List (List Int)
 deriving DecidableEq
structure Fm.Ln (B:Nat)(x:Fm):Prop where
 names:LnI B x.names
 sets:Zp B x.sets
theorem Fm.ln_mono {B C:Nat}(hB:B≤C){x:Fm}(h:x.Ln B):x.Ln C:=⟨LnI.mono hB h.names,Zp.mono hB h.sets⟩
structure Pr where
 ask:List Int
 give:List Int
 deriving DecidableEq
structure Pr.Ln (B:Nat)(x:Pr):Prop where
 ask:LnI B x.ask
 give:LnI B x.give
theorem Pr.ln_mono {B C:Nat}(hB:B≤C){x:Pr}(h:x.Ln B):x.Ln C:=⟨LnI.mono hB h.ask,LnI.mono hB h.give⟩
end Go.Proofs.Ytipplkjdmdlhpaa
