/- Numbers, truth values and rows as data; what the evaluation ye of them. -/
import Derived.Test.YthepmdkpbjfdcaaTyztm
import Derived.Laws.CopyRow
namespace Go.Proofs.Ythepmdkpbjfdcaa
open Nat renaming reduceMod → zA, reduceMul → zB, reduceDiv → zC, reduceAdd → zD, reduceSub → zE, reduceEqDiff → zF, reduceBEq → zG, reduceLT → zH, reduceLeDiff → zI
open Go.RowKit
set_option linter.unusedVariables false
set_option linter.unusedSimpArgs false
def gi (xs:List Int)(k:Nat):Int:=xs.getD k 0
def gl (rows:List (List Int))(k:Nat):List Int:=rows.getD k []
def gb (xs:List Bool)(k:Nat):Bool:=xs.getD k false
theorem vJ {xs:List Int}{k:Nat}(h:k<xs.length):xs[k]? =some (gi xs k):=by
 unfold gi;rw [List.getD_eq_getElem?_getD,List.getElem?_eq_getElem h];rfl
theorem vL {xs:List (List Int)}{k:Nat}(h:k<xs.length):xs[k]? =some (gl xs k):=by
 unfold gl;rw [List.getD_eq_getElem?_getD,List.getElem?_eq_getElem h];rfl
def dI (xs:List Int):List D:=xs.map (.int .i64)
def dB (xs:List Bool):List D:=xs.map .bool
def dII (xss:List (List Int)):List D:=xss.map fun r=> .lst 2 (dI r)
@[reducible] def DI (xs : List Int) : D := .lst 2 (dI xs)
@[reducible] def DII (xss : List (List Int)) : D := .lst 22 (dII xss)
theorem jX (xs:List Int):(dI xs).length=xs.length:=by simp [dI]
theorem zDm (xs:List Bool):(dB xs).length=xs.length:=by simp [dB]
theorem Wp (xs:List (List Int)):(dII xs).length=xs.length:=by simp [dII]
theorem zCU (xs:List Int)(i:Nat):Yw (dI xs) i=gi xs i:=by
 unfold Yw dI gi
 rw [List.getElem?_map,List.getD_eq_getElem?_getD]
 cases xs[i]? <;>rfl
theorem zCS (xs:List Bool)(i:Nat):getB (dB xs) i=gb xs i:=by
 unfold getB dB gb
 rw [List.getElem?_map,List.getD_eq_getElem?_getD]
 cases xs[i]? <;>rfl
theorem jR (xs:List (List Int))(i:Nat):yq (dII xs) i=dI (gl xs i):=by
 unfold yq dII gl
 rw [List.getElem?_map,List.getD_eq_getElem?_getD]
 cases xs[i]? <;>rfl
theorem zQ {xs:List (List Int)}{i:Nat}(h:i<xs.length):xv (dII xs) i=2:=by
 unfold xv dII
 rw [List.getElem?_map,List.getElem?_eq_getElem h]
 rfl
theorem zB1 (xs:List Int)(i:Nat):xE (.int .i64) (dI xs) i=(i<xs.length):=by
 unfold xE dI
 rw [List.getElem?_map]
 apply propext
 constructor
 ·rintro⟨n,h⟩
  rcases Nat.lt_or_ge i xs.length with h'|h'
  ·exact h'
  ·rw [List.getElem?_eq_none h']at h;cases h
 ·intro h;rw [List.getElem?_eq_getElem h];exact⟨_,rfl⟩
theorem zB0 (xs:List Bool)(i:Nat):xE .bool (dB xs) i=(i<xs.length):=by
 unfold xE dB
 rw [List.getElem?_map]
 apply propext
 constructor
 ·rintro⟨n,h⟩
  rcases Nat.lt_or_ge i xs.length with h'|h'
  ·exact h'
  ·rw [List.getElem?_eq_none h']at h;cases h
 ·intro h;rw [List.getElem?_eq_getElem h];exact⟨_,rfl⟩
theorem zAi (xs:List (List Int))(i:Nat):xE (.sl 2) (dII xs) i=(i<xs.length):=by
 unfold xE dII
 rw [List.getElem?_map]
 apply propext
 constructor
 ·rintro⟨n,h⟩
  rcases Nat.lt_or_ge i xs.length with h'|h'
  ·exact h'
  ·rw [List.getElem?_eq_none h']at h;cases h
 ·intro h;rw [List.getElem?_eq_getElem h];exact⟨_,rfl⟩
theorem UK (xs:List (List Int))(i:Nat):zf (dII xs) [i]=(i<xs.length):=by
 apply propext
 simp only [zf,and_true]
 unfold dII
 rw [List.getElem?_map]
 constructor
 ·rintro⟨e,n,h⟩
  rcases Nat.lt_or_ge i xs.length with h'|h'
  ·exact h'
  ·rw [List.getElem?_eq_none h']at h;cases h
 ·intro h;rw [List.getElem?_eq_getElem h];exact⟨_,_,rfl⟩
theorem UL (xs:List D):zf xs []=True:=by simp [zf]
theorem zCL (xs:List Int)(n:Nat):(dI xs).drop n=dI (xs.drop n):=by simp [dI]
theorem zC3 (xs:List Int)(n:Nat):(dI xs).take n=dI (xs.take n):=by simp [dI]
theorem zA7 (xs:List (List Int))(n:Nat):(dII xs).drop n=dII (xs.drop n):=by simp [dII]
theorem zBh (xs:List (List Int))(n:Nat):(dII xs).take n=dII (xs.take n):=by simp [dII]
theorem zDF (xs ys:List Int):dI xs++dI ys=dI (xs++ys):=by simp [dI]
theorem zAu (xs:List Int):(dI xs).all xG=true:=by simp [dI,xG]
theorem zAt (xs:List Bool):(dB xs).all xG=true:=by simp [dB,xG]
theorem zAX (xs:List Int)(i:Nat)(n:Int):(dI xs).set i (.int .i64 n)=dI (xs.set i n):=by simp [dI]
theorem zD2 (xs:List Bool)(i:Nat)(b:Bool):(dB xs).set i (.bool b)=dB (xs.set i b):=by simp [dB]
theorem Zq (xs:List (List Int))(j i:Nat)(n:Int)(h:j<xs.length):xK (dII xs) [j] i (.int .i64 n)=dII (xs.set j ((gl xs j).set i n)):=by
 simp only [xK,jR,zAX,zQ h]
 unfold dII
 rw [List.map_set]
theorem zB6 (xs:List Int)(n:Int):dI xs++ [D.int .i64 n]=dI (xs++ [n]):=by simp [dI]
theorem zD0 (n:Nat)(x:Int):List.replicate n (D.int .i64 x)=dI (List.replicate n x):=by simp [dI]
theorem zDz (n:Nat)(x:Bool):List.replicate n (D.bool x)=dB (List.replicate n x):=by simp [dB]
theorem zAd (n:Nat):((n:Int)).toNat=n:=Int.toNat_natCast n
def zl (s:List (Nat×AV)):List (Nat×AV)→Prop
 | []=>True
 |(k,v)::l=>(v= .dead∨lk s k=some v)∧zl s l
def zk {α:Type}(s:List (Nat×α)):List (Nat×α)→Prop
 | []=>True
 |(k,v)::l=>lk s k=some v∧zk s l
theorem uD {s:List (Nat×AV)}: ∀{l:List (Nat×AV)},zl s l→∀k v,lk l k=some v→v= .dead∨lk s k=some v
 | [],_,k,v,h=>by simp [lk]at h
 |(j,u)::l,hc,k,v,h=>by
  simp only [za]at h
  split at h
  ·rename_i e;subst e;cases h;exact hc.1
  ·exact uD hc.2 k v h
theorem Wi {α:Type}{s:List (Nat×α)}: ∀{l:List (Nat×α)},zk s l→∀k v,lk l k=some v→lk s k=some v
 | [],_,k,v,h=>by simp [lk]at h
 |(j,u)::l,hc,k,v,h=>by
  simp only [za]at h
  split at h
  ·rename_i e;subst e;cases h;exact hc.1
  ·exact Wi hc.2 k v h
theorem zd {st st':St}(h1:st'.n=st.n)(h2:zl st.s st'.s)(h3:zk st.b st'.b)(h4:zk st.r st'.r):Cov st st':=⟨h1,uD h2,Wi h3,Wi h4⟩
theorem zAW (xs:List D)(i:Nat)(x:D):xK xs [] i x=xs.set i x:=rfl
theorem UW (k:Nat):((k:Int) - 1).toNat=k - 1:=by omega
theorem UV (k:Nat):((k:Int)+1).toNat=k+1:=by omega
theorem zDg (e:TypeId)(ys l:List D):yq (.lst e ys::l) 0=ys:=rfl
theorem zDf (x:D)(l:List D)(i:Nat):yq (x::l) (i+1)=yq l i:=rfl
theorem zDc (e:TypeId)(ys l:List D):xv (.lst e ys::l) 0=e:=rfl
theorem zDb (x:D)(l:List D)(i:Nat):xv (x::l) (i+1)=xv l i:=rfl
theorem zDe (k:IntKind)(n:Int)(l:List D):Yw (.int k n::l) 0=n:=rfl
theorem zDd (x:D)(l:List D)(i:Nat):Yw (x::l) (i+1)=Yw l i:=rfl
theorem zBV (e:TypeId)(ys l:List D)(q:List Nat):zf (.lst e ys::l) (0::q)=zf ys q:=by
 apply propext
 simp only [zf,List.getElem?_cons_zero]
 constructor
 ·rintro⟨e',ys',h,h2⟩;cases h;exact h2
 ·exact fun h=>⟨e,ys,rfl,h⟩
theorem zBU (x:D)(l:List D)(i:Nat)(q:List Nat):zf (x::l) ((i+1)::q)=zf l (i::q):=by
 simp only [zf,List.getElem?_cons_succ]
theorem zB3 (e e':TypeId)(ys l:List D):xE (.sl e) (.lst e' ys::l) 0=(e=e'):=by
 apply propext
 simp only [xE,List.getElem?_cons_zero]
 constructor
 ·rintro⟨ys',h⟩;cases h;rfl
 ·rintro rfl;exact⟨ys,rfl⟩
theorem zB2 (k k':IntKind)(n:Int)(l:List D):xE (.int k) (.int k' n::l) 0=(k=k'):=by
 apply propext
 simp only [xE,List.getElem?_cons_zero]
 constructor
 ·rintro⟨ys',h⟩;cases h;rfl
 ·rintro rfl;exact⟨n,rfl⟩
theorem zC7 (c:CK)(x:D)(l:List D)(i:Nat):xE c (x::l) (i+1)=xE c l i:=by
 cases c<;>simp only [xE,List.getElem?_cons_succ]
attribute [push_cast] zDg zDf zDc zDb zDe zDd zBV zBU zB3 zB2 zC7
attribute [push_cast] Xi vb We Wy fpA qt fpB fpC Zy vG vu KK xA Decidable.not_not Int.zero_add Bool.true_or Bool.or_true Int.toNat_zero Int.toNat_one UW UV false_implies true_implies decide_eq_true_eq decide_eq_false_iff_not Bool.not_eq_true' Bool.not_eq_false' beq_iff_eq beq_eq_false_iff_ne bne_iff_ne bne_eq_false_iff_eq Int.add_zero Option.some_beq_none XT.cells vw xY Zf shE arC IntKind.bits QJ Vf vN Yb wc WM wi Zo apart xt va XD qR qh jn jo few ZU WD vW ZL wC List.mem_cons List.not_mem_nil Option.isNone_some Option.isNone_none List.set_cons_zero List.singleton_append zAW xi yQ St.settle St.app St.start St.cut Vw AV.cut AV.cutL vY ZB qq YF YG Zw wI wo orE vI repC qF Zr O3.own vT xw vv qx XF VK qT YN wH Zv xh Dl.skip Dl.wr fp AV.nm AV.nmL Op.operands Call.operands St.clean ye List.foldr_cons List.foldr_nil St.reset qO aop zv zq zBp xQ effM xU ev za yo cv cv1 Wh ar Ys QK unE qD vz jM wA onR wE vy XB qv Wu Ww QQ YT qW fieldsOf lay vS UL UK yE qZ vZ qe KI zB1 zB0 zAi zCU zCS jR jX zDm Wp zCL zC3 zA7 zBh zDF zAu zAt zAX zD2 zB6 zD0 zDz zAd hom qJ Vq wB qB qN St.put St.addR St.delR St.moveR St.appG appG KM KN St.setR St.setB St.addB St.kill YK rm AV.kill AV.killL is1 noB zX Yi appE QP KQ Wq scE scD VR CK.zeroD TK.cells O3.isSh O3.isEx cellsOf yP KR qo yV yU yH zm VT.cells yp xx szL wT vf ZZ xr yr zS zT xC qc wR ZC KP Vt Option.map_some Option.map_none Option.getD_some Option.getD_none List.map_cons List.map_nil List.getElem?_cons_zero List.getElem?_cons_succ List.getElem?_nil List.getD_cons_zero List.getD_cons_succ List.headD_cons List.tail_cons List.cons_append List.nil_append List.append_nil List.length_cons List.length_nil List.drop_zero List.take_zero List.drop_succ_cons List.take_succ_cons List.filter_cons List.filter_nil List.contains_cons List.contains_nil List.all_cons List.all_nil List.take_length Int.natCast_add Int.natCast_one Int.natCast_zero Int.cast_ofNat_Int Nat.zero_add Nat.add_zero Nat.mul_one Nat.div_one Nat.sub_zero Nat.zero_le if_true if_false true_and and_true and_self true_or or_true false_or or_false not_true_eq_false not_false_eq_true implies_true forall_const Bool.true_and Bool.and_true Bool.false_and Bool.and_false Bool.or_false Bool.false_or Bool.not_true Bool.not_false Bool.false_eq_true beq_self_eq_true eq_self_iff_true Option.some.injEq id_eq List.toList_toArray decide_true decide_false ne_eq forall_eq
def Yv (a b:List Int):Bool:=a==b
theorem zBA {a b:List Int}(h: ¬a.length=b.length):Yv a b=false:=by
 unfold Yv
 rw [beq_eq_false_iff_ne]
 rintro rfl
 exact h rfl
set_option maxHeartbeats 1000000 in
theorem Qn (a b:List Int)(ha:a.length≤1048576):Fn Try.prog tyT 63 [.c (DI a), .c (DI b)] [.c (.bool (Yv a b))]:=by
 refine yT (fn:=Try.f63) (ts:= [4]) Try.func63 (by kernel_rfl) rfl rfl (by rw [Try.ntmps63];exact Nat.le_of_ble_eq_true rfl) rfl (by simp only [szA,List.mem_cons,List.not_mem_nil,or_false,forall_eq_or_imp,forall_eq,VT.cells,szL];try decide) ?_
 rw [Try.ntmps63]
 simp only [push_cast,↓zK,↓zJ,↓reduceIte,zA,zB,zC,zD,zE,zF,zG,zH,zI,reduceCtorEq]
 refine zM fun K hK=> ?_
 refine zL zO zN [] rfl ?_
 simp only [push_cast,↓zK,↓zJ,↓reduceIte,zA,zB,zC,zD,zE,zF,zG,zH,zI,reduceCtorEq]
 repeat' apply And.intro
 all_goals try exact gB
 all_goals first|(refine hK _ ?_;clear hK K)|(simp only [push_cast];done)
 refine zM fun K1 hK1=> ?_
 refine zM fun K hK=> ?_
 refine zL zO zN [] rfl ?_
 simp only [push_cast,↓zK,↓zJ,↓reduceIte,zA,zB,zC,zD,zE,zF,zG,zH,zI,reduceCtorEq]
 repeat' apply And.intro
 all_goals try exact gB
 all_goals first|(refine hK _ ?_;clear hK K)|(simp only [push_cast];done)
 refine zU rfl (fun hc=> ?_) (fun hc=> ?_)<;>(try simp only [push_cast]at hc)
 ·
  refine zM fun K hK=> ?_
  refine zL zO zN [] rfl ?_
  simp only [push_cast,↓zK,↓zJ,↓reduceIte,zA,zB,zC,zD,zE,zF,zG,zH,zI,reduceCtorEq]
  repeat' apply And.intro
  all_goals try exact gB
  all_goals first|(refine hK _ ?_;clear hK K)|(simp only [push_cast];done)
  refine zc ?_
  (try simp only [zS,zT])
  refine⟨Or.inl rfl,?_⟩
  simp only [zh,push_cast,↓zK,↓zJ,↓reduceIte,zA,zB,zC,zD,zE,zF,zG,zH,zI,reduceCtorEq]
  rw [zBA (by omega)]
 ·refine zV ?_
  (try simp only [zS,zT,reduceIte,zF]);refine hK1 _ ?_
  have hl:a.length=b.length:=by omega
  refine zM fun K2 hK2=> ?_
  refine zM fun K hK=> ?_
  refine zL zO zN [] rfl ?_
  simp only [push_cast,↓zK,↓zJ,↓reduceIte,zA,zB,zC,zD,zE,zF,zG,zH,zI,reduceCtorEq]
  repeat' apply And.intro
  all_goals try exact gB
  all_goals first|(refine hK _ ?_;clear hK K)|(simp only [push_cast];done)
  refine zZ ?_
  refine zo [5,4,11,12,13,14,15,16,17,18,19,20,21,22,23,24,25] [] (fun k:Nat=> [(5, .int .i64 k)]) (fun _=> []) (fun _=> []) (fun k=>k≤a.length∧∀j,j<k→gi a j=gi b j) (fun k=>a.length - k) 0 ?_ ⟨by omega,fun j hj=>by omega⟩ ?_
  ·refine zd rfl ?_ ?_ ?_<;>simp only [zl,zk,push_cast,↓zK,↓zJ,↓reduceIte,zA,zB,zC,zD,zE,zF,zG,zH,zI,reduceCtorEq]
  ·rintro k ⟨hk,hall⟩ K0 hK0
   simp only [push_cast,↓zK,↓zJ,↓reduceIte,zA,zB,zC,zD,zE,zF,zG,zH,zI,reduceCtorEq]
   refine zM fun K3 hK3=> ?_
   refine zM fun K hK=> ?_
   refine zL zO zN [] rfl ?_
   simp only [push_cast,↓zK,↓zJ,↓reduceIte,zA,zB,zC,zD,zE,zF,zG,zH,zI,reduceCtorEq]
   repeat' apply And.intro
   all_goals try exact gB
   all_goals first|(refine hK _ ?_;clear hK K)|(simp only [push_cast];done)
   refine zU rfl (fun hc=> ?_) (fun hc=> ?_)<;>(try simp only [push_cast]at hc)
   ·refine zV ?_
    (try simp only [zS,zT,reduceIte,zF]);refine hK3 _ ?_
    refine zM fun K4 hK4=> ?_
    refine zZ ?_
    refine zM fun K hK=> ?_
    refine xO false zO zN xM ?_ rfl ?_
    ·kernel_rfl
    intro C hC
    simp only [push_cast,↓zK,↓zJ,↓reduceIte,zA,zB,zC,zD,zE,zF,zG,zH,zI,reduceCtorEq]
    repeat' apply And.intro
    all_goals first|omega|with_reducible assumption|(refine hC _ ?_;kernel_rfl)|(simp only [List.length_set,List.length_append,List.length_replicate,List.length_cons,List.length_nil];omega)|skip
    all_goals first|(refine hK _ ?_;clear hC C hK K)|(simp only [push_cast];done)
    refine zU rfl (fun hc=> ?_) (fun hc=> ?_)<;>(try simp only [push_cast]at hc)
    ·
     refine zM fun K hK=> ?_
     refine zL zO zN [] rfl ?_
     simp only [push_cast,↓zK,↓zJ,↓reduceIte,zA,zB,zC,zD,zE,zF,zG,zH,zI,reduceCtorEq]
     repeat' apply And.intro
     all_goals try exact gB
     all_goals first|(refine hK _ ?_;clear hK K)|(simp only [push_cast];done)
     refine zc ?_
     (try simp only [zS,zT])
     refine⟨Or.inl rfl,?_⟩
     simp only [zh,push_cast,↓zK,↓zJ,↓reduceIte,zA,zB,zC,zD,zE,zF,zG,zH,zI,reduceCtorEq]
     unfold Yv
     rw [beq_eq_false_iff_ne.2]
     rintro rfl
     exact hc rfl
    ·refine zV ?_
     (try simp only [zS,zT,reduceIte,zF]);refine hK4 _ ?_
     refine zL zO zN [] rfl ?_
     simp only [push_cast,↓zK,↓zJ,↓reduceIte,zA,zB,zC,zD,zE,zF,zG,zH,zI,reduceCtorEq]
     repeat' apply And.intro
     all_goals try exact gB
     refine hK0 _ ⟨k+1,⟨by omega,fun j hj=> ?_⟩,by omega,?_⟩
     ·by_cases h:j=k
      ·subst h;exact hc
      ·exact hall j (by omega)
     ·refine zd rfl ?_ ?_ ?_<;>simp only [zl,zk,push_cast,↓zK,↓zJ,↓reduceIte,zA,zB,zC,zD,zE,zF,zG,zH,zI,reduceCtorEq]
   ·refine zr ?_
    (try simp only [zS,zT,reduceIte,zF]);refine hK2 _ ?_
    refine zM fun K hK=> ?_
    refine zL zO zN [] rfl ?_
    simp only [push_cast,↓zK,↓zJ,↓reduceIte,zA,zB,zC,zD,zE,zF,zG,zH,zI,reduceCtorEq]
    repeat' apply And.intro
    all_goals try exact gB
    all_goals first|(refine hK _ ?_;clear hK K)|(simp only [push_cast];done)
    refine zc ?_
    (try simp only [zS,zT])
    refine⟨Or.inl rfl,?_⟩
    simp only [zh,push_cast,↓zK,↓zJ,↓reduceIte,zA,zB,zC,zD,zE,zF,zG,zH,zI,reduceCtorEq]
    have :a=b:=by
     refine List.ext_getElem hl fun j h1 h2=> ?_
     have h3:=hall j (by omega)
     have h4:=vJ h1
     have h5:=vJ h2
     rw [List.getElem?_eq_getElem h1]at h4
     rw [List.getElem?_eq_getElem h2]at h5
     injection h4 with h4
     injection h5 with h5
     rw [h4,h5,h3]
    subst this
    simp [Yv]
def pre (a:List Int)(k:Nat):List Int:=a.take k++List.replicate (a.length - k) 0
theorem zCp {a:List Int}{k:Nat}(h:k≤a.length):(pre a k).length=a.length:=by simp [pre];omega
theorem pre_0 (a:List Int):pre a 0=List.replicate a.length 0:=by simp [pre]
theorem zCo (a:List Int):pre a a.length=a:=by simp [pre]
theorem zCq {a:List Int}{k:Nat}(h:k<a.length):(pre a k).set k (gi a k)=pre a (k+1):=by
 apply List.ext_getElem?
 intro j
 unfold pre
 rw [List.getElem?_set,List.getElem?_append,List.getElem?_append]
 have h1:=vJ h
 have e1:min k a.length=k:=by omega
 have e2:min (k+1) a.length=k+1:=by omega
 simp only [List.length_append,List.length_take,List.length_replicate,List.getElem?_take,List.getElem?_replicate,e1,e2]
 by_cases hj:k=j
 ·subst hj
  rw [if_pos rfl,if_pos (by omega),if_pos (by omega),if_pos (by omega),h1]
 ·rw [if_neg hj]
  by_cases hjk:j<k
  ·simp only [if_pos hjk,if_pos (show j<k+1 by omega)]
  ·simp only [if_neg hjk,if_neg (show ¬j<k+1 by omega)]
   by_cases h2:j - k<a.length - k
   ·rw [if_pos h2,if_pos (by omega)]
   ·rw [if_neg h2,if_neg (by omega)]
set_option maxHeartbeats 1000000 in
theorem Qw (a:List Int)(ha:a.length≤1048576):Fn Try.prog tyT 54 [.c (DI a)] [.c (DI a)]:=by
 refine yT (fn:=Try.f54) (ts:= [2]) Try.func54 (by kernel_rfl) rfl rfl (by rw [Try.ntmps54];exact Nat.le_of_ble_eq_true rfl) rfl (by simp only [szA,List.mem_cons,List.not_mem_nil,or_false,forall_eq_or_imp,forall_eq,VT.cells,szL];try decide) ?_
 rw [Try.ntmps54]
 simp only [push_cast,↓zK,↓zJ,↓reduceIte,zA,zB,zC,zD,zE,zF,zG,zH,zI,reduceCtorEq]
 refine zM fun K hK=> ?_
 refine zL zO zN [] rfl ?_
 simp only [push_cast,↓zK,↓zJ,↓reduceIte,zA,zB,zC,zD,zE,zF,zG,zH,zI,reduceCtorEq]
 repeat' apply And.intro
 all_goals try exact gB
 all_goals first|(refine hK _ ?_;clear hK K)|(simp only [push_cast];done)
 refine zM fun K hK=> ?_
 refine zL zO zN [] rfl ?_
 simp only [push_cast,↓zK,↓zJ,↓reduceIte,zA,zB,zC,zD,zE,zF,zG,zH,zI,reduceCtorEq]
 repeat' apply And.intro
 all_goals try exact gB
 all_goals first|(refine hK _ ?_;clear hK K)|(simp only [push_cast];done)
 refine zM fun K1 hK1=> ?_
 refine zM fun K hK=> ?_
 refine zL zO zN [] rfl ?_
 simp only [push_cast,↓zK,↓zJ,↓reduceIte,zA,zB,zC,zD,zE,zF,zG,zH,zI,reduceCtorEq]
 repeat' apply And.intro
 all_goals try exact gB
 all_goals first|(refine hK _ ?_;clear hK K)|(simp only [push_cast];done)
 refine zZ ?_
 refine zo [4,8,9,10,11,12,13,14,15,16,17,18,19,20,3] [] (fun k:Nat=> [(4, .int .i64 k),(3, .sl 48 [] 0 a.length 2)]) (fun _=> []) (fun k=> [(48,⟨.ex,2,dI (pre a k),none⟩)]) (fun k=>k≤a.length) (fun k=>a.length - k) 0 ?_ (by omega) ?_
 ·rw [pre_0]
  refine zd rfl ?_ ?_ ?_<;>simp only [zl,zk,push_cast,↓zK,↓zJ,↓reduceIte,zA,zB,zC,zD,zE,zF,zG,zH,zI,reduceCtorEq]
 ·rintro k hk K0 hK0
  have hpl:=zCp hk
  simp only [push_cast,↓zK,↓zJ,↓reduceIte,zA,zB,zC,zD,zE,zF,zG,zH,zI,reduceCtorEq]
  refine zM fun K2 hK2=> ?_
  refine zM fun K hK=> ?_
  refine zL zO zN [] rfl ?_
  simp only [push_cast,↓zK,↓zJ,↓reduceIte,zA,zB,zC,zD,zE,zF,zG,zH,zI,reduceCtorEq]
  repeat' apply And.intro
  all_goals try exact gB
  all_goals first|(refine hK _ ?_;clear hK K)|(simp only [push_cast];done)
  refine zU rfl (fun hc=> ?_) (fun hc=> ?_)<;>(try simp only [push_cast]at hc)
  ·refine zV ?_
   (try simp only [zS,zT,reduceIte,zF]);refine hK2 _ ?_
   refine zM fun K3 hK3=> ?_
   refine zZ ?_
   refine zL zO zN [] rfl ?_
   simp only [push_cast,↓zK,↓zJ,↓reduceIte,zA,zB,zC,zD,zE,zF,zG,zH,zI,reduceCtorEq]
   repeat' apply And.intro
   all_goals try exact gB
   rw [zCq (by omega)]
   (try simp only [zS,zT,reduceIte,zF]);refine hK3 _ ?_
   refine zL zO zN [] rfl ?_
   simp only [push_cast,↓zK,↓zJ,↓reduceIte,zA,zB,zC,zD,zE,zF,zG,zH,zI,reduceCtorEq]
   repeat' apply And.intro
   all_goals try exact gB
   refine hK0 _ ⟨k+1,by omega,by omega,?_⟩
   refine zd rfl ?_ ?_ ?_<;>simp only [zl,zk,push_cast,↓zK,↓zJ,↓reduceIte,zA,zB,zC,zD,zE,zF,zG,zH,zI,reduceCtorEq]
  ·refine zr ?_
   (try simp only [zS,zT,reduceIte,zF]);refine hK1 _ ?_
   have hk':k=a.length:=by omega
   subst hk'
   rw [zCo]
   refine zM fun K hK=> ?_
   refine zL zO zN [] rfl ?_
   simp only [push_cast,↓zK,↓zJ,↓reduceIte,zA,zB,zC,zD,zE,zF,zG,zH,zI,reduceCtorEq]
   repeat' apply And.intro
   all_goals try exact gB
   all_goals first|(refine hK _ ?_;clear hK K)|(simp only [push_cast];done)
   refine zc ?_
   (try simp only [zS,zT])
   refine⟨Or.inl rfl,?_⟩
   simp only [zh,push_cast,↓zK,↓zJ,↓reduceIte,zA,zB,zC,zD,zE,zF,zG,zH,zI,reduceCtorEq]
   trace_state
def YM (a:List (List Int))(k:Nat):List (List Int):=a.take k++List.replicate (a.length - k) []
theorem zBX {a:List (List Int)}{k:Nat}(h:k≤a.length):(YM a k).length=a.length:=by simp [YM];omega
theorem zDy (a:List (List Int)):dII (YM a 0)=List.replicate a.length (D.lst 2 []):=by simp [YM,dII,dI]
theorem zBW (a:List (List Int)):YM a a.length=a:=by simp [YM]
theorem zBJ {r:List (List Int)}{k:Nat}{x:List Int}(h:k<r.length):dII (List.take k r)++ [D.lst 2 (dI x)]++dII (List.drop (k+1) r)=dII (r.set k x):=by
 rw [List.set_eq_take_append_cons_drop,if_pos h]
 simp [dII]
theorem zBY {a:List (List Int)}{k:Nat}(h:k<a.length):(YM a k).set k (gl a k)=YM a (k+1):=by
 have h1:=vL h
 have hk:(a.take k).length=k:=by rw [List.length_take];omega
 have e:a.take (k+1)=a.take k++ [gl a k]:=by
  rw [List.take_add_one,h1];rfl
 unfold YM
 rw [List.set_append_right _ _ (by omega),hk,Nat.sub_self,show a.length - k=(a.length - (k+1))+1 from by omega,List.replicate_succ,List.set_cons_zero,e,List.append_assoc]
 rfl
set_option maxHeartbeats 1000000 in
theorem jy (a:List (List Int))(ha:a.length≤1048576)(hr: ∀r∈a,r.length≤1048576):Fn Try.prog tyT 55 [.c (DII a)] [.c (DII a)]:=by
 refine yT (fn:=Try.f55) (ts:= [2]) Try.func55 (by kernel_rfl) rfl rfl (by rw [Try.ntmps55];exact Nat.le_of_ble_eq_true rfl) rfl (by simp only [szA,List.mem_cons,List.not_mem_nil,or_false,forall_eq_or_imp,forall_eq,VT.cells,szL];try decide) ?_
 rw [Try.ntmps55]
 simp only [push_cast,↓zK,↓zJ,↓reduceIte,zA,zB,zC,zD,zE,zF,zG,zH,zI,reduceCtorEq]
 refine zM fun K hK=> ?_
 refine zL zO zN [] rfl ?_
 simp only [push_cast,↓zK,↓zJ,↓reduceIte,zA,zB,zC,zD,zE,zF,zG,zH,zI,reduceCtorEq]
 repeat' apply And.intro
 all_goals try exact gB
 all_goals first|(refine hK _ ?_;clear hK K)|(simp only [push_cast];done)
 refine zM fun K hK=> ?_
 refine zL zO zN [] rfl ?_
 simp only [push_cast,↓zK,↓zJ,↓reduceIte,zA,zB,zC,zD,zE,zF,zG,zH,zI,reduceCtorEq]
 repeat' apply And.intro
 all_goals try exact gB
 all_goals first|(refine hK _ ?_;clear hK K)|(simp only [push_cast];done)
 refine zM fun K1 hK1=> ?_
 refine zM fun K hK=> ?_
 refine zL zO zN [] rfl ?_
 simp only [push_cast,↓zK,↓zJ,↓reduceIte,zA,zB,zC,zD,zE,zF,zG,zH,zI,reduceCtorEq]
 repeat' apply And.intro
 all_goals try exact gB
 all_goals first|(refine hK _ ?_;clear hK K)|(simp only [push_cast];done)
 refine zZ ?_
 refine zo [4,8,9,10,11,12,13,14,15,16,17,18,19,20,21,3] [] (fun k:Nat=> [(4, .int .i64 k),(3, .sl 48 [] 0 a.length 22)]) (fun _=> []) (fun k=> [(48,⟨.ex,22,dII (YM a k),none⟩)]) (fun k=>k≤a.length) (fun k=>a.length - k) 0 ?_ (by omega) ?_
 ·rw [zDy]
  refine zd rfl ?_ ?_ ?_<;>simp only [zl,zk,push_cast,↓zK,↓zJ,↓reduceIte,zA,zB,zC,zD,zE,zF,zG,zH,zI,reduceCtorEq]
 ·rintro k hk K0 hK0
  have hpl:=zBX hk
  simp only [push_cast,↓zK,↓zJ,↓reduceIte,zA,zB,zC,zD,zE,zF,zG,zH,zI,reduceCtorEq]
  refine zM fun K2 hK2=> ?_
  refine zM fun K hK=> ?_
  refine zL zO zN [] rfl ?_
  simp only [push_cast,↓zK,↓zJ,↓reduceIte,zA,zB,zC,zD,zE,zF,zG,zH,zI,reduceCtorEq]
  repeat' apply And.intro
  all_goals try exact gB
  all_goals first|(refine hK _ ?_;clear hK K)|(simp only [push_cast];done)
  refine zU rfl (fun hc=> ?_) (fun hc=> ?_)<;>(try simp only [push_cast]at hc)
  ·refine zV ?_
   (try simp only [zS,zT,reduceIte,zF]);refine hK2 _ ?_
   refine zM fun K3 hK3=> ?_
   refine zZ ?_
   refine zp true zO zN ?_ rfl ?_
   ·kernel_rfl
   simp only [push_cast,↓zK,↓zJ,↓reduceIte,zA,zB,zC,zD,zE,zF,zG,zH,zI,reduceCtorEq]
   refine⟨by omega,by omega,⟨by omega,zQ (by omega)⟩,_,Qw (gl a k) ?_,?_⟩
   ·exact hr _ (List.mem_of_getElem? (vL (by omega)))
   simp only [push_cast,↓zK,↓zJ,↓reduceIte,zA,zB,zC,zD,zE,zF,zG,zH,zI,reduceCtorEq]
   repeat' apply And.intro
   all_goals try exact gB
   rw [zBJ (by omega),zBY (by omega)]
   (try simp only [zS,zT,reduceIte,zF]);refine hK3 _ ?_
   refine zL zO zN [] rfl ?_
   simp only [push_cast,↓zK,↓zJ,↓reduceIte,zA,zB,zC,zD,zE,zF,zG,zH,zI,reduceCtorEq]
   repeat' apply And.intro
   all_goals try exact gB
   refine hK0 _ ⟨k+1,by omega,by omega,?_⟩
   refine zd rfl ?_ ?_ ?_<;>simp only [zl,zk,push_cast,↓zK,↓zJ,↓reduceIte,zA,zB,zC,zD,zE,zF,zG,zH,zI,reduceCtorEq]
  ·refine zr ?_
   (try simp only [zS,zT,reduceIte,zF]);refine hK1 _ ?_
   have hk':k=a.length:=by omega
   subst hk'
   rw [zBW]
   refine zM fun K hK=> ?_
   refine zL zO zN [] rfl ?_
   simp only [push_cast,↓zK,↓zJ,↓reduceIte,zA,zB,zC,zD,zE,zF,zG,zH,zI,reduceCtorEq]
   repeat' apply And.intro
   all_goals try exact gB
   all_goals first|(refine hK _ ?_;clear hK K)|(simp only [push_cast];done)
   refine zc ?_
   (try simp only [zS,zT])
   refine⟨Or.inl rfl,?_⟩
   simp only [zh,push_cast,↓zK,↓zJ,↓reduceIte,zA,zB,zC,zD,zE,zF,zG,zH,zI,reduceCtorEq]
def iot (k:Int):Nat→List Int
 |0=> []
 |n+1=>iot k n++ [k+n]
theorem vM (k:Int): ∀n,(iot k n).length=n
 |0=>rfl
 |n+1=>by simp [iot,vM k n]
def mk1 (k:Int)(xs:List Int)(j:Nat):List Int:=iot k j++xs.drop j
theorem zCf {k:Int}{xs:List Int}{j:Nat}(h:j≤xs.length):(mk1 k xs j).length=xs.length:=by simp [mk1,vM];omega
theorem zCg {k:Int}{xs:List Int}{j:Nat}(h:j<xs.length):(mk1 k xs j).set j (k+j)=mk1 k xs (j+1):=by
 unfold mk1
 rw [List.set_append_right _ _ (by rw [vM];omega),vM,Nat.sub_self,List.drop_eq_getElem_cons h,List.set_cons_zero]
 simp [iot]
theorem mk1_0 (k:Int)(xs:List Int):mk1 k xs 0=xs:=by simp [mk1,iot]
theorem zDi {k:Int}{n j:Nat}(h:j<n):gi (iot k n) j=k+j:=by
 induction n with
 |zero=>omega
 |succ n ih=>
  unfold gi at ih⊢
  rw [List.getD_eq_getElem?_getD]at ih⊢
  simp only [iot]
  by_cases hj:j<n
  ·rw [List.getElem?_append_left (by rw [vM];exact hj)];exact ih hj
  ·have :j=n:=by omega
   subst this
   rw [List.getElem?_append_right (by rw [vM];exact Nat.le_refl _),vM,Nat.sub_self]
   rfl
theorem zCe (k:Int)(xs:List Int):mk1 k xs xs.length=iot k xs.length:=by simp [mk1]
set_option maxHeartbeats 1000000 in
theorem XY (xs:List Int)(k:Int)(h0:0≤k)(h1:k+xs.length≤4611686018427387904):FnG Try.prog tyT 71 [.c (DI xs), .c (.int .i64 k)] [0] [(0,2,dI (iot k xs.length))] [.c (.int .i64 (k+xs.length))]:=by
 refine Va (fn:=Try.f71) (rs:= [.tmp 4]) (own:= [0]) (outs:= [(0,2,dI (iot k xs.length))]) zO zN Try.func71 (by kernel_rfl) rfl rfl (by rw [Try.ntmps71];exact Nat.le_of_ble_eq_true rfl) rfl (by simp only [szA,List.mem_cons,List.not_mem_nil,or_false,forall_eq_or_imp,forall_eq,VT.cells,szL];try decide) ?_
 rw [Try.ntmps71]
 simp only [push_cast,↓zK,↓zJ,↓reduceIte,zA,zB,zC,zD,zE,zF,zG,zH,zI,reduceCtorEq]
 refine zM fun K hK=> ?_
 refine zL zO zN [] rfl ?_
 simp only [push_cast,↓zK,↓zJ,↓reduceIte,zA,zB,zC,zD,zE,zF,zG,zH,zI,reduceCtorEq]
 repeat' apply And.intro
 all_goals try exact gB
 all_goals first|(refine hK _ ?_;clear hK K)|(simp only [push_cast];done)
 refine zM fun K1 hK1=> ?_
 refine zM fun K hK=> ?_
 refine zL zO zN [] rfl ?_
 simp only [push_cast,↓zK,↓zJ,↓reduceIte,zA,zB,zC,zD,zE,zF,zG,zH,zI,reduceCtorEq]
 repeat' apply And.intro
 all_goals try exact gB
 all_goals first|(refine hK _ ?_;clear hK K)|(simp only [push_cast];done)
 refine zZ ?_
 refine zo [1,5,6,7,8,9,10,11,12,13,14,15,16,17] [0] (fun j:Nat=> [(5, .int .i64 j),(1, .int .i64 (k+j))]) (fun _=> []) (fun j=> [(0,⟨.ex,2,dI (mk1 k xs j),some 0⟩)]) (fun j=>j≤xs.length) (fun j=>xs.length - j) 0 ?_ (by omega) ?_
 ·rw [mk1_0]
  refine zd rfl ?_ ?_ ?_<;>simp only [zl,zk,push_cast,↓zK,↓zJ,↓reduceIte,zA,zB,zC,zD,zE,zF,zG,zH,zI,reduceCtorEq]
 ·rintro j hj K0 hK0
  have hl:=zCf (k:=k) hj
  simp only [push_cast,↓zK,↓zJ,↓reduceIte,zA,zB,zC,zD,zE,zF,zG,zH,zI,reduceCtorEq]
  refine zM fun K2 hK2=> ?_
  refine zM fun K hK=> ?_
  refine zL zO zN [] rfl ?_
  simp only [push_cast,↓zK,↓zJ,↓reduceIte,zA,zB,zC,zD,zE,zF,zG,zH,zI,reduceCtorEq]
  repeat' apply And.intro
  all_goals try exact gB
  all_goals first|(refine hK _ ?_;clear hK K)|(simp only [push_cast];done)
  refine zU rfl (fun hc=> ?_) (fun hc=> ?_)<;>(try simp only [push_cast]at hc)
  ·refine zV ?_
   (try simp only [zS,zT,reduceIte,zF]);refine hK2 _ ?_
   refine zM fun K3 hK3=> ?_
   refine zZ ?_
   refine zM fun K hK=> ?_
   refine zL zO zN [] rfl ?_
   simp only [push_cast,↓zK,↓zJ,↓reduceIte,zA,zB,zC,zD,zE,zF,zG,zH,zI,reduceCtorEq]
   repeat' apply And.intro
   all_goals try exact gB
   all_goals first|(refine hK _ ?_;clear hK K)|(simp only [push_cast];done)
   rw [zCg (by omega)]
   refine zL zO zN [] rfl ?_
   simp only [push_cast,↓zK,↓zJ,↓reduceIte,zA,zB,zC,zD,zE,zF,zG,zH,zI,reduceCtorEq]
   repeat' apply And.intro
   all_goals try exact gB
   (try simp only [zS,zT,reduceIte,zF]);refine hK3 _ ?_
   refine zL zO zN [] rfl ?_
   simp only [push_cast,↓zK,↓zJ,↓reduceIte,zA,zB,zC,zD,zE,zF,zG,zH,zI,reduceCtorEq]
   repeat' apply And.intro
   all_goals try exact gB
   refine hK0 _ ⟨j+1,by omega,by omega,?_⟩
   rw [show k+((j+1:Nat):Int)=k+j+1 from by omega]
   refine zd rfl ?_ ?_ ?_<;>simp only [zl,zk,push_cast,↓zK,↓zJ,↓reduceIte,zA,zB,zC,zD,zE,zF,zG,zH,zI,reduceCtorEq]
  ·refine zr ?_
   (try simp only [zS,zT,reduceIte,zF]);refine hK1 _ ?_
   have hk':j=xs.length:=by omega
   subst hk'
   rw [zCe]
   refine zM fun K hK=> ?_
   refine zL zO zN [] rfl ?_
   simp only [push_cast,↓zK,↓zJ,↓reduceIte,zA,zB,zC,zD,zE,zF,zG,zH,zI,reduceCtorEq]
   repeat' apply And.intro
   all_goals try exact gB
   all_goals first|(refine hK _ ?_;clear hK K)|(simp only [push_cast];done)
   refine zc ?_
   (try simp only [zS,zT])
   refine⟨Or.inl rfl,?_⟩
   simp only [ZL,wC,yY,xR,push_cast,↓zK,↓zJ,↓reduceIte,zA,zB,zC,zD,zE,zF,zG,zH,zI,reduceCtorEq]
theorem KF (n:Nat)(k:Int)(h0:0≤k)(h1:k+n≤4611686018427387904):Fn Try.prog tyT 73 [.c (DI (iot k n)), .c (.int .i64 k)] [.c (.int .i64 (k+n))]:=by
 have hn:=vM k n
 refine yT (fn:=Try.f73) (ts:= [4]) Try.func73 (by kernel_rfl) rfl rfl (by rw [Try.ntmps73];exact Nat.le_of_ble_eq_true rfl) rfl (by simp only [szA,List.mem_cons,List.not_mem_nil,or_false,forall_eq_or_imp,forall_eq,VT.cells,szL];try decide) ?_
 rw [Try.ntmps73]
 simp only [push_cast,↓zK,↓zJ,↓reduceIte,zA,zB,zC,zD,zE,zF,zG,zH,zI,reduceCtorEq]
 refine zM fun K hK=> ?_
 refine zL zO zN [] rfl ?_
 simp only [push_cast,↓zK,↓zJ,↓reduceIte,zA,zB,zC,zD,zE,zF,zG,zH,zI,reduceCtorEq]
 repeat' apply And.intro
 all_goals try exact gB
 all_goals first|(refine hK _ ?_;clear hK K)|(simp only [push_cast];done)
 refine zM fun K1 hK1=> ?_
 refine zM fun K hK=> ?_
 refine zL zO zN [] rfl ?_
 simp only [push_cast,↓zK,↓zJ,↓reduceIte,zA,zB,zC,zD,zE,zF,zG,zH,zI,reduceCtorEq]
 repeat' apply And.intro
 all_goals try exact gB
 all_goals first|(refine hK _ ?_;clear hK K)|(simp only [push_cast];done)
 refine zZ ?_
 refine zo [1,5,6,7,8,9,10,11,12,13,14,15,16,17,18,19] [] (fun j:Nat=> [(5, .int .i64 j),(1, .int .i64 (k+j))]) (fun _=> []) (fun _=> []) (fun j=>j≤n) (fun j=>n - j) 0 ?_ (by omega) ?_
 ·refine zd rfl ?_ ?_ ?_<;>simp only [zl,zk,push_cast,↓zK,↓zJ,↓reduceIte,zA,zB,zC,zD,zE,zF,zG,zH,zI,reduceCtorEq]
 ·rintro j hj K0 hK0
  simp only [push_cast,↓zK,↓zJ,↓reduceIte,zA,zB,zC,zD,zE,zF,zG,zH,zI,reduceCtorEq]
  refine zM fun K2 hK2=> ?_
  refine zM fun K hK=> ?_
  refine zL zO zN [] rfl ?_
  simp only [push_cast,↓zK,↓zJ,↓reduceIte,zA,zB,zC,zD,zE,zF,zG,zH,zI,reduceCtorEq]
  repeat' apply And.intro
  all_goals try exact gB
  all_goals first|(refine hK _ ?_;clear hK K)|(simp only [push_cast];done)
  refine zU rfl (fun hc=> ?_) (fun hc=> ?_)<;>(try simp only [push_cast]at hc)
  ·refine zV ?_
   (try simp only [zS,zT,reduceIte,zF]);refine hK2 _ ?_
   refine zM fun K3 hK3=> ?_
   refine zZ ?_
   refine zM fun K4 hK4=> ?_
   refine zM fun K hK=> ?_
   refine zL zO zN [] rfl ?_
   simp only [push_cast,↓zK,↓zJ,↓reduceIte,zA,zB,zC,zD,zE,zF,zG,zH,zI,reduceCtorEq]
   repeat' apply And.intro
   all_goals try exact gB
   all_goals first|(refine hK _ ?_;clear hK K)|(simp only [push_cast];done)
   have hg:gi (iot k n) j=k+j:=zDi (by omega)
   refine zU rfl (fun hc=> ?_) (fun hc=> ?_)<;>(try simp only [push_cast]at hc)
   ·exact absurd hg hc
   ·refine zV ?_
    (try simp only [zS,zT,reduceIte,zF]);refine hK4 _ ?_
    refine zL zO zN [] rfl ?_
    simp only [push_cast,↓zK,↓zJ,↓reduceIte,zA,zB,zC,zD,zE,zF,zG,zH,zI,reduceCtorEq]
    repeat' apply And.intro
    all_goals try exact gB
    (try simp only [zS,zT,reduceIte,zF]);refine hK3 _ ?_
    refine zL zO zN [] rfl ?_
    simp only [push_cast,↓zK,↓zJ,↓reduceIte,zA,zB,zC,zD,zE,zF,zG,zH,zI,reduceCtorEq]
    repeat' apply And.intro
    all_goals try exact gB
    refine hK0 _ ⟨j+1,by omega,by omega,?_⟩
    rw [show k+((j+1:Nat):Int)=k+j+1 from by omega]
    refine zd rfl ?_ ?_ ?_<;>simp only [zl,zk,push_cast,↓zK,↓zJ,↓reduceIte,zA,zB,zC,zD,zE,zF,zG,zH,zI,reduceCtorEq]
  ·refine zr ?_
   (try simp only [zS,zT,reduceIte,zF]);refine hK1 _ ?_
   have hk':j=n:=by omega
   subst hk'
   refine zM fun K hK=> ?_
   refine zL zO zN [] rfl ?_
   simp only [push_cast,↓zK,↓zJ,↓reduceIte,zA,zB,zC,zD,zE,zF,zG,zH,zI,reduceCtorEq]
   repeat' apply And.intro
   all_goals try exact gB
   all_goals first|(refine hK _ ?_;clear hK K)|(simp only [push_cast];done)
   refine zc ?_
   (try simp only [zS,zT])
   refine⟨Or.inl rfl,?_⟩
   simp only [zh,push_cast,↓zK,↓zJ,↓reduceIte,zA,zB,zC,zD,zE,zF,zG,zH,zI,reduceCtorEq]
def zx (rs:List (List Int)):Nat:=(rs.map List.length).sum
def mkR (k:Int):List (List Int)→List (List Int)
 | []=> []
 |r::rs=>iot k r.length::mkR (k+r.length) rs
theorem ZF (k:Int)(rs:List (List Int)):(mkR k rs).length=rs.length:=by
 induction rs generalizing k with
 |nil=>rfl
 |cons r rs ih=>simp [mkR,ih]
theorem wj (r:List Int)(rs:List (List Int)):zx (r::rs)=r.length+zx rs:=by simp [zx]
theorem VW :zx []=0:=rfl
def mk2 (k:Int)(rs:List (List Int))(j:Nat):List (List Int):=mkR k (rs.take j)++rs.drop j
theorem mk2_0 (k:Int)(rs:List (List Int)):mk2 k rs 0=rs:=by simp [mk2,mkR]
theorem zCh (k:Int)(rs:List (List Int)):mk2 k rs rs.length=mkR k rs:=by simp [mk2]
theorem zCi {k:Int}{rs:List (List Int)}{j:Nat}(h:j≤rs.length):(mk2 k rs j).length=rs.length:=by simp [mk2,ZF];omega
theorem zBR (k:Int)(rs:List (List Int))(r:List Int):mkR k (rs++ [r])=mkR k rs++ [iot (k+zx rs) r.length]:=by
 induction rs generalizing k with
 |nil=>simp [mkR,zx]
 |cons x rs ih=>simp [mkR,ih,wj,Int.add_assoc]
theorem KD {rs:List (List Int)}{j:Nat}(h:j<rs.length):rs.take (j+1)=rs.take j++ [gl rs j]:=by
 rw [List.take_add_one,vL h];rfl
theorem Qu (a b:List (List Int)):zx (a++b)=zx a+zx b:=by simp [zx]
theorem KB {rs:List (List Int)}{j:Nat}(h:j<rs.length):zx (rs.take (j+1))=zx (rs.take j)+(gl rs j).length:=by
 rw [KD h,Qu];simp [zx]
theorem wF (rs:List (List Int))(j:Nat):zx (rs.take j)≤zx rs:=by
 have :=Qu (rs.take j) (rs.drop j)
 rw [List.take_append_drop]at this
 omega
theorem zDq {k:Int}{rs:List (List Int)}{j:Nat}(h:j<rs.length):gl (mk2 k rs j) j=gl rs j:=by
 unfold gl mk2
 rw [List.getD_eq_getElem?_getD,List.getElem?_append_right (by rw [ZF,List.length_take];omega),ZF,List.length_take,Nat.min_eq_left (by omega),Nat.sub_self,List.getElem?_drop,List.getD_eq_getElem?_getD]
 rfl
theorem zCj {k:Int}{rs:List (List Int)}{j:Nat}(h:j<rs.length):(mk2 k rs j).set j (iot (k+zx (rs.take j)) (gl rs j).length)=mk2 k rs (j+1):=by
 unfold mk2
 have hl:(mkR k (rs.take j)).length=j:=by rw [ZF,List.length_take];omega
 rw [List.set_append_right _ _ (by omega),hl,Nat.sub_self,List.drop_eq_getElem_cons h,List.set_cons_zero,KD h,zBR]
 simp
theorem zDr {k:Int}{rs:List (List Int)}{j:Nat}(h:j<rs.length):gl (mkR k rs) j=iot (k+zx (rs.take j)) (gl rs j).length:=by
 induction rs generalizing k j with
 |nil=>simp at h
 |cons r rs ih=>
  cases j with
  |zero=>simp [mkR,gl,zx]
  |succ j=>
   have :=ih (k:=k+r.length) (j:=j) (by simpa using h)
   simp only [mkR,List.take_succ_cons,wj]
   simp only [gl,List.getD_cons_succ]at this⊢
   rw [this]
   congr 1
   omega
theorem zBa (xs:List (List Int))(i:Nat)(r:List Int):(dII xs).set i (.lst 2 (dI r))=dII (xs.set i r):=by simp [dII,List.map_set]
set_option maxHeartbeats 1000000 in
theorem wN (xs:List (List Int))(k:Int)(h0:0≤k)(h1:k+zx xs≤4611686018427387904)(h2:xs.length≤4611686018427387904):FnG Try.prog tyT 72 [.c (DII xs), .c (.int .i64 k)] [0] [(0,22,dII (mkR k xs))] [.c (.int .i64 (k+zx xs))]:=by
 refine Va (fn:=Try.f72) (rs:= [.tmp 4]) (own:= [0]) (outs:= [(0,22,dII (mkR k xs))]) zO zN Try.func72 (by kernel_rfl) rfl rfl (by rw [Try.ntmps72];exact Nat.le_of_ble_eq_true rfl) rfl (by simp only [szA,List.mem_cons,List.not_mem_nil,or_false,forall_eq_or_imp,forall_eq,VT.cells,szL];try decide) ?_
 rw [Try.ntmps72]
 simp only [push_cast,↓zK,↓zJ,↓reduceIte,zA,zB,zC,zD,zE,zF,zG,zH,zI,reduceCtorEq]
 refine zM fun K hK=> ?_
 refine zL zO zN [] rfl ?_
 simp only [push_cast,↓zK,↓zJ,↓reduceIte,zA,zB,zC,zD,zE,zF,zG,zH,zI,reduceCtorEq]
 repeat' apply And.intro
 all_goals try exact gB
 all_goals first|(refine hK _ ?_;clear hK K)|(simp only [push_cast];done)
 refine zM fun K1 hK1=> ?_
 refine zM fun K hK=> ?_
 refine zL zO zN [] rfl ?_
 simp only [push_cast,↓zK,↓zJ,↓reduceIte,zA,zB,zC,zD,zE,zF,zG,zH,zI,reduceCtorEq]
 repeat' apply And.intro
 all_goals try exact gB
 all_goals first|(refine hK _ ?_;clear hK K)|(simp only [push_cast];done)
 refine zZ ?_
 refine zo [1,5,6,7,8,9,10,11,12,13,14,15,16,17] [0] (fun j:Nat=> [(5, .int .i64 j),(1, .int .i64 (k+zx (xs.take j)))]) (fun _=> []) (fun j=> [(0,⟨.ex,22,dII (mk2 k xs j),some 0⟩)]) (fun j=>j≤xs.length) (fun j=>xs.length - j) 0 ?_ (by omega) ?_
 ·rw [mk2_0]
  simp only [List.take_zero,VW]
  refine zd rfl ?_ ?_ ?_<;>simp only [zl,zk,push_cast,↓zK,↓zJ,↓reduceIte,zA,zB,zC,zD,zE,zF,zG,zH,zI,reduceCtorEq]
 ·rintro j hj K0 hK0
  have hl:=zCi (k:=k) hj
  have hs:=wF xs j
  have hs1:=wF xs (j+1)
  simp only [push_cast,↓zK,↓zJ,↓reduceIte,zA,zB,zC,zD,zE,zF,zG,zH,zI,reduceCtorEq]
  refine zM fun K2 hK2=> ?_
  refine zM fun K hK=> ?_
  refine zL zO zN [] rfl ?_
  simp only [push_cast,↓zK,↓zJ,↓reduceIte,zA,zB,zC,zD,zE,zF,zG,zH,zI,reduceCtorEq]
  repeat' apply And.intro
  all_goals try exact gB
  all_goals first|(refine hK _ ?_;clear hK K)|(simp only [push_cast];done)
  refine zU rfl (fun hc=> ?_) (fun hc=> ?_)<;>(try simp only [push_cast]at hc)
  ·refine zV ?_
   (try simp only [zS,zT,reduceIte,zF]);refine hK2 _ ?_
   refine zM fun K3 hK3=> ?_
   refine zZ ?_
   have ht:=KB (rs:=xs) (j:=j) (by omega)
   have hg:=zDq (k:=k) (rs:=xs) (j:=j) (by omega)
   refine xm 17 [0] [(0,2,dI (iot (k+zx (xs.take j)) (gl xs j).length))] zO zN [] rfl ?_
   simp only [push_cast,↓zK,↓zJ,↓reduceIte,zA,zB,zC,zD,zE,zF,zG,zH,zI,reduceCtorEq]
   refine⟨⟨by omega,by omega⟩,by omega,⟨by omega,zQ (by omega)⟩,⟨by omega,zQ (by omega)⟩,?_⟩
   rw [hg]
   refine⟨_,XY (gl xs j) (k+zx (xs.take j)) (by omega) (by omega),?_⟩
   simp only [push_cast,↓zK,↓zJ,↓reduceIte,zA,zB,zC,zD,zE,zF,zG,zH,zI,reduceCtorEq]
   rw [zBa,zCj (by omega)]
   (try simp only [zS,zT,reduceIte,zF]);refine hK3 _ ?_
   refine zL zO zN [] rfl ?_
   simp only [push_cast,↓zK,↓zJ,↓reduceIte,zA,zB,zC,zD,zE,zF,zG,zH,zI,reduceCtorEq]
   repeat' apply And.intro
   all_goals try exact gB
   refine hK0 _ ⟨j+1,by omega,by omega,?_⟩
   rw [show k+((zx (xs.take (j+1)):Nat):Int)=k+zx (xs.take j)+(gl xs j).length from by omega]
   refine zd rfl ?_ ?_ ?_<;>simp only [zl,zk,push_cast,↓zK,↓zJ,↓reduceIte,zA,zB,zC,zD,zE,zF,zG,zH,zI,reduceCtorEq]
  ·refine zr ?_
   (try simp only [zS,zT,reduceIte,zF]);refine hK1 _ ?_
   have hk':j=xs.length:=by omega
   subst hk'
   rw [zCh,List.take_length]
   refine zM fun K hK=> ?_
   refine zL zO zN [] rfl ?_
   simp only [push_cast,↓zK,↓zJ,↓reduceIte,zA,zB,zC,zD,zE,zF,zG,zH,zI,reduceCtorEq]
   repeat' apply And.intro
   all_goals try exact gB
   all_goals first|(refine hK _ ?_;clear hK K)|(simp only [push_cast];done)
   refine zc ?_
   (try simp only [zS,zT])
   refine⟨Or.inl rfl,?_⟩
   simp only [ZL,wC,yY,xR,push_cast,↓zK,↓zJ,↓reduceIte,zA,zB,zC,zD,zE,zF,zG,zH,zI,reduceCtorEq]
set_option maxHeartbeats 1000000 in
theorem YY (xs:List (List Int))(k:Int)(h0:0≤k)(h1:k+zx xs≤4611686018427387904)(h2:xs.length≤4611686018427387904):Fn Try.prog tyT 77 [.c (DII (mkR k xs)), .c (.int .i64 k)] [.c (.int .i64 (k+zx xs))]:=by
 have hn:=ZF k xs
 refine yT (fn:=Try.f77) (ts:= [4]) Try.func77 (by kernel_rfl) rfl rfl (by rw [Try.ntmps77];exact Nat.le_of_ble_eq_true rfl) rfl (by simp only [szA,List.mem_cons,List.not_mem_nil,or_false,forall_eq_or_imp,forall_eq,VT.cells,szL];try decide) ?_
 rw [Try.ntmps77]
 simp only [push_cast,↓zK,↓zJ,↓reduceIte,zA,zB,zC,zD,zE,zF,zG,zH,zI,reduceCtorEq]
 refine zM fun K hK=> ?_
 refine zL zO zN [] rfl ?_
 simp only [push_cast,↓zK,↓zJ,↓reduceIte,zA,zB,zC,zD,zE,zF,zG,zH,zI,reduceCtorEq]
 repeat' apply And.intro
 all_goals try exact gB
 all_goals first|(refine hK _ ?_;clear hK K)|(simp only [push_cast];done)
 refine zM fun K1 hK1=> ?_
 refine zM fun K hK=> ?_
 refine zL zO zN [] rfl ?_
 simp only [push_cast,↓zK,↓zJ,↓reduceIte,zA,zB,zC,zD,zE,zF,zG,zH,zI,reduceCtorEq]
 repeat' apply And.intro
 all_goals try exact gB
 all_goals first|(refine hK _ ?_;clear hK K)|(simp only [push_cast];done)
 refine zZ ?_
 refine zo [1,5,6,7,8,9,10,11,12,13,14,15,16,17,18,19,20,21] [] (fun j:Nat=> [(5, .int .i64 j),(1, .int .i64 (k+zx (xs.take j)))]) (fun _=> []) (fun _=> []) (fun j=>j≤xs.length) (fun j=>xs.length - j) 0 ?_ (by omega) ?_
 ·simp only [List.take_zero,VW]
  refine zd rfl ?_ ?_ ?_<;>simp only [zl,zk,push_cast,↓zK,↓zJ,↓reduceIte,zA,zB,zC,zD,zE,zF,zG,zH,zI,reduceCtorEq]
 ·rintro j hj K0 hK0
  have hs:=wF xs j
  have hs1:=wF xs (j+1)
  simp only [push_cast,↓zK,↓zJ,↓reduceIte,zA,zB,zC,zD,zE,zF,zG,zH,zI,reduceCtorEq]
  refine zM fun K2 hK2=> ?_
  refine zM fun K hK=> ?_
  refine zL zO zN [] rfl ?_
  simp only [push_cast,↓zK,↓zJ,↓reduceIte,zA,zB,zC,zD,zE,zF,zG,zH,zI,reduceCtorEq]
  repeat' apply And.intro
  all_goals try exact gB
  all_goals first|(refine hK _ ?_;clear hK K)|(simp only [push_cast];done)
  refine zU rfl (fun hc=> ?_) (fun hc=> ?_)<;>(try simp only [push_cast]at hc)
  ·refine zV ?_
   (try simp only [zS,zT,reduceIte,zF]);refine hK2 _ ?_
   refine zM fun K3 hK3=> ?_
   refine zZ ?_
   have ht:=KB (rs:=xs) (j:=j) (by omega)
   have hg:=zDr (k:=k) (rs:=xs) (j:=j) (by omega)
   refine zM fun K hK=> ?_
   refine zL zO zN [] rfl ?_
   simp only [push_cast,↓zK,↓zJ,↓reduceIte,zA,zB,zC,zD,zE,zF,zG,zH,zI,reduceCtorEq]
   rw [hg]
   refine⟨by omega,by omega,⟨by omega,zQ (by omega)⟩,_,KF _ _ (by omega) (by omega),?_⟩
   simp only [push_cast,↓zK,↓zJ,↓reduceIte,zA,zB,zC,zD,zE,zF,zG,zH,zI,reduceCtorEq]
   repeat' apply And.intro
   all_goals try exact gB
   refine hK _ ?_
   clear hK K
   refine zM fun K hK=> ?_
   refine zL zO zN [] rfl ?_
   simp only [push_cast,↓zK,↓zJ,↓reduceIte,zA,zB,zC,zD,zE,zF,zG,zH,zI,reduceCtorEq]
   repeat' apply And.intro
   all_goals try exact gB
   all_goals first|(refine hK _ ?_;clear hK K)|(simp only [push_cast];done)
   refine zU rfl (fun hc=> ?_) (fun hc=> ?_)<;>(try simp only [push_cast]at hc)
   ·exfalso;omega
   ·refine zV ?_
    (try simp only [zS,zT,reduceIte,zF]);refine hK3 _ ?_
    refine zL zO zN [] rfl ?_
    simp only [push_cast,↓zK,↓zJ,↓reduceIte,zA,zB,zC,zD,zE,zF,zG,zH,zI,reduceCtorEq]
    repeat' apply And.intro
    all_goals try exact gB
    refine hK0 _ ⟨j+1,by omega,by omega,?_⟩
    rw [show k+((zx (xs.take (j+1)):Nat):Int)=k+zx (xs.take j)+(gl xs j).length from by omega]
    refine zd rfl ?_ ?_ ?_<;>simp only [zl,zk,push_cast,↓zK,↓zJ,↓reduceIte,zA,zB,zC,zD,zE,zF,zG,zH,zI,reduceCtorEq]
  ·refine zr ?_
   (try simp only [zS,zT,reduceIte,zF]);refine hK1 _ ?_
   have hk':j=xs.length:=by omega
   subst hk'
   rw [List.take_length]
   refine zM fun K hK=> ?_
   refine zL zO zN [] rfl ?_
   simp only [push_cast,↓zK,↓zJ,↓reduceIte,zA,zB,zC,zD,zE,zF,zG,zH,zI,reduceCtorEq]
   repeat' apply And.intro
   all_goals try exact gB
   all_goals first|(refine hK _ ?_;clear hK K)|(simp only [push_cast];done)
   refine zc ?_
   (try simp only [zS,zT])
   refine⟨Or.inl rfl,?_⟩
   simp only [zh,push_cast,↓zK,↓zJ,↓reduceIte,zA,zB,zC,zD,zE,zF,zG,zH,zI,reduceCtorEq]
def YE (l:Int)(n:Nat):Int:=if l - n<0 then -1 else l - n
def ZA (l:Int):List (List Int)→Int
 | []=>l
 |r::rs=>if l - r.length<0 then -1 else ZA (l - r.length) rs
def Yc (l:Int)(a:List (List Int)):Int:=if l - a.length<0 then -1 else ZA (l - a.length) a
set_option maxHeartbeats 1000000 in
theorem Qv (a:List Int)(l:Int)(h0:0≤l)(h1:l≤1048576)(ha:a.length≤9223372036854775807):Fn Try.prog tyT 49 [.c (DI a), .c (.int .i64 l)] [.c (.int .i64 (YE l a.length))]:=by
 refine yT (fn:=Try.f49) (ts:= [4]) Try.func49 (by kernel_rfl) rfl rfl (by rw [Try.ntmps49];exact Nat.le_of_ble_eq_true rfl) rfl (by simp only [szA,List.mem_cons,List.not_mem_nil,or_false,forall_eq_or_imp,forall_eq,VT.cells,szL];try decide) ?_
 rw [Try.ntmps49]
 simp only [push_cast,↓zK,↓zJ,↓reduceIte,zA,zB,zC,zD,zE,zF,zG,zH,zI,reduceCtorEq]
 refine zM fun K hK=> ?_
 refine zL zO zN [] rfl ?_
 simp only [push_cast,↓zK,↓zJ,↓reduceIte,zA,zB,zC,zD,zE,zF,zG,zH,zI,reduceCtorEq]
 repeat' apply And.intro
 all_goals try exact gB
 all_goals first|(refine hK _ ?_;clear hK K)|(simp only [push_cast];done)
 refine zM fun K hK=> ?_
 refine zL zO zN [] rfl ?_
 simp only [push_cast,↓zK,↓zJ,↓reduceIte,zA,zB,zC,zD,zE,zF,zG,zH,zI,reduceCtorEq]
 repeat' apply And.intro
 all_goals try exact gB
 all_goals first|(refine hK _ ?_;clear hK K)|(simp only [push_cast];done)
 refine zM fun K1 hK1=> ?_
 refine zM fun K hK=> ?_
 refine zL zO zN [] rfl ?_
 simp only [push_cast,↓zK,↓zJ,↓reduceIte,zA,zB,zC,zD,zE,zF,zG,zH,zI,reduceCtorEq]
 repeat' apply And.intro
 all_goals try exact gB
 all_goals first|(refine hK _ ?_;clear hK K)|(simp only [push_cast];done)
 refine zU rfl (fun hc=> ?_) (fun hc=> ?_)<;>(try simp only [push_cast]at hc)
 ·
  refine zM fun K hK=> ?_
  refine zL zO zN [] rfl ?_
  simp only [push_cast,↓zK,↓zJ,↓reduceIte,zA,zB,zC,zD,zE,zF,zG,zH,zI,reduceCtorEq]
  repeat' apply And.intro
  all_goals try exact gB
  all_goals first|(refine hK _ ?_;clear hK K)|(simp only [push_cast];done)
  refine zc ?_
  (try simp only [zS,zT])
  refine⟨Or.inl rfl,?_⟩
  simp only [zh,push_cast,↓zK,↓zJ,↓reduceIte,zA,zB,zC,zD,zE,zF,zG,zH,zI,reduceCtorEq]
  simp only [YE,if_pos hc]
 ·
  refine zV ?_
  (try simp only [zS,zT,reduceIte,zF]);refine hK1 _ ?_
  refine zM fun K hK=> ?_
  refine zL zO zN [] rfl ?_
  simp only [push_cast,↓zK,↓zJ,↓reduceIte,zA,zB,zC,zD,zE,zF,zG,zH,zI,reduceCtorEq]
  repeat' apply And.intro
  all_goals try exact gB
  all_goals first|(refine hK _ ?_;clear hK K)|(simp only [push_cast];done)
  refine zc ?_
  (try simp only [zS,zT])
  refine⟨Or.inl rfl,?_⟩
  simp only [zh,push_cast,↓zK,↓zJ,↓reduceIte,zA,zB,zC,zD,zE,zF,zG,zH,zI,reduceCtorEq]
  simp only [YE,if_neg hc]
theorem zCM {a:List (List Int)}{k:Nat}(h:k<a.length):a.drop k=gl a k::a.drop (k+1):=by
 have h1:=vL h
 rw [List.getElem?_eq_getElem h]at h1
 injection h1 with h1
 rw [←h1]
 exact List.drop_eq_getElem_cons h
set_option maxHeartbeats 1000000 in
theorem jw (a:List (List Int))(l:Int)(h0:0≤l)(h1:l≤1048576)(ha:a.length≤9223372036854775807)(hr: ∀r∈a,r.length≤9223372036854775807):Fn Try.prog tyT 50 [.c (DII a), .c (.int .i64 l)] [.c (.int .i64 (Yc l a))]:=by
 refine yT (fn:=Try.f50) (ts:= [4]) Try.func50 (by kernel_rfl) rfl rfl (by rw [Try.ntmps50];exact Nat.le_of_ble_eq_true rfl) rfl (by simp only [szA,List.mem_cons,List.not_mem_nil,or_false,forall_eq_or_imp,forall_eq,VT.cells,szL];try decide) ?_
 rw [Try.ntmps50]
 simp only [push_cast,↓zK,↓zJ,↓reduceIte,zA,zB,zC,zD,zE,zF,zG,zH,zI,reduceCtorEq]
 refine zM fun K hK=> ?_
 refine zL zO zN [] rfl ?_
 simp only [push_cast,↓zK,↓zJ,↓reduceIte,zA,zB,zC,zD,zE,zF,zG,zH,zI,reduceCtorEq]
 repeat' apply And.intro
 all_goals try exact gB
 all_goals first|(refine hK _ ?_;clear hK K)|(simp only [push_cast];done)
 refine zM fun K hK=> ?_
 refine zL zO zN [] rfl ?_
 simp only [push_cast,↓zK,↓zJ,↓reduceIte,zA,zB,zC,zD,zE,zF,zG,zH,zI,reduceCtorEq]
 repeat' apply And.intro
 all_goals try exact gB
 all_goals first|(refine hK _ ?_;clear hK K)|(simp only [push_cast];done)
 refine zM fun K1 hK1=> ?_
 refine zM fun K hK=> ?_
 refine zL zO zN [] rfl ?_
 simp only [push_cast,↓zK,↓zJ,↓reduceIte,zA,zB,zC,zD,zE,zF,zG,zH,zI,reduceCtorEq]
 repeat' apply And.intro
 all_goals try exact gB
 all_goals first|(refine hK _ ?_;clear hK K)|(simp only [push_cast];done)
 refine zU rfl (fun hc=> ?_) (fun hc=> ?_)<;>(try simp only [push_cast]at hc)
 ·
  refine zM fun K hK=> ?_
  refine zL zO zN [] rfl ?_
  simp only [push_cast,↓zK,↓zJ,↓reduceIte,zA,zB,zC,zD,zE,zF,zG,zH,zI,reduceCtorEq]
  repeat' apply And.intro
  all_goals try exact gB
  all_goals first|(refine hK _ ?_;clear hK K)|(simp only [push_cast];done)
  refine zc ?_
  (try simp only [zS,zT])
  refine⟨Or.inl rfl,?_⟩
  simp only [zh,push_cast,↓zK,↓zJ,↓reduceIte,zA,zB,zC,zD,zE,zF,zG,zH,zI,reduceCtorEq]
  simp only [Yc,if_pos hc]
 ·
  refine zV ?_
  (try simp only [zS,zT,reduceIte,zF]);refine hK1 _ ?_
  have hneg: ¬l - (a.length:Int)<0:=hc
  refine zM fun K2 hK2=> ?_
  refine zM fun K hK=> ?_
  refine zL zO zN [] rfl ?_
  simp only [push_cast,↓zK,↓zJ,↓reduceIte,zA,zB,zC,zD,zE,zF,zG,zH,zI,reduceCtorEq]
  repeat' apply And.intro
  all_goals try exact gB
  all_goals first|(refine hK _ ?_;clear hK K)|(simp only [push_cast];done)
  refine zZ ?_
  refine zo [1,4,5,12,13,14,15,16,17,18,19,20,21,22,23,24,25] [] (fun x:Nat×Int=> [(5, .int .i64 x.1),(1, .int .i64 x.2)]) (fun _=> []) (fun _=> []) (fun x=>x.1≤a.length∧0≤x.2∧x.2≤1048576∧ZA (l - a.length) a=ZA x.2 (a.drop x.1)) (fun x=>a.length - x.1) (0,l - a.length) ?_ ⟨by simp,by simp;omega,by simp;omega,by simp⟩ ?_
  ·
   refine zd rfl ?_ ?_ ?_<;>simp only [zl,zk,push_cast,↓zK,↓zJ,↓reduceIte,zA,zB,zC,zD,zE,zF,zG,zH,zI,reduceCtorEq]
  ·rintro⟨k,m⟩ ⟨hk,hm0,hm1,hm⟩ K0 hK0
   simp only at hk hm0 hm1 hm
   simp only [push_cast,↓zK,↓zJ,↓reduceIte,zA,zB,zC,zD,zE,zF,zG,zH,zI,reduceCtorEq]
   refine zM fun K3 hK3=> ?_
   refine zM fun K hK=> ?_
   refine zL zO zN [] rfl ?_
   simp only [push_cast,↓zK,↓zJ,↓reduceIte,zA,zB,zC,zD,zE,zF,zG,zH,zI,reduceCtorEq]
   repeat' apply And.intro
   all_goals try exact gB
   all_goals first|(refine hK _ ?_;clear hK K)|(simp only [push_cast];done)
   refine zU rfl (fun hc=> ?_) (fun hc=> ?_)<;>(try simp only [push_cast]at hc)
   ·
    have hkl:k<a.length:=by omega
    rw [zCM hkl,ZA]at hm
    have hrk:(gl a k).length≤9223372036854775807:=hr _ (List.mem_of_getElem? (vL hkl))
    refine zV ?_
    (try simp only [zS,zT,reduceIte,zF]);refine hK3 _ ?_
    refine zM fun K4 hK4=> ?_
    refine zZ ?_
    refine zM fun K hK=> ?_
    refine zL zO zN [] rfl ?_
    simp only [push_cast,↓zK,↓zJ,↓reduceIte,zA,zB,zC,zD,zE,zF,zG,zH,zI,reduceCtorEq]
    refine⟨by omega,by omega,⟨by omega,zQ (by omega)⟩,_,Qv (gl a k) m hm0 hm1 hrk,?_⟩
    simp only [push_cast,↓zK,↓zJ,↓reduceIte,zA,zB,zC,zD,zE,zF,zG,zH,zI,reduceCtorEq]
    repeat' apply And.intro
    all_goals try exact gB
    refine hK _ ?_
    clear hK K
    refine zM fun K hK=> ?_
    refine zL zO zN [] rfl ?_
    simp only [push_cast,↓zK,↓zJ,↓reduceIte,zA,zB,zC,zD,zE,zF,zG,zH,zI,reduceCtorEq]
    repeat' apply And.intro
    all_goals try exact gB
    all_goals first|(refine hK _ ?_;clear hK K)|(simp only [push_cast];done)
    refine zU rfl (fun hc=> ?_) (fun hc=> ?_)<;>(try simp only [push_cast]at hc)
    ·
     refine zM fun K hK=> ?_
     refine zL zO zN [] rfl ?_
     simp only [push_cast,↓zK,↓zJ,↓reduceIte,zA,zB,zC,zD,zE,zF,zG,zH,zI,reduceCtorEq]
     repeat' apply And.intro
     all_goals try exact gB
     all_goals first|(refine hK _ ?_;clear hK K)|(simp only [push_cast];done)
     refine zc ?_
     (try simp only [zS,zT])
     refine⟨Or.inl rfl,?_⟩
     simp only [zh,push_cast,↓zK,↓zJ,↓reduceIte,zA,zB,zC,zD,zE,zF,zG,zH,zI,reduceCtorEq]
     have hn:m - ((gl a k).length:Int)<0:=by unfold YE at hc;split at hc<;>omega
     rw [if_pos hn]at hm
     simp only [Yc,if_neg hneg,hm]
    ·
     refine zV ?_
     (try simp only [zS,zT,reduceIte,zF]);refine hK4 _ ?_
     refine zL zO zN [] rfl ?_
     simp only [push_cast,↓zK,↓zJ,↓reduceIte,zA,zB,zC,zD,zE,zF,zG,zH,zI,reduceCtorEq]
     repeat' apply And.intro
     all_goals try exact gB
     refine hK0 _ ⟨(k+1,YE m (gl a k).length),?_,by simp;omega,?_⟩
     ·have hn: ¬m - ((gl a k).length:Int)<0:=by
       intro h
       exact hc (by unfold YE;rw [if_pos h];omega)
      have e:YE m (gl a k).length=m - (gl a k).length:=by unfold YE;rw [if_neg hn]
      rw [if_neg hn]at hm
      simp only [e]
      exact⟨by omega,by omega,by omega,hm⟩
     refine zd rfl ?_ ?_ ?_<;>simp only [zl,zk,push_cast,↓zK,↓zJ,↓reduceIte,zA,zB,zC,zD,zE,zF,zG,zH,zI,reduceCtorEq]
   ·
    refine zr ?_
    (try simp only [zS,zT,reduceIte,zF]);refine hK2 _ ?_
    have :k=a.length:=by omega
    subst this
    rw [List.drop_length,ZA]at hm
    refine zM fun K hK=> ?_
    refine zL zO zN [] rfl ?_
    simp only [push_cast,↓zK,↓zJ,↓reduceIte,zA,zB,zC,zD,zE,zF,zG,zH,zI,reduceCtorEq]
    repeat' apply And.intro
    all_goals try exact gB
    all_goals first|(refine hK _ ?_;clear hK K)|(simp only [push_cast];done)
    refine zc ?_
    (try simp only [zS,zT])
    refine⟨Or.inl rfl,?_⟩
    simp only [zh,push_cast,↓zK,↓zJ,↓reduceIte,zA,zB,zC,zD,zE,zF,zG,zH,zI,reduceCtorEq]
    simp only [Yc,if_neg hneg,hm]
set_option maxHeartbeats 1000000 in
theorem jJ (a b:List (List Int))(ha:a.length≤1048576)(hra: ∀r∈a,r.length≤1048576):Fn Try.prog tyT 64 [.c (DII a), .c (DII b)] [.c (.bool (a==b))]:=by
 refine yT (fn:=Try.f64) (ts:= [4]) Try.func64 (by kernel_rfl) rfl rfl (by rw [Try.ntmps64];exact Nat.le_of_ble_eq_true rfl) rfl (by simp only [szA,List.mem_cons,List.not_mem_nil,or_false,forall_eq_or_imp,forall_eq,VT.cells,szL];try decide) ?_
 rw [Try.ntmps64]
 simp only [push_cast,↓zK,↓zJ,↓reduceIte,zA,zB,zC,zD,zE,zF,zG,zH,zI,reduceCtorEq]
 refine zM fun K hK=> ?_
 refine zL zO zN [] rfl ?_
 simp only [push_cast,↓zK,↓zJ,↓reduceIte,zA,zB,zC,zD,zE,zF,zG,zH,zI,reduceCtorEq]
 repeat' apply And.intro
 all_goals try exact gB
 all_goals first|(refine hK _ ?_;clear hK K)|(simp only [push_cast];done)
 refine zM fun K1 hK1=> ?_
 refine zM fun K hK=> ?_
 refine zL zO zN [] rfl ?_
 simp only [push_cast,↓zK,↓zJ,↓reduceIte,zA,zB,zC,zD,zE,zF,zG,zH,zI,reduceCtorEq]
 repeat' apply And.intro
 all_goals try exact gB
 all_goals first|(refine hK _ ?_;clear hK K)|(simp only [push_cast];done)
 refine zU rfl (fun hc=> ?_) (fun hc=> ?_)<;>(try simp only [push_cast]at hc)
 ·
  refine zM fun K hK=> ?_
  refine zL zO zN [] rfl ?_
  simp only [push_cast,↓zK,↓zJ,↓reduceIte,zA,zB,zC,zD,zE,zF,zG,zH,zI,reduceCtorEq]
  repeat' apply And.intro
  all_goals try exact gB
  all_goals first|(refine hK _ ?_;clear hK K)|(simp only [push_cast];done)
  refine zc ?_
  (try simp only [zS,zT])
  refine⟨Or.inl rfl,?_⟩
  simp only [zh,push_cast,↓zK,↓zJ,↓reduceIte,zA,zB,zC,zD,zE,zF,zG,zH,zI,reduceCtorEq]
  symm
  rw [beq_eq_false_iff_ne]
  rintro rfl
  exact hc rfl
 ·
  refine zV ?_
  (try simp only [zS,zT,reduceIte,zF]);refine hK1 _ ?_
  have hl:a.length=b.length:=by omega
  refine zM fun K2 hK2=> ?_
  refine zM fun K hK=> ?_
  refine zL zO zN [] rfl ?_
  simp only [push_cast,↓zK,↓zJ,↓reduceIte,zA,zB,zC,zD,zE,zF,zG,zH,zI,reduceCtorEq]
  repeat' apply And.intro
  all_goals try exact gB
  all_goals first|(refine hK _ ?_;clear hK K)|(simp only [push_cast];done)
  refine zZ ?_
  refine zo [4,5,11,12,13,14,15,16,17,18,19,20,21,22,23,24,25,26] [] (fun k:Nat=> [(5, .int .i64 k)]) (fun _=> []) (fun k=> []) (fun k=>k≤a.length∧∀j,j<k→gl a j=gl b j) (fun k=>a.length - k) 0 ?_ ⟨by omega,fun j hj=>by omega⟩ ?_
  ·
   refine zd rfl ?_ ?_ ?_<;>simp only [zl,zk,push_cast,↓zK,↓zJ,↓reduceIte,zA,zB,zC,zD,zE,zF,zG,zH,zI,reduceCtorEq]
  ·rintro k ⟨hk,hall⟩ K0 hK0
   simp only [push_cast,↓zK,↓zJ,↓reduceIte,zA,zB,zC,zD,zE,zF,zG,zH,zI,reduceCtorEq]
   refine zM fun K3 hK3=> ?_
   refine zM fun K hK=> ?_
   refine zL zO zN [] rfl ?_
   simp only [push_cast,↓zK,↓zJ,↓reduceIte,zA,zB,zC,zD,zE,zF,zG,zH,zI,reduceCtorEq]
   repeat' apply And.intro
   all_goals try exact gB
   all_goals first|(refine hK _ ?_;clear hK K)|(simp only [push_cast];done)
   refine zU rfl (fun hc=> ?_) (fun hc=> ?_)<;>(try simp only [push_cast]at hc)
   ·
    have hkl:k<a.length:=by omega
    have hrk:(gl a k).length≤1048576:=hra _ (List.mem_of_getElem? (vL hkl))
    refine zV ?_
    (try simp only [zS,zT,reduceIte,zF]);refine hK3 _ ?_
    refine zM fun K4 hK4=> ?_
    refine zZ ?_
    refine zM fun K hK=> ?_
    refine xO false zO zN xM ?_ rfl ?_
    ·kernel_rfl
    intro C hC
    simp only [push_cast,↓zK,↓zJ,↓reduceIte,zA,zB,zC,zD,zE,zF,zG,zH,zI,reduceCtorEq]
    refine⟨by omega,by omega,by omega,by omega,⟨⟨by omega,zQ (by omega)⟩,by omega,zQ (by omega)⟩,_,Qn (gl a k) (gl b k) hrk,?_⟩
    simp only [push_cast,↓zK,↓zJ,↓reduceIte,zA,zB,zC,zD,zE,zF,zG,zH,zI,reduceCtorEq]
    repeat' apply And.intro
    all_goals first|omega|with_reducible assumption|(refine hC _ ?_;kernel_rfl)|(simp only [List.length_set,List.length_append,List.length_replicate,List.length_cons,List.length_nil];omega)|skip
    refine hK _ ?_
    clear hC C hK K
    refine zU rfl (fun hc=> ?_) (fun hc=> ?_)<;>(try simp only [push_cast]at hc)
    ·
     refine zM fun K hK=> ?_
     refine zL zO zN [] rfl ?_
     simp only [push_cast,↓zK,↓zJ,↓reduceIte,zA,zB,zC,zD,zE,zF,zG,zH,zI,reduceCtorEq]
     repeat' apply And.intro
     all_goals try exact gB
     all_goals first|(refine hK _ ?_;clear hK K)|(simp only [push_cast];done)
     refine zc ?_
     (try simp only [zS,zT])
     refine⟨Or.inl rfl,?_⟩
     simp only [zh,push_cast,↓zK,↓zJ,↓reduceIte,zA,zB,zC,zD,zE,zF,zG,zH,zI,reduceCtorEq]
     symm
     rw [beq_eq_false_iff_ne]
     rintro rfl
     simp [Yv]at hc
    ·
     refine zV ?_
     (try simp only [zS,zT,reduceIte,zF]);refine hK4 _ ?_
     refine zL zO zN [] rfl ?_
     simp only [push_cast,↓zK,↓zJ,↓reduceIte,zA,zB,zC,zD,zE,zF,zG,zH,zI,reduceCtorEq]
     repeat' apply And.intro
     all_goals try exact gB
     refine hK0 _ ⟨k+1,⟨by omega,fun j hj=> ?_⟩,by omega,?_⟩
     ·by_cases h:j=k
      ·subst h;simpa [Yv]using hc
      ·exact hall j (by omega)
     refine zd rfl ?_ ?_ ?_<;>simp only [zl,zk,push_cast,↓zK,↓zJ,↓reduceIte,zA,zB,zC,zD,zE,zF,zG,zH,zI,reduceCtorEq]
   ·
    refine zr ?_
    (try simp only [zS,zT,reduceIte,zF]);refine hK2 _ ?_
    refine zM fun K hK=> ?_
    refine zL zO zN [] rfl ?_
    simp only [push_cast,↓zK,↓zJ,↓reduceIte,zA,zB,zC,zD,zE,zF,zG,zH,zI,reduceCtorEq]
    repeat' apply And.intro
    all_goals try exact gB
    all_goals first|(refine hK _ ?_;clear hK K)|(simp only [push_cast];done)
    refine zc ?_
    (try simp only [zS,zT])
    refine⟨Or.inl rfl,?_⟩
    simp only [zh,push_cast,↓zK,↓zJ,↓reduceIte,zA,zB,zC,zD,zE,zF,zG,zH,zI,reduceCtorEq]
    have :a=b:=by
     refine List.ext_getElem hl fun j h1 h2=> ?_
     have h3:=hall j (by omega)
     have h4:=vL h1
     have h5:=vL h2
     rw [List.getElem?_eq_getElem h1]at h4
     rw [List.getElem?_eq_getElem h2]at h5
     injection h4 with h4
     injection h5 with h5
     rw [h4,h5,h3]
    subst this
    simp
theorem zA9 (a:List Int)(ha:a.length≤1048576):Fn Try.prog tyT 63 [.c (DI a), .c (DI a)] [.c (.bool true)]:=by
 have :=Qn a a ha
 rwa [show Yv a a=true from by simp [Yv]]at this
theorem Uv (a:List (List Int))(ha:a.length≤1048576)(hr: ∀r∈a,r.length≤1048576):Fn Try.prog tyT 64 [.c (DII a), .c (DII a)] [.c (.bool true)]:=by
 have :=jJ a a ha hr
 rwa [show(a==a)=true from by simp]at this
def szl (l:Int)(t:Nat):Int:=if l<t then -1 else l - t
theorem xz {l:Int}{t:Nat}(h:l<t):szl l t= -1:=if_pos h
theorem vR {l:Int}{t:Nat}(h: ¬l<t):szl l t=l - t:=if_neg h
def xL (a:List (List Int)):Nat:=a.length+zx a
def LnI (B:Nat)(a:List Int):Prop:=a.length≤B
def xu (B:Nat)(a:List (List Int)):Prop:=a.length≤B∧∀r∈a,r.length≤B
theorem zD1 {a:List (List Int)}{r:List Int}(h:r∈a):r.length≤zx a:=by
 induction a with
 |nil=>simp at h
 |cons x a ih=>
  rw [wj]
  rcases List.mem_cons.1 h with rfl|h
  ·omega
  ·have :=ih h;omega
theorem wZ {B:Nat}{a:List Int}(h:a.length≤B):LnI B a:=h
theorem YQ {B:Nat}{a:List (List Int)}(h:xL a≤B):xu B a:=⟨by unfold xL at h;omega,fun r hr=>by have :=zD1 hr;unfold xL at h;omega⟩
theorem Jm : ∀(a:List (List Int)) (l:Int),0≤l→ZA l a=szl l (zx a)
 | [],l,h=>by rw [VW,vR (by omega)];simp [ZA]
 |r::a,l,h=>by
  simp only [ZA,wj]
  split
  ·rw [xz (by omega)]
  ·rw [Jm a _ (by omega)]
   unfold szl
   split<;>split<;>omega
theorem zD5 (a:List Int)(l:Int)(h0:0≤l)(h1:l≤1048576)(ha:LnI 9223372036854775807 a):Fn Try.prog tyT 49 [.c (DI a), .c (.int .i64 l)] [.c (.int .i64 (szl l a.length))]:=by
 have :=Qv a l h0 h1 ha
 have e:YE l a.length=szl l a.length:=by unfold YE szl;split<;>split<;>omega
 rwa [e]at this
theorem JC (a:List (List Int))(l:Int)(h0:0≤l)(h1:l≤1048576)(ha:xu 9223372036854775807 a):Fn Try.prog tyT 50 [.c (DII a), .c (.int .i64 l)] [.c (.int .i64 (szl l (xL a)))]:=by
 have :=jw a l h0 h1 ha.1 ha.2
 have e:Yc l a=szl l (xL a):=by
  unfold Yc xL
  split
  ·rw [xz (by omega)]
  ·rw [Jm _ _ (by omega)]
   unfold szl
   split<;>split<;>omega
 rwa [e]at this
theorem zEP (a:List Int)(ha:LnI 1048576 a):Fn Try.prog tyT 54 [.c (DI a)] [.c (DI a)]:=Qw a ha
theorem JG (a:List (List Int))(ha:xu 1048576 a):Fn Try.prog tyT 55 [.c (DII a)] [.c (DII a)]:=jy a ha.1 ha.2
theorem zCQ (a:List Int)(ha:LnI 1048576 a):Fn Try.prog tyT 63 [.c (DI a), .c (DI a)] [.c (.bool true)]:=zA9 a ha
theorem VE (a:List (List Int))(ha:xu 1048576 a):Fn Try.prog tyT 64 [.c (DII a), .c (DII a)] [.c (.bool true)]:=Uv a ha.1 ha.2
theorem LnI.mono {B C:Nat}(hB:B≤C){a:List Int}(h:LnI B a):LnI C a:=Nat.le_trans h hB
theorem xu.mono {B C:Nat}(hB:B≤C){a:List (List Int)}(h:xu B a):xu C a:=⟨Nat.le_trans h.1 hB,fun r hr=>Nat.le_trans (h.2 r hr) hB⟩
theorem zCz {B:Nat}{a:List (List Int)}(h: ∀r∈a,r.length≤B):zx a≤a.length*B:=by
 induction a with
 |nil=>simp [zx]
 |cons x a ih=>
  have h1:=ih fun r hr=>h r (List.mem_cons_of_mem _ hr)
  have h2:=h x List.mem_cons_self
  rw [wj,List.length_cons,Nat.add_mul,Nat.one_mul]
  omega
theorem ZQ {a:List Int}(h:LnI 1048576 a):a.length≤1099511627776:=Nat.le_trans h (by decide)
theorem YU {a:List (List Int)}(h:xu 1048576 a):zx a≤1099511627776∧a.length≤1048576:=by
 have h1:=zCz h.2
 have h2:a.length*1048576≤1048576*1048576:=Nat.mul_le_mul_right _ h.1
 exact⟨by omega,h.1⟩
theorem zBi (k:Int)(n:Nat):(iot k n).take n=iot k n:=List.take_of_length_le (by rw [vM];exact Nat.le_refl _)
theorem zBj (k:Int)(xs:List (List Int)):(mkR k xs).take xs.length=mkR k xs:=List.take_of_length_le (by rw [ZF];exact Nat.le_refl _)
theorem zCr :List.range 0= []:=rfl
theorem zCs :List.range 1= [0]:=rfl
theorem zCt :List.range 2= [0,1]:=rfl
attribute [push_cast] List.map_nil zCr zCs zCt
attribute [push_cast] zBi zBj
open Go Go.RowKit
def St.settleB (ks:List CK)(b:Nat)(st:St):St:=
 match lk st.b b with
 |none=>st
 |some cells=>
  match lk (qJ [] ks st (zX b 0) [] cells).1.b b with
  |none=>st
  |some cells'=>if cells'.length=(qJ [] ks st (zX b 0) [] cells).2.length then(qJ [] ks st (zX b 0) [] cells).1.setB b (qJ [] ks st (zX b 0) [] cells).2 else st
theorem uK {α:Type}{a b:List α}(h:b.length=a.length):lay a 0 b=b:=by
 unfold lay
 rw [Nat.zero_add,h,List.drop_length]
 simp
theorem Qi {P:Program}{τ:Ty}(ks:List CK)(b:Nat){c:Code}{Q:Exit→St→Prop}{st:St}(h:awp P τ c Q (st.settleB ks b)):awp P τ c Q st:=by
 unfold St.settleB at h
 split at h
 ·exact h
 ·rename_i cells hl
  split at h
  ·exact h
  ·rename_i cells' hl'
   split at h
   ·rename_i hlen
    intro lo w0 a w hr
    obtain⟨ow,hd,bk,hrr⟩:=hr
    obtain⟨cs,ty,g1,g2,g3⟩:=hrr.box b cells hl
    obtain⟨ow1,hd1,r1,r2⟩:=Yx [] ks st ow hd (zX b 0) [] cells [] cs hrr (by simp [zW]) g3
    obtain⟨cs0,ty0,k1,k2,k3⟩:=r1.box b cells' hl'
    rw [List.nil_append]at r2
    have e0:cs0=cs:=by
     rw [g1]at k1
     simp only [Option.some.injEq,Obj.cells.injEq]at k1
     have :=k1.1
     simpa using this.symm
    subst e0
    have hrel:=Zb r1 hl' k1 (i:=0) (by omega) k3 r2
    rw [uK rfl,uK hlen.symm,setRow_self w _ _ _ _ k1]at hrel
    exact h lo w0 a w ⟨ow1,hd1,bk,hrel⟩
   ·exact h
attribute [push_cast] St.settleB
theorem zAw (xs:List (List Int))(r:List Int):dII xs++ [D.lst 2 (dI r)]=dII (xs++ [r]):=by simp [dII]
theorem zB7 (xs ys:List (List Int)):dII xs++dII ys=dII (xs++ys):=by simp [dII]
attribute [push_cast] zAw zB7
structure Ar where
 owner:List Int
 next:List (List Int)
 deriving DecidableEq
def dAr (x:Ar):List D:= [DI x.owner,DII x.next]
def Ar.tot (x:Ar):Nat:=x.owner.length+xL x.next
structure Ar.Ln (B:Nat)(x:Ar):Prop where
 owner:LnI B x.owner
 next:xu B x.next
theorem Ar.ln_of {B:Nat}{x:Ar}(h:x.tot≤B):x.Ln B:=by
 unfold Ar.tot at h
 exact⟨wZ (by omega),YQ (by omega)⟩
set_option maxHeartbeats 1000000 in
theorem zC0 (x:Ar)(l:Int)(h0:0≤l)(h1:l≤1048576)(ha:x.Ln 9223372036854775807):Fn Try.prog tyT 9 [.agg (dAr x), .c (.int .i64 l)] [.c (.int .i64 (szl l x.tot))]:=by
 have ht:x.tot=x.owner.length+xL x.next:=by unfold Ar.tot; omega
 unfold dAr
 refine yT (fn:=Try.f9) (ts:= [4]) Try.func9 (by kernel_rfl) rfl rfl (by rw [Try.ntmps9];exact Nat.le_of_ble_eq_true rfl) rfl (by simp only [szA,List.mem_cons,List.not_mem_nil,or_false,forall_eq_or_imp,forall_eq,VT.cells,szL];try decide) ?_
 rw [Try.ntmps9]
 simp only [push_cast,↓zK,↓zJ,↓reduceIte,zA,zB,zC,zD,zE,zF,zG,zH,zI,reduceCtorEq]
 refine zM fun K hK=> ?_
 refine zL zO zN [] rfl ?_
 simp only [push_cast,↓zK,↓zJ,↓reduceIte,zA,zB,zC,zD,zE,zF,zG,zH,zI,reduceCtorEq]
 repeat' apply And.intro
 all_goals try exact gB
 all_goals first|(refine hK _ ?_;clear hK K)|(simp only [push_cast];done)
 have hA:=zD5 x.owner (l) (by omega) (by omega) ha.owner
 refine zM fun K hK=> ?_
 refine zL zO zN [] rfl ?_
 simp only [push_cast,↓zK,↓zJ,↓reduceIte,zA,zB,zC,zD,zE,zF,zG,zH,zI,reduceCtorEq]
 refine⟨_,hA,?_⟩
 simp only [push_cast,↓zK,↓zJ,↓reduceIte,zA,zB,zC,zD,zE,zF,zG,zH,zI,reduceCtorEq]
 repeat' apply And.intro
 all_goals try exact gB
 refine hK _ ?_
 clear hK K hA
 refine zM fun K0 hK0=> ?_
 refine zM fun K hK=> ?_
 refine zL zO zN [] rfl ?_
 simp only [push_cast,↓zK,↓zJ,↓reduceIte,zA,zB,zC,zD,zE,zF,zG,zH,zI,reduceCtorEq]
 repeat' apply And.intro
 all_goals try exact gB
 all_goals first|(refine hK _ ?_;clear hK K)|(simp only [push_cast];done)
 by_cases hn0:(l)<(x.owner.length:Nat)
 ·rw [xz hn0]
  refine zU rfl (fun hc=> ?_) (fun hc=> ?_)<;>(try simp only [push_cast]at hc)
  ·
   refine zM fun K hK=> ?_
   refine zL zO zN [] rfl ?_
   simp only [push_cast,↓zK,↓zJ,↓reduceIte,zA,zB,zC,zD,zE,zF,zG,zH,zI,reduceCtorEq]
   repeat' apply And.intro
   all_goals try exact gB
   all_goals first|(refine hK _ ?_;clear hK K)|(simp only [push_cast];done)
   refine zc ?_
   (try simp only [zS,zT])
   refine⟨Or.inl rfl,?_⟩
   simp only [zh,push_cast,↓zK,↓zJ,↓reduceIte,zA,zB,zC,zD,zE,zF,zG,zH,zI,reduceCtorEq]
   rw [xz (by omega)]
  ·exact absurd hc (by decide)
 ·rw [vR hn0]
  refine zU rfl (fun hc=> ?_) (fun hc=> ?_)<;>(try simp only [push_cast]at hc)
  ·exfalso;omega
  ·refine zV ?_
   (try simp only [zS,zT,reduceIte,zF]);refine hK0 _ ?_
   have hA:=JC x.next (l - (x.owner.length:Nat)) (by omega) (by omega) ha.next
   refine zM fun K hK=> ?_
   refine zL zO zN [] rfl ?_
   simp only [push_cast,↓zK,↓zJ,↓reduceIte,zA,zB,zC,zD,zE,zF,zG,zH,zI,reduceCtorEq]
   refine⟨_,hA,?_⟩
   simp only [push_cast,↓zK,↓zJ,↓reduceIte,zA,zB,zC,zD,zE,zF,zG,zH,zI,reduceCtorEq]
   repeat' apply And.intro
   all_goals try exact gB
   refine hK _ ?_
   clear hK K hA
   refine zM fun K1 hK1=> ?_
   refine zM fun K hK=> ?_
   refine zL zO zN [] rfl ?_
   simp only [push_cast,↓zK,↓zJ,↓reduceIte,zA,zB,zC,zD,zE,zF,zG,zH,zI,reduceCtorEq]
   repeat' apply And.intro
   all_goals try exact gB
   all_goals first|(refine hK _ ?_;clear hK K)|(simp only [push_cast];done)
   by_cases hn1:(l - (x.owner.length:Nat))<(xL x.next:Nat)
   ·rw [xz hn1]
    refine zU rfl (fun hc=> ?_) (fun hc=> ?_)<;>(try simp only [push_cast]at hc)
    ·
     refine zM fun K hK=> ?_
     refine zL zO zN [] rfl ?_
     simp only [push_cast,↓zK,↓zJ,↓reduceIte,zA,zB,zC,zD,zE,zF,zG,zH,zI,reduceCtorEq]
     repeat' apply And.intro
     all_goals try exact gB
     all_goals first|(refine hK _ ?_;clear hK K)|(simp only [push_cast];done)
     refine zc ?_
     (try simp only [zS,zT])
     refine⟨Or.inl rfl,?_⟩
     simp only [zh,push_cast,↓zK,↓zJ,↓reduceIte,zA,zB,zC,zD,zE,zF,zG,zH,zI,reduceCtorEq]
     rw [xz (by omega)]
    ·exact absurd hc (by decide)
   ·rw [vR hn1]
    refine zU rfl (fun hc=> ?_) (fun hc=> ?_)<;>(try simp only [push_cast]at hc)
    ·exfalso;omega
    ·refine zV ?_
     (try simp only [zS,zT,reduceIte,zF]);refine hK1 _ ?_
     refine zM fun K hK=> ?_
     refine zL zO zN [] rfl ?_
     simp only [push_cast,↓zK,↓zJ,↓reduceIte,zA,zB,zC,zD,zE,zF,zG,zH,zI,reduceCtorEq]
     repeat' apply And.intro
     all_goals try exact gB
     all_goals first|(refine hK _ ?_;clear hK K)|(simp only [push_cast];done)
     refine zc ?_
     (try simp only [zS,zT])
     refine⟨Or.inl rfl,?_⟩
     simp only [zh,push_cast,↓zK,↓zJ,↓reduceIte,zA,zB,zC,zD,zE,zF,zG,zH,zI,reduceCtorEq]
     rw [vR (by omega)];omega
set_option maxHeartbeats 1000000 in
theorem QY (x:Ar)(ha:x.Ln 1048576):Fn Try.prog tyT 12 [.agg (dAr x)] [.agg (dAr x)]:=by
 unfold dAr
 refine ZK (fn:=Try.f12) (rs:= [.cell 2 30]) zO zN Try.func12 (by kernel_rfl) rfl rfl (by rw [Try.ntmps12];exact Nat.le_of_ble_eq_true rfl) rfl (by simp only [szA,List.mem_cons,List.not_mem_nil,or_false,forall_eq_or_imp,forall_eq,VT.cells,szL];try decide) ?_
 rw [Try.ntmps12]
 simp only [push_cast,↓zK,↓zJ,↓reduceIte,zA,zB,zC,zD,zE,zF,zG,zH,zI,reduceCtorEq]
 refine zM fun K hK=> ?_
 refine zL zO zN [] rfl ?_
 simp only [push_cast,↓zK,↓zJ,↓reduceIte,zA,zB,zC,zD,zE,zF,zG,zH,zI,reduceCtorEq]
 repeat' apply And.intro
 all_goals try exact gB
 all_goals first|(refine hK _ ?_;clear hK K)|(simp only [push_cast];done)
 refine zM fun K hK=> ?_
 refine zL zO zN [] rfl ?_
 simp only [push_cast,↓zK,↓zJ,↓reduceIte,zA,zB,zC,zD,zE,zF,zG,zH,zI,reduceCtorEq]
 repeat' apply And.intro
 all_goals try exact gB
 all_goals first|(refine hK _ ?_;clear hK K)|(simp only [push_cast];done)
 have hA:=zEP x.owner ha.owner
 refine zM fun K hK=> ?_
 refine zL zO zN [] rfl ?_
 simp only [push_cast,↓zK,↓zJ,↓reduceIte,zA,zB,zC,zD,zE,zF,zG,zH,zI,reduceCtorEq]
 refine⟨_,hA,?_⟩
 simp only [push_cast,↓zK,↓zJ,↓reduceIte,zA,zB,zC,zD,zE,zF,zG,zH,zI,reduceCtorEq]
 repeat' apply And.intro
 all_goals try exact gB
 refine hK _ ?_
 clear hK K hA
 have hA:=JG x.next ha.next
 refine zM fun K hK=> ?_
 refine zL zO zN [] rfl ?_
 simp only [push_cast,↓zK,↓zJ,↓reduceIte,zA,zB,zC,zD,zE,zF,zG,zH,zI,reduceCtorEq]
 refine⟨_,hA,?_⟩
 simp only [push_cast,↓zK,↓zJ,↓reduceIte,zA,zB,zC,zD,zE,zF,zG,zH,zI,reduceCtorEq]
 repeat' apply And.intro
 all_goals try exact gB
 refine hK _ ?_
 clear hK K hA
 refine zM fun K hK=> ?_
 refine zL zO zN [] rfl ?_
 simp only [push_cast,↓zK,↓zJ,↓reduceIte,zA,zB,zC,zD,zE,zF,zG,zH,zI,reduceCtorEq]
 repeat' apply And.intro
 all_goals try exact gB
 all_goals first|(refine hK _ ?_;clear hK K)|(simp only [push_cast];done)
 refine zc ?_
 (try simp only [zS,zT])
 refine⟨Or.inl rfl,?_⟩
 simp only [zh,yY,xR,push_cast,↓zK,↓zJ,↓reduceIte,zA,zB,zC,zD,zE,zF,zG,zH,zI,reduceCtorEq]
 try rfl
set_option maxHeartbeats 1000000 in
theorem zCP (x:Ar)(ha:x.Ln 1048576):Fn Try.prog tyT 15 [.agg (dAr x), .agg (dAr x)] [.c (.bool true)]:=by
 unfold dAr
 refine yT (fn:=Try.f15) (ts:= [4]) Try.func15 (by kernel_rfl) rfl rfl (by rw [Try.ntmps15];exact Nat.le_of_ble_eq_true rfl) rfl (by simp only [szA,List.mem_cons,List.not_mem_nil,or_false,forall_eq_or_imp,forall_eq,VT.cells,szL];try decide) ?_
 rw [Try.ntmps15]
 simp only [push_cast,↓zK,↓zJ,↓reduceIte,zA,zB,zC,zD,zE,zF,zG,zH,zI,reduceCtorEq]
 refine zM fun K hK=> ?_
 refine zL zO zN [] rfl ?_
 simp only [push_cast,↓zK,↓zJ,↓reduceIte,zA,zB,zC,zD,zE,zF,zG,zH,zI,reduceCtorEq]
 repeat' apply And.intro
 all_goals try exact gB
 all_goals first|(refine hK _ ?_;clear hK K)|(simp only [push_cast];done)
 refine zM fun K0 hK0=> ?_
 have hA:=zCQ x.owner ha.owner
 refine zM fun K hK=> ?_
 refine zL zO zN [] rfl ?_
 simp only [push_cast,↓zK,↓zJ,↓reduceIte,zA,zB,zC,zD,zE,zF,zG,zH,zI,reduceCtorEq]
 refine⟨_,hA,?_⟩
 simp only [push_cast,↓zK,↓zJ,↓reduceIte,zA,zB,zC,zD,zE,zF,zG,zH,zI,reduceCtorEq]
 repeat' apply And.intro
 all_goals try exact gB
 refine hK _ ?_
 clear hK K hA
 refine zU rfl (fun hc=>by cases hc) (fun _=> ?_)
 refine zV ?_
 (try simp only [zS,zT,reduceIte,zF]);refine hK0 _ ?_
 refine zM fun K1 hK1=> ?_
 have hA:=VE x.next ha.next
 refine zM fun K hK=> ?_
 refine zL zO zN [] rfl ?_
 simp only [push_cast,↓zK,↓zJ,↓reduceIte,zA,zB,zC,zD,zE,zF,zG,zH,zI,reduceCtorEq]
 refine⟨_,hA,?_⟩
 simp only [push_cast,↓zK,↓zJ,↓reduceIte,zA,zB,zC,zD,zE,zF,zG,zH,zI,reduceCtorEq]
 repeat' apply And.intro
 all_goals try exact gB
 refine hK _ ?_
 clear hK K hA
 refine zU rfl (fun hc=>by cases hc) (fun _=> ?_)
 refine zV ?_
 (try simp only [zS,zT,reduceIte,zF]);refine hK1 _ ?_
 refine zM fun K hK=> ?_
 refine zL zO zN [] rfl ?_
 simp only [push_cast,↓zK,↓zJ,↓reduceIte,zA,zB,zC,zD,zE,zF,zG,zH,zI,reduceCtorEq]
 repeat' apply And.intro
 all_goals try exact gB
 all_goals first|(refine hK _ ?_;clear hK K)|(simp only [push_cast];done)
 refine zc ?_
 (try simp only [zS,zT])
 refine⟨Or.inl rfl,?_⟩
 simp only [zh,push_cast,↓zK,↓zJ,↓reduceIte,zA,zB,zC,zD,zE,zF,zG,zH,zI,reduceCtorEq]
def Ar.cnt (x:Ar):Nat:=x.owner.length+zx x.next
theorem Ar.ln_mono {B C:Nat}(hB:B≤C){x:Ar}(h:x.Ln B):x.Ln C:=⟨LnI.mono hB h.owner,xu.mono hB h.next⟩
theorem Ar.cnt_le {x:Ar}(h:x.Ln 1048576):x.cnt≤2199023255552:=by
 have h0:=ZQ h.owner
 have h1:=YU h.next
 unfold Ar.cnt
 omega
def mkAr (k:Int)(x:Ar):Ar:=
 ⟨iot (k) x.owner.length,mkR (k+(x.owner.length:Nat)) x.next⟩
set_option maxHeartbeats 1000000 in
theorem zAK (x:Ar)(k:Int)(h0:0≤k)(h1:k+x.cnt≤4611686018427387904)(ha:x.Ln 4611686018427387904):FnG Try.prog tyT 23 [.agg (dAr x), .c (.int .i64 k)] [0,1] [(0,2,dI (iot (k) x.owner.length)),(1,22,dII (mkR (k+(x.owner.length:Nat)) x.next))] [.c (.int .i64 (k+x.cnt))]:=by
 have ht:x.cnt=x.owner.length+zx x.next:=by unfold Ar.cnt; omega
 unfold dAr
 refine Va (fn:=Try.f23) (rs:= [.tmp 4]) (own:= [0,1]) (outs:= [(0,2,dI (iot (k) x.owner.length)),(1,22,dII (mkR (k+(x.owner.length:Nat)) x.next))]) zO zN Try.func23 (by kernel_rfl) rfl rfl (by rw [Try.ntmps23];exact Nat.le_of_ble_eq_true rfl) rfl (by simp only [szA,List.mem_cons,List.not_mem_nil,or_false,forall_eq_or_imp,forall_eq,VT.cells,szL];try decide) ?_
 rw [Try.ntmps23]
 simp only [push_cast,↓zK,↓zJ,↓reduceIte,zA,zB,zC,zD,zE,zF,zG,zH,zI,reduceCtorEq]
 refine zM fun K hK=> ?_
 refine zL zO zN [] rfl ?_
 simp only [push_cast,↓zK,↓zJ,↓reduceIte,zA,zB,zC,zD,zE,zF,zG,zH,zI,reduceCtorEq]
 repeat' apply And.intro
 all_goals try exact gB
 all_goals first|(refine hK _ ?_;clear hK K)|(simp only [push_cast];done)
 have hA:=XY x.owner (k) (by omega) (by omega)
 refine zM fun K hK=> ?_
 refine xm 8 [0] [(0,2,dI (iot (k) x.owner.length))] zO zN [] rfl ?_
 simp only [push_cast,↓zK,↓zJ,↓reduceIte,zA,zB,zC,zD,zE,zF,zG,zH,zI,reduceCtorEq]
 refine⟨_,hA,?_⟩
 simp only [push_cast,↓zK,↓zJ,↓reduceIte,zA,zB,zC,zD,zE,zF,zG,zH,zI,reduceCtorEq]
 refine hK _ ?_
 clear hK K hA
 have hA:=wN x.next (k+(x.owner.length:Nat)) (by omega) (by omega) ha.next.1
 refine zM fun K hK=> ?_
 refine xm 12 [0] [(0,22,dII (mkR (k+(x.owner.length:Nat)) x.next))] zO zN [] rfl ?_
 simp only [push_cast,↓zK,↓zJ,↓reduceIte,zA,zB,zC,zD,zE,zF,zG,zH,zI,reduceCtorEq]
 refine⟨_,hA,?_⟩
 simp only [push_cast,↓zK,↓zJ,↓reduceIte,zA,zB,zC,zD,zE,zF,zG,zH,zI,reduceCtorEq]
 refine hK _ ?_
 clear hK K hA
 refine zM fun K hK=> ?_
 refine zL zO zN [] rfl ?_
 simp only [push_cast,↓zK,↓zJ,↓reduceIte,zA,zB,zC,zD,zE,zF,zG,zH,zI,reduceCtorEq]
 repeat' apply And.intro
 all_goals try exact gB
 all_goals first|(refine hK _ ?_;clear hK K)|(simp only [push_cast];done)
 refine zc ?_
 (try simp only [zS,zT])
 refine⟨Or.inl rfl,?_⟩
 simp only [ZL,wC,yY,xR,push_cast,↓zK,↓zJ,↓reduceIte,zA,zB,zC,zD,zE,zF,zG,zH,zI,reduceCtorEq]
 try(unfold Ar.cnt;omega)
structure Wt where
 a:Ar
 cost:List (List Int)
 deriving DecidableEq
def Wt.tot (x:Wt):Nat:=x.a.owner.length+xL x.a.next+xL x.cost
structure Wt.Ln (B:Nat)(x:Wt):Prop where
 a:x.a.Ln B
 cost:xu B x.cost
theorem Wt.ln_of {B:Nat}{x:Wt}(h:x.tot≤B):x.Ln B:=by
 unfold Wt.tot at h
 exact⟨Ar.ln_of (by unfold Ar.tot;omega),YQ (by omega)⟩
def Wt.cnt (x:Wt):Nat:=x.a.owner.length+zx x.a.next+zx x.cost
theorem Wt.ln_mono {B C:Nat}(hB:B≤C){x:Wt}(h:x.Ln B):x.Ln C:=⟨Ar.ln_mono hB h.a,xu.mono hB h.cost⟩
theorem Wt.cnt_le {x:Wt}(h:x.Ln 1048576):x.cnt≤3298534883328:=by
 have h0:=Ar.cnt_le h.a
 have h1:=YU h.cost
 unfold Wt.cnt
 try unfold Ar.cnt at*
 omega
structure Ls where
 stem:List Int
 loop:List Int
 deriving DecidableEq
def Ls.tot (x:Ls):Nat:=x.stem.length+x.loop.length
structure Ls.Ln (B:Nat)(x:Ls):Prop where
 stem:LnI B x.stem
 loop:LnI B x.loop
theorem Ls.ln_of {B:Nat}{x:Ls}(h:x.tot≤B):x.Ln B:=by
 unfold Ls.tot at h
 exact⟨wZ (by omega),wZ (by omega)⟩
def Ls.cnt (x:Ls):Nat:=x.stem.length+x.loop.length
theorem Ls.ln_mono {B C:Nat}(hB:B≤C){x:Ls}(h:x.Ln B):x.Ln C:=⟨LnI.mono hB h.stem,LnI.mono hB h.loop⟩
theorem Ls.cnt_le {x:Ls}(h:x.Ln 1048576):x.cnt≤2199023255552:=by
 have h0:=ZQ h.stem
 have h1:=ZQ h.loop
 unfold Ls.cnt
 omega
structure Fm where
 names:List Int
 sets:List (List Int)
 deriving DecidableEq
def Fm.tot (x:Fm):Nat:=x.names.length+xL x.sets
structure Fm.Ln (B:Nat)(x:Fm):Prop where
 names:LnI B x.names
 sets:xu B x.sets
theorem Fm.ln_of {B:Nat}{x:Fm}(h:x.tot≤B):x.Ln B:=by
 unfold Fm.tot at h
 exact⟨wZ (by omega),YQ (by omega)⟩
def Fm.cnt (x:Fm):Nat:=x.names.length+zx x.sets
theorem Fm.ln_mono {B C:Nat}(hB:B≤C){x:Fm}(h:x.Ln B):x.Ln C:=⟨LnI.mono hB h.names,xu.mono hB h.sets⟩
theorem Fm.cnt_le {x:Fm}(h:x.Ln 1048576):x.cnt≤2199023255552:=by
 have h0:=ZQ h.names
 have h1:=YU h.sets
 unfold Fm.cnt
 omega
structure Pr where
 ask:List Int
 give:List Int
 deriving DecidableEq
def Pr.tot (x:Pr):Nat:=x.ask.length+x.give.length
structure Pr.Ln (B:Nat)(x:Pr):Prop where
 ask:LnI B x.ask
 give:LnI B x.give
theorem Pr.ln_of {B:Nat}{x:Pr}(h:x.tot≤B):x.Ln B:=by
 unfold Pr.tot at h
 exact⟨wZ (by omega),wZ (by omega)⟩
def Pr.cnt (x:Pr):Nat:=x.ask.length+x.give.length
theorem Pr.ln_mono {B C:Nat}(hB:B≤C){x:Pr}(h:x.Ln B):x.Ln C:=⟨LnI.mono hB h.ask,LnI.mono hB h.give⟩
theorem Pr.cnt_le {x:Pr}(h:x.Ln 1048576):x.cnt≤2199023255552:=by
 have h0:=ZQ h.ask
 have h1:=ZQ h.give
 unfold Pr.cnt
 omega
end Go.Proofs.Ythepmdkpbjfdcaa
