/- Numbers, truth values and rows as data; what the evaluation yY of them. -/
import Derived.Test.YthepmdkpbjfdcaaTyzpw
import Derived.Laws.CopyRow
namespace Go.Proofs.Ythepmdkpbjfdcaa
open Nat renaming reduceMod → zA, reduceMul → zB, reduceDiv → zC, reduceAdd → zD, reduceSub → zE, reduceEqDiff → zF, reduceBEq → zG, reduceLT → zH, reduceLeDiff → zI
open Go.RowKit
set_option linter.unusedVariables false
set_option linter.unusedSimpArgs false
def gi (xs:List Int)(k:Nat):Int:=xs.getD k 0
def gl (rows:List (List Int))(k:Nat):List Int:=rows.getD k []
def gb (xs:List Bool)(k:Nat):Bool:=xs.getD k false
theorem vW {xs:List Int}{k:Nat}(h:k<xs.length):xs[k]? =some (gi xs k):=by
 unfold gi;rw [List.getD_eq_getElem?_getD,List.getElem?_eq_getElem h];rfl
theorem XX {xs:List (List Int)}{k:Nat}(h:k<xs.length):xs[k]? =some (gl xs k):=by
 unfold gl;rw [List.getD_eq_getElem?_getD,List.getElem?_eq_getElem h];rfl
theorem zGe {xs:List Bool}{k:Nat}(h:k<xs.length):xs[k]? =some (gb xs k):=by
 unfold gb;rw [List.getD_eq_getElem?_getD,List.getElem?_eq_getElem h];rfl
def dI (xs:List Int):List D:=xs.map (.int .i64)
def dB (xs:List Bool):List D:=xs.map .bool
def dII (xss:List (List Int)):List D:=xss.map fun r=> .lst 2 (dI r)
@[reducible] def DI (xs : List Int) : D := .lst 2 (dI xs)
@[reducible] def DII (xss : List (List Int)) : D := .lst 22 (dII xss)
theorem QX (xs:List Int):(dI xs).length=xs.length:=by simp [dI]
theorem zJR (xs:List Bool):(dB xs).length=xs.length:=by simp [dB]
theorem QY (xs:List (List Int)):(dII xs).length=xs.length:=by simp [dII]
theorem zHc (xs:List Int)(i:Nat):XD (dI xs) i=gi xs i:=by
 unfold XD dI gi
 rw [List.getElem?_map,List.getD_eq_getElem?_getD]
 cases xs[i]? <;>rfl
theorem zHb (xs:List Bool)(i:Nat):getB (dB xs) i=gb xs i:=by
 unfold getB dB gb
 rw [List.getElem?_map,List.getD_eq_getElem?_getD]
 cases xs[i]? <;>rfl
theorem zFb (xs:List (List Int))(i:Nat):xQ (dII xs) i=dI (gl xs i):=by
 unfold xQ dII gl
 rw [List.getElem?_map,List.getD_eq_getElem?_getD]
 cases xs[i]? <;>rfl
theorem zQ {xs:List (List Int)}{i:Nat}(h:i<xs.length):qf (dII xs) i=2:=by
 unfold qf dII
 rw [List.getElem?_map,List.getElem?_eq_getElem h]
 rfl
theorem zG0 (xs:List Int)(i:Nat):xW (.int .i64) (dI xs) i=(i<xs.length):=by
 unfold xW dI
 rw [List.getElem?_map]
 apply propext
 constructor
 ·rintro⟨n,h⟩
  rcases Nat.lt_or_ge i xs.length with h'|h'
  ·exact h'
  ·rw [List.getElem?_eq_none h']at h;cases h
 ·intro h;rw [List.getElem?_eq_getElem h];exact⟨_,rfl⟩
theorem zGz (xs:List Bool)(i:Nat):xW .bool (dB xs) i=(i<xs.length):=by
 unfold xW dB
 rw [List.getElem?_map]
 apply propext
 constructor
 ·rintro⟨n,h⟩
  rcases Nat.lt_or_ge i xs.length with h'|h'
  ·exact h'
  ·rw [List.getElem?_eq_none h']at h;cases h
 ·intro h;rw [List.getElem?_eq_getElem h];exact⟨_,rfl⟩
theorem zE5 (xs:List (List Int))(i:Nat):xW (.sl 2) (dII xs) i=(i<xs.length):=by
 unfold xW dII
 rw [List.getElem?_map]
 apply propext
 constructor
 ·rintro⟨n,h⟩
  rcases Nat.lt_or_ge i xs.length with h'|h'
  ·exact h'
  ·rw [List.getElem?_eq_none h']at h;cases h
 ·intro h;rw [List.getElem?_eq_getElem h];exact⟨_,rfl⟩
theorem zDI (xs:List (List Int))(i:Nat):zl (dII xs) [i]=(i<xs.length):=by
 apply propext
 simp only [zl,and_true]
 unfold dII
 rw [List.getElem?_map]
 constructor
 ·rintro⟨e,n,h⟩
  rcases Nat.lt_or_ge i xs.length with h'|h'
  ·exact h'
  ·rw [List.getElem?_eq_none h']at h;cases h
 ·intro h;rw [List.getElem?_eq_getElem h];exact⟨_,_,rfl⟩
theorem zDJ (xs:List D):zl xs []=True:=by simp [zl]
theorem zHR (xs:List Int)(n:Nat):(dI xs).drop n=dI (xs.drop n):=by simp [dI]
theorem zIN (xs:List Int)(n:Nat):(dI xs).take n=dI (xs.take n):=by simp [dI]
theorem zFU (xs:List (List Int))(n:Nat):(dII xs).drop n=dII (xs.drop n):=by simp [dII]
theorem zGT (xs:List (List Int))(n:Nat):(dII xs).take n=dII (xs.take n):=by simp [dII]
theorem zIm (xs ys:List Int):dI xs++dI ys=dI (xs++ys):=by simp [dI]
theorem zFF (xs:List Int):(dI xs).all xI=true:=by simp [dI,xI]
theorem zFE (xs:List Bool):(dB xs).all xI=true:=by simp [dB,xI]
theorem zJr (xs:List Int)(i:Nat)(n:Int):(dI xs).set i (.int .i64 n)=dI (xs.set i n):=by simp [dI]
theorem zJq (xs:List Bool)(i:Nat)(b:Bool):(dB xs).set i (.bool b)=dB (xs.set i b):=by simp [dB]
theorem zG9 (xs:List Int)(n:Int):dI xs++ [D.int .i64 n]=dI (xs++ [n]):=by simp [dI]
theorem zJj (n:Nat)(x:Int):List.replicate n (D.int .i64 x)=dI (List.replicate n x):=by simp [dI]
theorem zJi (n:Nat)(x:Bool):List.replicate n (D.bool x)=dB (List.replicate n x):=by simp [dB]
theorem zEv (n:Nat):((n:Int)).toNat=n:=Int.toNat_natCast n
def zf (s:List (Nat×AV)):List (Nat×AV)→Prop
 | []=>True
 |(k,v)::l=>(v= .dead∨lk s k=some v)∧zf s l
def ze {α:Type}(s:List (Nat×α)):List (Nat×α)→Prop
 | []=>True
 |(k,v)::l=>lk s k=some v∧ze s l
theorem zB7 {s:List (Nat×AV)}: ∀{l:List (Nat×AV)},zf s l→∀k v,lk l k=some v→v= .dead∨lk s k=some v
 | [],_,k,v,h=>by simp [lk]at h
 |(j,u)::l,hc,k,v,h=>by
  simp only [zc]at h
  split at h
  ·rename_i e;subst e;cases h;exact hc.1
  ·exact zB7 hc.2 k v h
theorem jo {α:Type}{s:List (Nat×α)}: ∀{l:List (Nat×α)},ze s l→∀k v,lk l k=some v→lk s k=some v
 | [],_,k,v,h=>by simp [lk]at h
 |(j,u)::l,hc,k,v,h=>by
  simp only [zc]at h
  split at h
  ·rename_i e;subst e;cases h;exact hc.1
  ·exact jo hc.2 k v h
theorem zY {st st':St}(h1:st'.n=st.n)(h2:zf st.s st'.s)(h3:ze st.b st'.b)(h4:ze st.r st'.r):Cov st st':=⟨h1,zB7 h2,jo h3,jo h4⟩
theorem zEm (xs:List D)(i:Nat)(x:D):qM xs [] i x=xs.set i x:=rfl
theorem zDU (k:Nat):((k:Int) - 1).toNat=k - 1:=by omega
theorem zDT (k:Nat):((k:Int)+1).toNat=k+1:=by omega
theorem zJH (e:TypeId)(ys l:List D):xQ (.lst e ys::l) 0=ys:=rfl
theorem zJG (x:D)(l:List D)(i:Nat):xQ (x::l) (i+1)=xQ l i:=rfl
theorem zJD (e:TypeId)(ys l:List D):qf (.lst e ys::l) 0=e:=rfl
theorem zJC (x:D)(l:List D)(i:Nat):qf (x::l) (i+1)=qf l i:=rfl
theorem zJF (k:IntKind)(n:Int)(l:List D):XD (.int k n::l) 0=n:=rfl
theorem zJE (x:D)(l:List D)(i:Nat):XD (x::l) (i+1)=XD l i:=rfl
theorem zF1 (e:TypeId)(ys l:List D)(q:List Nat):zl (.lst e ys::l) (0::q)=zl ys q:=by
 apply propext
 simp only [zl,List.getElem?_cons_zero]
 constructor
 ·rintro⟨e',ys',h,h2⟩;cases h;exact h2
 ·exact fun h=>⟨e,ys,rfl,h⟩
theorem zF0 (x:D)(l:List D)(i:Nat)(q:List Nat):zl (x::l) ((i+1)::q)=zl l (i::q):=by
 simp only [zl,List.getElem?_cons_succ]
theorem zG3 (e e':TypeId)(ys l:List D):xW (.sl e) (.lst e' ys::l) 0=(e=e'):=by
 apply propext
 simp only [xW,List.getElem?_cons_zero]
 constructor
 ·rintro⟨ys',h⟩;cases h;rfl
 ·rintro rfl;exact⟨ys,rfl⟩
theorem zG2 (k k':IntKind)(n:Int)(l:List D):xW (.int k) (.int k' n::l) 0=(k=k'):=by
 apply propext
 simp only [xW,List.getElem?_cons_zero]
 constructor
 ·rintro⟨ys',h⟩;cases h;rfl
 ·rintro rfl;exact⟨n,rfl⟩
theorem zIc (c:CK)(x:D)(l:List D)(i:Nat):xW c (x::l) (i+1)=xW c l i:=by
 cases c<;>simp only [xW,List.getElem?_cons_succ]
attribute [push_cast] zJH zJG zJD zJC zJF zJE zF1 zF0 zG3 zG2 zIc
attribute [push_cast] WI wq ji kI vL wg Qq fpA qa fpB fpC Xr qg ZS um xY Decidable.not_not Int.zero_add Bool.true_or Bool.or_true Int.toNat_zero Int.toNat_one zDU zDT false_implies true_implies decide_eq_true_eq decide_eq_false_iff_not Bool.not_eq_true' Bool.not_eq_false' beq_iff_eq beq_eq_false_iff_ne bne_iff_ne bne_eq_false_iff_eq Int.add_zero Option.some_beq_none wi ZD Ve epL XT.cells fewX wM YF Zo wL ZT qG XU wm QN mkF Qw shE arC IntKind.bits qj QZ YG jR YM Xf apart qZ wo VN vh zAu zAv few XI jH wh UP Wa List.mem_cons List.not_mem_nil Option.isNone_some Option.isNone_none List.set_cons_zero List.singleton_append zEm vr kL xV yT St.settle St.app St.start St.cut Kx AV.cut AV.cutL wk Ye vk Xy Xz Zk ZV YS orE wR repC qw Xh O3.own wc qK wa vw VO KM vP QE Zl Xl qC Dl.skip Dl.wr fp AV.nm AV.nmL Op.operands Call.operands St.clean yY List.foldr_cons List.foldr_nil St.reset qe aop zz zq zGd xk effM xz ev zc yi cv cv1 jm ar VA Ws unE qr ZZ zAF Za onR Ze ZX VL vu kG kH JH QR vV fieldsOf lay wZ zDJ zDI yL vF wn vg uj zG0 zGz zE5 zHc zHb zFb QX zJR QY zHR zIN zFU zGT zIm zFF zFE zJr zJq zG9 zJj zJi zEv hom qA uw Zc qp vH St.put St.addR St.delR St.moveR St.appG appG ut uv St.setR St.setB St.addB St.kill vC rm AV.kill AV.killL is1 noB zZ Ql appE JG UA kD scE scD KT CK.zeroD TK.cells O3.isSh O3.isEx cellsOf yl UC qn yh yf yM zr VT.cells xK qL szL wl vT vi xD xE zR zS xe qY ZM YA jD Kv Option.map_some Option.map_none Option.getD_some Option.getD_none List.map_cons List.map_nil List.getElem?_cons_zero List.getElem?_cons_succ List.getElem?_nil List.getD_cons_zero List.getD_cons_succ List.headD_cons List.tail_cons List.cons_append List.nil_append List.append_nil List.length_cons List.length_nil List.drop_zero List.take_zero List.drop_succ_cons List.take_succ_cons List.filter_cons List.filter_nil List.contains_cons List.contains_nil List.all_cons List.all_nil List.take_length Int.natCast_add Int.natCast_one Int.natCast_zero Int.cast_ofNat_Int Nat.zero_add Nat.add_zero Nat.mul_one Nat.div_one Nat.sub_zero Nat.zero_le if_true if_false true_and and_true and_self true_or or_true false_or or_false not_true_eq_false not_false_eq_true implies_true forall_const Bool.true_and Bool.and_true Bool.false_and Bool.and_false Bool.or_false Bool.false_or Bool.not_true Bool.not_false Bool.false_eq_true beq_self_eq_true eq_self_iff_true Option.some.injEq id_eq List.toList_toArray decide_true decide_false ne_eq forall_eq
def VE (a b:List Int):Bool:=a==b
theorem zFY {a b:List Int}(h: ¬a.length=b.length):VE a b=false:=by
 unfold VE
 rw [beq_eq_false_iff_ne]
 rintro rfl
 exact h rfl
set_option maxHeartbeats 1000000 in
theorem Jd (a b:List Int)(ha:a.length≤1048576):Fn Try.prog tyT 63 [.c (DI a), .c (DI b)] [.c (.bool (VE a b))]:=by
 refine zw (fn:=Try.f63) (ts:= [4]) Try.func63 (by kernel_rfl) rfl rfl (by rw [Try.ntmps63];exact Nat.le_of_ble_eq_true rfl) rfl (by simp only [szA,List.mem_cons,List.not_mem_nil,or_false,forall_eq_or_imp,forall_eq,VT.cells,szL];try decide) ?_
 rw [Try.ntmps63]
 simp only [push_cast,↓zK,↓zJ,↓reduceIte,zA,zB,zC,zD,zE,zF,zG,zH,zI,reduceCtorEq]
 refine zL fun K hK=> ?_
 refine zM zO zN [] rfl ?_
 simp only [push_cast,↓zK,↓zJ,↓reduceIte,zA,zB,zC,zD,zE,zF,zG,zH,zI,reduceCtorEq]
 repeat' apply And.intro
 all_goals try exact gB
 all_goals first|(refine hK _ ?_;clear hK K)|(simp only [push_cast];done)
 refine zL fun K1 hK1=> ?_
 refine zL fun K hK=> ?_
 refine zM zO zN [] rfl ?_
 simp only [push_cast,↓zK,↓zJ,↓reduceIte,zA,zB,zC,zD,zE,zF,zG,zH,zI,reduceCtorEq]
 repeat' apply And.intro
 all_goals try exact gB
 all_goals first|(refine hK _ ?_;clear hK K)|(simp only [push_cast];done)
 refine zU rfl (fun hc=> ?_) (fun hc=> ?_)<;>(try simp only [push_cast]at hc)
 ·
  refine zL fun K hK=> ?_
  refine zM zO zN [] rfl ?_
  simp only [push_cast,↓zK,↓zJ,↓reduceIte,zA,zB,zC,zD,zE,zF,zG,zH,zI,reduceCtorEq]
  repeat' apply And.intro
  all_goals try exact gB
  all_goals first|(refine hK _ ?_;clear hK K)|(simp only [push_cast];done)
  refine zX ?_
  (try simp only [zR,zS])
  refine⟨Or.inl rfl,?_⟩
  simp only [zd,push_cast,↓zK,↓zJ,↓reduceIte,zA,zB,zC,zD,zE,zF,zG,zH,zI,reduceCtorEq]
  rw [zFY (by omega)]
 ·refine zV ?_
  (try simp only [zR,zS,reduceIte,zF]);refine hK1 _ ?_
  have hl:a.length=b.length:=by omega
  refine zL fun K2 hK2=> ?_
  refine zL fun K hK=> ?_
  refine zM zO zN [] rfl ?_
  simp only [push_cast,↓zK,↓zJ,↓reduceIte,zA,zB,zC,zD,zE,zF,zG,zH,zI,reduceCtorEq]
  repeat' apply And.intro
  all_goals try exact gB
  all_goals first|(refine hK _ ?_;clear hK K)|(simp only [push_cast];done)
  refine zW ?_
  refine zi [5,4,11,12,13,14,15,16,17,18,19,20,21,22,23,24,25] [] (fun k:Nat=> [(5, .int .i64 k)]) (fun _=> []) (fun _=> []) (fun k=>k≤a.length∧∀j,j<k→gi a j=gi b j) (fun k=>a.length - k) 0 ?_ ⟨by omega,fun j hj=>by omega⟩ ?_
  ·refine zY rfl ?_ ?_ ?_<;>simp only [zf,ze,push_cast,↓zK,↓zJ,↓reduceIte,zA,zB,zC,zD,zE,zF,zG,zH,zI,reduceCtorEq]
  ·rintro k ⟨hk,hall⟩ K0 hK0
   simp only [push_cast,↓zK,↓zJ,↓reduceIte,zA,zB,zC,zD,zE,zF,zG,zH,zI,reduceCtorEq]
   refine zL fun K3 hK3=> ?_
   refine zL fun K hK=> ?_
   refine zM zO zN [] rfl ?_
   simp only [push_cast,↓zK,↓zJ,↓reduceIte,zA,zB,zC,zD,zE,zF,zG,zH,zI,reduceCtorEq]
   repeat' apply And.intro
   all_goals try exact gB
   all_goals first|(refine hK _ ?_;clear hK K)|(simp only [push_cast];done)
   refine zU rfl (fun hc=> ?_) (fun hc=> ?_)<;>(try simp only [push_cast]at hc)
   ·refine zV ?_
    (try simp only [zR,zS,reduceIte,zF]);refine hK3 _ ?_
    refine zL fun K4 hK4=> ?_
    refine zW ?_
    refine zL fun K hK=> ?_
    refine qV false zO zN qb ?_ rfl ?_
    ·kernel_rfl
    intro C hC
    simp only [push_cast,↓zK,↓zJ,↓reduceIte,zA,zB,zC,zD,zE,zF,zG,zH,zI,reduceCtorEq]
    repeat' apply And.intro
    all_goals first|omega|with_reducible assumption|(refine hC _ ?_;kernel_rfl)|(simp only [List.length_set,List.length_append,List.length_replicate,List.length_cons,List.length_nil];omega)|skip
    all_goals first|(refine hK _ ?_;clear hC C hK K)|(simp only [push_cast];done)
    refine zU rfl (fun hc=> ?_) (fun hc=> ?_)<;>(try simp only [push_cast]at hc)
    ·
     refine zL fun K hK=> ?_
     refine zM zO zN [] rfl ?_
     simp only [push_cast,↓zK,↓zJ,↓reduceIte,zA,zB,zC,zD,zE,zF,zG,zH,zI,reduceCtorEq]
     repeat' apply And.intro
     all_goals try exact gB
     all_goals first|(refine hK _ ?_;clear hK K)|(simp only [push_cast];done)
     refine zX ?_
     (try simp only [zR,zS])
     refine⟨Or.inl rfl,?_⟩
     simp only [zd,push_cast,↓zK,↓zJ,↓reduceIte,zA,zB,zC,zD,zE,zF,zG,zH,zI,reduceCtorEq]
     unfold VE
     rw [beq_eq_false_iff_ne.2]
     rintro rfl
     exact hc rfl
    ·refine zV ?_
     (try simp only [zR,zS,reduceIte,zF]);refine hK4 _ ?_
     refine zM zO zN [] rfl ?_
     simp only [push_cast,↓zK,↓zJ,↓reduceIte,zA,zB,zC,zD,zE,zF,zG,zH,zI,reduceCtorEq]
     repeat' apply And.intro
     all_goals try exact gB
     refine hK0 _ ⟨k+1,⟨by omega,fun j hj=> ?_⟩,by omega,?_⟩
     ·by_cases h:j=k
      ·subst h;exact hc
      ·exact hall j (by omega)
     ·refine zY rfl ?_ ?_ ?_<;>simp only [zf,ze,push_cast,↓zK,↓zJ,↓reduceIte,zA,zB,zC,zD,zE,zF,zG,zH,zI,reduceCtorEq]
   ·refine zk ?_
    (try simp only [zR,zS,reduceIte,zF]);refine hK2 _ ?_
    refine zL fun K hK=> ?_
    refine zM zO zN [] rfl ?_
    simp only [push_cast,↓zK,↓zJ,↓reduceIte,zA,zB,zC,zD,zE,zF,zG,zH,zI,reduceCtorEq]
    repeat' apply And.intro
    all_goals try exact gB
    all_goals first|(refine hK _ ?_;clear hK K)|(simp only [push_cast];done)
    refine zX ?_
    (try simp only [zR,zS])
    refine⟨Or.inl rfl,?_⟩
    simp only [zd,push_cast,↓zK,↓zJ,↓reduceIte,zA,zB,zC,zD,zE,zF,zG,zH,zI,reduceCtorEq]
    have :a=b:=by
     refine List.ext_getElem hl fun j h1 h2=> ?_
     have h3:=hall j (by omega)
     have h4:=vW h1
     have h5:=vW h2
     rw [List.getElem?_eq_getElem h1]at h4
     rw [List.getElem?_eq_getElem h2]at h5
     injection h4 with h4
     injection h5 with h5
     rw [h4,h5,h3]
    subst this
    simp [VE]
def pre (a:List Int)(k:Nat):List Int:=a.take k++List.replicate (a.length - k) 0
theorem zH6 {a:List Int}{k:Nat}(h:k≤a.length):(pre a k).length=a.length:=by simp [pre];omega
theorem pre_0 (a:List Int):pre a 0=List.replicate a.length 0:=by simp [pre]
theorem zH5 (a:List Int):pre a a.length=a:=by simp [pre]
theorem zH7 {a:List Int}{k:Nat}(h:k<a.length):(pre a k).set k (gi a k)=pre a (k+1):=by
 apply List.ext_getElem?
 intro j
 unfold pre
 rw [List.getElem?_set,List.getElem?_append,List.getElem?_append]
 have h1:=vW h
 have e1:min k a.length=k:=by omega
 have e2:min (k+1) a.length=k+1:=by omega
 simp only [List.length_append,List.length_take,List.length_replicate,List.getElem?_take,List.getElem?_replicate,e1,e2]
 by_cases hj:k=j
 ·subst hj
  rw [if_pos rfl,if_pos (by omega),if_pos (by omega),if_pos (by omega),h1]
 ·rw [if_neg hj]
  by_cases hjk:j<k
  ·simp only [if_pos hjk,if_pos (show j<k+1 by omega)]
  ·simp only [if_neg hjk,if_neg (show ¬j<k+1 by omega)]
   by_cases h2:j - k<a.length - k
   ·rw [if_pos h2,if_pos (by omega)]
   ·rw [if_neg h2,if_neg (by omega)]
set_option maxHeartbeats 1000000 in
theorem Jq (a:List Int)(ha:a.length≤1048576):Fn Try.prog tyT 54 [.c (DI a)] [.c (DI a)]:=by
 refine zw (fn:=Try.f54) (ts:= [2]) Try.func54 (by kernel_rfl) rfl rfl (by rw [Try.ntmps54];exact Nat.le_of_ble_eq_true rfl) rfl (by simp only [szA,List.mem_cons,List.not_mem_nil,or_false,forall_eq_or_imp,forall_eq,VT.cells,szL];try decide) ?_
 rw [Try.ntmps54]
 simp only [push_cast,↓zK,↓zJ,↓reduceIte,zA,zB,zC,zD,zE,zF,zG,zH,zI,reduceCtorEq]
 refine zL fun K hK=> ?_
 refine zM zO zN [] rfl ?_
 simp only [push_cast,↓zK,↓zJ,↓reduceIte,zA,zB,zC,zD,zE,zF,zG,zH,zI,reduceCtorEq]
 repeat' apply And.intro
 all_goals try exact gB
 all_goals first|(refine hK _ ?_;clear hK K)|(simp only [push_cast];done)
 refine zL fun K hK=> ?_
 refine zM zO zN [] rfl ?_
 simp only [push_cast,↓zK,↓zJ,↓reduceIte,zA,zB,zC,zD,zE,zF,zG,zH,zI,reduceCtorEq]
 repeat' apply And.intro
 all_goals try exact gB
 all_goals first|(refine hK _ ?_;clear hK K)|(simp only [push_cast];done)
 refine zL fun K1 hK1=> ?_
 refine zL fun K hK=> ?_
 refine zM zO zN [] rfl ?_
 simp only [push_cast,↓zK,↓zJ,↓reduceIte,zA,zB,zC,zD,zE,zF,zG,zH,zI,reduceCtorEq]
 repeat' apply And.intro
 all_goals try exact gB
 all_goals first|(refine hK _ ?_;clear hK K)|(simp only [push_cast];done)
 refine zW ?_
 refine zi [4,8,9,10,11,12,13,14,15,16,17,18,19,20,3] [] (fun k:Nat=> [(4, .int .i64 k),(3, .sl 48 [] 0 a.length 2)]) (fun _=> []) (fun k=> [(48,⟨.ex,2,dI (pre a k),none⟩)]) (fun k=>k≤a.length) (fun k=>a.length - k) 0 ?_ (by omega) ?_
 ·rw [pre_0]
  refine zY rfl ?_ ?_ ?_<;>simp only [zf,ze,push_cast,↓zK,↓zJ,↓reduceIte,zA,zB,zC,zD,zE,zF,zG,zH,zI,reduceCtorEq]
 ·rintro k hk K0 hK0
  have hpl:=zH6 hk
  simp only [push_cast,↓zK,↓zJ,↓reduceIte,zA,zB,zC,zD,zE,zF,zG,zH,zI,reduceCtorEq]
  refine zL fun K2 hK2=> ?_
  refine zL fun K hK=> ?_
  refine zM zO zN [] rfl ?_
  simp only [push_cast,↓zK,↓zJ,↓reduceIte,zA,zB,zC,zD,zE,zF,zG,zH,zI,reduceCtorEq]
  repeat' apply And.intro
  all_goals try exact gB
  all_goals first|(refine hK _ ?_;clear hK K)|(simp only [push_cast];done)
  refine zU rfl (fun hc=> ?_) (fun hc=> ?_)<;>(try simp only [push_cast]at hc)
  ·refine zV ?_
   (try simp only [zR,zS,reduceIte,zF]);refine hK2 _ ?_
   refine zL fun K3 hK3=> ?_
   refine zW ?_
   refine zM zO zN [] rfl ?_
   simp only [push_cast,↓zK,↓zJ,↓reduceIte,zA,zB,zC,zD,zE,zF,zG,zH,zI,reduceCtorEq]
   repeat' apply And.intro
   all_goals try exact gB
   rw [zH7 (by omega)]
   (try simp only [zR,zS,reduceIte,zF]);refine hK3 _ ?_
   refine zM zO zN [] rfl ?_
   simp only [push_cast,↓zK,↓zJ,↓reduceIte,zA,zB,zC,zD,zE,zF,zG,zH,zI,reduceCtorEq]
   repeat' apply And.intro
   all_goals try exact gB
   refine hK0 _ ⟨k+1,by omega,by omega,?_⟩
   refine zY rfl ?_ ?_ ?_<;>simp only [zf,ze,push_cast,↓zK,↓zJ,↓reduceIte,zA,zB,zC,zD,zE,zF,zG,zH,zI,reduceCtorEq]
  ·refine zk ?_
   (try simp only [zR,zS,reduceIte,zF]);refine hK1 _ ?_
   have hk':k=a.length:=by omega
   subst hk'
   rw [zH5]
   refine zL fun K hK=> ?_
   refine zM zO zN [] rfl ?_
   simp only [push_cast,↓zK,↓zJ,↓reduceIte,zA,zB,zC,zD,zE,zF,zG,zH,zI,reduceCtorEq]
   repeat' apply And.intro
   all_goals try exact gB
   all_goals first|(refine hK _ ?_;clear hK K)|(simp only [push_cast];done)
   refine zX ?_
   (try simp only [zR,zS])
   refine⟨Or.inl rfl,?_⟩
   simp only [zd,push_cast,↓zK,↓zJ,↓reduceIte,zA,zB,zC,zD,zE,zF,zG,zH,zI,reduceCtorEq]
   trace_state
def QD (a:List (List Int))(k:Nat):List (List Int):=a.take k++List.replicate (a.length - k) []
theorem zF7 {a:List (List Int)}{k:Nat}(h:k≤a.length):(QD a k).length=a.length:=by simp [QD];omega
theorem zJf (a:List (List Int)):dII (QD a 0)=List.replicate a.length (D.lst 2 []):=by simp [QD,dII,dI]
theorem zF6 (a:List (List Int)):QD a a.length=a:=by simp [QD]
theorem zFm {r:List (List Int)}{k:Nat}{x:List Int}(h:k<r.length):dII (List.take k r)++ [D.lst 2 (dI x)]++dII (List.drop (k+1) r)=dII (r.set k x):=by
 rw [List.set_eq_take_append_cons_drop,if_pos h]
 simp [dII]
theorem zF8 {a:List (List Int)}{k:Nat}(h:k<a.length):(QD a k).set k (gl a k)=QD a (k+1):=by
 have h1:=XX h
 have hk:(a.take k).length=k:=by rw [List.length_take];omega
 have e:a.take (k+1)=a.take k++ [gl a k]:=by
  rw [List.take_add_one,h1];rfl
 unfold QD
 rw [List.set_append_right _ _ (by omega),hk,Nat.sub_self,show a.length - k=(a.length - (k+1))+1 from by omega,List.replicate_succ,List.set_cons_zero,e,List.append_assoc]
 rfl
set_option maxHeartbeats 1000000 in
theorem zA7 (a:List (List Int))(ha:a.length≤1048576)(hr: ∀r∈a,r.length≤1048576):Fn Try.prog tyT 55 [.c (DII a)] [.c (DII a)]:=by
 refine zw (fn:=Try.f55) (ts:= [2]) Try.func55 (by kernel_rfl) rfl rfl (by rw [Try.ntmps55];exact Nat.le_of_ble_eq_true rfl) rfl (by simp only [szA,List.mem_cons,List.not_mem_nil,or_false,forall_eq_or_imp,forall_eq,VT.cells,szL];try decide) ?_
 rw [Try.ntmps55]
 simp only [push_cast,↓zK,↓zJ,↓reduceIte,zA,zB,zC,zD,zE,zF,zG,zH,zI,reduceCtorEq]
 refine zL fun K hK=> ?_
 refine zM zO zN [] rfl ?_
 simp only [push_cast,↓zK,↓zJ,↓reduceIte,zA,zB,zC,zD,zE,zF,zG,zH,zI,reduceCtorEq]
 repeat' apply And.intro
 all_goals try exact gB
 all_goals first|(refine hK _ ?_;clear hK K)|(simp only [push_cast];done)
 refine zL fun K hK=> ?_
 refine zM zO zN [] rfl ?_
 simp only [push_cast,↓zK,↓zJ,↓reduceIte,zA,zB,zC,zD,zE,zF,zG,zH,zI,reduceCtorEq]
 repeat' apply And.intro
 all_goals try exact gB
 all_goals first|(refine hK _ ?_;clear hK K)|(simp only [push_cast];done)
 refine zL fun K1 hK1=> ?_
 refine zL fun K hK=> ?_
 refine zM zO zN [] rfl ?_
 simp only [push_cast,↓zK,↓zJ,↓reduceIte,zA,zB,zC,zD,zE,zF,zG,zH,zI,reduceCtorEq]
 repeat' apply And.intro
 all_goals try exact gB
 all_goals first|(refine hK _ ?_;clear hK K)|(simp only [push_cast];done)
 refine zW ?_
 refine zi [4,8,9,10,11,12,13,14,15,16,17,18,19,20,21,3] [] (fun k:Nat=> [(4, .int .i64 k),(3, .sl 48 [] 0 a.length 22)]) (fun _=> []) (fun k=> [(48,⟨.ex,22,dII (QD a k),none⟩)]) (fun k=>k≤a.length) (fun k=>a.length - k) 0 ?_ (by omega) ?_
 ·rw [zJf]
  refine zY rfl ?_ ?_ ?_<;>simp only [zf,ze,push_cast,↓zK,↓zJ,↓reduceIte,zA,zB,zC,zD,zE,zF,zG,zH,zI,reduceCtorEq]
 ·rintro k hk K0 hK0
  have hpl:=zF7 hk
  simp only [push_cast,↓zK,↓zJ,↓reduceIte,zA,zB,zC,zD,zE,zF,zG,zH,zI,reduceCtorEq]
  refine zL fun K2 hK2=> ?_
  refine zL fun K hK=> ?_
  refine zM zO zN [] rfl ?_
  simp only [push_cast,↓zK,↓zJ,↓reduceIte,zA,zB,zC,zD,zE,zF,zG,zH,zI,reduceCtorEq]
  repeat' apply And.intro
  all_goals try exact gB
  all_goals first|(refine hK _ ?_;clear hK K)|(simp only [push_cast];done)
  refine zU rfl (fun hc=> ?_) (fun hc=> ?_)<;>(try simp only [push_cast]at hc)
  ·refine zV ?_
   (try simp only [zR,zS,reduceIte,zF]);refine hK2 _ ?_
   refine zL fun K3 hK3=> ?_
   refine zW ?_
   refine zj true zO zN ?_ rfl ?_
   ·kernel_rfl
   simp only [push_cast,↓zK,↓zJ,↓reduceIte,zA,zB,zC,zD,zE,zF,zG,zH,zI,reduceCtorEq]
   refine⟨by omega,by omega,⟨by omega,zQ (by omega)⟩,_,Jq (gl a k) ?_,?_⟩
   ·exact hr _ (List.mem_of_getElem? (XX (by omega)))
   simp only [push_cast,↓zK,↓zJ,↓reduceIte,zA,zB,zC,zD,zE,zF,zG,zH,zI,reduceCtorEq]
   repeat' apply And.intro
   all_goals try exact gB
   rw [zFm (by omega),zF8 (by omega)]
   (try simp only [zR,zS,reduceIte,zF]);refine hK3 _ ?_
   refine zM zO zN [] rfl ?_
   simp only [push_cast,↓zK,↓zJ,↓reduceIte,zA,zB,zC,zD,zE,zF,zG,zH,zI,reduceCtorEq]
   repeat' apply And.intro
   all_goals try exact gB
   refine hK0 _ ⟨k+1,by omega,by omega,?_⟩
   refine zY rfl ?_ ?_ ?_<;>simp only [zf,ze,push_cast,↓zK,↓zJ,↓reduceIte,zA,zB,zC,zD,zE,zF,zG,zH,zI,reduceCtorEq]
  ·refine zk ?_
   (try simp only [zR,zS,reduceIte,zF]);refine hK1 _ ?_
   have hk':k=a.length:=by omega
   subst hk'
   rw [zF6]
   refine zL fun K hK=> ?_
   refine zM zO zN [] rfl ?_
   simp only [push_cast,↓zK,↓zJ,↓reduceIte,zA,zB,zC,zD,zE,zF,zG,zH,zI,reduceCtorEq]
   repeat' apply And.intro
   all_goals try exact gB
   all_goals first|(refine hK _ ?_;clear hK K)|(simp only [push_cast];done)
   refine zX ?_
   (try simp only [zR,zS])
   refine⟨Or.inl rfl,?_⟩
   simp only [zd,push_cast,↓zK,↓zJ,↓reduceIte,zA,zB,zC,zD,zE,zF,zG,zH,zI,reduceCtorEq]
def iot (k:Int):Nat→List Int
 |0=> []
 |n+1=>iot k n++ [k+n]
theorem zCF (k:Int): ∀n,(iot k n).length=n
 |0=>rfl
 |n+1=>by simp [iot,zCF k n]
def vd (rs:List (List Int)):Nat:=(rs.map List.length).sum
def mkR (k:Int):List (List Int)→List (List Int)
 | []=> []
 |r::rs=>iot k r.length::mkR (k+r.length) rs
theorem zHu (k:Int)(rs:List (List Int)):(mkR k rs).length=rs.length:=by
 induction rs generalizing k with
 |nil=>rfl
 |cons r rs ih=>simp [mkR,ih]
theorem ua (r:List Int)(rs:List (List Int)):vd (r::rs)=r.length+vd rs:=by simp [vd]
theorem zGS :vd []=0:=rfl
theorem Jo (a b:List (List Int)):vd (a++b)=vd a+vd b:=by simp [vd]
def Xx (l:Int)(n:Nat):Int:=if l - n<0 then -1 else l - n
def Yd (l:Int):List (List Int)→Int
 | []=>l
 |r::rs=>if l - r.length<0 then -1 else Yd (l - r.length) rs
def Qa (l:Int)(a:List (List Int)):Int:=if l - a.length<0 then -1 else Yd (l - a.length) a
set_option maxHeartbeats 1000000 in
theorem Jp (a:List Int)(l:Int)(h0:0≤l)(h1:l≤1048576)(ha:a.length≤9223372036854775807):Fn Try.prog tyT 49 [.c (DI a), .c (.int .i64 l)] [.c (.int .i64 (Xx l a.length))]:=by
 refine zw (fn:=Try.f49) (ts:= [4]) Try.func49 (by kernel_rfl) rfl rfl (by rw [Try.ntmps49];exact Nat.le_of_ble_eq_true rfl) rfl (by simp only [szA,List.mem_cons,List.not_mem_nil,or_false,forall_eq_or_imp,forall_eq,VT.cells,szL];try decide) ?_
 rw [Try.ntmps49]
 simp only [push_cast,↓zK,↓zJ,↓reduceIte,zA,zB,zC,zD,zE,zF,zG,zH,zI,reduceCtorEq]
 refine zL fun K hK=> ?_
 refine zM zO zN [] rfl ?_
 simp only [push_cast,↓zK,↓zJ,↓reduceIte,zA,zB,zC,zD,zE,zF,zG,zH,zI,reduceCtorEq]
 repeat' apply And.intro
 all_goals try exact gB
 all_goals first|(refine hK _ ?_;clear hK K)|(simp only [push_cast];done)
 refine zL fun K hK=> ?_
 refine zM zO zN [] rfl ?_
 simp only [push_cast,↓zK,↓zJ,↓reduceIte,zA,zB,zC,zD,zE,zF,zG,zH,zI,reduceCtorEq]
 repeat' apply And.intro
 all_goals try exact gB
 all_goals first|(refine hK _ ?_;clear hK K)|(simp only [push_cast];done)
 refine zL fun K1 hK1=> ?_
 refine zL fun K hK=> ?_
 refine zM zO zN [] rfl ?_
 simp only [push_cast,↓zK,↓zJ,↓reduceIte,zA,zB,zC,zD,zE,zF,zG,zH,zI,reduceCtorEq]
 repeat' apply And.intro
 all_goals try exact gB
 all_goals first|(refine hK _ ?_;clear hK K)|(simp only [push_cast];done)
 refine zU rfl (fun hc=> ?_) (fun hc=> ?_)<;>(try simp only [push_cast]at hc)
 ·
  refine zL fun K hK=> ?_
  refine zM zO zN [] rfl ?_
  simp only [push_cast,↓zK,↓zJ,↓reduceIte,zA,zB,zC,zD,zE,zF,zG,zH,zI,reduceCtorEq]
  repeat' apply And.intro
  all_goals try exact gB
  all_goals first|(refine hK _ ?_;clear hK K)|(simp only [push_cast];done)
  refine zX ?_
  (try simp only [zR,zS])
  refine⟨Or.inl rfl,?_⟩
  simp only [zd,push_cast,↓zK,↓zJ,↓reduceIte,zA,zB,zC,zD,zE,zF,zG,zH,zI,reduceCtorEq]
  simp only [Xx,if_pos hc]
 ·
  refine zV ?_
  (try simp only [zR,zS,reduceIte,zF]);refine hK1 _ ?_
  refine zL fun K hK=> ?_
  refine zM zO zN [] rfl ?_
  simp only [push_cast,↓zK,↓zJ,↓reduceIte,zA,zB,zC,zD,zE,zF,zG,zH,zI,reduceCtorEq]
  repeat' apply And.intro
  all_goals try exact gB
  all_goals first|(refine hK _ ?_;clear hK K)|(simp only [push_cast];done)
  refine zX ?_
  (try simp only [zR,zS])
  refine⟨Or.inl rfl,?_⟩
  simp only [zd,push_cast,↓zK,↓zJ,↓reduceIte,zA,zB,zC,zD,zE,zF,zG,zH,zI,reduceCtorEq]
  simp only [Xx,if_neg hc]
theorem zHT {a:List (List Int)}{k:Nat}(h:k<a.length):a.drop k=gl a k::a.drop (k+1):=by
 have h1:=XX h
 rw [List.getElem?_eq_getElem h]at h1
 injection h1 with h1
 rw [←h1]
 exact List.drop_eq_getElem_cons h
set_option maxHeartbeats 1000000 in
theorem zA3 (a:List (List Int))(l:Int)(h0:0≤l)(h1:l≤1048576)(ha:a.length≤9223372036854775807)(hr: ∀r∈a,r.length≤9223372036854775807):Fn Try.prog tyT 50 [.c (DII a), .c (.int .i64 l)] [.c (.int .i64 (Qa l a))]:=by
 refine zw (fn:=Try.f50) (ts:= [4]) Try.func50 (by kernel_rfl) rfl rfl (by rw [Try.ntmps50];exact Nat.le_of_ble_eq_true rfl) rfl (by simp only [szA,List.mem_cons,List.not_mem_nil,or_false,forall_eq_or_imp,forall_eq,VT.cells,szL];try decide) ?_
 rw [Try.ntmps50]
 simp only [push_cast,↓zK,↓zJ,↓reduceIte,zA,zB,zC,zD,zE,zF,zG,zH,zI,reduceCtorEq]
 refine zL fun K hK=> ?_
 refine zM zO zN [] rfl ?_
 simp only [push_cast,↓zK,↓zJ,↓reduceIte,zA,zB,zC,zD,zE,zF,zG,zH,zI,reduceCtorEq]
 repeat' apply And.intro
 all_goals try exact gB
 all_goals first|(refine hK _ ?_;clear hK K)|(simp only [push_cast];done)
 refine zL fun K hK=> ?_
 refine zM zO zN [] rfl ?_
 simp only [push_cast,↓zK,↓zJ,↓reduceIte,zA,zB,zC,zD,zE,zF,zG,zH,zI,reduceCtorEq]
 repeat' apply And.intro
 all_goals try exact gB
 all_goals first|(refine hK _ ?_;clear hK K)|(simp only [push_cast];done)
 refine zL fun K1 hK1=> ?_
 refine zL fun K hK=> ?_
 refine zM zO zN [] rfl ?_
 simp only [push_cast,↓zK,↓zJ,↓reduceIte,zA,zB,zC,zD,zE,zF,zG,zH,zI,reduceCtorEq]
 repeat' apply And.intro
 all_goals try exact gB
 all_goals first|(refine hK _ ?_;clear hK K)|(simp only [push_cast];done)
 refine zU rfl (fun hc=> ?_) (fun hc=> ?_)<;>(try simp only [push_cast]at hc)
 ·
  refine zL fun K hK=> ?_
  refine zM zO zN [] rfl ?_
  simp only [push_cast,↓zK,↓zJ,↓reduceIte,zA,zB,zC,zD,zE,zF,zG,zH,zI,reduceCtorEq]
  repeat' apply And.intro
  all_goals try exact gB
  all_goals first|(refine hK _ ?_;clear hK K)|(simp only [push_cast];done)
  refine zX ?_
  (try simp only [zR,zS])
  refine⟨Or.inl rfl,?_⟩
  simp only [zd,push_cast,↓zK,↓zJ,↓reduceIte,zA,zB,zC,zD,zE,zF,zG,zH,zI,reduceCtorEq]
  simp only [Qa,if_pos hc]
 ·
  refine zV ?_
  (try simp only [zR,zS,reduceIte,zF]);refine hK1 _ ?_
  have hneg: ¬l - (a.length:Int)<0:=hc
  refine zL fun K2 hK2=> ?_
  refine zL fun K hK=> ?_
  refine zM zO zN [] rfl ?_
  simp only [push_cast,↓zK,↓zJ,↓reduceIte,zA,zB,zC,zD,zE,zF,zG,zH,zI,reduceCtorEq]
  repeat' apply And.intro
  all_goals try exact gB
  all_goals first|(refine hK _ ?_;clear hK K)|(simp only [push_cast];done)
  refine zW ?_
  refine zi [1,4,5,12,13,14,15,16,17,18,19,20,21,22,23,24,25] [] (fun x:Nat×Int=> [(5, .int .i64 x.1),(1, .int .i64 x.2)]) (fun _=> []) (fun _=> []) (fun x=>x.1≤a.length∧0≤x.2∧x.2≤1048576∧Yd (l - a.length) a=Yd x.2 (a.drop x.1)) (fun x=>a.length - x.1) (0,l - a.length) ?_ ⟨by simp,by simp;omega,by simp;omega,by simp⟩ ?_
  ·
   refine zY rfl ?_ ?_ ?_<;>simp only [zf,ze,push_cast,↓zK,↓zJ,↓reduceIte,zA,zB,zC,zD,zE,zF,zG,zH,zI,reduceCtorEq]
  ·rintro⟨k,m⟩ ⟨hk,hm0,hm1,hm⟩ K0 hK0
   simp only at hk hm0 hm1 hm
   simp only [push_cast,↓zK,↓zJ,↓reduceIte,zA,zB,zC,zD,zE,zF,zG,zH,zI,reduceCtorEq]
   refine zL fun K3 hK3=> ?_
   refine zL fun K hK=> ?_
   refine zM zO zN [] rfl ?_
   simp only [push_cast,↓zK,↓zJ,↓reduceIte,zA,zB,zC,zD,zE,zF,zG,zH,zI,reduceCtorEq]
   repeat' apply And.intro
   all_goals try exact gB
   all_goals first|(refine hK _ ?_;clear hK K)|(simp only [push_cast];done)
   refine zU rfl (fun hc=> ?_) (fun hc=> ?_)<;>(try simp only [push_cast]at hc)
   ·
    have hkl:k<a.length:=by omega
    rw [zHT hkl,Yd]at hm
    have hrk:(gl a k).length≤9223372036854775807:=hr _ (List.mem_of_getElem? (XX hkl))
    refine zV ?_
    (try simp only [zR,zS,reduceIte,zF]);refine hK3 _ ?_
    refine zL fun K4 hK4=> ?_
    refine zW ?_
    refine zL fun K hK=> ?_
    refine zM zO zN [] rfl ?_
    simp only [push_cast,↓zK,↓zJ,↓reduceIte,zA,zB,zC,zD,zE,zF,zG,zH,zI,reduceCtorEq]
    refine⟨by omega,by omega,⟨by omega,zQ (by omega)⟩,_,Jp (gl a k) m hm0 hm1 hrk,?_⟩
    simp only [push_cast,↓zK,↓zJ,↓reduceIte,zA,zB,zC,zD,zE,zF,zG,zH,zI,reduceCtorEq]
    repeat' apply And.intro
    all_goals try exact gB
    refine hK _ ?_
    clear hK K
    refine zL fun K hK=> ?_
    refine zM zO zN [] rfl ?_
    simp only [push_cast,↓zK,↓zJ,↓reduceIte,zA,zB,zC,zD,zE,zF,zG,zH,zI,reduceCtorEq]
    repeat' apply And.intro
    all_goals try exact gB
    all_goals first|(refine hK _ ?_;clear hK K)|(simp only [push_cast];done)
    refine zU rfl (fun hc=> ?_) (fun hc=> ?_)<;>(try simp only [push_cast]at hc)
    ·
     refine zL fun K hK=> ?_
     refine zM zO zN [] rfl ?_
     simp only [push_cast,↓zK,↓zJ,↓reduceIte,zA,zB,zC,zD,zE,zF,zG,zH,zI,reduceCtorEq]
     repeat' apply And.intro
     all_goals try exact gB
     all_goals first|(refine hK _ ?_;clear hK K)|(simp only [push_cast];done)
     refine zX ?_
     (try simp only [zR,zS])
     refine⟨Or.inl rfl,?_⟩
     simp only [zd,push_cast,↓zK,↓zJ,↓reduceIte,zA,zB,zC,zD,zE,zF,zG,zH,zI,reduceCtorEq]
     have hn:m - ((gl a k).length:Int)<0:=by unfold Xx at hc;split at hc<;>omega
     rw [if_pos hn]at hm
     simp only [Qa,if_neg hneg,hm]
    ·
     refine zV ?_
     (try simp only [zR,zS,reduceIte,zF]);refine hK4 _ ?_
     refine zM zO zN [] rfl ?_
     simp only [push_cast,↓zK,↓zJ,↓reduceIte,zA,zB,zC,zD,zE,zF,zG,zH,zI,reduceCtorEq]
     repeat' apply And.intro
     all_goals try exact gB
     refine hK0 _ ⟨(k+1,Xx m (gl a k).length),?_,by simp;omega,?_⟩
     ·have hn: ¬m - ((gl a k).length:Int)<0:=by
       intro h
       exact hc (by unfold Xx;rw [if_pos h];omega)
      have e:Xx m (gl a k).length=m - (gl a k).length:=by unfold Xx;rw [if_neg hn]
      rw [if_neg hn]at hm
      simp only [e]
      exact⟨by omega,by omega,by omega,hm⟩
     refine zY rfl ?_ ?_ ?_<;>simp only [zf,ze,push_cast,↓zK,↓zJ,↓reduceIte,zA,zB,zC,zD,zE,zF,zG,zH,zI,reduceCtorEq]
   ·
    refine zk ?_
    (try simp only [zR,zS,reduceIte,zF]);refine hK2 _ ?_
    have :k=a.length:=by omega
    subst this
    rw [List.drop_length,Yd]at hm
    refine zL fun K hK=> ?_
    refine zM zO zN [] rfl ?_
    simp only [push_cast,↓zK,↓zJ,↓reduceIte,zA,zB,zC,zD,zE,zF,zG,zH,zI,reduceCtorEq]
    repeat' apply And.intro
    all_goals try exact gB
    all_goals first|(refine hK _ ?_;clear hK K)|(simp only [push_cast];done)
    refine zX ?_
    (try simp only [zR,zS])
    refine⟨Or.inl rfl,?_⟩
    simp only [zd,push_cast,↓zK,↓zJ,↓reduceIte,zA,zB,zC,zD,zE,zF,zG,zH,zI,reduceCtorEq]
    simp only [Qa,if_neg hneg,hm]
set_option maxHeartbeats 1000000 in
theorem zAC (a b:List (List Int))(ha:a.length≤1048576)(hra: ∀r∈a,r.length≤1048576):Fn Try.prog tyT 64 [.c (DII a), .c (DII b)] [.c (.bool (a==b))]:=by
 refine zw (fn:=Try.f64) (ts:= [4]) Try.func64 (by kernel_rfl) rfl rfl (by rw [Try.ntmps64];exact Nat.le_of_ble_eq_true rfl) rfl (by simp only [szA,List.mem_cons,List.not_mem_nil,or_false,forall_eq_or_imp,forall_eq,VT.cells,szL];try decide) ?_
 rw [Try.ntmps64]
 simp only [push_cast,↓zK,↓zJ,↓reduceIte,zA,zB,zC,zD,zE,zF,zG,zH,zI,reduceCtorEq]
 refine zL fun K hK=> ?_
 refine zM zO zN [] rfl ?_
 simp only [push_cast,↓zK,↓zJ,↓reduceIte,zA,zB,zC,zD,zE,zF,zG,zH,zI,reduceCtorEq]
 repeat' apply And.intro
 all_goals try exact gB
 all_goals first|(refine hK _ ?_;clear hK K)|(simp only [push_cast];done)
 refine zL fun K1 hK1=> ?_
 refine zL fun K hK=> ?_
 refine zM zO zN [] rfl ?_
 simp only [push_cast,↓zK,↓zJ,↓reduceIte,zA,zB,zC,zD,zE,zF,zG,zH,zI,reduceCtorEq]
 repeat' apply And.intro
 all_goals try exact gB
 all_goals first|(refine hK _ ?_;clear hK K)|(simp only [push_cast];done)
 refine zU rfl (fun hc=> ?_) (fun hc=> ?_)<;>(try simp only [push_cast]at hc)
 ·
  refine zL fun K hK=> ?_
  refine zM zO zN [] rfl ?_
  simp only [push_cast,↓zK,↓zJ,↓reduceIte,zA,zB,zC,zD,zE,zF,zG,zH,zI,reduceCtorEq]
  repeat' apply And.intro
  all_goals try exact gB
  all_goals first|(refine hK _ ?_;clear hK K)|(simp only [push_cast];done)
  refine zX ?_
  (try simp only [zR,zS])
  refine⟨Or.inl rfl,?_⟩
  simp only [zd,push_cast,↓zK,↓zJ,↓reduceIte,zA,zB,zC,zD,zE,zF,zG,zH,zI,reduceCtorEq]
  symm
  rw [beq_eq_false_iff_ne]
  rintro rfl
  exact hc rfl
 ·
  refine zV ?_
  (try simp only [zR,zS,reduceIte,zF]);refine hK1 _ ?_
  have hl:a.length=b.length:=by omega
  refine zL fun K2 hK2=> ?_
  refine zL fun K hK=> ?_
  refine zM zO zN [] rfl ?_
  simp only [push_cast,↓zK,↓zJ,↓reduceIte,zA,zB,zC,zD,zE,zF,zG,zH,zI,reduceCtorEq]
  repeat' apply And.intro
  all_goals try exact gB
  all_goals first|(refine hK _ ?_;clear hK K)|(simp only [push_cast];done)
  refine zW ?_
  refine zi [4,5,11,12,13,14,15,16,17,18,19,20,21,22,23,24,25,26] [] (fun k:Nat=> [(5, .int .i64 k)]) (fun _=> []) (fun k=> []) (fun k=>k≤a.length∧∀j,j<k→gl a j=gl b j) (fun k=>a.length - k) 0 ?_ ⟨by omega,fun j hj=>by omega⟩ ?_
  ·
   refine zY rfl ?_ ?_ ?_<;>simp only [zf,ze,push_cast,↓zK,↓zJ,↓reduceIte,zA,zB,zC,zD,zE,zF,zG,zH,zI,reduceCtorEq]
  ·rintro k ⟨hk,hall⟩ K0 hK0
   simp only [push_cast,↓zK,↓zJ,↓reduceIte,zA,zB,zC,zD,zE,zF,zG,zH,zI,reduceCtorEq]
   refine zL fun K3 hK3=> ?_
   refine zL fun K hK=> ?_
   refine zM zO zN [] rfl ?_
   simp only [push_cast,↓zK,↓zJ,↓reduceIte,zA,zB,zC,zD,zE,zF,zG,zH,zI,reduceCtorEq]
   repeat' apply And.intro
   all_goals try exact gB
   all_goals first|(refine hK _ ?_;clear hK K)|(simp only [push_cast];done)
   refine zU rfl (fun hc=> ?_) (fun hc=> ?_)<;>(try simp only [push_cast]at hc)
   ·
    have hkl:k<a.length:=by omega
    have hrk:(gl a k).length≤1048576:=hra _ (List.mem_of_getElem? (XX hkl))
    refine zV ?_
    (try simp only [zR,zS,reduceIte,zF]);refine hK3 _ ?_
    refine zL fun K4 hK4=> ?_
    refine zW ?_
    refine zL fun K hK=> ?_
    refine qV false zO zN qb ?_ rfl ?_
    ·kernel_rfl
    intro C hC
    simp only [push_cast,↓zK,↓zJ,↓reduceIte,zA,zB,zC,zD,zE,zF,zG,zH,zI,reduceCtorEq]
    refine⟨by omega,by omega,by omega,by omega,⟨⟨by omega,zQ (by omega)⟩,by omega,zQ (by omega)⟩,_,Jd (gl a k) (gl b k) hrk,?_⟩
    simp only [push_cast,↓zK,↓zJ,↓reduceIte,zA,zB,zC,zD,zE,zF,zG,zH,zI,reduceCtorEq]
    repeat' apply And.intro
    all_goals first|omega|with_reducible assumption|(refine hC _ ?_;kernel_rfl)|(simp only [List.length_set,List.length_append,List.length_replicate,List.length_cons,List.length_nil];omega)|skip
    refine hK _ ?_
    clear hC C hK K
    refine zU rfl (fun hc=> ?_) (fun hc=> ?_)<;>(try simp only [push_cast]at hc)
    ·
     refine zL fun K hK=> ?_
     refine zM zO zN [] rfl ?_
     simp only [push_cast,↓zK,↓zJ,↓reduceIte,zA,zB,zC,zD,zE,zF,zG,zH,zI,reduceCtorEq]
     repeat' apply And.intro
     all_goals try exact gB
     all_goals first|(refine hK _ ?_;clear hK K)|(simp only [push_cast];done)
     refine zX ?_
     (try simp only [zR,zS])
     refine⟨Or.inl rfl,?_⟩
     simp only [zd,push_cast,↓zK,↓zJ,↓reduceIte,zA,zB,zC,zD,zE,zF,zG,zH,zI,reduceCtorEq]
     symm
     rw [beq_eq_false_iff_ne]
     rintro rfl
     simp [VE]at hc
    ·
     refine zV ?_
     (try simp only [zR,zS,reduceIte,zF]);refine hK4 _ ?_
     refine zM zO zN [] rfl ?_
     simp only [push_cast,↓zK,↓zJ,↓reduceIte,zA,zB,zC,zD,zE,zF,zG,zH,zI,reduceCtorEq]
     repeat' apply And.intro
     all_goals try exact gB
     refine hK0 _ ⟨k+1,⟨by omega,fun j hj=> ?_⟩,by omega,?_⟩
     ·by_cases h:j=k
      ·subst h;simpa [VE]using hc
      ·exact hall j (by omega)
     refine zY rfl ?_ ?_ ?_<;>simp only [zf,ze,push_cast,↓zK,↓zJ,↓reduceIte,zA,zB,zC,zD,zE,zF,zG,zH,zI,reduceCtorEq]
   ·
    refine zk ?_
    (try simp only [zR,zS,reduceIte,zF]);refine hK2 _ ?_
    refine zL fun K hK=> ?_
    refine zM zO zN [] rfl ?_
    simp only [push_cast,↓zK,↓zJ,↓reduceIte,zA,zB,zC,zD,zE,zF,zG,zH,zI,reduceCtorEq]
    repeat' apply And.intro
    all_goals try exact gB
    all_goals first|(refine hK _ ?_;clear hK K)|(simp only [push_cast];done)
    refine zX ?_
    (try simp only [zR,zS])
    refine⟨Or.inl rfl,?_⟩
    simp only [zd,push_cast,↓zK,↓zJ,↓reduceIte,zA,zB,zC,zD,zE,zF,zG,zH,zI,reduceCtorEq]
    have :a=b:=by
     refine List.ext_getElem hl fun j h1 h2=> ?_
     have h3:=hall j (by omega)
     have h4:=XX h1
     have h5:=XX h2
     rw [List.getElem?_eq_getElem h1]at h4
     rw [List.getElem?_eq_getElem h2]at h5
     injection h4 with h4
     injection h5 with h5
     rw [h4,h5,h3]
    subst this
    simp
theorem zFX (a:List Int)(ha:a.length≤1048576):Fn Try.prog tyT 63 [.c (DI a), .c (DI a)] [.c (.bool true)]:=by
 have :=Jd a a ha
 rwa [show VE a a=true from by simp [VE]]at this
theorem zD3 (a:List (List Int))(ha:a.length≤1048576)(hr: ∀r∈a,r.length≤1048576):Fn Try.prog tyT 64 [.c (DII a), .c (DII a)] [.c (.bool true)]:=by
 have :=zAC a a ha hr
 rwa [show(a==a)=true from by simp]at this
def szl (l:Int)(t:Nat):Int:=if l<t then -1 else l - t
theorem xp {l:Int}{t:Nat}(h:l<t):szl l t= -1:=if_pos h
theorem ql {l:Int}{t:Nat}(h: ¬l<t):szl l t=l - t:=if_neg h
def wX (a:List (List Int)):Nat:=a.length+vd a
def LnI (B:Nat)(a:List Int):Prop:=a.length≤B
def vm (B:Nat)(a:List (List Int)):Prop:=a.length≤B∧∀r∈a,r.length≤B
theorem zJp {a:List (List Int)}{r:List Int}(h:r∈a):r.length≤vd a:=by
 induction a with
 |nil=>simp at h
 |cons x a ih=>
  rw [ua]
  rcases List.mem_cons.1 h with rfl|h
  ·omega
  ·have :=ih h;omega
theorem YD {B:Nat}{a:List Int}(h:a.length≤B):LnI B a:=h
theorem jf {B:Nat}{a:List (List Int)}(h:wX a≤B):vm B a:=⟨by unfold wX at h;omega,fun r hr=>by have :=zJp hr;unfold wX at h;omega⟩
theorem uO : ∀(a:List (List Int)) (l:Int),0≤l→Yd l a=szl l (vd a)
 | [],l,h=>by rw [zGS,ql (by omega)];simp [Yd]
 |r::a,l,h=>by
  simp only [Yd,ua]
  split
  ·rw [xp (by omega)]
  ·rw [uO a _ (by omega)]
   unfold szl
   split<;>split<;>omega
theorem zA2 (a:List Int)(l:Int)(h0:0≤l)(h1:l≤1048576)(ha:LnI 9223372036854775807 a):Fn Try.prog tyT 49 [.c (DI a), .c (.int .i64 l)] [.c (.int .i64 (szl l a.length))]:=by
 have :=Jp a l h0 h1 ha
 have e:Xx l a.length=szl l a.length:=by unfold Xx szl;split<;>split<;>omega
 rwa [e]at this
theorem zII (a:List (List Int))(l:Int)(h0:0≤l)(h1:l≤1048576)(ha:vm 9223372036854775807 a):Fn Try.prog tyT 50 [.c (DII a), .c (.int .i64 l)] [.c (.int .i64 (szl l (wX a)))]:=by
 have :=zA3 a l h0 h1 ha.1 ha.2
 have e:Qa l a=szl l (wX a):=by
  unfold Qa wX
  split
  ·rw [xp (by omega)]
  ·rw [uO _ _ (by omega)]
   unfold szl
   split<;>split<;>omega
 rwa [e]at this
theorem zA6 (a:List Int)(ha:LnI 1048576 a):Fn Try.prog tyT 54 [.c (DI a)] [.c (DI a)]:=Jq a ha
theorem zIP (a:List (List Int))(ha:vm 1048576 a):Fn Try.prog tyT 55 [.c (DII a)] [.c (DII a)]:=zA7 a ha.1 ha.2
theorem jr (a:List Int)(ha:LnI 1048576 a):Fn Try.prog tyT 63 [.c (DI a), .c (DI a)] [.c (.bool true)]:=zFX a ha
theorem zFW (a:List (List Int))(ha:vm 1048576 a):Fn Try.prog tyT 64 [.c (DII a), .c (DII a)] [.c (.bool true)]:=zD3 a ha.1 ha.2
theorem LnI.mono {B C:Nat}(hB:B≤C){a:List Int}(h:LnI B a):LnI C a:=Nat.le_trans h hB
theorem vm.mono {B C:Nat}(hB:B≤C){a:List (List Int)}(h:vm B a):vm C a:=⟨Nat.le_trans h.1 hB,fun r hr=>Nat.le_trans (h.2 r hr) hB⟩
theorem zDr {P:Go.Program}{τ:Ty}{Q:Go.Exit→St→Prop}{st:St}{ι:Type}{x y:Go.Code}(ds rs:List Nat)(L:ι→List (Nat×AV))(B:ι→List (Nat×List AV))(R:ι→List (Nat×zn))(I:ι→Prop)
  (hx: ∀K:St→Prop,(∀st',(∃j,I j∧Cov st' (st.reset ds rs (L j) (B j) (R j)))→K st')→awp P τ x (zR K Q) st) (hy: ∀j,I j→awp P τ y Q (st.reset ds rs (L j) (B j) (R j))):awp P τ (.seq x y) Q st:=
 zFN (fun j=>st.reset ds rs (L j) (B j) (R j)) I hx hy
theorem zGV (k:Int)(n:Nat):(iot k n).take n=iot k n:=List.take_of_length_le (by rw [zCF];exact Nat.le_refl _)
theorem zGW (k:Int)(xs:List (List Int)):(mkR k xs).take xs.length=mkR k xs:=List.take_of_length_le (by rw [zHu];exact Nat.le_refl _)
theorem zH9 :List.range 0= []:=rfl
theorem zIA :List.range 1= [0]:=rfl
theorem zIB :List.range 2= [0,1]:=rfl
attribute [push_cast] List.map_nil zH9 zIA zIB
attribute [push_cast] zGV zGW
open Go Go.RowKit
def St.settleB (ks:List CK)(b:Nat)(st:St):St:=
 match lk st.b b with
 |none=>st
 |some cells=>
  match lk (qA [] ks st (zZ b 0) [] cells).1.b b with
  |none=>st
  |some cells'=>if cells'.length=(qA [] ks st (zZ b 0) [] cells).2.length then(qA [] ks st (zZ b 0) [] cells).1.setB b (qA [] ks st (zZ b 0) [] cells).2 else st
theorem JE {α:Type}{a b:List α}(h:b.length=a.length):lay a 0 b=b:=by
 unfold lay
 rw [Nat.zero_add,h,List.drop_length]
 simp
theorem Xq {P:Program}{τ:Ty}(ks:List CK)(b:Nat){c:Code}{Q:Exit→St→Prop}{st:St}(h:awp P τ c Q (st.settleB ks b)):awp P τ c Q st:=by
 unfold St.settleB at h
 split at h
 ·exact h
 ·rename_i cells hl
  split at h
  ·exact h
  ·rename_i cells' hl'
   split at h
   ·rename_i hlen
    intro lo w0 a w hr
    obtain⟨ow,hd,bk,hrr⟩:=hr
    obtain⟨cs,ty,g1,g2,g3⟩:=hrr.box b cells hl
    obtain⟨ow1,hd1,r1,r2⟩:=Yc [] ks st ow hd (zZ b 0) [] cells [] cs hrr (by simp [za]) g3
    obtain⟨cs0,ty0,k1,k2,k3⟩:=r1.box b cells' hl'
    rw [List.nil_append]at r2
    have e0:cs0=cs:=by
     rw [g1]at k1
     simp only [Option.some.injEq,Obj.cells.injEq]at k1
     have :=k1.1
     simpa using this.symm
    subst e0
    have hrel:=XN r1 hl' k1 (i:=0) (by omega) k3 r2
    rw [JE rfl,JE hlen.symm,setRow_self w _ _ _ _ k1]at hrel
    exact h lo w0 a w ⟨ow1,hd1,bk,hrel⟩
   ·exact h
attribute [push_cast] St.settleB
theorem zFH (xs:List (List Int))(r:List Int):dII xs++ [D.lst 2 (dI r)]=dII (xs++ [r]):=by simp [dII]
theorem zHA (xs ys:List (List Int)):dII xs++dII ys=dII (xs++ys):=by simp [dII]
attribute [push_cast] zFH zHA
structure Ar where
 owner:List Int
 next:List (List Int)
 deriving DecidableEq
def dAr (x:Ar):List D:= [DI x.owner,DII x.next]
def Ar.tot (x:Ar):Nat:=x.owner.length+wX x.next
structure Ar.Ln (B:Nat)(x:Ar):Prop where
 owner:LnI B x.owner
 next:vm B x.next
theorem Ar.ln_of {B:Nat}{x:Ar}(h:x.tot≤B):x.Ln B:=by
 unfold Ar.tot at h
 exact⟨YD (by omega),jf (by omega)⟩
set_option maxHeartbeats 1000000 in
theorem zIH (x:Ar)(l:Int)(h0:0≤l)(h1:l≤1048576)(ha:x.Ln 9223372036854775807):Fn Try.prog tyT 9 [.agg (dAr x), .c (.int .i64 l)] [.c (.int .i64 (szl l x.tot))]:=by
 have ht:x.tot=x.owner.length+wX x.next:=by unfold Ar.tot; omega
 unfold dAr
 refine zw (fn:=Try.f9) (ts:= [4]) Try.func9 (by kernel_rfl) rfl rfl (by rw [Try.ntmps9];exact Nat.le_of_ble_eq_true rfl) rfl (by simp only [szA,List.mem_cons,List.not_mem_nil,or_false,forall_eq_or_imp,forall_eq,VT.cells,szL];try decide) ?_
 rw [Try.ntmps9]
 simp only [push_cast,↓zK,↓zJ,↓reduceIte,zA,zB,zC,zD,zE,zF,zG,zH,zI,reduceCtorEq]
 refine zL fun K hK=> ?_
 refine zM zO zN [] rfl ?_
 simp only [push_cast,↓zK,↓zJ,↓reduceIte,zA,zB,zC,zD,zE,zF,zG,zH,zI,reduceCtorEq]
 repeat' apply And.intro
 all_goals try exact gB
 all_goals first|(refine hK _ ?_;clear hK K)|(simp only [push_cast];done)
 have hA:=zA2 x.owner (l) (by omega) (by omega) ha.owner
 refine zL fun K hK=> ?_
 refine zM zO zN [] rfl ?_
 simp only [push_cast,↓zK,↓zJ,↓reduceIte,zA,zB,zC,zD,zE,zF,zG,zH,zI,reduceCtorEq]
 refine⟨_,hA,?_⟩
 simp only [push_cast,↓zK,↓zJ,↓reduceIte,zA,zB,zC,zD,zE,zF,zG,zH,zI,reduceCtorEq]
 repeat' apply And.intro
 all_goals try exact gB
 refine hK _ ?_
 clear hK K hA
 refine zL fun K0 hK0=> ?_
 refine zL fun K hK=> ?_
 refine zM zO zN [] rfl ?_
 simp only [push_cast,↓zK,↓zJ,↓reduceIte,zA,zB,zC,zD,zE,zF,zG,zH,zI,reduceCtorEq]
 repeat' apply And.intro
 all_goals try exact gB
 all_goals first|(refine hK _ ?_;clear hK K)|(simp only [push_cast];done)
 by_cases hn0:(l)<(x.owner.length:Nat)
 ·rw [xp hn0]
  refine zU rfl (fun hc=> ?_) (fun hc=> ?_)<;>(try simp only [push_cast]at hc)
  ·
   refine zL fun K hK=> ?_
   refine zM zO zN [] rfl ?_
   simp only [push_cast,↓zK,↓zJ,↓reduceIte,zA,zB,zC,zD,zE,zF,zG,zH,zI,reduceCtorEq]
   repeat' apply And.intro
   all_goals try exact gB
   all_goals first|(refine hK _ ?_;clear hK K)|(simp only [push_cast];done)
   refine zX ?_
   (try simp only [zR,zS])
   refine⟨Or.inl rfl,?_⟩
   simp only [zd,push_cast,↓zK,↓zJ,↓reduceIte,zA,zB,zC,zD,zE,zF,zG,zH,zI,reduceCtorEq]
   rw [xp (by omega)]
  ·exact absurd hc (by decide)
 ·rw [ql hn0]
  refine zU rfl (fun hc=> ?_) (fun hc=> ?_)<;>(try simp only [push_cast]at hc)
  ·exfalso;omega
  ·refine zV ?_
   (try simp only [zR,zS,reduceIte,zF]);refine hK0 _ ?_
   have hA:=zII x.next (l - (x.owner.length:Nat)) (by omega) (by omega) ha.next
   refine zL fun K hK=> ?_
   refine zM zO zN [] rfl ?_
   simp only [push_cast,↓zK,↓zJ,↓reduceIte,zA,zB,zC,zD,zE,zF,zG,zH,zI,reduceCtorEq]
   refine⟨_,hA,?_⟩
   simp only [push_cast,↓zK,↓zJ,↓reduceIte,zA,zB,zC,zD,zE,zF,zG,zH,zI,reduceCtorEq]
   repeat' apply And.intro
   all_goals try exact gB
   refine hK _ ?_
   clear hK K hA
   refine zL fun K1 hK1=> ?_
   refine zL fun K hK=> ?_
   refine zM zO zN [] rfl ?_
   simp only [push_cast,↓zK,↓zJ,↓reduceIte,zA,zB,zC,zD,zE,zF,zG,zH,zI,reduceCtorEq]
   repeat' apply And.intro
   all_goals try exact gB
   all_goals first|(refine hK _ ?_;clear hK K)|(simp only [push_cast];done)
   by_cases hn1:(l - (x.owner.length:Nat))<(wX x.next:Nat)
   ·rw [xp hn1]
    refine zU rfl (fun hc=> ?_) (fun hc=> ?_)<;>(try simp only [push_cast]at hc)
    ·
     refine zL fun K hK=> ?_
     refine zM zO zN [] rfl ?_
     simp only [push_cast,↓zK,↓zJ,↓reduceIte,zA,zB,zC,zD,zE,zF,zG,zH,zI,reduceCtorEq]
     repeat' apply And.intro
     all_goals try exact gB
     all_goals first|(refine hK _ ?_;clear hK K)|(simp only [push_cast];done)
     refine zX ?_
     (try simp only [zR,zS])
     refine⟨Or.inl rfl,?_⟩
     simp only [zd,push_cast,↓zK,↓zJ,↓reduceIte,zA,zB,zC,zD,zE,zF,zG,zH,zI,reduceCtorEq]
     rw [xp (by omega)]
    ·exact absurd hc (by decide)
   ·rw [ql hn1]
    refine zU rfl (fun hc=> ?_) (fun hc=> ?_)<;>(try simp only [push_cast]at hc)
    ·exfalso;omega
    ·refine zV ?_
     (try simp only [zR,zS,reduceIte,zF]);refine hK1 _ ?_
     refine zL fun K hK=> ?_
     refine zM zO zN [] rfl ?_
     simp only [push_cast,↓zK,↓zJ,↓reduceIte,zA,zB,zC,zD,zE,zF,zG,zH,zI,reduceCtorEq]
     repeat' apply And.intro
     all_goals try exact gB
     all_goals first|(refine hK _ ?_;clear hK K)|(simp only [push_cast];done)
     refine zX ?_
     (try simp only [zR,zS])
     refine⟨Or.inl rfl,?_⟩
     simp only [zd,push_cast,↓zK,↓zJ,↓reduceIte,zA,zB,zC,zD,zE,zF,zG,zH,zI,reduceCtorEq]
     rw [ql (by omega)];omega
set_option maxHeartbeats 1000000 in
theorem kT (x:Ar)(ha:x.Ln 1048576):Fn Try.prog tyT 12 [.agg (dAr x)] [.agg (dAr x)]:=by
 unfold dAr
 refine Kb (fn:=Try.f12) (rs:= [.cell 2 30]) zO zN Try.func12 (by kernel_rfl) rfl rfl (by rw [Try.ntmps12];exact Nat.le_of_ble_eq_true rfl) rfl (by simp only [szA,List.mem_cons,List.not_mem_nil,or_false,forall_eq_or_imp,forall_eq,VT.cells,szL];try decide) ?_
 rw [Try.ntmps12]
 simp only [push_cast,↓zK,↓zJ,↓reduceIte,zA,zB,zC,zD,zE,zF,zG,zH,zI,reduceCtorEq]
 refine zL fun K hK=> ?_
 refine zM zO zN [] rfl ?_
 simp only [push_cast,↓zK,↓zJ,↓reduceIte,zA,zB,zC,zD,zE,zF,zG,zH,zI,reduceCtorEq]
 repeat' apply And.intro
 all_goals try exact gB
 all_goals first|(refine hK _ ?_;clear hK K)|(simp only [push_cast];done)
 refine zL fun K hK=> ?_
 refine zM zO zN [] rfl ?_
 simp only [push_cast,↓zK,↓zJ,↓reduceIte,zA,zB,zC,zD,zE,zF,zG,zH,zI,reduceCtorEq]
 repeat' apply And.intro
 all_goals try exact gB
 all_goals first|(refine hK _ ?_;clear hK K)|(simp only [push_cast];done)
 have hA:=zA6 x.owner ha.owner
 refine zL fun K hK=> ?_
 refine zM zO zN [] rfl ?_
 simp only [push_cast,↓zK,↓zJ,↓reduceIte,zA,zB,zC,zD,zE,zF,zG,zH,zI,reduceCtorEq]
 refine⟨_,hA,?_⟩
 simp only [push_cast,↓zK,↓zJ,↓reduceIte,zA,zB,zC,zD,zE,zF,zG,zH,zI,reduceCtorEq]
 repeat' apply And.intro
 all_goals try exact gB
 refine hK _ ?_
 clear hK K hA
 have hA:=zIP x.next ha.next
 refine zL fun K hK=> ?_
 refine zM zO zN [] rfl ?_
 simp only [push_cast,↓zK,↓zJ,↓reduceIte,zA,zB,zC,zD,zE,zF,zG,zH,zI,reduceCtorEq]
 refine⟨_,hA,?_⟩
 simp only [push_cast,↓zK,↓zJ,↓reduceIte,zA,zB,zC,zD,zE,zF,zG,zH,zI,reduceCtorEq]
 repeat' apply And.intro
 all_goals try exact gB
 refine hK _ ?_
 clear hK K hA
 refine zL fun K hK=> ?_
 refine zM zO zN [] rfl ?_
 simp only [push_cast,↓zK,↓zJ,↓reduceIte,zA,zB,zC,zD,zE,zF,zG,zH,zI,reduceCtorEq]
 repeat' apply And.intro
 all_goals try exact gB
 all_goals first|(refine hK _ ?_;clear hK K)|(simp only [push_cast];done)
 refine zX ?_
 (try simp only [zR,zS])
 refine⟨Or.inl rfl,?_⟩
 simp only [zd,yE,yj,push_cast,↓zK,↓zJ,↓reduceIte,zA,zB,zC,zD,zE,zF,zG,zH,zI,reduceCtorEq]
 try rfl
set_option maxHeartbeats 1000000 in
theorem zHX (x:Ar)(ha:x.Ln 1048576):Fn Try.prog tyT 15 [.agg (dAr x), .agg (dAr x)] [.c (.bool true)]:=by
 unfold dAr
 refine zw (fn:=Try.f15) (ts:= [4]) Try.func15 (by kernel_rfl) rfl rfl (by rw [Try.ntmps15];exact Nat.le_of_ble_eq_true rfl) rfl (by simp only [szA,List.mem_cons,List.not_mem_nil,or_false,forall_eq_or_imp,forall_eq,VT.cells,szL];try decide) ?_
 rw [Try.ntmps15]
 simp only [push_cast,↓zK,↓zJ,↓reduceIte,zA,zB,zC,zD,zE,zF,zG,zH,zI,reduceCtorEq]
 refine zL fun K hK=> ?_
 refine zM zO zN [] rfl ?_
 simp only [push_cast,↓zK,↓zJ,↓reduceIte,zA,zB,zC,zD,zE,zF,zG,zH,zI,reduceCtorEq]
 repeat' apply And.intro
 all_goals try exact gB
 all_goals first|(refine hK _ ?_;clear hK K)|(simp only [push_cast];done)
 refine zL fun K0 hK0=> ?_
 have hA:=jr x.owner ha.owner
 refine zL fun K hK=> ?_
 refine zM zO zN [] rfl ?_
 simp only [push_cast,↓zK,↓zJ,↓reduceIte,zA,zB,zC,zD,zE,zF,zG,zH,zI,reduceCtorEq]
 refine⟨_,hA,?_⟩
 simp only [push_cast,↓zK,↓zJ,↓reduceIte,zA,zB,zC,zD,zE,zF,zG,zH,zI,reduceCtorEq]
 repeat' apply And.intro
 all_goals try exact gB
 refine hK _ ?_
 clear hK K hA
 refine zU rfl (fun hc=>by cases hc) (fun _=> ?_)
 refine zV ?_
 (try simp only [zR,zS,reduceIte,zF]);refine hK0 _ ?_
 refine zL fun K1 hK1=> ?_
 have hA:=zFW x.next ha.next
 refine zL fun K hK=> ?_
 refine zM zO zN [] rfl ?_
 simp only [push_cast,↓zK,↓zJ,↓reduceIte,zA,zB,zC,zD,zE,zF,zG,zH,zI,reduceCtorEq]
 refine⟨_,hA,?_⟩
 simp only [push_cast,↓zK,↓zJ,↓reduceIte,zA,zB,zC,zD,zE,zF,zG,zH,zI,reduceCtorEq]
 repeat' apply And.intro
 all_goals try exact gB
 refine hK _ ?_
 clear hK K hA
 refine zU rfl (fun hc=>by cases hc) (fun _=> ?_)
 refine zV ?_
 (try simp only [zR,zS,reduceIte,zF]);refine hK1 _ ?_
 refine zL fun K hK=> ?_
 refine zM zO zN [] rfl ?_
 simp only [push_cast,↓zK,↓zJ,↓reduceIte,zA,zB,zC,zD,zE,zF,zG,zH,zI,reduceCtorEq]
 repeat' apply And.intro
 all_goals try exact gB
 all_goals first|(refine hK _ ?_;clear hK K)|(simp only [push_cast];done)
 refine zX ?_
 (try simp only [zR,zS])
 refine⟨Or.inl rfl,?_⟩
 simp only [zd,push_cast,↓zK,↓zJ,↓reduceIte,zA,zB,zC,zD,zE,zF,zG,zH,zI,reduceCtorEq]
def Ar.cnt (x:Ar):Nat:=x.owner.length+vd x.next
theorem Ar.ln_mono {B C:Nat}(hB:B≤C){x:Ar}(h:x.Ln B):x.Ln C:=⟨LnI.mono hB h.owner,vm.mono hB h.next⟩
structure Wt where
 a:Ar
 cost:List (List Int)
 deriving DecidableEq
def Wt.tot (x:Wt):Nat:=x.a.owner.length+wX x.a.next+wX x.cost
structure Wt.Ln (B:Nat)(x:Wt):Prop where
 a:x.a.Ln B
 cost:vm B x.cost
theorem Wt.ln_of {B:Nat}{x:Wt}(h:x.tot≤B):x.Ln B:=by
 unfold Wt.tot at h
 exact⟨Ar.ln_of (by unfold Ar.tot;omega),jf (by omega)⟩
def Wt.cnt (x:Wt):Nat:=x.a.owner.length+vd x.a.next+vd x.cost
theorem Wt.ln_mono {B C:Nat}(hB:B≤C){x:Wt}(h:x.Ln B):x.Ln C:=⟨Ar.ln_mono hB h.a,vm.mono hB h.cost⟩
structure Ls where
 stem:List Int
 loop:List Int
 deriving DecidableEq
def Ls.tot (x:Ls):Nat:=x.stem.length+x.loop.length
structure Ls.Ln (B:Nat)(x:Ls):Prop where
 stem:LnI B x.stem
 loop:LnI B x.loop
theorem Ls.ln_of {B:Nat}{x:Ls}(h:x.tot≤B):x.Ln B:=by
 unfold Ls.tot at h
 exact⟨YD (by omega),YD (by omega)⟩
def Ls.cnt (x:Ls):Nat:=x.stem.length+x.loop.length
theorem Ls.ln_mono {B C:Nat}(hB:B≤C){x:Ls}(h:x.Ln B):x.Ln C:=⟨LnI.mono hB h.stem,LnI.mono hB h.loop⟩
structure Fm where
 names:List Int
 sets:List (List Int)
 deriving DecidableEq
def Fm.tot (x:Fm):Nat:=x.names.length+wX x.sets
structure Fm.Ln (B:Nat)(x:Fm):Prop where
 names:LnI B x.names
 sets:vm B x.sets
theorem Fm.ln_of {B:Nat}{x:Fm}(h:x.tot≤B):x.Ln B:=by
 unfold Fm.tot at h
 exact⟨YD (by omega),jf (by omega)⟩
def Fm.cnt (x:Fm):Nat:=x.names.length+vd x.sets
theorem Fm.ln_mono {B C:Nat}(hB:B≤C){x:Fm}(h:x.Ln B):x.Ln C:=⟨LnI.mono hB h.names,vm.mono hB h.sets⟩
structure Pr where
 ask:List Int
 give:List Int
 deriving DecidableEq
def dPr (x:Pr):List D:= [DI x.ask,DI x.give]
def Pr.tot (x:Pr):Nat:=x.ask.length+x.give.length
structure Pr.Ln (B:Nat)(x:Pr):Prop where
 ask:LnI B x.ask
 give:LnI B x.give
theorem Pr.ln_of {B:Nat}{x:Pr}(h:x.tot≤B):x.Ln B:=by
 unfold Pr.tot at h
 exact⟨YD (by omega),YD (by omega)⟩
set_option maxHeartbeats 1000000 in
theorem zIK (x:Pr)(l:Int)(h0:0≤l)(h1:l≤1048576)(ha:x.Ln 9223372036854775807):Fn Try.prog tyT 51 [.agg (dPr x), .c (.int .i64 l)] [.c (.int .i64 (szl l x.tot))]:=by
 have ht:x.tot=x.ask.length+x.give.length:=by unfold Pr.tot; omega
 unfold dPr
 refine zw (fn:=Try.f51) (ts:= [4]) Try.func51 (by kernel_rfl) rfl rfl (by rw [Try.ntmps51];exact Nat.le_of_ble_eq_true rfl) rfl (by simp only [szA,List.mem_cons,List.not_mem_nil,or_false,forall_eq_or_imp,forall_eq,VT.cells,szL];try decide) ?_
 rw [Try.ntmps51]
 simp only [push_cast,↓zK,↓zJ,↓reduceIte,zA,zB,zC,zD,zE,zF,zG,zH,zI,reduceCtorEq]
 refine zL fun K hK=> ?_
 refine zM zO zN [] rfl ?_
 simp only [push_cast,↓zK,↓zJ,↓reduceIte,zA,zB,zC,zD,zE,zF,zG,zH,zI,reduceCtorEq]
 repeat' apply And.intro
 all_goals try exact gB
 all_goals first|(refine hK _ ?_;clear hK K)|(simp only [push_cast];done)
 have hA:=zA2 x.ask (l) (by omega) (by omega) ha.ask
 refine zL fun K hK=> ?_
 refine zM zO zN [] rfl ?_
 simp only [push_cast,↓zK,↓zJ,↓reduceIte,zA,zB,zC,zD,zE,zF,zG,zH,zI,reduceCtorEq]
 refine⟨_,hA,?_⟩
 simp only [push_cast,↓zK,↓zJ,↓reduceIte,zA,zB,zC,zD,zE,zF,zG,zH,zI,reduceCtorEq]
 repeat' apply And.intro
 all_goals try exact gB
 refine hK _ ?_
 clear hK K hA
 refine zL fun K0 hK0=> ?_
 refine zL fun K hK=> ?_
 refine zM zO zN [] rfl ?_
 simp only [push_cast,↓zK,↓zJ,↓reduceIte,zA,zB,zC,zD,zE,zF,zG,zH,zI,reduceCtorEq]
 repeat' apply And.intro
 all_goals try exact gB
 all_goals first|(refine hK _ ?_;clear hK K)|(simp only [push_cast];done)
 by_cases hn0:(l)<(x.ask.length:Nat)
 ·rw [xp hn0]
  refine zU rfl (fun hc=> ?_) (fun hc=> ?_)<;>(try simp only [push_cast]at hc)
  ·
   refine zL fun K hK=> ?_
   refine zM zO zN [] rfl ?_
   simp only [push_cast,↓zK,↓zJ,↓reduceIte,zA,zB,zC,zD,zE,zF,zG,zH,zI,reduceCtorEq]
   repeat' apply And.intro
   all_goals try exact gB
   all_goals first|(refine hK _ ?_;clear hK K)|(simp only [push_cast];done)
   refine zX ?_
   (try simp only [zR,zS])
   refine⟨Or.inl rfl,?_⟩
   simp only [zd,push_cast,↓zK,↓zJ,↓reduceIte,zA,zB,zC,zD,zE,zF,zG,zH,zI,reduceCtorEq]
   rw [xp (by omega)]
  ·exact absurd hc (by decide)
 ·rw [ql hn0]
  refine zU rfl (fun hc=> ?_) (fun hc=> ?_)<;>(try simp only [push_cast]at hc)
  ·exfalso;omega
  ·refine zV ?_
   (try simp only [zR,zS,reduceIte,zF]);refine hK0 _ ?_
   have hA:=zA2 x.give (l - (x.ask.length:Nat)) (by omega) (by omega) ha.give
   refine zL fun K hK=> ?_
   refine zM zO zN [] rfl ?_
   simp only [push_cast,↓zK,↓zJ,↓reduceIte,zA,zB,zC,zD,zE,zF,zG,zH,zI,reduceCtorEq]
   refine⟨_,hA,?_⟩
   simp only [push_cast,↓zK,↓zJ,↓reduceIte,zA,zB,zC,zD,zE,zF,zG,zH,zI,reduceCtorEq]
   repeat' apply And.intro
   all_goals try exact gB
   refine hK _ ?_
   clear hK K hA
   refine zL fun K1 hK1=> ?_
   refine zL fun K hK=> ?_
   refine zM zO zN [] rfl ?_
   simp only [push_cast,↓zK,↓zJ,↓reduceIte,zA,zB,zC,zD,zE,zF,zG,zH,zI,reduceCtorEq]
   repeat' apply And.intro
   all_goals try exact gB
   all_goals first|(refine hK _ ?_;clear hK K)|(simp only [push_cast];done)
   by_cases hn1:(l - (x.ask.length:Nat))<(x.give.length:Nat)
   ·rw [xp hn1]
    refine zU rfl (fun hc=> ?_) (fun hc=> ?_)<;>(try simp only [push_cast]at hc)
    ·
     refine zL fun K hK=> ?_
     refine zM zO zN [] rfl ?_
     simp only [push_cast,↓zK,↓zJ,↓reduceIte,zA,zB,zC,zD,zE,zF,zG,zH,zI,reduceCtorEq]
     repeat' apply And.intro
     all_goals try exact gB
     all_goals first|(refine hK _ ?_;clear hK K)|(simp only [push_cast];done)
     refine zX ?_
     (try simp only [zR,zS])
     refine⟨Or.inl rfl,?_⟩
     simp only [zd,push_cast,↓zK,↓zJ,↓reduceIte,zA,zB,zC,zD,zE,zF,zG,zH,zI,reduceCtorEq]
     rw [xp (by omega)]
    ·exact absurd hc (by decide)
   ·rw [ql hn1]
    refine zU rfl (fun hc=> ?_) (fun hc=> ?_)<;>(try simp only [push_cast]at hc)
    ·exfalso;omega
    ·refine zV ?_
     (try simp only [zR,zS,reduceIte,zF]);refine hK1 _ ?_
     refine zL fun K hK=> ?_
     refine zM zO zN [] rfl ?_
     simp only [push_cast,↓zK,↓zJ,↓reduceIte,zA,zB,zC,zD,zE,zF,zG,zH,zI,reduceCtorEq]
     repeat' apply And.intro
     all_goals try exact gB
     all_goals first|(refine hK _ ?_;clear hK K)|(simp only [push_cast];done)
     refine zX ?_
     (try simp only [zR,zS])
     refine⟨Or.inl rfl,?_⟩
     simp only [zd,push_cast,↓zK,↓zJ,↓reduceIte,zA,zB,zC,zD,zE,zF,zG,zH,zI,reduceCtorEq]
     rw [ql (by omega)];omega
set_option maxHeartbeats 1000000 in
theorem zIR (x:Pr)(ha:x.Ln 1048576):Fn Try.prog tyT 56 [.agg (dPr x)] [.agg (dPr x)]:=by
 unfold dPr
 refine Kb (fn:=Try.f56) (rs:= [.cell 2 90]) zO zN Try.func56 (by kernel_rfl) rfl rfl (by rw [Try.ntmps56];exact Nat.le_of_ble_eq_true rfl) rfl (by simp only [szA,List.mem_cons,List.not_mem_nil,or_false,forall_eq_or_imp,forall_eq,VT.cells,szL];try decide) ?_
 rw [Try.ntmps56]
 simp only [push_cast,↓zK,↓zJ,↓reduceIte,zA,zB,zC,zD,zE,zF,zG,zH,zI,reduceCtorEq]
 refine zL fun K hK=> ?_
 refine zM zO zN [] rfl ?_
 simp only [push_cast,↓zK,↓zJ,↓reduceIte,zA,zB,zC,zD,zE,zF,zG,zH,zI,reduceCtorEq]
 repeat' apply And.intro
 all_goals try exact gB
 all_goals first|(refine hK _ ?_;clear hK K)|(simp only [push_cast];done)
 refine zL fun K hK=> ?_
 refine zM zO zN [] rfl ?_
 simp only [push_cast,↓zK,↓zJ,↓reduceIte,zA,zB,zC,zD,zE,zF,zG,zH,zI,reduceCtorEq]
 repeat' apply And.intro
 all_goals try exact gB
 all_goals first|(refine hK _ ?_;clear hK K)|(simp only [push_cast];done)
 have hA:=zA6 x.ask ha.ask
 refine zL fun K hK=> ?_
 refine zM zO zN [] rfl ?_
 simp only [push_cast,↓zK,↓zJ,↓reduceIte,zA,zB,zC,zD,zE,zF,zG,zH,zI,reduceCtorEq]
 refine⟨_,hA,?_⟩
 simp only [push_cast,↓zK,↓zJ,↓reduceIte,zA,zB,zC,zD,zE,zF,zG,zH,zI,reduceCtorEq]
 repeat' apply And.intro
 all_goals try exact gB
 refine hK _ ?_
 clear hK K hA
 have hA:=zA6 x.give ha.give
 refine zL fun K hK=> ?_
 refine zM zO zN [] rfl ?_
 simp only [push_cast,↓zK,↓zJ,↓reduceIte,zA,zB,zC,zD,zE,zF,zG,zH,zI,reduceCtorEq]
 refine⟨_,hA,?_⟩
 simp only [push_cast,↓zK,↓zJ,↓reduceIte,zA,zB,zC,zD,zE,zF,zG,zH,zI,reduceCtorEq]
 repeat' apply And.intro
 all_goals try exact gB
 refine hK _ ?_
 clear hK K hA
 refine zL fun K hK=> ?_
 refine zM zO zN [] rfl ?_
 simp only [push_cast,↓zK,↓zJ,↓reduceIte,zA,zB,zC,zD,zE,zF,zG,zH,zI,reduceCtorEq]
 repeat' apply And.intro
 all_goals try exact gB
 all_goals first|(refine hK _ ?_;clear hK K)|(simp only [push_cast];done)
 refine zX ?_
 (try simp only [zR,zS])
 refine⟨Or.inl rfl,?_⟩
 simp only [zd,yE,yj,push_cast,↓zK,↓zJ,↓reduceIte,zA,zB,zC,zD,zE,zF,zG,zH,zI,reduceCtorEq]
 try rfl
set_option maxHeartbeats 1000000 in
theorem zHZ (x:Pr)(ha:x.Ln 1048576):Fn Try.prog tyT 65 [.agg (dPr x), .agg (dPr x)] [.c (.bool true)]:=by
 unfold dPr
 refine zw (fn:=Try.f65) (ts:= [4]) Try.func65 (by kernel_rfl) rfl rfl (by rw [Try.ntmps65];exact Nat.le_of_ble_eq_true rfl) rfl (by simp only [szA,List.mem_cons,List.not_mem_nil,or_false,forall_eq_or_imp,forall_eq,VT.cells,szL];try decide) ?_
 rw [Try.ntmps65]
 simp only [push_cast,↓zK,↓zJ,↓reduceIte,zA,zB,zC,zD,zE,zF,zG,zH,zI,reduceCtorEq]
 refine zL fun K hK=> ?_
 refine zM zO zN [] rfl ?_
 simp only [push_cast,↓zK,↓zJ,↓reduceIte,zA,zB,zC,zD,zE,zF,zG,zH,zI,reduceCtorEq]
 repeat' apply And.intro
 all_goals try exact gB
 all_goals first|(refine hK _ ?_;clear hK K)|(simp only [push_cast];done)
 refine zL fun K0 hK0=> ?_
 have hA:=jr x.ask ha.ask
 refine zL fun K hK=> ?_
 refine zM zO zN [] rfl ?_
 simp only [push_cast,↓zK,↓zJ,↓reduceIte,zA,zB,zC,zD,zE,zF,zG,zH,zI,reduceCtorEq]
 refine⟨_,hA,?_⟩
 simp only [push_cast,↓zK,↓zJ,↓reduceIte,zA,zB,zC,zD,zE,zF,zG,zH,zI,reduceCtorEq]
 repeat' apply And.intro
 all_goals try exact gB
 refine hK _ ?_
 clear hK K hA
 refine zU rfl (fun hc=>by cases hc) (fun _=> ?_)
 refine zV ?_
 (try simp only [zR,zS,reduceIte,zF]);refine hK0 _ ?_
 refine zL fun K1 hK1=> ?_
 have hA:=jr x.give ha.give
 refine zL fun K hK=> ?_
 refine zM zO zN [] rfl ?_
 simp only [push_cast,↓zK,↓zJ,↓reduceIte,zA,zB,zC,zD,zE,zF,zG,zH,zI,reduceCtorEq]
 refine⟨_,hA,?_⟩
 simp only [push_cast,↓zK,↓zJ,↓reduceIte,zA,zB,zC,zD,zE,zF,zG,zH,zI,reduceCtorEq]
 repeat' apply And.intro
 all_goals try exact gB
 refine hK _ ?_
 clear hK K hA
 refine zU rfl (fun hc=>by cases hc) (fun _=> ?_)
 refine zV ?_
 (try simp only [zR,zS,reduceIte,zF]);refine hK1 _ ?_
 refine zL fun K hK=> ?_
 refine zM zO zN [] rfl ?_
 simp only [push_cast,↓zK,↓zJ,↓reduceIte,zA,zB,zC,zD,zE,zF,zG,zH,zI,reduceCtorEq]
 repeat' apply And.intro
 all_goals try exact gB
 all_goals first|(refine hK _ ?_;clear hK K)|(simp only [push_cast];done)
 refine zX ?_
 (try simp only [zR,zS])
 refine⟨Or.inl rfl,?_⟩
 simp only [zd,push_cast,↓zK,↓zJ,↓reduceIte,zA,zB,zC,zD,zE,zF,zG,zH,zI,reduceCtorEq]
def Pr.cnt (x:Pr):Nat:=x.ask.length+x.give.length
theorem Pr.ln_mono {B C:Nat}(hB:B≤C){x:Pr}(h:x.Ln B):x.Ln C:=⟨LnI.mono hB h.ask,LnI.mono hB h.give⟩
end Go.Proofs.Ythepmdkpbjfdcaa
