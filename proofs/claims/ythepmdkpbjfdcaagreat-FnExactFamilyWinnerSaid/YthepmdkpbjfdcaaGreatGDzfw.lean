/- Numbers, truth values and rows as data; what the evaluation ya of them. -/
import Derived.Test.YthepmdkpbjfdcaaGreatTyzfw
import Derived.Laws.CopyRow
namespace Go.Proofs.YthepmdkpbjfdcaaGreat
open Nat renaming reduceMod → zA, reduceMul → zB, reduceDiv → zC, reduceAdd → zD, reduceSub → zE, reduceEqDiff → zF, reduceBEq → zG, reduceLT → zH, reduceLeDiff → zI
open Go.RowKit
set_option linter.unusedVariables false
set_option linter.unusedSimpArgs false
def gi (xs:List Int)(k:Nat):Int:=xs.getD k 0
def gl (rows:List (List Int))(k:Nat):List Int:=rows.getD k []
def gb (xs:List Bool)(k:Nat):Bool:=xs.getD k false
theorem vC {xs:List Int}{k:Nat}(h:k<xs.length):xs[k]? =some (gi xs k):=by
 unfold gi;rw [List.getD_eq_getElem?_getD,List.getElem?_eq_getElem h];rfl
theorem YH {xs:List (List Int)}{k:Nat}(h:k<xs.length):xs[k]? =some (gl xs k):=by
 unfold gl;rw [List.getD_eq_getElem?_getD,List.getElem?_eq_getElem h];rfl
theorem zGt {xs:List Bool}{k:Nat}(h:k<xs.length):xs[k]? =some (gb xs k):=by
 unfold gb;rw [List.getD_eq_getElem?_getD,List.getElem?_eq_getElem h];rfl
def dI (xs:List Int):List D:=xs.map (.int .i64)
def dB (xs:List Bool):List D:=xs.map .bool
def dII (xss:List (List Int)):List D:=xss.map fun r=> .lst 2 (dI r)
@[reducible] def DI (xs : List Int) : D := .lst 2 (dI xs)
@[reducible] def DII (xss : List (List Int)) : D := .lst 22 (dII xss)
theorem Qj (xs:List Int):(dI xs).length=xs.length:=by simp [dI]
theorem zJT (xs:List Bool):(dB xs).length=xs.length:=by simp [dB]
theorem Qk (xs:List (List Int)):(dII xs).length=xs.length:=by simp [dII]
theorem zHh (xs:List Int)(i:Nat):XR (dI xs) i=gi xs i:=by
 unfold XR dI gi
 rw [List.getElem?_map,List.getD_eq_getElem?_getD]
 cases xs[i]? <;>rfl
theorem zHg (xs:List Bool)(i:Nat):getB (dB xs) i=gb xs i:=by
 unfold getB dB gb
 rw [List.getElem?_map,List.getD_eq_getElem?_getD]
 cases xs[i]? <;>rfl
theorem zAn (xs:List (List Int))(i:Nat):xO (dII xs) i=dI (gl xs i):=by
 unfold xO dII gl
 rw [List.getElem?_map,List.getD_eq_getElem?_getD]
 cases xs[i]? <;>rfl
theorem zS {xs:List (List Int)}{i:Nat}(h:i<xs.length):qt (dII xs) i=2:=by
 unfold qt dII
 rw [List.getElem?_map,List.getElem?_eq_getElem h]
 rfl
theorem zHA (xs:List Int)(i:Nat):xX (.int .i64) (dI xs) i=(i<xs.length):=by
 unfold xX dI
 rw [List.getElem?_map]
 apply propext
 constructor
 ·rintro⟨n,h⟩
  rcases Nat.lt_or_ge i xs.length with h'|h'
  ·exact h'
  ·rw [List.getElem?_eq_none h']at h;cases h
 ·intro h;rw [List.getElem?_eq_getElem h];exact⟨_,rfl⟩
theorem zG9 (xs:List Bool)(i:Nat):xX .bool (dB xs) i=(i<xs.length):=by
 unfold xX dB
 rw [List.getElem?_map]
 apply propext
 constructor
 ·rintro⟨n,h⟩
  rcases Nat.lt_or_ge i xs.length with h'|h'
  ·exact h'
  ·rw [List.getElem?_eq_none h']at h;cases h
 ·intro h;rw [List.getElem?_eq_getElem h];exact⟨_,rfl⟩
theorem Uj (xs:List (List Int))(i:Nat):xX (.sl 2) (dII xs) i=(i<xs.length):=by
 unfold xX dII
 rw [List.getElem?_map]
 apply propext
 constructor
 ·rintro⟨n,h⟩
  rcases Nat.lt_or_ge i xs.length with h'|h'
  ·exact h'
  ·rw [List.getElem?_eq_none h']at h;cases h
 ·intro h;rw [List.getElem?_eq_getElem h];exact⟨_,rfl⟩
theorem jf (xs:List (List Int))(i:Nat):zk (dII xs) [i]=(i<xs.length):=by
 apply propext
 simp only [zk,and_true]
 unfold dII
 rw [List.getElem?_map]
 constructor
 ·rintro⟨e,n,h⟩
  rcases Nat.lt_or_ge i xs.length with h'|h'
  ·exact h'
  ·rw [List.getElem?_eq_none h']at h;cases h
 ·intro h;rw [List.getElem?_eq_getElem h];exact⟨_,_,rfl⟩
theorem zDe (xs:List D):zk xs []=True:=by simp [zk]
theorem zHW (xs:List Int)(n:Nat):(dI xs).drop n=dI (xs.drop n):=by simp [dI]
theorem zIO (xs:List Int)(n:Nat):(dI xs).take n=dI (xs.take n):=by simp [dI]
theorem zFt (xs:List (List Int))(n:Nat):(dII xs).drop n=dII (xs.drop n):=by simp [dII]
theorem zGj (xs:List (List Int))(n:Nat):(dII xs).take n=dII (xs.take n):=by simp [dII]
theorem zIm (xs ys:List Int):dI xs++dI ys=dI (xs++ys):=by simp [dI]
theorem zFe (xs:List Int):(dI xs).all xP=true:=by simp [dI,xP]
theorem zFd (xs:List Bool):(dB xs).all xP=true:=by simp [dB,xP]
theorem zJn (xs:List Int)(i:Nat)(n:Int):(dI xs).set i (.int .i64 n)=dI (xs.set i n):=by simp [dI]
theorem zJm (xs:List Bool)(i:Nat)(b:Bool):(dB xs).set i (.bool b)=dB (xs.set i b):=by simp [dB]
theorem zHI (xs:List Int)(n:Int):dI xs++ [D.int .i64 n]=dI (xs++ [n]):=by simp [dI]
theorem zJk (n:Nat)(x:Int):List.replicate n (D.int .i64 x)=dI (List.replicate n x):=by simp [dI]
theorem zJj (n:Nat)(x:Bool):List.replicate n (D.bool x)=dB (List.replicate n x):=by simp [dB]
theorem zFK (n:Nat):((n:Int)).toNat=n:=Int.toNat_natCast n
def zg (s:List (Nat×AV)):List (Nat×AV)→Prop
 | []=>True
 |(k,v)::l=>(v= .dead∨lk s k=some v)∧zg s l
def zf {α:Type}(s:List (Nat×α)):List (Nat×α)→Prop
 | []=>True
 |(k,v)::l=>lk s k=some v∧zf s l
theorem zCS {s:List (Nat×AV)}: ∀{l:List (Nat×AV)},zg s l→∀k v,lk l k=some v→v= .dead∨lk s k=some v
 | [],_,k,v,h=>by simp [lk]at h
 |(j,u)::l,hc,k,v,h=>by
  simp only [zc]at h
  split at h
  ·rename_i e;subst e;cases h;exact hc.1
  ·exact zCS hc.2 k v h
theorem kL {α:Type}{s:List (Nat×α)}: ∀{l:List (Nat×α)},zf s l→∀k v,lk l k=some v→lk s k=some v
 | [],_,k,v,h=>by simp [lk]at h
 |(j,u)::l,hc,k,v,h=>by
  simp only [zc]at h
  split at h
  ·rename_i e;subst e;cases h;exact hc.1
  ·exact kL hc.2 k v h
theorem zX {st st':St}(h1:st'.n=st.n)(h2:zg st.s st'.s)(h3:zf st.b st'.b)(h4:zf st.r st'.r):Cov st st':=⟨h1,zCS h2,kL h3,kL h4⟩
theorem zFB (xs:List D)(i:Nat)(x:D):qa xs [] i x=xs.set i x:=rfl
theorem zDp (k:Nat):((k:Int) - 1).toNat=k - 1:=by omega
theorem zDo (k:Nat):((k:Int)+1).toNat=k+1:=by omega
theorem zJJ (e:TypeId)(ys l:List D):xO (.lst e ys::l) 0=ys:=rfl
theorem zJI (x:D)(l:List D)(i:Nat):xO (x::l) (i+1)=xO l i:=rfl
theorem zJF (e:TypeId)(ys l:List D):qt (.lst e ys::l) 0=e:=rfl
theorem zJE (x:D)(l:List D)(i:Nat):qt (x::l) (i+1)=qt l i:=rfl
theorem zJH (k:IntKind)(n:Int)(l:List D):XR (.int k n::l) 0=n:=rfl
theorem zJG (x:D)(l:List D)(i:Nat):XR (x::l) (i+1)=XR l i:=rfl
theorem zGQ (e:TypeId)(ys l:List D)(q:List Nat):zk (.lst e ys::l) (0::q)=zk ys q:=by
 apply propext
 simp only [zk,List.getElem?_cons_zero]
 constructor
 ·rintro⟨e',ys',h,h2⟩;cases h;exact h2
 ·exact fun h=>⟨e,ys,rfl,h⟩
theorem zGP (x:D)(l:List D)(i:Nat)(q:List Nat):zk (x::l) ((i+1)::q)=zk l (i::q):=by
 simp only [zk,List.getElem?_cons_succ]
theorem zHD (e e':TypeId)(ys l:List D):xX (.sl e) (.lst e' ys::l) 0=(e=e'):=by
 apply propext
 simp only [xX,List.getElem?_cons_zero]
 constructor
 ·rintro⟨ys',h⟩;cases h;rfl
 ·rintro rfl;exact⟨ys,rfl⟩
theorem zHC (k k':IntKind)(n:Int)(l:List D):xX (.int k) (.int k' n::l) 0=(k=k'):=by
 apply propext
 simp only [xX,List.getElem?_cons_zero]
 constructor
 ·rintro⟨ys',h⟩;cases h;rfl
 ·rintro rfl;exact⟨n,rfl⟩
theorem zId (c:CK)(x:D)(l:List D)(i:Nat):xX c (x::l) (i+1)=xX c l i:=by
 cases c<;>simp only [xX,List.getElem?_cons_succ]
attribute [push_cast] zJJ zJI zJF zJE zJH zJG zGQ zGP zHD zHC zId
attribute [push_cast] WY ZB kF ke vU wn VC fpA qo fpB fpC QI qu ZZ UQ xn Decidable.not_not Int.zero_add Bool.true_or Bool.or_true Int.toNat_zero Int.toNat_one zDp zDo false_implies true_implies decide_eq_true_eq decide_eq_false_iff_not Bool.not_eq_true' Bool.not_eq_false' beq_iff_eq beq_eq_false_iff_ne bne_iff_ne bne_eq_false_iff_eq Int.add_zero Option.some_beq_none wq ZL Vr epL XT.cells fewX wT YO Zv wS Za qW Xh wy Qa mkF VH shE arC IntKind.bits JF jD qC Ql YP ji Zk Xv apart qP vu Xn vW qm zBI zBJ few YV jb wo Un Ws List.mem_cons List.not_mem_nil Option.isNone_some Option.isNone_none List.set_cons_zero List.singleton_append zFB wB kh xk yT St.settle St.app St.start St.cut jQ AV.cut AV.cutL wv Yp vv QP QQ Zr Zc Yb orE wX repC vG Xx O3.own wk qY wi wF Vb Kj vY QT Zs QE qT Dl.skip Dl.wr fp AV.nm AV.nmL Op.operands Call.operands St.clean ya List.foldr_cons List.foldr_nil St.reset qq aop yA zq zGs xx effM qQ ev zc yp cv cv1 kJ ar VL JI unE vE Zg zAh Zh onR Zl Ze VZ wD kc kd JW Qd vf fieldsOf lay wh zDe jf yL vF wz vn UM zHA zG9 Uj zHh zHg zAn Qj zJT Qk zHW zIO zFt zGj zIm zFe zFd zJn zJm zHI zJk zJj zFK hom qR UV Zi vB vR St.put St.addR St.delR St.moveR St.appG appG UT UU St.setR St.setB St.addB St.kill vN rm AV.kill AV.killL is1 noB zY Qw appE JV UY kZ scE scD Kn CK.zeroD TK.cells O3.isSh O3.isEx cellsOf yu Ua qz yj yV yM zo VT.cells xL qL szL wx vc vo xJ xK zQ zR xt ql ZU YJ jW jO Option.map_some Option.map_none Option.getD_some Option.getD_none List.map_cons List.map_nil List.getElem?_cons_zero List.getElem?_cons_succ List.getElem?_nil List.getD_cons_zero List.getD_cons_succ List.headD_cons List.tail_cons List.cons_append List.nil_append List.append_nil List.length_cons List.length_nil List.drop_zero List.take_zero List.drop_succ_cons List.take_succ_cons List.filter_cons List.filter_nil List.contains_cons List.contains_nil List.all_cons List.all_nil List.take_length Int.natCast_add Int.natCast_one Int.natCast_zero Int.cast_ofNat_Int Nat.zero_add Nat.add_zero Nat.mul_one Nat.div_one Nat.sub_zero Nat.zero_le if_true if_false true_and and_true and_self true_or or_true false_or or_false not_true_eq_false not_false_eq_true implies_true forall_const Bool.true_and Bool.and_true Bool.false_and Bool.and_false Bool.or_false Bool.false_or Bool.not_true Bool.not_false Bool.false_eq_true beq_self_eq_true eq_self_iff_true Option.some.injEq id_eq List.toList_toArray decide_true decide_false ne_eq forall_eq
def VP (a b:List Int):Bool:=a==b
theorem zFv {a b:List Int}(h: ¬a.length=b.length):VP a b=false:=by
 unfold VP
 rw [beq_eq_false_iff_ne]
 rintro rfl
 exact h rfl
set_option maxHeartbeats 1000000 in
theorem Jr (a b:List Int)(ha:a.length≤1048576):Fn Tryz.prog tyT 55 [.c (DI a), .c (DI b)] [.c (.bool (VP a b))]:=by
 refine zr (fn:=Tryz.f55) (ts:= [4]) Tryz.func55 (by kernel_rfl) rfl rfl (by rw [Tryz.ntmps55];exact Nat.le_of_ble_eq_true rfl) rfl (by simp only [szA,List.mem_cons,List.not_mem_nil,or_false,forall_eq_or_imp,forall_eq,VT.cells,szL];try decide) ?_
 rw [Tryz.ntmps55]
 push_cast
 refine zL fun K hK=> ?_
 refine zM zO zN [] rfl ?_
 push_cast
 repeat' apply And.intro
 all_goals try exact gB
 refine hK _ ?_;clear hK K
 refine zL fun K1 hK1=> ?_
 refine zL fun K hK=> ?_
 refine zM zO zN [] rfl ?_
 push_cast
 repeat' apply And.intro
 all_goals try exact gB
 refine hK _ ?_;clear hK K
 refine zT rfl (fun hc=> ?_) (fun hc=> ?_)<;>(try simp only [push_cast]at hc)
 ·
  refine zL fun K hK=> ?_
  refine zM zO zN [] rfl ?_
  push_cast
  repeat' apply And.intro
  all_goals try exact gB
  refine hK _ ?_;clear hK K
  refine zW ?_
  refine⟨Or.inl rfl,?_⟩
  push_cast [za]
  rw [zFv (by omega)]
 ·refine zU ?_
  refine hK1 _ ?_
  have hl:a.length=b.length:=by omega
  refine zL fun K2 hK2=> ?_
  refine zL fun K hK=> ?_
  refine zM zO zN [] rfl ?_
  push_cast
  repeat' apply And.intro
  all_goals try exact gB
  refine hK _ ?_;clear hK K
  refine zV ?_
  refine zh [5,4,11,12,13,14,15,16,17,18,19,20,21,22,23,24,25] [] (fun k:Nat=> [(5, .int .i64 k)]) (fun _=> []) (fun _=> []) (fun k=>k≤a.length∧∀j,j<k→gi a j=gi b j) (fun k=>a.length - k) 0 ?_ ⟨by omega,fun j hj=>by omega⟩ ?_
  ·refine zX rfl ?_ ?_ ?_<;>push_cast [zg,zf]
  ·rintro k ⟨hk,hall⟩ K0 hK0
   push_cast
   refine zL fun K3 hK3=> ?_
   refine zL fun K hK=> ?_
   refine zM zO zN [] rfl ?_
   push_cast
   repeat' apply And.intro
   all_goals try exact gB
   refine hK _ ?_;clear hK K
   refine zT rfl (fun hc=> ?_) (fun hc=> ?_)<;>(try simp only [push_cast]at hc)
   ·refine zU ?_
    refine hK3 _ ?_
    refine zL fun K4 hK4=> ?_
    refine zV ?_
    refine zL fun K hK=> ?_
    refine xl false zO zN xj ?_ rfl ?_
    ·kernel_rfl
    intro C hC
    push_cast
    repeat' apply And.intro
    all_goals first|omega|with_reducible assumption|(refine hC _ ?_;kernel_rfl)|(simp only [List.length_set,List.length_append,List.length_replicate,List.length_cons,List.length_nil];omega)|skip
    all_goals first|(refine hK _ ?_;clear hC C hK K)|(simp only [push_cast];done)
    refine zT rfl (fun hc=> ?_) (fun hc=> ?_)<;>(try simp only [push_cast]at hc)
    ·
     refine zL fun K hK=> ?_
     refine zM zO zN [] rfl ?_
     push_cast
     repeat' apply And.intro
     all_goals try exact gB
     refine hK _ ?_;clear hK K
     refine zW ?_
     refine⟨Or.inl rfl,?_⟩
     push_cast [za]
     unfold VP
     rw [beq_eq_false_iff_ne.2]
     rintro rfl
     exact hc rfl
    ·refine zU ?_
     refine hK4 _ ?_
     refine zM zO zN [] rfl ?_
     push_cast
     repeat' apply And.intro
     all_goals try exact gB
     refine hK0 _ ⟨k+1,⟨by omega,fun j hj=> ?_⟩,by omega,?_⟩
     ·by_cases h:j=k
      ·subst h;exact hc
      ·exact hall j (by omega)
     ·refine zX rfl ?_ ?_ ?_<;>push_cast [zg,zf]
   ·refine zi ?_
    refine hK2 _ ?_
    refine zL fun K hK=> ?_
    refine zM zO zN [] rfl ?_
    push_cast
    repeat' apply And.intro
    all_goals try exact gB
    refine hK _ ?_;clear hK K
    refine zW ?_
    refine⟨Or.inl rfl,?_⟩
    push_cast [za]
    have :a=b:=by
     refine List.ext_getElem hl fun j h1 h2=> ?_
     have h3:=hall j (by omega)
     have h4:=vC h1
     have h5:=vC h2
     rw [List.getElem?_eq_getElem h1]at h4
     rw [List.getElem?_eq_getElem h2]at h5
     injection h4 with h4
     injection h5 with h5
     rw [h4,h5,h3]
    subst this
    simp [VP]
def pre (a:List Int)(k:Nat):List Int:=a.take k++List.replicate (a.length - k) 0
theorem zH9 {a:List Int}{k:Nat}(h:k≤a.length):(pre a k).length=a.length:=by simp [pre];omega
theorem pre_0 (a:List Int):pre a 0=List.replicate a.length 0:=by simp [pre]
theorem zH8 (a:List Int):pre a a.length=a:=by simp [pre]
theorem zIA {a:List Int}{k:Nat}(h:k<a.length):(pre a k).set k (gi a k)=pre a (k+1):=by
 apply List.ext_getElem?
 intro j
 unfold pre
 rw [List.getElem?_set,List.getElem?_append,List.getElem?_append]
 have h1:=vC h
 have e1:min k a.length=k:=by omega
 have e2:min (k+1) a.length=k+1:=by omega
 simp only [List.length_append,List.length_take,List.length_replicate,List.getElem?_take,List.getElem?_replicate,e1,e2]
 by_cases hj:k=j
 ·subst hj
  rw [if_pos rfl,if_pos (by omega),if_pos (by omega),if_pos (by omega),h1]
 ·rw [if_neg hj]
  by_cases hjk:j<k
  ·simp only [if_pos hjk,if_pos (show j<k+1 by omega)]
  ·simp only [if_neg hjk,if_neg (show ¬j<k+1 by omega)]
   by_cases h2:j - k<a.length - k
   ·rw [if_pos h2,if_pos (by omega)]
   ·rw [if_neg h2,if_neg (by omega)]
set_option maxHeartbeats 1000000 in
theorem KF (a:List Int)(ha:a.length≤1048576):Fn Tryz.prog tyT 51 [.c (DI a)] [.c (DI a)]:=by
 refine zr (fn:=Tryz.f51) (ts:= [2]) Tryz.func51 (by kernel_rfl) rfl rfl (by rw [Tryz.ntmps51];exact Nat.le_of_ble_eq_true rfl) rfl (by simp only [szA,List.mem_cons,List.not_mem_nil,or_false,forall_eq_or_imp,forall_eq,VT.cells,szL];try decide) ?_
 rw [Tryz.ntmps51]
 push_cast
 refine zL fun K hK=> ?_
 refine zM zO zN [] rfl ?_
 push_cast
 repeat' apply And.intro
 all_goals try exact gB
 refine hK _ ?_;clear hK K
 refine zL fun K hK=> ?_
 refine zM zO zN [] rfl ?_
 push_cast
 repeat' apply And.intro
 all_goals try exact gB
 refine hK _ ?_;clear hK K
 refine zL fun K1 hK1=> ?_
 refine zL fun K hK=> ?_
 refine zM zO zN [] rfl ?_
 push_cast
 repeat' apply And.intro
 all_goals try exact gB
 refine hK _ ?_;clear hK K
 refine zV ?_
 refine zh [4,8,9,10,11,12,13,14,15,16,17,18,19,20,3] [] (fun k:Nat=> [(4, .int .i64 k),(3, .sl 48 [] 0 a.length 2)]) (fun _=> []) (fun k=> [(48,⟨.ex,2,dI (pre a k),none⟩)]) (fun k=>k≤a.length) (fun k=>a.length - k) 0 ?_ (by omega) ?_
 ·rw [pre_0]
  refine zX rfl ?_ ?_ ?_<;>push_cast [zg,zf]
 ·rintro k hk K0 hK0
  have hpl:=zH9 hk
  push_cast
  refine zL fun K2 hK2=> ?_
  refine zL fun K hK=> ?_
  refine zM zO zN [] rfl ?_
  push_cast
  repeat' apply And.intro
  all_goals try exact gB
  refine hK _ ?_;clear hK K
  refine zT rfl (fun hc=> ?_) (fun hc=> ?_)<;>(try simp only [push_cast]at hc)
  ·refine zU ?_
   refine hK2 _ ?_
   refine zL fun K3 hK3=> ?_
   refine zV ?_
   refine zM zO zN [] rfl ?_
   push_cast
   repeat' apply And.intro
   all_goals try exact gB
   rw [zIA (by omega)]
   refine hK3 _ ?_
   refine zM zO zN [] rfl ?_
   push_cast
   repeat' apply And.intro
   all_goals try exact gB
   refine hK0 _ ⟨k+1,by omega,by omega,?_⟩
   refine zX rfl ?_ ?_ ?_<;>push_cast [zg,zf]
  ·refine zi ?_
   refine hK1 _ ?_
   have hk':k=a.length:=by omega
   subst hk'
   rw [zH8]
   refine zL fun K hK=> ?_
   refine zM zO zN [] rfl ?_
   push_cast
   repeat' apply And.intro
   all_goals try exact gB
   refine hK _ ?_;clear hK K
   refine zW ?_
   refine⟨Or.inl rfl,?_⟩
   push_cast [za]
   trace_state
def QS (a:List (List Int))(k:Nat):List (List Int):=a.take k++List.replicate (a.length - k) []
theorem zGT {a:List (List Int)}{k:Nat}(h:k≤a.length):(QS a k).length=a.length:=by simp [QS];omega
theorem zJg (a:List (List Int)):dII (QS a 0)=List.replicate a.length (D.lst 2 []):=by simp [QS,dII,dI]
theorem zGS (a:List (List Int)):QS a a.length=a:=by simp [QS]
theorem zGB {r:List (List Int)}{k:Nat}{x:List Int}(h:k<r.length):dII (List.take k r)++ [D.lst 2 (dI x)]++dII (List.drop (k+1) r)=dII (r.set k x):=by
 rw [List.set_eq_take_append_cons_drop,if_pos h]
 simp [dII]
theorem zGU {a:List (List Int)}{k:Nat}(h:k<a.length):(QS a k).set k (gl a k)=QS a (k+1):=by
 have h1:=YH h
 have hk:(a.take k).length=k:=by rw [List.length_take];omega
 have e:a.take (k+1)=a.take k++ [gl a k]:=by
  rw [List.take_add_one,h1];rfl
 unfold QS
 rw [List.set_append_right _ _ (by omega),hk,Nat.sub_self,show a.length - k=(a.length - (k+1))+1 from by omega,List.replicate_succ,List.set_cons_zero,e,List.append_assoc]
 rfl
set_option maxHeartbeats 1000000 in
theorem zBT (a:List (List Int))(ha:a.length≤1048576)(hr: ∀r∈a,r.length≤1048576):Fn Tryz.prog tyT 52 [.c (DII a)] [.c (DII a)]:=by
 refine zr (fn:=Tryz.f52) (ts:= [2]) Tryz.func52 (by kernel_rfl) rfl rfl (by rw [Tryz.ntmps52];exact Nat.le_of_ble_eq_true rfl) rfl (by simp only [szA,List.mem_cons,List.not_mem_nil,or_false,forall_eq_or_imp,forall_eq,VT.cells,szL];try decide) ?_
 rw [Tryz.ntmps52]
 push_cast
 refine zL fun K hK=> ?_
 refine zM zO zN [] rfl ?_
 push_cast
 repeat' apply And.intro
 all_goals try exact gB
 refine hK _ ?_;clear hK K
 refine zL fun K hK=> ?_
 refine zM zO zN [] rfl ?_
 push_cast
 repeat' apply And.intro
 all_goals try exact gB
 refine hK _ ?_;clear hK K
 refine zL fun K1 hK1=> ?_
 refine zL fun K hK=> ?_
 refine zM zO zN [] rfl ?_
 push_cast
 repeat' apply And.intro
 all_goals try exact gB
 refine hK _ ?_;clear hK K
 refine zV ?_
 refine zh [4,8,9,10,11,12,13,14,15,16,17,18,19,20,21,3] [] (fun k:Nat=> [(4, .int .i64 k),(3, .sl 48 [] 0 a.length 22)]) (fun _=> []) (fun k=> [(48,⟨.ex,22,dII (QS a k),none⟩)]) (fun k=>k≤a.length) (fun k=>a.length - k) 0 ?_ (by omega) ?_
 ·rw [zJg]
  refine zX rfl ?_ ?_ ?_<;>push_cast [zg,zf]
 ·rintro k hk K0 hK0
  have hpl:=zGT hk
  push_cast
  refine zL fun K2 hK2=> ?_
  refine zL fun K hK=> ?_
  refine zM zO zN [] rfl ?_
  push_cast
  repeat' apply And.intro
  all_goals try exact gB
  refine hK _ ?_;clear hK K
  refine zT rfl (fun hc=> ?_) (fun hc=> ?_)<;>(try simp only [push_cast]at hc)
  ·refine zU ?_
   refine hK2 _ ?_
   refine zL fun K3 hK3=> ?_
   refine zV ?_
   refine zj true zO zN ?_ rfl ?_
   ·kernel_rfl
   push_cast
   refine⟨by omega,by omega,⟨by omega,zS (by omega)⟩,_,KF (gl a k) ?_,?_⟩
   ·exact hr _ (List.mem_of_getElem? (YH (by omega)))
   push_cast
   repeat' apply And.intro
   all_goals try exact gB
   rw [zGB (by omega),zGU (by omega)]
   refine hK3 _ ?_
   refine zM zO zN [] rfl ?_
   push_cast
   repeat' apply And.intro
   all_goals try exact gB
   refine hK0 _ ⟨k+1,by omega,by omega,?_⟩
   refine zX rfl ?_ ?_ ?_<;>push_cast [zg,zf]
  ·refine zi ?_
   refine hK1 _ ?_
   have hk':k=a.length:=by omega
   subst hk'
   rw [zGS]
   refine zL fun K hK=> ?_
   refine zM zO zN [] rfl ?_
   push_cast
   repeat' apply And.intro
   all_goals try exact gB
   refine hK _ ?_;clear hK K
   refine zW ?_
   refine⟨Or.inl rfl,?_⟩
   push_cast [za]
def iot (k:Int):Nat→List Int
 |0=> []
 |n+1=>iot k n++ [k+n]
theorem zCe (k:Int): ∀n,(iot k n).length=n
 |0=>rfl
 |n+1=>by simp [iot,zCe k n]
def Yc (rs:List (List Int)):Nat:=(rs.map List.length).sum
def mkR (k:Int):List (List Int)→List (List Int)
 | []=> []
 |r::rs=>iot k r.length::mkR (k+r.length) rs
theorem zHz (k:Int)(rs:List (List Int)):(mkR k rs).length=rs.length:=by
 induction rs generalizing k with
 |nil=>rfl
 |cons r rs ih=>simp [mkR,ih]
theorem UC (r:List Int)(rs:List (List Int)):Yc (r::rs)=r.length+Yc rs:=by simp [Yc]
theorem zGi :Yc []=0:=rfl
def QO (l:Int)(n:Nat):Int:=if l - n<0 then -1 else l - n
def Yo (l:Int):List (List Int)→Int
 | []=>l
 |r::rs=>if l - r.length<0 then -1 else Yo (l - r.length) rs
def Qm (l:Int)(a:List (List Int)):Int:=if l - a.length<0 then -1 else Yo (l - a.length) a
set_option maxHeartbeats 1000000 in
theorem KE (a:List Int)(l:Int)(h0:0≤l)(h1:l≤1048576)(ha:a.length≤9223372036854775807):Fn Tryz.prog tyT 47 [.c (DI a), .c (.int .i64 l)] [.c (.int .i64 (QO l a.length))]:=by
 refine zr (fn:=Tryz.f47) (ts:= [4]) Tryz.func47 (by kernel_rfl) rfl rfl (by rw [Tryz.ntmps47];exact Nat.le_of_ble_eq_true rfl) rfl (by simp only [szA,List.mem_cons,List.not_mem_nil,or_false,forall_eq_or_imp,forall_eq,VT.cells,szL];try decide) ?_
 rw [Tryz.ntmps47]
 push_cast
 refine zL fun K hK=> ?_
 refine zM zO zN [] rfl ?_
 push_cast
 repeat' apply And.intro
 all_goals try exact gB
 refine hK _ ?_;clear hK K
 refine zL fun K hK=> ?_
 refine zM zO zN [] rfl ?_
 push_cast
 repeat' apply And.intro
 all_goals try exact gB
 refine hK _ ?_;clear hK K
 refine zL fun K1 hK1=> ?_
 refine zL fun K hK=> ?_
 refine zM zO zN [] rfl ?_
 push_cast
 repeat' apply And.intro
 all_goals try exact gB
 refine hK _ ?_;clear hK K
 refine zT rfl (fun hc=> ?_) (fun hc=> ?_)<;>(try simp only [push_cast]at hc)
 ·
  refine zL fun K hK=> ?_
  refine zM zO zN [] rfl ?_
  push_cast
  repeat' apply And.intro
  all_goals try exact gB
  refine hK _ ?_;clear hK K
  refine zW ?_
  refine⟨Or.inl rfl,?_⟩
  push_cast [za]
  simp only [QO,if_pos hc]
 ·
  refine zU ?_
  refine hK1 _ ?_
  refine zL fun K hK=> ?_
  refine zM zO zN [] rfl ?_
  push_cast
  repeat' apply And.intro
  all_goals try exact gB
  refine hK _ ?_;clear hK K
  refine zW ?_
  refine⟨Or.inl rfl,?_⟩
  push_cast [za]
  simp only [QO,if_neg hc]
theorem zHY {a:List (List Int)}{k:Nat}(h:k<a.length):a.drop k=gl a k::a.drop (k+1):=by
 have h1:=YH h
 rw [List.getElem?_eq_getElem h]at h1
 injection h1 with h1
 rw [←h1]
 exact List.drop_eq_getElem_cons h
set_option maxHeartbeats 1000000 in
theorem zBS (a:List (List Int))(l:Int)(h0:0≤l)(h1:l≤1048576)(ha:a.length≤9223372036854775807)(hr: ∀r∈a,r.length≤9223372036854775807):Fn Tryz.prog tyT 48 [.c (DII a), .c (.int .i64 l)] [.c (.int .i64 (Qm l a))]:=by
 refine zr (fn:=Tryz.f48) (ts:= [4]) Tryz.func48 (by kernel_rfl) rfl rfl (by rw [Tryz.ntmps48];exact Nat.le_of_ble_eq_true rfl) rfl (by simp only [szA,List.mem_cons,List.not_mem_nil,or_false,forall_eq_or_imp,forall_eq,VT.cells,szL];try decide) ?_
 rw [Tryz.ntmps48]
 push_cast
 refine zL fun K hK=> ?_
 refine zM zO zN [] rfl ?_
 push_cast
 repeat' apply And.intro
 all_goals try exact gB
 refine hK _ ?_;clear hK K
 refine zL fun K hK=> ?_
 refine zM zO zN [] rfl ?_
 push_cast
 repeat' apply And.intro
 all_goals try exact gB
 refine hK _ ?_;clear hK K
 refine zL fun K1 hK1=> ?_
 refine zL fun K hK=> ?_
 refine zM zO zN [] rfl ?_
 push_cast
 repeat' apply And.intro
 all_goals try exact gB
 refine hK _ ?_;clear hK K
 refine zT rfl (fun hc=> ?_) (fun hc=> ?_)<;>(try simp only [push_cast]at hc)
 ·
  refine zL fun K hK=> ?_
  refine zM zO zN [] rfl ?_
  push_cast
  repeat' apply And.intro
  all_goals try exact gB
  refine hK _ ?_;clear hK K
  refine zW ?_
  refine⟨Or.inl rfl,?_⟩
  push_cast [za]
  simp only [Qm,if_pos hc]
 ·
  refine zU ?_
  refine hK1 _ ?_
  have hneg: ¬l - (a.length:Int)<0:=hc
  refine zL fun K2 hK2=> ?_
  refine zL fun K hK=> ?_
  refine zM zO zN [] rfl ?_
  push_cast
  repeat' apply And.intro
  all_goals try exact gB
  refine hK _ ?_;clear hK K
  refine zV ?_
  refine zh [1,4,5,12,13,14,15,16,17,18,19,20,21,22,23,24,25] [] (fun x:Nat×Int=> [(5, .int .i64 x.1),(1, .int .i64 x.2)]) (fun _=> []) (fun _=> []) (fun x=>x.1≤a.length∧0≤x.2∧x.2≤1048576∧Yo (l - a.length) a=Yo x.2 (a.drop x.1)) (fun x=>a.length - x.1) (0,l - a.length) ?_ ⟨by simp,by simp;omega,by simp;omega,by simp⟩ ?_
  ·
   refine zX rfl ?_ ?_ ?_<;>push_cast [zg,zf]
  ·rintro⟨k,m⟩ ⟨hk,hm0,hm1,hm⟩ K0 hK0
   simp only at hk hm0 hm1 hm
   push_cast
   refine zL fun K3 hK3=> ?_
   refine zL fun K hK=> ?_
   refine zM zO zN [] rfl ?_
   push_cast
   repeat' apply And.intro
   all_goals try exact gB
   refine hK _ ?_;clear hK K
   refine zT rfl (fun hc=> ?_) (fun hc=> ?_)<;>(try simp only [push_cast]at hc)
   ·
    have hkl:k<a.length:=by omega
    rw [zHY hkl,Yo]at hm
    have hrk:(gl a k).length≤9223372036854775807:=hr _ (List.mem_of_getElem? (YH hkl))
    refine zU ?_
    refine hK3 _ ?_
    refine zL fun K4 hK4=> ?_
    refine zV ?_
    refine zL fun K hK=> ?_
    refine zM zO zN [] rfl ?_
    push_cast
    refine⟨by omega,by omega,⟨by omega,zS (by omega)⟩,_,KE (gl a k) m hm0 hm1 hrk,?_⟩
    push_cast
    repeat' apply And.intro
    all_goals try exact gB
    refine hK _ ?_
    clear hK K
    refine zL fun K hK=> ?_
    refine zM zO zN [] rfl ?_
    push_cast
    repeat' apply And.intro
    all_goals try exact gB
    refine hK _ ?_;clear hK K
    refine zT rfl (fun hc=> ?_) (fun hc=> ?_)<;>(try simp only [push_cast]at hc)
    ·
     refine zL fun K hK=> ?_
     refine zM zO zN [] rfl ?_
     push_cast
     repeat' apply And.intro
     all_goals try exact gB
     refine hK _ ?_;clear hK K
     refine zW ?_
     refine⟨Or.inl rfl,?_⟩
     push_cast [za]
     have hn:m - ((gl a k).length:Int)<0:=by unfold QO at hc;split at hc<;>omega
     rw [if_pos hn]at hm
     simp only [Qm,if_neg hneg,hm]
    ·
     refine zU ?_
     refine hK4 _ ?_
     refine zM zO zN [] rfl ?_
     push_cast
     repeat' apply And.intro
     all_goals try exact gB
     refine hK0 _ ⟨(k+1,QO m (gl a k).length),?_,by simp;omega,?_⟩
     ·have hn: ¬m - ((gl a k).length:Int)<0:=by
       intro h
       exact hc (by unfold QO;rw [if_pos h];omega)
      have e:QO m (gl a k).length=m - (gl a k).length:=by unfold QO;rw [if_neg hn]
      rw [if_neg hn]at hm
      simp only [e]
      exact⟨by omega,by omega,by omega,hm⟩
     refine zX rfl ?_ ?_ ?_<;>push_cast [zg,zf]
   ·
    refine zi ?_
    refine hK2 _ ?_
    have :k=a.length:=by omega
    subst this
    rw [List.drop_length,Yo]at hm
    refine zL fun K hK=> ?_
    refine zM zO zN [] rfl ?_
    push_cast
    repeat' apply And.intro
    all_goals try exact gB
    refine hK _ ?_;clear hK K
    refine zW ?_
    refine⟨Or.inl rfl,?_⟩
    push_cast [za]
    simp only [Qm,if_neg hneg,hm]
set_option maxHeartbeats 1000000 in
theorem zAb (a b:List (List Int))(ha:a.length≤1048576)(hra: ∀r∈a,r.length≤1048576):Fn Tryz.prog tyT 56 [.c (DII a), .c (DII b)] [.c (.bool (a==b))]:=by
 refine zr (fn:=Tryz.f56) (ts:= [4]) Tryz.func56 (by kernel_rfl) rfl rfl (by rw [Tryz.ntmps56];exact Nat.le_of_ble_eq_true rfl) rfl (by simp only [szA,List.mem_cons,List.not_mem_nil,or_false,forall_eq_or_imp,forall_eq,VT.cells,szL];try decide) ?_
 rw [Tryz.ntmps56]
 push_cast
 refine zL fun K hK=> ?_
 refine zM zO zN [] rfl ?_
 push_cast
 repeat' apply And.intro
 all_goals try exact gB
 refine hK _ ?_;clear hK K
 refine zL fun K1 hK1=> ?_
 refine zL fun K hK=> ?_
 refine zM zO zN [] rfl ?_
 push_cast
 repeat' apply And.intro
 all_goals try exact gB
 refine hK _ ?_;clear hK K
 refine zT rfl (fun hc=> ?_) (fun hc=> ?_)<;>(try simp only [push_cast]at hc)
 ·
  refine zL fun K hK=> ?_
  refine zM zO zN [] rfl ?_
  push_cast
  repeat' apply And.intro
  all_goals try exact gB
  refine hK _ ?_;clear hK K
  refine zW ?_
  refine⟨Or.inl rfl,?_⟩
  push_cast [za]
  symm
  rw [beq_eq_false_iff_ne]
  rintro rfl
  exact hc rfl
 ·
  refine zU ?_
  refine hK1 _ ?_
  have hl:a.length=b.length:=by omega
  refine zL fun K2 hK2=> ?_
  refine zL fun K hK=> ?_
  refine zM zO zN [] rfl ?_
  push_cast
  repeat' apply And.intro
  all_goals try exact gB
  refine hK _ ?_;clear hK K
  refine zV ?_
  refine zh [4,5,11,12,13,14,15,16,17,18,19,20,21,22,23,24,25,26] [] (fun k:Nat=> [(5, .int .i64 k)]) (fun _=> []) (fun k=> []) (fun k=>k≤a.length∧∀j,j<k→gl a j=gl b j) (fun k=>a.length - k) 0 ?_ ⟨by omega,fun j hj=>by omega⟩ ?_
  ·
   refine zX rfl ?_ ?_ ?_<;>push_cast [zg,zf]
  ·rintro k ⟨hk,hall⟩ K0 hK0
   push_cast
   refine zL fun K3 hK3=> ?_
   refine zL fun K hK=> ?_
   refine zM zO zN [] rfl ?_
   push_cast
   repeat' apply And.intro
   all_goals try exact gB
   refine hK _ ?_;clear hK K
   refine zT rfl (fun hc=> ?_) (fun hc=> ?_)<;>(try simp only [push_cast]at hc)
   ·
    have hkl:k<a.length:=by omega
    have hrk:(gl a k).length≤1048576:=hra _ (List.mem_of_getElem? (YH hkl))
    refine zU ?_
    refine hK3 _ ?_
    refine zL fun K4 hK4=> ?_
    refine zV ?_
    refine zL fun K hK=> ?_
    refine xl false zO zN xj ?_ rfl ?_
    ·kernel_rfl
    intro C hC
    push_cast
    refine⟨by omega,by omega,by omega,by omega,⟨⟨by omega,zS (by omega)⟩,by omega,zS (by omega)⟩,_,Jr (gl a k) (gl b k) hrk,?_⟩
    push_cast
    repeat' apply And.intro
    all_goals first|omega|with_reducible assumption|(refine hC _ ?_;kernel_rfl)|(simp only [List.length_set,List.length_append,List.length_replicate,List.length_cons,List.length_nil];omega)|skip
    refine hK _ ?_
    clear hC C hK K
    refine zT rfl (fun hc=> ?_) (fun hc=> ?_)<;>(try simp only [push_cast]at hc)
    ·
     refine zL fun K hK=> ?_
     refine zM zO zN [] rfl ?_
     push_cast
     repeat' apply And.intro
     all_goals try exact gB
     refine hK _ ?_;clear hK K
     refine zW ?_
     refine⟨Or.inl rfl,?_⟩
     push_cast [za]
     symm
     rw [beq_eq_false_iff_ne]
     rintro rfl
     simp [VP]at hc
    ·
     refine zU ?_
     refine hK4 _ ?_
     refine zM zO zN [] rfl ?_
     push_cast
     repeat' apply And.intro
     all_goals try exact gB
     refine hK0 _ ⟨k+1,⟨by omega,fun j hj=> ?_⟩,by omega,?_⟩
     ·by_cases h:j=k
      ·subst h;simpa [VP]using hc
      ·exact hall j (by omega)
     refine zX rfl ?_ ?_ ?_<;>push_cast [zg,zf]
   ·
    refine zi ?_
    refine hK2 _ ?_
    refine zL fun K hK=> ?_
    refine zM zO zN [] rfl ?_
    push_cast
    repeat' apply And.intro
    all_goals try exact gB
    refine hK _ ?_;clear hK K
    refine zW ?_
    refine⟨Or.inl rfl,?_⟩
    push_cast [za]
    have :a=b:=by
     refine List.ext_getElem hl fun j h1 h2=> ?_
     have h3:=hall j (by omega)
     have h4:=YH h1
     have h5:=YH h2
     rw [List.getElem?_eq_getElem h1]at h4
     rw [List.getElem?_eq_getElem h2]at h5
     injection h4 with h4
     injection h5 with h5
     rw [h4,h5,h3]
    subst this
    simp
theorem zFu (a:List Int)(ha:a.length≤1048576):Fn Tryz.prog tyT 55 [.c (DI a), .c (DI a)] [.c (.bool true)]:=by
 have :=Jr a a ha
 rwa [show VP a a=true from by simp [VP]]at this
theorem zEO (a:List (List Int))(ha:a.length≤1048576)(hr: ∀r∈a,r.length≤1048576):Fn Tryz.prog tyT 56 [.c (DII a), .c (DII a)] [.c (.bool true)]:=by
 have :=zAb a a ha hr
 rwa [show(a==a)=true from by simp]at this
def szl (l:Int)(t:Nat):Int:=if l<t then -1 else l - t
theorem qx {l:Int}{t:Nat}(h:l<t):szl l t= -1:=if_pos h
theorem we {l:Int}{t:Nat}(h: ¬l<t):szl l t=l - t:=if_neg h
def vj (a:List (List Int)):Nat:=a.length+Yc a
def LnI (B:Nat)(a:List Int):Prop:=a.length≤B
def vx (B:Nat)(a:List (List Int)):Prop:=a.length≤B∧∀r∈a,r.length≤B
theorem zJl {a:List (List Int)}{r:List Int}(h:r∈a):r.length≤Yc a:=by
 induction a with
 |nil=>simp at h
 |cons x a ih=>
  rw [UC]
  rcases List.mem_cons.1 h with rfl|h
  ·omega
  ·have :=ih h;omega
theorem YL {B:Nat}{a:List Int}(h:a.length≤B):LnI B a:=h
theorem kC {B:Nat}{a:List (List Int)}(h:vj a≤B):vx B a:=⟨by unfold vj at h;omega,fun r hr=>by have :=zJl hr;unfold vj at h;omega⟩
theorem uq : ∀(a:List (List Int)) (l:Int),0≤l→Yo l a=szl l (Yc a)
 | [],l,h=>by rw [zGi,we (by omega)];simp [Yo]
 |r::a,l,h=>by
  simp only [Yo,UC]
  split
  ·rw [qx (by omega)]
  ·rw [uq a _ (by omega)]
   unfold szl
   split<;>split<;>omega
theorem zFH (a:List Int)(l:Int)(h0:0≤l)(h1:l≤1048576)(ha:LnI 9223372036854775807 a):Fn Tryz.prog tyT 47 [.c (DI a), .c (.int .i64 l)] [.c (.int .i64 (szl l a.length))]:=by
 have :=KE a l h0 h1 ha
 have e:QO l a.length=szl l a.length:=by unfold QO szl;split<;>split<;>omega
 rwa [e]at this
theorem zCv (a:List (List Int))(l:Int)(h0:0≤l)(h1:l≤1048576)(ha:vx 9223372036854775807 a):Fn Tryz.prog tyT 48 [.c (DII a), .c (.int .i64 l)] [.c (.int .i64 (szl l (vj a)))]:=by
 have :=zBS a l h0 h1 ha.1 ha.2
 have e:Qm l a=szl l (vj a):=by
  unfold Qm vj
  split
  ·rw [qx (by omega)]
  ·rw [uq _ _ (by omega)]
   unfold szl
   split<;>split<;>omega
 rwa [e]at this
theorem zFJ (a:List Int)(ha:LnI 1048576 a):Fn Tryz.prog tyT 51 [.c (DI a)] [.c (DI a)]:=KF a ha
theorem zCw (a:List (List Int))(ha:vx 1048576 a):Fn Tryz.prog tyT 52 [.c (DII a)] [.c (DII a)]:=zBT a ha.1 ha.2
theorem zCU (a:List Int)(ha:LnI 1048576 a):Fn Tryz.prog tyT 55 [.c (DI a), .c (DI a)] [.c (.bool true)]:=zFu a ha
theorem zAa (a:List (List Int))(ha:vx 1048576 a):Fn Tryz.prog tyT 56 [.c (DII a), .c (DII a)] [.c (.bool true)]:=zEO a ha.1 ha.2
theorem LnI.mono {B C:Nat}(hB:B≤C){a:List Int}(h:LnI B a):LnI C a:=Nat.le_trans h hB
theorem vx.mono {B C:Nat}(hB:B≤C){a:List (List Int)}(h:vx B a):vx C a:=⟨Nat.le_trans h.1 hB,fun r hr=>Nat.le_trans (h.2 r hr) hB⟩
theorem zEC {P:Go.Program}{τ:Ty}{Q:Go.Exit→St→Prop}{st:St}{ι:Type}{x y:Go.Code}(ds rs:List Nat)(L:ι→List (Nat×AV))(B:ι→List (Nat×List AV))(R:ι→List (Nat×zn))(I:ι→Prop)
  (hx: ∀K:St→Prop,(∀st',(∃j,I j∧Cov st' (st.reset ds rs (L j) (B j) (R j)))→K st')→awp P τ x (zQ K Q) st) (hy: ∀j,I j→awp P τ y Q (st.reset ds rs (L j) (B j) (R j))):awp P τ (.seq x y) Q st:=
 zFm (fun j=>st.reset ds rs (L j) (B j) (R j)) I hx hy
theorem zGk (k:Int)(n:Nat):(iot k n).take n=iot k n:=List.take_of_length_le (by rw [zCe];exact Nat.le_refl _)
theorem zGl (k:Int)(xs:List (List Int)):(mkR k xs).take xs.length=mkR k xs:=List.take_of_length_le (by rw [zHz];exact Nat.le_refl _)
theorem zIC :List.range 0= []:=rfl
theorem zID :List.range 1= [0]:=rfl
theorem zIE :List.range 2= [0,1]:=rfl
attribute [push_cast] List.map_nil zIC zID zIE
attribute [push_cast] zGk zGl
open Go Go.RowKit
def St.settleB (ks:List CK)(b:Nat)(st:St):St:=
 match lk st.b b with
 |none=>st
 |some cells=>
  match lk (qR [] ks st (zY b 0) [] cells).1.b b with
  |none=>st
  |some cells'=>if cells'.length=(qR [] ks st (zY b 0) [] cells).2.length then(qR [] ks st (zY b 0) [] cells).1.setB b (qR [] ks st (zY b 0) [] cells).2 else st
theorem JT {α:Type}{a b:List α}(h:b.length=a.length):lay a 0 b=b:=by
 unfold lay
 rw [Nat.zero_add,h,List.drop_length]
 simp
theorem Jl {P:Program}{τ:Ty}(ks:List CK)(b:Nat){c:Code}{Q:Exit→St→Prop}{st:St}(h:awp P τ c Q (st.settleB ks b)):awp P τ c Q st:=by
 unfold St.settleB at h
 split at h
 ·exact h
 ·rename_i cells hl
  split at h
  ·exact h
  ·rename_i cells' hl'
   split at h
   ·rename_i hlen
    intro lo w0 a w hr
    obtain⟨ow,hd,bk,hrr⟩:=hr
    obtain⟨cs,ty,g1,g2,g3⟩:=hrr.box b cells hl
    obtain⟨ow1,hd1,r1,r2⟩:=Ym [] ks st ow hd (zY b 0) [] cells [] cs hrr (by simp [zZ]) g3
    obtain⟨cs0,ty0,k1,k2,k3⟩:=r1.box b cells' hl'
    rw [List.nil_append]at r2
    have e0:cs0=cs:=by
     rw [g1]at k1
     simp only [Option.some.injEq,Obj.cells.injEq]at k1
     have :=k1.1
     simpa using this.symm
    subst e0
    have hrel:=Xc r1 hl' k1 (i:=0) (by omega) k3 r2
    rw [JT rfl,JT hlen.symm,setRow_self w _ _ _ _ k1]at hrel
    exact h lo w0 a w ⟨ow1,hd1,bk,hrel⟩
   ·exact h
attribute [push_cast] St.settleB
theorem zFg (xs:List (List Int))(r:List Int):dII xs++ [D.lst 2 (dI r)]=dII (xs++ [r]):=by simp [dII]
theorem zHJ (xs ys:List (List Int)):dII xs++dII ys=dII (xs++ys):=by simp [dII]
attribute [push_cast] zFg zHJ
structure Ar where
 owner:List Int
 next:List (List Int)
 deriving DecidableEq
def dAr (x:Ar):List D:= [DI x.owner,DII x.next]
def Ar.tot (x:Ar):Nat:=x.owner.length+vj x.next
structure Ar.Ln (B:Nat)(x:Ar):Prop where
 owner:LnI B x.owner
 next:vx B x.next
theorem Ar.ln_of {B:Nat}{x:Ar}(h:x.tot≤B):x.Ln B:=by
 unfold Ar.tot at h
 exact⟨YL (by omega),kC (by omega)⟩
set_option maxHeartbeats 1000000 in
theorem zIK (x:Ar)(l:Int)(h0:0≤l)(h1:l≤1048576)(ha:x.Ln 9223372036854775807):Fn Tryz.prog tyT 7 [.agg (dAr x), .c (.int .i64 l)] [.c (.int .i64 (szl l x.tot))]:=by
 have ht:x.tot=x.owner.length+vj x.next:=by unfold Ar.tot; omega
 unfold dAr
 refine zr (fn:=Tryz.f7) (ts:= [4]) Tryz.func7 (by kernel_rfl) rfl rfl (by rw [Tryz.ntmps7];exact Nat.le_of_ble_eq_true rfl) rfl (by simp only [szA,List.mem_cons,List.not_mem_nil,or_false,forall_eq_or_imp,forall_eq,VT.cells,szL];try decide) ?_
 rw [Tryz.ntmps7]
 push_cast
 refine zL fun K hK=> ?_
 refine zM zO zN [] rfl ?_
 push_cast
 repeat' apply And.intro
 all_goals try exact gB
 refine hK _ ?_;clear hK K
 have hA:=zFH x.owner (l) (by omega) (by omega) ha.owner
 refine zL fun K hK=> ?_
 refine zM zO zN [] rfl ?_
 push_cast
 refine⟨_,hA,?_⟩
 push_cast
 repeat' apply And.intro
 all_goals try exact gB
 refine hK _ ?_
 clear hK K hA
 refine zL fun K0 hK0=> ?_
 refine zL fun K hK=> ?_
 refine zM zO zN [] rfl ?_
 push_cast
 repeat' apply And.intro
 all_goals try exact gB
 refine hK _ ?_;clear hK K
 by_cases hn0:(l)<(x.owner.length:Nat)
 ·rw [qx hn0]
  refine zT rfl (fun hc=> ?_) (fun hc=> ?_)<;>(try simp only [push_cast]at hc)
  ·
   refine zL fun K hK=> ?_
   refine zM zO zN [] rfl ?_
   push_cast
   repeat' apply And.intro
   all_goals try exact gB
   refine hK _ ?_;clear hK K
   refine zW ?_
   refine⟨Or.inl rfl,?_⟩
   push_cast [za]
   rw [qx (by omega)]
  ·exact absurd hc (by decide)
 ·rw [we hn0]
  refine zT rfl (fun hc=> ?_) (fun hc=> ?_)<;>(try simp only [push_cast]at hc)
  ·exfalso;omega
  ·refine zU ?_
   refine hK0 _ ?_
   have hA:=zCv x.next (l - (x.owner.length:Nat)) (by omega) (by omega) ha.next
   refine zL fun K hK=> ?_
   refine zM zO zN [] rfl ?_
   push_cast
   refine⟨_,hA,?_⟩
   push_cast
   repeat' apply And.intro
   all_goals try exact gB
   refine hK _ ?_
   clear hK K hA
   refine zL fun K1 hK1=> ?_
   refine zL fun K hK=> ?_
   refine zM zO zN [] rfl ?_
   push_cast
   repeat' apply And.intro
   all_goals try exact gB
   refine hK _ ?_;clear hK K
   by_cases hn1:(l - (x.owner.length:Nat))<(vj x.next:Nat)
   ·rw [qx hn1]
    refine zT rfl (fun hc=> ?_) (fun hc=> ?_)<;>(try simp only [push_cast]at hc)
    ·
     refine zL fun K hK=> ?_
     refine zM zO zN [] rfl ?_
     push_cast
     repeat' apply And.intro
     all_goals try exact gB
     refine hK _ ?_;clear hK K
     refine zW ?_
     refine⟨Or.inl rfl,?_⟩
     push_cast [za]
     rw [qx (by omega)]
    ·exact absurd hc (by decide)
   ·rw [we hn1]
    refine zT rfl (fun hc=> ?_) (fun hc=> ?_)<;>(try simp only [push_cast]at hc)
    ·exfalso;omega
    ·refine zU ?_
     refine hK1 _ ?_
     refine zL fun K hK=> ?_
     refine zM zO zN [] rfl ?_
     push_cast
     repeat' apply And.intro
     all_goals try exact gB
     refine hK _ ?_;clear hK K
     refine zW ?_
     refine⟨Or.inl rfl,?_⟩
     push_cast [za]
     rw [we (by omega)];omega
set_option maxHeartbeats 1000000 in
theorem kq (x:Ar)(ha:x.Ln 1048576):Fn Tryz.prog tyT 10 [.agg (dAr x)] [.agg (dAr x)]:=by
 unfold dAr
 refine Kv (fn:=Tryz.f10) (rs:= [.cell 2 31]) zO zN Tryz.func10 (by kernel_rfl) rfl rfl (by rw [Tryz.ntmps10];exact Nat.le_of_ble_eq_true rfl) rfl (by simp only [szA,List.mem_cons,List.not_mem_nil,or_false,forall_eq_or_imp,forall_eq,VT.cells,szL];try decide) ?_
 rw [Tryz.ntmps10]
 push_cast
 refine zL fun K hK=> ?_
 refine zM zO zN [] rfl ?_
 push_cast
 repeat' apply And.intro
 all_goals try exact gB
 refine hK _ ?_;clear hK K
 refine zL fun K hK=> ?_
 refine zM zO zN [] rfl ?_
 push_cast
 repeat' apply And.intro
 all_goals try exact gB
 refine hK _ ?_;clear hK K
 have hA:=zFJ x.owner ha.owner
 refine zL fun K hK=> ?_
 refine zM zO zN [] rfl ?_
 push_cast
 refine⟨_,hA,?_⟩
 push_cast
 repeat' apply And.intro
 all_goals try exact gB
 refine hK _ ?_
 clear hK K hA
 have hA:=zCw x.next ha.next
 refine zL fun K hK=> ?_
 refine zM zO zN [] rfl ?_
 push_cast
 refine⟨_,hA,?_⟩
 push_cast
 repeat' apply And.intro
 all_goals try exact gB
 refine hK _ ?_
 clear hK K hA
 refine zL fun K hK=> ?_
 refine zM zO zN [] rfl ?_
 push_cast
 repeat' apply And.intro
 all_goals try exact gB
 refine hK _ ?_;clear hK K
 refine zW ?_
 refine⟨Or.inl rfl,?_⟩
 push_cast [za,yB,yZ]
 try rfl
set_option maxHeartbeats 1000000 in
theorem zHc (x:Ar)(ha:x.Ln 1048576):Fn Tryz.prog tyT 13 [.agg (dAr x), .agg (dAr x)] [.c (.bool true)]:=by
 unfold dAr
 refine zr (fn:=Tryz.f13) (ts:= [4]) Tryz.func13 (by kernel_rfl) rfl rfl (by rw [Tryz.ntmps13];exact Nat.le_of_ble_eq_true rfl) rfl (by simp only [szA,List.mem_cons,List.not_mem_nil,or_false,forall_eq_or_imp,forall_eq,VT.cells,szL];try decide) ?_
 rw [Tryz.ntmps13]
 push_cast
 refine zL fun K hK=> ?_
 refine zM zO zN [] rfl ?_
 push_cast
 repeat' apply And.intro
 all_goals try exact gB
 refine hK _ ?_;clear hK K
 refine zL fun K0 hK0=> ?_
 have hA:=zCU x.owner ha.owner
 refine zL fun K hK=> ?_
 refine zM zO zN [] rfl ?_
 push_cast
 refine⟨_,hA,?_⟩
 push_cast
 repeat' apply And.intro
 all_goals try exact gB
 refine hK _ ?_
 clear hK K hA
 refine zT rfl (fun hc=>by cases hc) (fun _=> ?_)
 refine zU ?_
 refine hK0 _ ?_
 refine zL fun K1 hK1=> ?_
 have hA:=zAa x.next ha.next
 refine zL fun K hK=> ?_
 refine zM zO zN [] rfl ?_
 push_cast
 refine⟨_,hA,?_⟩
 push_cast
 repeat' apply And.intro
 all_goals try exact gB
 refine hK _ ?_
 clear hK K hA
 refine zT rfl (fun hc=>by cases hc) (fun _=> ?_)
 refine zU ?_
 refine hK1 _ ?_
 refine zL fun K hK=> ?_
 refine zM zO zN [] rfl ?_
 push_cast
 repeat' apply And.intro
 all_goals try exact gB
 refine hK _ ?_;clear hK K
 refine zW ?_
 refine⟨Or.inl rfl,?_⟩
 push_cast [za]
def Ar.cnt (x:Ar):Nat:=x.owner.length+Yc x.next
theorem Ar.ln_mono {B C:Nat}(hB:B≤C){x:Ar}(h:x.Ln B):x.Ln C:=⟨LnI.mono hB h.owner,vx.mono hB h.next⟩
structure Wt where
 a:Ar
 cost:List (List Int)
 deriving DecidableEq
def Wt.tot (x:Wt):Nat:=x.a.owner.length+vj x.a.next+vj x.cost
structure Wt.Ln (B:Nat)(x:Wt):Prop where
 a:x.a.Ln B
 cost:vx B x.cost
theorem Wt.ln_of {B:Nat}{x:Wt}(h:x.tot≤B):x.Ln B:=by
 unfold Wt.tot at h
 exact⟨Ar.ln_of (by unfold Ar.tot;omega),kC (by omega)⟩
def Wt.cnt (x:Wt):Nat:=x.a.owner.length+Yc x.a.next+Yc x.cost
theorem Wt.ln_mono {B C:Nat}(hB:B≤C){x:Wt}(h:x.Ln B):x.Ln C:=⟨Ar.ln_mono hB h.a,vx.mono hB h.cost⟩
structure Ls where
 stem:List Int
 loop:List Int
 deriving DecidableEq
def Ls.tot (x:Ls):Nat:=x.stem.length+x.loop.length
structure Ls.Ln (B:Nat)(x:Ls):Prop where
 stem:LnI B x.stem
 loop:LnI B x.loop
theorem Ls.ln_of {B:Nat}{x:Ls}(h:x.tot≤B):x.Ln B:=by
 unfold Ls.tot at h
 exact⟨YL (by omega),YL (by omega)⟩
def Ls.cnt (x:Ls):Nat:=x.stem.length+x.loop.length
theorem Ls.ln_mono {B C:Nat}(hB:B≤C){x:Ls}(h:x.Ln B):x.Ln C:=⟨LnI.mono hB h.stem,LnI.mono hB h.loop⟩
structure Fm where
 names:List Int
 sets:List (List Int)
 deriving DecidableEq
def dFm (x:Fm):List D:= [DI x.names,DII x.sets]
def Fm.tot (x:Fm):Nat:=x.names.length+vj x.sets
structure Fm.Ln (B:Nat)(x:Fm):Prop where
 names:LnI B x.names
 sets:vx B x.sets
theorem Fm.ln_of {B:Nat}{x:Fm}(h:x.tot≤B):x.Ln B:=by
 unfold Fm.tot at h
 exact⟨YL (by omega),kC (by omega)⟩
set_option maxHeartbeats 1000000 in
theorem zIL (x:Fm)(l:Int)(h0:0≤l)(h1:l≤1048576)(ha:x.Ln 9223372036854775807):Fn Tryz.prog tyT 8 [.agg (dFm x), .c (.int .i64 l)] [.c (.int .i64 (szl l x.tot))]:=by
 have ht:x.tot=x.names.length+vj x.sets:=by unfold Fm.tot; omega
 unfold dFm
 refine zr (fn:=Tryz.f8) (ts:= [4]) Tryz.func8 (by kernel_rfl) rfl rfl (by rw [Tryz.ntmps8];exact Nat.le_of_ble_eq_true rfl) rfl (by simp only [szA,List.mem_cons,List.not_mem_nil,or_false,forall_eq_or_imp,forall_eq,VT.cells,szL];try decide) ?_
 rw [Tryz.ntmps8]
 push_cast
 refine zL fun K hK=> ?_
 refine zM zO zN [] rfl ?_
 push_cast
 repeat' apply And.intro
 all_goals try exact gB
 refine hK _ ?_;clear hK K
 have hA:=zFH x.names (l) (by omega) (by omega) ha.names
 refine zL fun K hK=> ?_
 refine zM zO zN [] rfl ?_
 push_cast
 refine⟨_,hA,?_⟩
 push_cast
 repeat' apply And.intro
 all_goals try exact gB
 refine hK _ ?_
 clear hK K hA
 refine zL fun K0 hK0=> ?_
 refine zL fun K hK=> ?_
 refine zM zO zN [] rfl ?_
 push_cast
 repeat' apply And.intro
 all_goals try exact gB
 refine hK _ ?_;clear hK K
 by_cases hn0:(l)<(x.names.length:Nat)
 ·rw [qx hn0]
  refine zT rfl (fun hc=> ?_) (fun hc=> ?_)<;>(try simp only [push_cast]at hc)
  ·
   refine zL fun K hK=> ?_
   refine zM zO zN [] rfl ?_
   push_cast
   repeat' apply And.intro
   all_goals try exact gB
   refine hK _ ?_;clear hK K
   refine zW ?_
   refine⟨Or.inl rfl,?_⟩
   push_cast [za]
   rw [qx (by omega)]
  ·exact absurd hc (by decide)
 ·rw [we hn0]
  refine zT rfl (fun hc=> ?_) (fun hc=> ?_)<;>(try simp only [push_cast]at hc)
  ·exfalso;omega
  ·refine zU ?_
   refine hK0 _ ?_
   have hA:=zCv x.sets (l - (x.names.length:Nat)) (by omega) (by omega) ha.sets
   refine zL fun K hK=> ?_
   refine zM zO zN [] rfl ?_
   push_cast
   refine⟨_,hA,?_⟩
   push_cast
   repeat' apply And.intro
   all_goals try exact gB
   refine hK _ ?_
   clear hK K hA
   refine zL fun K1 hK1=> ?_
   refine zL fun K hK=> ?_
   refine zM zO zN [] rfl ?_
   push_cast
   repeat' apply And.intro
   all_goals try exact gB
   refine hK _ ?_;clear hK K
   by_cases hn1:(l - (x.names.length:Nat))<(vj x.sets:Nat)
   ·rw [qx hn1]
    refine zT rfl (fun hc=> ?_) (fun hc=> ?_)<;>(try simp only [push_cast]at hc)
    ·
     refine zL fun K hK=> ?_
     refine zM zO zN [] rfl ?_
     push_cast
     repeat' apply And.intro
     all_goals try exact gB
     refine hK _ ?_;clear hK K
     refine zW ?_
     refine⟨Or.inl rfl,?_⟩
     push_cast [za]
     rw [qx (by omega)]
    ·exact absurd hc (by decide)
   ·rw [we hn1]
    refine zT rfl (fun hc=> ?_) (fun hc=> ?_)<;>(try simp only [push_cast]at hc)
    ·exfalso;omega
    ·refine zU ?_
     refine hK1 _ ?_
     refine zL fun K hK=> ?_
     refine zM zO zN [] rfl ?_
     push_cast
     repeat' apply And.intro
     all_goals try exact gB
     refine hK _ ?_;clear hK K
     refine zW ?_
     refine⟨Or.inl rfl,?_⟩
     push_cast [za]
     rw [we (by omega)];omega
set_option maxHeartbeats 1000000 in
theorem kr (x:Fm)(ha:x.Ln 1048576):Fn Tryz.prog tyT 11 [.agg (dFm x)] [.agg (dFm x)]:=by
 unfold dFm
 refine Kv (fn:=Tryz.f11) (rs:= [.cell 2 33]) zO zN Tryz.func11 (by kernel_rfl) rfl rfl (by rw [Tryz.ntmps11];exact Nat.le_of_ble_eq_true rfl) rfl (by simp only [szA,List.mem_cons,List.not_mem_nil,or_false,forall_eq_or_imp,forall_eq,VT.cells,szL];try decide) ?_
 rw [Tryz.ntmps11]
 push_cast
 refine zL fun K hK=> ?_
 refine zM zO zN [] rfl ?_
 push_cast
 repeat' apply And.intro
 all_goals try exact gB
 refine hK _ ?_;clear hK K
 refine zL fun K hK=> ?_
 refine zM zO zN [] rfl ?_
 push_cast
 repeat' apply And.intro
 all_goals try exact gB
 refine hK _ ?_;clear hK K
 have hA:=zFJ x.names ha.names
 refine zL fun K hK=> ?_
 refine zM zO zN [] rfl ?_
 push_cast
 refine⟨_,hA,?_⟩
 push_cast
 repeat' apply And.intro
 all_goals try exact gB
 refine hK _ ?_
 clear hK K hA
 have hA:=zCw x.sets ha.sets
 refine zL fun K hK=> ?_
 refine zM zO zN [] rfl ?_
 push_cast
 refine⟨_,hA,?_⟩
 push_cast
 repeat' apply And.intro
 all_goals try exact gB
 refine hK _ ?_
 clear hK K hA
 refine zL fun K hK=> ?_
 refine zM zO zN [] rfl ?_
 push_cast
 repeat' apply And.intro
 all_goals try exact gB
 refine hK _ ?_;clear hK K
 refine zW ?_
 refine⟨Or.inl rfl,?_⟩
 push_cast [za,yB,yZ]
 try rfl
set_option maxHeartbeats 1000000 in
theorem zHd (x:Fm)(ha:x.Ln 1048576):Fn Tryz.prog tyT 14 [.agg (dFm x), .agg (dFm x)] [.c (.bool true)]:=by
 unfold dFm
 refine zr (fn:=Tryz.f14) (ts:= [4]) Tryz.func14 (by kernel_rfl) rfl rfl (by rw [Tryz.ntmps14];exact Nat.le_of_ble_eq_true rfl) rfl (by simp only [szA,List.mem_cons,List.not_mem_nil,or_false,forall_eq_or_imp,forall_eq,VT.cells,szL];try decide) ?_
 rw [Tryz.ntmps14]
 push_cast
 refine zL fun K hK=> ?_
 refine zM zO zN [] rfl ?_
 push_cast
 repeat' apply And.intro
 all_goals try exact gB
 refine hK _ ?_;clear hK K
 refine zL fun K0 hK0=> ?_
 have hA:=zCU x.names ha.names
 refine zL fun K hK=> ?_
 refine zM zO zN [] rfl ?_
 push_cast
 refine⟨_,hA,?_⟩
 push_cast
 repeat' apply And.intro
 all_goals try exact gB
 refine hK _ ?_
 clear hK K hA
 refine zT rfl (fun hc=>by cases hc) (fun _=> ?_)
 refine zU ?_
 refine hK0 _ ?_
 refine zL fun K1 hK1=> ?_
 have hA:=zAa x.sets ha.sets
 refine zL fun K hK=> ?_
 refine zM zO zN [] rfl ?_
 push_cast
 refine⟨_,hA,?_⟩
 push_cast
 repeat' apply And.intro
 all_goals try exact gB
 refine hK _ ?_
 clear hK K hA
 refine zT rfl (fun hc=>by cases hc) (fun _=> ?_)
 refine zU ?_
 refine hK1 _ ?_
 refine zL fun K hK=> ?_
 refine zM zO zN [] rfl ?_
 push_cast
 repeat' apply And.intro
 all_goals try exact gB
 refine hK _ ?_;clear hK K
 refine zW ?_
 refine⟨Or.inl rfl,?_⟩
 push_cast [za]
def Fm.cnt (x:Fm):Nat:=x.names.length+Yc x.sets
theorem Fm.ln_mono {B C:Nat}(hB:B≤C){x:Fm}(h:x.Ln B):x.Ln C:=⟨LnI.mono hB h.names,vx.mono hB h.sets⟩
structure Pr where
 ask:List Int
 give:List Int
 deriving DecidableEq
def Pr.tot (x:Pr):Nat:=x.ask.length+x.give.length
structure Pr.Ln (B:Nat)(x:Pr):Prop where
 ask:LnI B x.ask
 give:LnI B x.give
theorem Pr.ln_of {B:Nat}{x:Pr}(h:x.tot≤B):x.Ln B:=by
 unfold Pr.tot at h
 exact⟨YL (by omega),YL (by omega)⟩
def Pr.cnt (x:Pr):Nat:=x.ask.length+x.give.length
theorem Pr.ln_mono {B C:Nat}(hB:B≤C){x:Pr}(h:x.Ln B):x.Ln C:=⟨LnI.mono hB h.ask,LnI.mono hB h.give⟩
end Go.Proofs.YthepmdkpbjfdcaaGreat
