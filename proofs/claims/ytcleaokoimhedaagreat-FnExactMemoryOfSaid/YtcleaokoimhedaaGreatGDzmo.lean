/- Numbers, truth values and rows as data; what the evaluation yj of them. -/
import Derived.Test.YtcleaokoimhedaaGreatTyzmo
import Derived.Laws.CopyRow
namespace Go.Proofs.YtcleaokoimhedaaGreat
open Nat renaming reduceMod → zA, reduceMul → zB, reduceDiv → zC, reduceAdd → zD, reduceSub → zE, reduceEqDiff → zF, reduceBEq → zG, reduceLT → zH, reduceLeDiff → zI
open Go.RowKit
set_option linter.unusedVariables false
set_option linter.unusedSimpArgs false
def gi (xs:List Int)(k:Nat):Int:=xs.getD k 0
def gl (rows:List (List Int))(k:Nat):List Int:=rows.getD k []
def gb (xs:List Bool)(k:Nat):Bool:=xs.getD k false
theorem qk {xs:List Int}{k:Nat}(h:k<xs.length):xs[k]? =some (gi xs k):=by
 unfold gi;rw [List.getD_eq_getElem?_getD,List.getElem?_eq_getElem h];rfl
theorem Zs {xs:List (List Int)}{k:Nat}(h:k<xs.length):xs[k]? =some (gl xs k):=by
 unfold gl;rw [List.getD_eq_getElem?_getD,List.getElem?_eq_getElem h];rfl
theorem zKO {xs:List Bool}{k:Nat}(h:k<xs.length):xs[k]? =some (gb xs k):=by
 unfold gb;rw [List.getD_eq_getElem?_getD,List.getElem?_eq_getElem h];rfl
def dI (xs:List Int):List D:=xs.map (.int .i64)
def dB (xs:List Bool):List D:=xs.map .bool
def dII (xss:List (List Int)):List D:=xss.map fun r=> .lst 2 (dI r)
@[reducible] def DI (xs : List Int) : D := .lst 2 (dI xs)
@[reducible] def DII (xss : List (List Int)) : D := .lst 22 (dII xss)
theorem WT (xs:List Int):(dI xs).length=xs.length:=by simp [dI]
theorem zNV (xs:List Bool):(dB xs).length=xs.length:=by simp [dB]
theorem qP (xs:List (List Int)):(dII xs).length=xs.length:=by simp [dII]
theorem zLQ (xs:List Int)(i:Nat):Qk (dI xs) i=gi xs i:=by
 unfold Qk dI gi
 rw [List.getElem?_map,List.getD_eq_getElem?_getD]
 cases xs[i]? <;>rfl
theorem zLP (xs:List Bool)(i:Nat):getB (dB xs) i=gb xs i:=by
 unfold getB dB gb
 rw [List.getElem?_map,List.getD_eq_getElem?_getD]
 cases xs[i]? <;>rfl
theorem zC4 (xs:List (List Int))(i:Nat):xn (dII xs) i=dI (gl xs i):=by
 unfold xn dII gl
 rw [List.getElem?_map,List.getD_eq_getElem?_getD]
 cases xs[i]? <;>rfl
theorem zQ {xs:List (List Int)}{i:Nat}(h:i<xs.length):vY (dII xs) i=2:=by
 unfold vY dII
 rw [List.getElem?_map,List.getElem?_eq_getElem h]
 rfl
theorem zKn (xs:List Int)(i:Nat):qF (.int .i64) (dI xs) i=(i<xs.length):=by
 unfold qF dI
 rw [List.getElem?_map]
 apply propext
 constructor
 ·rintro⟨n,h⟩
  rcases Nat.lt_or_ge i xs.length with h'|h'
  ·exact h'
  ·rw [List.getElem?_eq_none h']at h;cases h
 ·intro h;rw [List.getElem?_eq_getElem h];exact⟨_,rfl⟩
theorem zKm (xs:List Bool)(i:Nat):qF .bool (dB xs) i=(i<xs.length):=by
 unfold qF dB
 rw [List.getElem?_map]
 apply propext
 constructor
 ·rintro⟨n,h⟩
  rcases Nat.lt_or_ge i xs.length with h'|h'
  ·exact h'
  ·rw [List.getElem?_eq_none h']at h;cases h
 ·intro h;rw [List.getElem?_eq_getElem h];exact⟨_,rfl⟩
theorem zIa (xs:List (List Int))(i:Nat):qF (.sl 2) (dII xs) i=(i<xs.length):=by
 unfold qF dII
 rw [List.getElem?_map]
 apply propext
 constructor
 ·rintro⟨n,h⟩
  rcases Nat.lt_or_ge i xs.length with h'|h'
  ·exact h'
  ·rw [List.getElem?_eq_none h']at h;cases h
 ·intro h;rw [List.getElem?_eq_getElem h];exact⟨_,rfl⟩
theorem zGX (xs:List (List Int))(i:Nat):zn (dII xs) [i]=(i<xs.length):=by
 apply propext
 simp only [zn,and_true]
 unfold dII
 rw [List.getElem?_map]
 constructor
 ·rintro⟨e,n,h⟩
  rcases Nat.lt_or_ge i xs.length with h'|h'
  ·exact h'
  ·rw [List.getElem?_eq_none h']at h;cases h
 ·intro h;rw [List.getElem?_eq_getElem h];exact⟨_,_,rfl⟩
theorem zGY (xs:List D):zn xs []=True:=by simp [zn]
theorem zLC (xs:List Int)(n:Nat):(dI xs).drop n=dI (xs.drop n):=by simp [dI]
theorem zML (xs:List Int)(n:Nat):(dI xs).take n=dI (xs.take n):=by simp [dI]
theorem zI3 (xs:List (List Int))(n:Nat):(dII xs).drop n=dII (xs.drop n):=by simp [dII]
theorem zKE (xs:List (List Int))(n:Nat):(dII xs).take n=dII (xs.take n):=by simp [dII]
theorem zMm (xs ys:List Int):dI xs++dI ys=dI (xs++ys):=by simp [dI]
theorem zIo (xs:List Int):(dI xs).all xj=true:=by simp [dI,xj]
theorem zIn (xs:List Bool):(dB xs).all xj=true:=by simp [dB,xj]
theorem zII (xs:List Int)(i:Nat)(n:Int):(dI xs).set i (.int .i64 n)=dI (xs.set i n):=by simp [dI]
theorem zNu (xs:List Bool)(i:Nat)(b:Bool):(dB xs).set i (.bool b)=dB (xs.set i b):=by simp [dB]
theorem VW (xs:List (List Int))(j i:Nat)(n:Int)(h:j<xs.length):ql (dII xs) [j] i (.int .i64 n)=dII (xs.set j ((gl xs j).set i n)):=by
 simp only [ql,zC4,zII,zQ h]
 unfold dII
 rw [List.map_set]
theorem zNj (n:Int): [D.int .i64 n]=dI [n]:=rfl
theorem zKz (xs:List Int)(n:Int):dI xs++ [D.int .i64 n]=dI (xs++ [n]):=by simp [dI]
theorem zNq (n:Nat)(x:Int):List.replicate n (D.int .i64 x)=dI (List.replicate n x):=by simp [dI]
theorem zNp (n:Nat)(x:Bool):List.replicate n (D.bool x)=dB (List.replicate n x):=by simp [dB]
theorem zIQ (n:Nat):((n:Int)).toNat=n:=Int.toNat_natCast n
def zb (s:List (Nat×AV)):List (Nat×AV)→Prop
 | []=>True
 |(k,v)::l=>(v= .dead∨lk s k=some v)∧zb s l
def za {α:Type}(s:List (Nat×α)):List (Nat×α)→Prop
 | []=>True
 |(k,v)::l=>lk s k=some v∧za s l
theorem zE7 {s:List (Nat×AV)}: ∀{l:List (Nat×AV)},zb s l→∀k v,lk l k=some v→v= .dead∨lk s k=some v
 | [],_,k,v,h=>by simp [lk]at h
 |(j,u)::l,hc,k,v,h=>by
  simp only [zi]at h
  split at h
  ·rename_i e;subst e;cases h;exact hc.1
  ·exact zE7 hc.2 k v h
theorem Uy {α:Type}{s:List (Nat×α)}: ∀{l:List (Nat×α)},za s l→∀k v,lk l k=some v→lk s k=some v
 | [],_,k,v,h=>by simp [lk]at h
 |(j,u)::l,hc,k,v,h=>by
  simp only [zi]at h
  split at h
  ·rename_i e;subst e;cases h;exact hc.1
  ·exact Uy hc.2 k v h
theorem zY {st st':St}(h1:st'.n=st.n)(h2:zb st.s st'.s)(h3:za st.b st'.b)(h4:za st.r st'.r):Cov st st':=⟨h1,zE7 h2,Uy h3,Uy h4⟩
theorem zIH (xs:List D)(i:Nat)(x:D):ql xs [] i x=xs.set i x:=rfl
theorem zGk (k:Nat):((k:Int) - 1).toNat=k - 1:=by omega
theorem zGj (k:Nat):((k:Int)+1).toNat=k+1:=by omega
theorem zNJ (e:TypeId)(ys l:List D):xn (.lst e ys::l) 0=ys:=rfl
theorem zNI (x:D)(l:List D)(i:Nat):xn (x::l) (i+1)=xn l i:=rfl
theorem zNF (e:TypeId)(ys l:List D):vY (.lst e ys::l) 0=e:=rfl
theorem zNE (x:D)(l:List D)(i:Nat):vY (x::l) (i+1)=vY l i:=rfl
theorem zNH (k:IntKind)(n:Int)(l:List D):Qk (.int k n::l) 0=n:=rfl
theorem zNG (x:D)(l:List D)(i:Nat):Qk (x::l) (i+1)=Qk l i:=rfl
theorem zJj (e:TypeId)(ys l:List D)(q:List Nat):zn (.lst e ys::l) (0::q)=zn ys q:=by
 apply propext
 simp only [zn,List.getElem?_cons_zero]
 constructor
 ·rintro⟨e',ys',h,h2⟩;cases h;exact h2
 ·exact fun h=>⟨e,ys,rfl,h⟩
theorem zJi (x:D)(l:List D)(i:Nat)(q:List Nat):zn (x::l) ((i+1)::q)=zn l (i::q):=by
 simp only [zn,List.getElem?_cons_succ]
theorem zKq (e e':TypeId)(ys l:List D):qF (.sl e) (.lst e' ys::l) 0=(e=e'):=by
 apply propext
 simp only [qF,List.getElem?_cons_zero]
 constructor
 ·rintro⟨ys',h⟩;cases h;rfl
 ·rintro rfl;exact⟨ys,rfl⟩
theorem zKp (k k':IntKind)(n:Int)(l:List D):qF (.int k) (.int k' n::l) 0=(k=k'):=by
 apply propext
 simp only [qF,List.getElem?_cons_zero]
 constructor
 ·rintro⟨ys',h⟩;cases h;rfl
 ·rintro rfl;exact⟨n,rfl⟩
theorem zMc (c:CK)(x:D)(l:List D)(i:Nat):qF c (x::l) (i+1)=qF c l i:=by
 cases c<;>simp only [qF,List.getElem?_cons_succ]
attribute [push_cast] zNJ zNI zNF zNE zNH zNG zJj zJi zKq zKp zMc
attribute [push_cast] KO Zt Ur zAW wB Zh Wu fpA vW fpB fpC Vh vc YR zBq qI Decidable.not_not Int.zero_add Bool.true_or Bool.or_true Int.toNat_zero Int.toNat_one zGk zGj false_implies true_implies decide_eq_true_eq decide_eq_false_iff_not Bool.not_eq_true' Bool.not_eq_false' beq_iff_eq beq_eq_false_iff_ne bne_iff_ne bne_eq_false_iff_eq Int.add_zero Option.some_beq_none Zj YC Jg epL XT.cells fewX ZM XX Ys ZL YS vD VF Zq WG mkF Wz shE arC IntKind.bits jB ub xv Qp wV je ZD VV apart qX vy Xx wC vE zDp zDq few Xa UI Zi Zg wY List.mem_cons List.not_mem_nil Option.isNone_some Option.isNone_none List.set_cons_zero List.singleton_append zIH wt zAY St.moveTo xr yk St.settle St.app St.start St.cut ux AV.cut AV.cutL Zn Xz wg Vo Vp Yo YW Xk orE ZQ repC vn VZ O3.own Zc vI wl wy JO kx wE Vy Yp Ve vA Dl.skip Dl.wr fp AV.nm AV.nmL Op.operands Call.operands St.clean yj List.foldr_cons List.foldr_nil St.reset vF aop yH zw zKN qY effM qw ev zi xA cv cv1 Uw ar JB jF unE vj Yb zCy Yc onR Yi YY JN wv zAQ zAS jV WJ wL fieldsOf lay ZZ zGY zGX yU vJ Zr wX zBm zKn zKm zIa zLQ zLP zC4 WT zNV qP zLC zML zI3 zKE zMm zIo zIn zII zNu zKz zNq zNp zIQ hom qx zBu Ye vh wA St.put St.addR St.delR St.moveR St.appG appG zBs zBt St.setR St.setB St.addB St.kill vx rm AV.kill AV.killL is1 noB zc Wl appE jU zBw zAN scE scD uJ CK.zeroD TK.cells O3.isSh O3.isEx cellsOf xM zBy vg yu yf yd zr VT.cells xO qJ szL Zp wI wZ xX xZ zR zS qQ vV YL XN UE uv Option.map_some Option.map_none Option.getD_some Option.getD_none List.map_cons List.map_nil List.getElem?_cons_zero List.getElem?_cons_succ List.getElem?_nil List.getD_cons_zero List.getD_cons_succ List.headD_cons List.tail_cons List.cons_append List.nil_append List.append_nil List.length_cons List.length_nil List.drop_zero List.take_zero List.drop_succ_cons List.take_succ_cons List.filter_cons List.filter_nil List.contains_cons List.contains_nil List.all_cons List.all_nil List.take_length Int.natCast_add Int.natCast_one Int.natCast_zero Int.cast_ofNat_Int Nat.zero_add Nat.add_zero Nat.mul_one Nat.div_one Nat.sub_zero Nat.zero_le if_true if_false true_and and_true and_self true_or or_true false_or or_false not_true_eq_false not_false_eq_true implies_true forall_const Bool.true_and Bool.and_true Bool.false_and Bool.and_false Bool.or_false Bool.false_or Bool.not_true Bool.not_false Bool.false_eq_true beq_self_eq_true eq_self_iff_true Option.some.injEq id_eq List.toList_toArray decide_true decide_false ne_eq forall_eq
def JE (a b:List Int):Bool:=a==b
theorem zI7 {a b:List Int}(h: ¬a.length=b.length):JE a b=false:=by
 unfold JE
 rw [beq_eq_false_iff_ne]
 rintro rfl
 exact h rfl
set_option maxHeartbeats 1000000 in
theorem kG (a b:List Int)(ha:a.length≤1048576):Fn Tryz.prog tyT 37 [.c (DI a), .c (DI b)] [.c (.bool (JE a b))]:=by
 refine zv (fn:=Tryz.f37) (ts:= [4]) Tryz.func37 (by kernel_rfl) rfl rfl (by rw [Tryz.ntmps37];exact Nat.le_of_ble_eq_true rfl) rfl (by simp only [szA,List.mem_cons,List.not_mem_nil,or_false,forall_eq_or_imp,forall_eq,VT.cells,szL];try decide) ?_
 rw [Tryz.ntmps37]
 push_cast
 refine zL fun K hK=> ?_
 refine zM zO zN [] rfl ?_
 push_cast
 repeat' apply And.intro
 all_goals try exact gB
 refine hK _ ?_;clear hK K
 refine zL fun K1 hK1=> ?_
 refine zL fun K hK=> ?_
 refine zM zO zN [] rfl ?_
 push_cast
 repeat' apply And.intro
 all_goals try exact gB
 refine hK _ ?_;clear hK K
 refine zT rfl (fun hc=> ?_) (fun hc=> ?_)<;>(try simp only [push_cast]at hc)
 ·
  refine zL fun K hK=> ?_
  refine zM zO zN [] rfl ?_
  push_cast
  repeat' apply And.intro
  all_goals try exact gB
  refine hK _ ?_;clear hK K
  refine zZ ?_
  refine⟨Or.inl rfl,?_⟩
  push_cast [zd]
  rw [zI7 (by omega)]
 ·refine zU ?_
  refine hK1 _ ?_
  have hl:a.length=b.length:=by omega
  refine zL fun K2 hK2=> ?_
  refine zL fun K hK=> ?_
  refine zM zO zN [] rfl ?_
  push_cast
  repeat' apply And.intro
  all_goals try exact gB
  refine hK _ ?_;clear hK K
  refine zV ?_
  refine zg [5,4,11,12,13,14,15,16,17,18,19,20,21,22,23,24,25] [] (fun k:Nat=> [(5, .int .i64 k)]) (fun _=> []) (fun _=> []) (fun k=>k≤a.length∧∀j,j<k→gi a j=gi b j) (fun k=>a.length - k) 0 ?_ ⟨by omega,fun j hj=>by omega⟩ ?_
  ·refine zY rfl ?_ ?_ ?_<;>push_cast [zb,za]
  ·rintro k ⟨hk,hall⟩ K0 hK0
   push_cast
   refine zL fun K3 hK3=> ?_
   refine zL fun K hK=> ?_
   refine zM zO zN [] rfl ?_
   push_cast
   repeat' apply And.intro
   all_goals try exact gB
   refine hK _ ?_;clear hK K
   refine zT rfl (fun hc=> ?_) (fun hc=> ?_)<;>(try simp only [push_cast]at hc)
   ·refine zU ?_
    refine hK3 _ ?_
    refine zL fun K4 hK4=> ?_
    refine zV ?_
    refine zL fun K hK=> ?_
    refine xY false zO zN ya ?_ rfl ?_
    ·kernel_rfl
    intro C hC
    push_cast
    repeat' apply And.intro
    all_goals first|omega|with_reducible assumption|(refine hC _ ?_;kernel_rfl)|(simp only [List.length_set,List.length_append,List.length_replicate,List.length_cons,List.length_nil];omega)|skip
    all_goals first|(refine hK _ ?_;clear hC C hK K)|(simp only [push_cast];done)
    refine zT rfl (fun hc=> ?_) (fun hc=> ?_)<;>(try simp only [push_cast]at hc)
    ·
     refine zL fun K hK=> ?_
     refine zM zO zN [] rfl ?_
     push_cast
     repeat' apply And.intro
     all_goals try exact gB
     refine hK _ ?_;clear hK K
     refine zZ ?_
     refine⟨Or.inl rfl,?_⟩
     push_cast [zd]
     unfold JE
     rw [beq_eq_false_iff_ne.2]
     rintro rfl
     exact hc rfl
    ·refine zU ?_
     refine hK4 _ ?_
     refine zM zO zN [] rfl ?_
     push_cast
     repeat' apply And.intro
     all_goals try exact gB
     refine hK0 _ ⟨k+1,⟨by omega,fun j hj=> ?_⟩,by omega,?_⟩
     ·by_cases h:j=k
      ·subst h;exact hc
      ·exact hall j (by omega)
     ·refine zY rfl ?_ ?_ ?_<;>push_cast [zb,za]
   ·refine zh ?_
    refine hK2 _ ?_
    refine zL fun K hK=> ?_
    refine zM zO zN [] rfl ?_
    push_cast
    repeat' apply And.intro
    all_goals try exact gB
    refine hK _ ?_;clear hK K
    refine zZ ?_
    refine⟨Or.inl rfl,?_⟩
    push_cast [zd]
    have :a=b:=by
     refine List.ext_getElem hl fun j h1 h2=> ?_
     have h3:=hall j (by omega)
     have h4:=qk h1
     have h5:=qk h2
     rw [List.getElem?_eq_getElem h1]at h4
     rw [List.getElem?_eq_getElem h2]at h5
     injection h4 with h4
     injection h5 with h5
     rw [h4,h5,h3]
    subst this
    simp [JE]
def pre (a:List Int)(k:Nat):List Int:=a.take k++List.replicate (a.length - k) 0
theorem zL3 {a:List Int}{k:Nat}(h:k≤a.length):(pre a k).length=a.length:=by simp [pre];omega
theorem pre_0 (a:List Int):pre a 0=List.replicate a.length 0:=by simp [pre]
theorem zL2 (a:List Int):pre a a.length=a:=by simp [pre]
theorem zL4 {a:List Int}{k:Nat}(h:k<a.length):(pre a k).set k (gi a k)=pre a (k+1):=by
 apply List.ext_getElem?
 intro j
 unfold pre
 rw [List.getElem?_set,List.getElem?_append,List.getElem?_append]
 have h1:=qk h
 have e1:min k a.length=k:=by omega
 have e2:min (k+1) a.length=k+1:=by omega
 simp only [List.length_append,List.length_take,List.length_replicate,List.getElem?_take,List.getElem?_replicate,e1,e2]
 by_cases hj:k=j
 ·subst hj
  rw [if_pos rfl,if_pos (by omega),if_pos (by omega),if_pos (by omega),h1]
 ·rw [if_neg hj]
  by_cases hjk:j<k
  ·simp only [if_pos hjk,if_pos (show j<k+1 by omega)]
  ·simp only [if_neg hjk,if_neg (show ¬j<k+1 by omega)]
   by_cases h2:j - k<a.length - k
   ·rw [if_pos h2,if_pos (by omega)]
   ·rw [if_neg h2,if_neg (by omega)]
set_option maxHeartbeats 1000000 in
theorem kV (a:List Int)(ha:a.length≤1048576):Fn Tryz.prog tyT 25 [.c (DI a)] [.c (DI a)]:=by
 refine zv (fn:=Tryz.f25) (ts:= [2]) Tryz.func25 (by kernel_rfl) rfl rfl (by rw [Tryz.ntmps25];exact Nat.le_of_ble_eq_true rfl) rfl (by simp only [szA,List.mem_cons,List.not_mem_nil,or_false,forall_eq_or_imp,forall_eq,VT.cells,szL];try decide) ?_
 rw [Tryz.ntmps25]
 push_cast
 refine zL fun K hK=> ?_
 refine zM zO zN [] rfl ?_
 push_cast
 repeat' apply And.intro
 all_goals try exact gB
 refine hK _ ?_;clear hK K
 refine zL fun K hK=> ?_
 refine zM zO zN [] rfl ?_
 push_cast
 repeat' apply And.intro
 all_goals try exact gB
 refine hK _ ?_;clear hK K
 refine zL fun K1 hK1=> ?_
 refine zL fun K hK=> ?_
 refine zM zO zN [] rfl ?_
 push_cast
 repeat' apply And.intro
 all_goals try exact gB
 refine hK _ ?_;clear hK K
 refine zV ?_
 refine zg [4,8,9,10,11,12,13,14,15,16,17,18,19,20,3] [] (fun k:Nat=> [(4, .int .i64 k),(3, .sl 48 [] 0 a.length 2)]) (fun _=> []) (fun k=> [(48,⟨.ex,2,dI (pre a k),none⟩)]) (fun k=>k≤a.length) (fun k=>a.length - k) 0 ?_ (by omega) ?_
 ·rw [pre_0]
  refine zY rfl ?_ ?_ ?_<;>push_cast [zb,za]
 ·rintro k hk K0 hK0
  have hpl:=zL3 hk
  push_cast
  refine zL fun K2 hK2=> ?_
  refine zL fun K hK=> ?_
  refine zM zO zN [] rfl ?_
  push_cast
  repeat' apply And.intro
  all_goals try exact gB
  refine hK _ ?_;clear hK K
  refine zT rfl (fun hc=> ?_) (fun hc=> ?_)<;>(try simp only [push_cast]at hc)
  ·refine zU ?_
   refine hK2 _ ?_
   refine zL fun K3 hK3=> ?_
   refine zV ?_
   refine zM zO zN [] rfl ?_
   push_cast
   repeat' apply And.intro
   all_goals try exact gB
   rw [zL4 (by omega)]
   refine hK3 _ ?_
   refine zM zO zN [] rfl ?_
   push_cast
   repeat' apply And.intro
   all_goals try exact gB
   refine hK0 _ ⟨k+1,by omega,by omega,?_⟩
   refine zY rfl ?_ ?_ ?_<;>push_cast [zb,za]
  ·refine zh ?_
   refine hK1 _ ?_
   have hk':k=a.length:=by omega
   subst hk'
   rw [zL2]
   refine zL fun K hK=> ?_
   refine zM zO zN [] rfl ?_
   push_cast
   repeat' apply And.intro
   all_goals try exact gB
   refine hK _ ?_;clear hK K
   refine zZ ?_
   refine⟨Or.inl rfl,?_⟩
   push_cast [zd]
   trace_state
def Vw (a:List (List Int))(k:Nat):List (List Int):=a.take k++List.replicate (a.length - k) []
theorem zJr {a:List (List Int)}{k:Nat}(h:k≤a.length):(Vw a k).length=a.length:=by simp [Vw];omega
theorem zNm (a:List (List Int)):dII (Vw a 0)=List.replicate a.length (D.lst 2 []):=by simp [Vw,dII,dI]
theorem zJq (a:List (List Int)):Vw a a.length=a:=by simp [Vw]
theorem zDF {r:List (List Int)}{k:Nat}{x:List Int}(h:k<r.length):dII (List.take k r)++ [D.lst 2 (dI x)]++dII (List.drop (k+1) r)=dII (r.set k x):=by
 rw [List.set_eq_take_append_cons_drop,if_pos h]
 simp [dII]
theorem zJs {a:List (List Int)}{k:Nat}(h:k<a.length):(Vw a k).set k (gl a k)=Vw a (k+1):=by
 have h1:=Zs h
 have hk:(a.take k).length=k:=by rw [List.length_take];omega
 have e:a.take (k+1)=a.take k++ [gl a k]:=by
  rw [List.take_add_one,h1];rfl
 unfold Vw
 rw [List.set_append_right _ _ (by omega),hk,Nat.sub_self,show a.length - k=(a.length - (k+1))+1 from by omega,List.replicate_succ,List.set_cons_zero,e,List.append_assoc]
 rfl
set_option maxHeartbeats 1000000 in
theorem zD3 (a:List (List Int))(ha:a.length≤1048576)(hr: ∀r∈a,r.length≤1048576):Fn Tryz.prog tyT 26 [.c (DII a)] [.c (DII a)]:=by
 refine zv (fn:=Tryz.f26) (ts:= [2]) Tryz.func26 (by kernel_rfl) rfl rfl (by rw [Tryz.ntmps26];exact Nat.le_of_ble_eq_true rfl) rfl (by simp only [szA,List.mem_cons,List.not_mem_nil,or_false,forall_eq_or_imp,forall_eq,VT.cells,szL];try decide) ?_
 rw [Tryz.ntmps26]
 push_cast
 refine zL fun K hK=> ?_
 refine zM zO zN [] rfl ?_
 push_cast
 repeat' apply And.intro
 all_goals try exact gB
 refine hK _ ?_;clear hK K
 refine zL fun K hK=> ?_
 refine zM zO zN [] rfl ?_
 push_cast
 repeat' apply And.intro
 all_goals try exact gB
 refine hK _ ?_;clear hK K
 refine zL fun K1 hK1=> ?_
 refine zL fun K hK=> ?_
 refine zM zO zN [] rfl ?_
 push_cast
 repeat' apply And.intro
 all_goals try exact gB
 refine hK _ ?_;clear hK K
 refine zV ?_
 refine zg [4,8,9,10,11,12,13,14,15,16,17,18,19,20,21,3] [] (fun k:Nat=> [(4, .int .i64 k),(3, .sl 48 [] 0 a.length 22)]) (fun _=> []) (fun k=> [(48,⟨.ex,22,dII (Vw a k),none⟩)]) (fun k=>k≤a.length) (fun k=>a.length - k) 0 ?_ (by omega) ?_
 ·rw [zNm]
  refine zY rfl ?_ ?_ ?_<;>push_cast [zb,za]
 ·rintro k hk K0 hK0
  have hpl:=zJr hk
  push_cast
  refine zL fun K2 hK2=> ?_
  refine zL fun K hK=> ?_
  refine zM zO zN [] rfl ?_
  push_cast
  repeat' apply And.intro
  all_goals try exact gB
  refine hK _ ?_;clear hK K
  refine zT rfl (fun hc=> ?_) (fun hc=> ?_)<;>(try simp only [push_cast]at hc)
  ·refine zU ?_
   refine hK2 _ ?_
   refine zL fun K3 hK3=> ?_
   refine zV ?_
   refine zf true zO zN ?_ rfl ?_
   ·kernel_rfl
   push_cast
   refine⟨by omega,by omega,⟨by omega,zQ (by omega)⟩,_,kV (gl a k) ?_,?_⟩
   ·exact hr _ (List.mem_of_getElem? (Zs (by omega)))
   push_cast
   repeat' apply And.intro
   all_goals try exact gB
   rw [zDF (by omega),zJs (by omega)]
   refine hK3 _ ?_
   refine zM zO zN [] rfl ?_
   push_cast
   repeat' apply And.intro
   all_goals try exact gB
   refine hK0 _ ⟨k+1,by omega,by omega,?_⟩
   refine zY rfl ?_ ?_ ?_<;>push_cast [zb,za]
  ·refine zh ?_
   refine hK1 _ ?_
   have hk':k=a.length:=by omega
   subst hk'
   rw [zJq]
   refine zL fun K hK=> ?_
   refine zM zO zN [] rfl ?_
   push_cast
   repeat' apply And.intro
   all_goals try exact gB
   refine hK _ ?_;clear hK K
   refine zZ ?_
   refine⟨Or.inl rfl,?_⟩
   push_cast [zd]
def iot (k:Int):Nat→List Int
 |0=> []
 |n+1=>iot k n++ [k+n]
theorem ZU (k:Int): ∀n,(iot k n).length=n
 |0=>rfl
 |n+1=>by simp [iot,ZU k n]
def mk1 (k:Int)(xs:List Int)(j:Nat):List Int:=iot k j++xs.drop j
theorem zLm {k:Int}{xs:List Int}{j:Nat}(h:j≤xs.length):(mk1 k xs j).length=xs.length:=by simp [mk1,ZU];omega
theorem zLn {k:Int}{xs:List Int}{j:Nat}(h:j<xs.length):(mk1 k xs j).set j (k+j)=mk1 k xs (j+1):=by
 unfold mk1
 rw [List.set_append_right _ _ (by rw [ZU];omega),ZU,Nat.sub_self,List.drop_eq_getElem_cons h,List.set_cons_zero]
 simp [iot]
theorem mk1_0 (k:Int)(xs:List Int):mk1 k xs 0=xs:=by simp [mk1,iot]
theorem zNQ {k:Int}{n j:Nat}(h:j<n):gi (iot k n) j=k+j:=by
 induction n with
 |zero=>omega
 |succ n ih=>
  unfold gi at ih⊢
  rw [List.getD_eq_getElem?_getD]at ih⊢
  simp only [iot]
  by_cases hj:j<n
  ·rw [List.getElem?_append_left (by rw [ZU];exact hj)];exact ih hj
  ·have :j=n:=by omega
   subst this
   rw [List.getElem?_append_right (by rw [ZU];exact Nat.le_refl _),ZU,Nat.sub_self]
   rfl
theorem zLl (k:Int)(xs:List Int):mk1 k xs xs.length=iot k xs.length:=by simp [mk1]
set_option maxHeartbeats 1000000 in
theorem Xi (xs:List Int)(k:Int)(h0:0≤k)(h1:k+xs.length≤4611686018427387904):FnG Tryz.prog tyT 39 [.c (DI xs), .c (.int .i64 k)] [0] [(0,2,dI (iot k xs.length))] [.c (.int .i64 (k+xs.length))]:=by
 refine QV (fn:=Tryz.f39) (rs:= [.tmp 4]) (own:= [0]) (outs:= [(0,2,dI (iot k xs.length))]) zO zN Tryz.func39 (by kernel_rfl) rfl rfl (by rw [Tryz.ntmps39];exact Nat.le_of_ble_eq_true rfl) rfl (by simp only [szA,List.mem_cons,List.not_mem_nil,or_false,forall_eq_or_imp,forall_eq,VT.cells,szL];try decide) ?_
 rw [Tryz.ntmps39]
 push_cast
 refine zL fun K hK=> ?_
 refine zM zO zN [] rfl ?_
 push_cast
 repeat' apply And.intro
 all_goals try exact gB
 refine hK _ ?_;clear hK K
 refine zL fun K1 hK1=> ?_
 refine zL fun K hK=> ?_
 refine zM zO zN [] rfl ?_
 push_cast
 repeat' apply And.intro
 all_goals try exact gB
 refine hK _ ?_;clear hK K
 refine zV ?_
 refine zg [1,5,6,7,8,9,10,11,12,13,14,15,16,17] [0] (fun j:Nat=> [(5, .int .i64 j),(1, .int .i64 (k+j))]) (fun _=> []) (fun j=> [(0,⟨.ex,2,dI (mk1 k xs j),some 0⟩)]) (fun j=>j≤xs.length) (fun j=>xs.length - j) 0 ?_ (by omega) ?_
 ·rw [mk1_0]
  refine zY rfl ?_ ?_ ?_<;>push_cast [zb,za]
 ·rintro j hj K0 hK0
  have hl:=zLm (k:=k) hj
  push_cast
  refine zL fun K2 hK2=> ?_
  refine zL fun K hK=> ?_
  refine zM zO zN [] rfl ?_
  push_cast
  repeat' apply And.intro
  all_goals try exact gB
  refine hK _ ?_;clear hK K
  refine zT rfl (fun hc=> ?_) (fun hc=> ?_)<;>(try simp only [push_cast]at hc)
  ·refine zU ?_
   refine hK2 _ ?_
   refine zL fun K3 hK3=> ?_
   refine zV ?_
   refine zL fun K hK=> ?_
   refine zM zO zN [] rfl ?_
   push_cast
   repeat' apply And.intro
   all_goals try exact gB
   refine hK _ ?_;clear hK K
   rw [zLn (by omega)]
   refine zM zO zN [] rfl ?_
   push_cast
   repeat' apply And.intro
   all_goals try exact gB
   refine hK3 _ ?_
   refine zM zO zN [] rfl ?_
   push_cast
   repeat' apply And.intro
   all_goals try exact gB
   refine hK0 _ ⟨j+1,by omega,by omega,?_⟩
   rw [show k+((j+1:Nat):Int)=k+j+1 from by omega]
   refine zY rfl ?_ ?_ ?_<;>push_cast [zb,za]
  ·refine zh ?_
   refine hK1 _ ?_
   have hk':j=xs.length:=by omega
   subst hk'
   rw [zLl]
   refine zL fun K hK=> ?_
   refine zM zO zN [] rfl ?_
   push_cast
   repeat' apply And.intro
   all_goals try exact gB
   refine hK _ ?_;clear hK K
   refine zZ ?_
   refine⟨Or.inl rfl,?_⟩
   push_cast [Zg,wY,zo,yA]
theorem zBg (n:Nat)(k:Int)(h0:0≤k)(h1:k+n≤4611686018427387904):Fn Tryz.prog tyT 69 [.c (DI (iot k n)), .c (.int .i64 k)] [.c (.int .i64 (k+n))]:=by
 have hn:=ZU k n
 refine zv (fn:=Tryz.f69) (ts:= [4]) Tryz.func69 (by kernel_rfl) rfl rfl (by rw [Tryz.ntmps69];exact Nat.le_of_ble_eq_true rfl) rfl (by simp only [szA,List.mem_cons,List.not_mem_nil,or_false,forall_eq_or_imp,forall_eq,VT.cells,szL];try decide) ?_
 rw [Tryz.ntmps69]
 push_cast
 refine zL fun K hK=> ?_
 refine zM zO zN [] rfl ?_
 push_cast
 repeat' apply And.intro
 all_goals try exact gB
 refine hK _ ?_;clear hK K
 refine zL fun K1 hK1=> ?_
 refine zL fun K hK=> ?_
 refine zM zO zN [] rfl ?_
 push_cast
 repeat' apply And.intro
 all_goals try exact gB
 refine hK _ ?_;clear hK K
 refine zV ?_
 refine zg [1,5,6,7,8,9,10,11,12,13,14,15,16,17,18,19] [] (fun j:Nat=> [(5, .int .i64 j),(1, .int .i64 (k+j))]) (fun _=> []) (fun _=> []) (fun j=>j≤n) (fun j=>n - j) 0 ?_ (by omega) ?_
 ·refine zY rfl ?_ ?_ ?_<;>push_cast [zb,za]
 ·rintro j hj K0 hK0
  push_cast
  refine zL fun K2 hK2=> ?_
  refine zL fun K hK=> ?_
  refine zM zO zN [] rfl ?_
  push_cast
  repeat' apply And.intro
  all_goals try exact gB
  refine hK _ ?_;clear hK K
  refine zT rfl (fun hc=> ?_) (fun hc=> ?_)<;>(try simp only [push_cast]at hc)
  ·refine zU ?_
   refine hK2 _ ?_
   refine zL fun K3 hK3=> ?_
   refine zV ?_
   refine zL fun K4 hK4=> ?_
   refine zL fun K hK=> ?_
   refine zM zO zN [] rfl ?_
   push_cast
   repeat' apply And.intro
   all_goals try exact gB
   refine hK _ ?_;clear hK K
   have hg:gi (iot k n) j=k+j:=zNQ (by omega)
   refine zT rfl (fun hc=> ?_) (fun hc=> ?_)<;>(try simp only [push_cast]at hc)
   ·exact absurd hg hc
   ·refine zU ?_
    refine hK4 _ ?_
    refine zM zO zN [] rfl ?_
    push_cast
    repeat' apply And.intro
    all_goals try exact gB
    refine hK3 _ ?_
    refine zM zO zN [] rfl ?_
    push_cast
    repeat' apply And.intro
    all_goals try exact gB
    refine hK0 _ ⟨j+1,by omega,by omega,?_⟩
    rw [show k+((j+1:Nat):Int)=k+j+1 from by omega]
    refine zY rfl ?_ ?_ ?_<;>push_cast [zb,za]
  ·refine zh ?_
   refine hK1 _ ?_
   have hk':j=n:=by omega
   subst hk'
   refine zL fun K hK=> ?_
   refine zM zO zN [] rfl ?_
   push_cast
   repeat' apply And.intro
   all_goals try exact gB
   refine hK _ ?_;clear hK K
   refine zZ ?_
   refine⟨Or.inl rfl,?_⟩
   push_cast [zd]
def yF (rs:List (List Int)):Nat:=(rs.map List.length).sum
def mkR (k:Int):List (List Int)→List (List Int)
 | []=> []
 |r::rs=>iot k r.length::mkR (k+r.length) rs
theorem QO (k:Int)(rs:List (List Int)):(mkR k rs).length=rs.length:=by
 induction rs generalizing k with
 |nil=>rfl
 |cons r rs ih=>simp [mkR,ih]
theorem Xd (r:List Int)(rs:List (List Int)):yF (r::rs)=r.length+yF rs:=by simp [yF]
theorem Jj :yF []=0:=rfl
def mk2 (k:Int)(rs:List (List Int))(j:Nat):List (List Int):=mkR k (rs.take j)++rs.drop j
theorem zKY (k:Int)(rs:List (List Int)):mk2 k rs 0=rs:=by simp [mk2,mkR]
theorem zFN (k:Int)(rs:List (List Int)):mk2 k rs rs.length=mkR k rs:=by simp [mk2]
theorem zAT {k:Int}{rs:List (List Int)}{j:Nat}(h:j≤rs.length):(mk2 k rs j).length=rs.length:=by simp [mk2,QO];omega
theorem zJa (k:Int)(rs:List (List Int))(r:List Int):mkR k (rs++ [r])=mkR k rs++ [iot (k+yF rs) r.length]:=by
 induction rs generalizing k with
 |nil=>simp [mkR,yF]
 |cons x rs ih=>simp [mkR,ih,Xd,Int.add_assoc]
theorem zBd {rs:List (List Int)}{j:Nat}(h:j<rs.length):rs.take (j+1)=rs.take j++ [gl rs j]:=by
 rw [List.take_add_one,Zs h];rfl
theorem XQ (a b:List (List Int)):yF (a++b)=yF a+yF b:=by simp [yF]
theorem VY {rs:List (List Int)}{j:Nat}(h:j<rs.length):yF (rs.take (j+1))=yF (rs.take j)+(gl rs j).length:=by
 rw [zBd h,XQ];simp [yF]
theorem wF (rs:List (List Int))(j:Nat):yF (rs.take j)≤yF rs:=by
 have :=XQ (rs.take j) (rs.drop j)
 rw [List.take_append_drop]at this
 omega
theorem zDR {k:Int}{rs:List (List Int)}{j:Nat}(h:j<rs.length):gl (mk2 k rs j) j=gl rs j:=by
 unfold gl mk2
 rw [List.getD_eq_getElem?_getD,List.getElem?_append_right (by rw [QO,List.length_take];omega),QO,List.length_take,Nat.min_eq_left (by omega),Nat.sub_self,List.getElem?_drop,List.getD_eq_getElem?_getD]
 rfl
theorem zAU {k:Int}{rs:List (List Int)}{j:Nat}(h:j<rs.length):(mk2 k rs j).set j (iot (k+yF (rs.take j)) (gl rs j).length)=mk2 k rs (j+1):=by
 unfold mk2
 have hl:(mkR k (rs.take j)).length=j:=by rw [QO,List.length_take];omega
 rw [List.set_append_right _ _ (by omega),hl,Nat.sub_self,List.drop_eq_getElem_cons h,List.set_cons_zero,zBd h,zJa]
 simp
theorem zNe {k:Int}{rs:List (List Int)}{j:Nat}(h:j<rs.length):gl (mkR k rs) j=iot (k+yF (rs.take j)) (gl rs j).length:=by
 induction rs generalizing k j with
 |nil=>simp at h
 |cons r rs ih=>
  cases j with
  |zero=>simp [mkR,gl,yF]
  |succ j=>
   have :=ih (k:=k+r.length) (j:=j) (by simpa using h)
   simp only [mkR,List.take_succ_cons,Xd]
   simp only [gl,List.getD_cons_succ]at this⊢
   rw [this]
   congr 1
   omega
theorem uM (xs:List (List Int))(i:Nat)(r:List Int):(dII xs).set i (.lst 2 (dI r))=dII (xs.set i r):=by simp [dII,List.map_set]
set_option maxHeartbeats 1000000 in
theorem Yw (xs:List (List Int))(k:Int)(h0:0≤k)(h1:k+yF xs≤4611686018427387904)(h2:xs.length≤4611686018427387904):FnG Tryz.prog tyT 40 [.c (DII xs), .c (.int .i64 k)] [0] [(0,22,dII (mkR k xs))] [.c (.int .i64 (k+yF xs))]:=by
 refine QV (fn:=Tryz.f40) (rs:= [.tmp 4]) (own:= [0]) (outs:= [(0,22,dII (mkR k xs))]) zO zN Tryz.func40 (by kernel_rfl) rfl rfl (by rw [Tryz.ntmps40];exact Nat.le_of_ble_eq_true rfl) rfl (by simp only [szA,List.mem_cons,List.not_mem_nil,or_false,forall_eq_or_imp,forall_eq,VT.cells,szL];try decide) ?_
 rw [Tryz.ntmps40]
 push_cast
 refine zL fun K hK=> ?_
 refine zM zO zN [] rfl ?_
 push_cast
 repeat' apply And.intro
 all_goals try exact gB
 refine hK _ ?_;clear hK K
 refine zL fun K1 hK1=> ?_
 refine zL fun K hK=> ?_
 refine zM zO zN [] rfl ?_
 push_cast
 repeat' apply And.intro
 all_goals try exact gB
 refine hK _ ?_;clear hK K
 refine zV ?_
 refine zg [1,5,6,7,8,9,10,11,12,13,14,15,16,17] [0] (fun j:Nat=> [(5, .int .i64 j),(1, .int .i64 (k+yF (xs.take j)))]) (fun _=> []) (fun j=> [(0,⟨.ex,22,dII (mk2 k xs j),some 0⟩)]) (fun j=>j≤xs.length) (fun j=>xs.length - j) 0 ?_ (by omega) ?_
 ·rw [zKY]
  simp only [List.take_zero,Jj]
  refine zY rfl ?_ ?_ ?_<;>push_cast [zb,za]
 ·rintro j hj K0 hK0
  have hl:=zAT (k:=k) hj
  have hs:=wF xs j
  have hs1:=wF xs (j+1)
  push_cast
  refine zL fun K2 hK2=> ?_
  refine zL fun K hK=> ?_
  refine zM zO zN [] rfl ?_
  push_cast
  repeat' apply And.intro
  all_goals try exact gB
  refine hK _ ?_;clear hK K
  refine zT rfl (fun hc=> ?_) (fun hc=> ?_)<;>(try simp only [push_cast]at hc)
  ·refine zU ?_
   refine hK2 _ ?_
   refine zL fun K3 hK3=> ?_
   refine zV ?_
   have ht:=VY (rs:=xs) (j:=j) (by omega)
   have hg:=zDR (k:=k) (rs:=xs) (j:=j) (by omega)
   refine qD 17 [0] [(0,2,dI (iot (k+yF (xs.take j)) (gl xs j).length))] zO zN [] rfl ?_
   push_cast
   refine⟨⟨by omega,by omega⟩,by omega,⟨by omega,zQ (by omega)⟩,⟨by omega,zQ (by omega)⟩,?_⟩
   rw [hg]
   refine⟨_,Xi (gl xs j) (k+yF (xs.take j)) (by omega) (by omega),?_⟩
   push_cast
   rw [uM,zAU (by omega)]
   refine hK3 _ ?_
   refine zM zO zN [] rfl ?_
   push_cast
   repeat' apply And.intro
   all_goals try exact gB
   refine hK0 _ ⟨j+1,by omega,by omega,?_⟩
   rw [show k+((yF (xs.take (j+1)):Nat):Int)=k+yF (xs.take j)+(gl xs j).length from by omega]
   refine zY rfl ?_ ?_ ?_<;>push_cast [zb,za]
  ·refine zh ?_
   refine hK1 _ ?_
   have hk':j=xs.length:=by omega
   subst hk'
   rw [zFN,List.take_length]
   refine zL fun K hK=> ?_
   refine zM zO zN [] rfl ?_
   push_cast
   repeat' apply And.intro
   all_goals try exact gB
   refine hK _ ?_;clear hK K
   refine zZ ?_
   refine⟨Or.inl rfl,?_⟩
   push_cast [Zg,wY,zo,yA]
set_option maxHeartbeats 1000000 in
theorem WR (xs:List (List Int))(k:Int)(h0:0≤k)(h1:k+yF xs≤4611686018427387904)(h2:xs.length≤4611686018427387904):Fn Tryz.prog tyT 41 [.c (DII (mkR k xs)), .c (.int .i64 k)] [.c (.int .i64 (k+yF xs))]:=by
 have hn:=QO k xs
 refine zv (fn:=Tryz.f41) (ts:= [4]) Tryz.func41 (by kernel_rfl) rfl rfl (by rw [Tryz.ntmps41];exact Nat.le_of_ble_eq_true rfl) rfl (by simp only [szA,List.mem_cons,List.not_mem_nil,or_false,forall_eq_or_imp,forall_eq,VT.cells,szL];try decide) ?_
 rw [Tryz.ntmps41]
 push_cast
 refine zL fun K hK=> ?_
 refine zM zO zN [] rfl ?_
 push_cast
 repeat' apply And.intro
 all_goals try exact gB
 refine hK _ ?_;clear hK K
 refine zL fun K1 hK1=> ?_
 refine zL fun K hK=> ?_
 refine zM zO zN [] rfl ?_
 push_cast
 repeat' apply And.intro
 all_goals try exact gB
 refine hK _ ?_;clear hK K
 refine zV ?_
 refine zg [1,5,6,7,8,9,10,11,12,13,14,15,16,17,18,19,20,21] [] (fun j:Nat=> [(5, .int .i64 j),(1, .int .i64 (k+yF (xs.take j)))]) (fun _=> []) (fun _=> []) (fun j=>j≤xs.length) (fun j=>xs.length - j) 0 ?_ (by omega) ?_
 ·simp only [List.take_zero,Jj]
  refine zY rfl ?_ ?_ ?_<;>push_cast [zb,za]
 ·rintro j hj K0 hK0
  have hs:=wF xs j
  have hs1:=wF xs (j+1)
  push_cast
  refine zL fun K2 hK2=> ?_
  refine zL fun K hK=> ?_
  refine zM zO zN [] rfl ?_
  push_cast
  repeat' apply And.intro
  all_goals try exact gB
  refine hK _ ?_;clear hK K
  refine zT rfl (fun hc=> ?_) (fun hc=> ?_)<;>(try simp only [push_cast]at hc)
  ·refine zU ?_
   refine hK2 _ ?_
   refine zL fun K3 hK3=> ?_
   refine zV ?_
   have ht:=VY (rs:=xs) (j:=j) (by omega)
   have hg:=zNe (k:=k) (rs:=xs) (j:=j) (by omega)
   refine zL fun K hK=> ?_
   refine zM zO zN [] rfl ?_
   push_cast
   rw [hg]
   refine⟨by omega,by omega,⟨by omega,zQ (by omega)⟩,_,zBg _ _ (by omega) (by omega),?_⟩
   push_cast
   repeat' apply And.intro
   all_goals try exact gB
   refine hK _ ?_
   clear hK K
   refine zL fun K hK=> ?_
   refine zM zO zN [] rfl ?_
   push_cast
   repeat' apply And.intro
   all_goals try exact gB
   refine hK _ ?_;clear hK K
   refine zT rfl (fun hc=> ?_) (fun hc=> ?_)<;>(try simp only [push_cast]at hc)
   ·exfalso;omega
   ·refine zU ?_
    refine hK3 _ ?_
    refine zM zO zN [] rfl ?_
    push_cast
    repeat' apply And.intro
    all_goals try exact gB
    refine hK0 _ ⟨j+1,by omega,by omega,?_⟩
    rw [show k+((yF (xs.take (j+1)):Nat):Int)=k+yF (xs.take j)+(gl xs j).length from by omega]
    refine zY rfl ?_ ?_ ?_<;>push_cast [zb,za]
  ·refine zh ?_
   refine hK1 _ ?_
   have hk':j=xs.length:=by omega
   subst hk'
   rw [List.take_length]
   refine zL fun K hK=> ?_
   refine zM zO zN [] rfl ?_
   push_cast
   repeat' apply And.intro
   all_goals try exact gB
   refine hK _ ?_;clear hK K
   refine zZ ?_
   refine⟨Or.inl rfl,?_⟩
   push_cast [zd]
def Vn (l:Int)(n:Nat):Int:=if l - n<0 then -1 else l - n
def Xy (l:Int):List (List Int)→Int
 | []=>l
 |r::rs=>if l - r.length<0 then -1 else Xy (l - r.length) rs
def WU (l:Int)(a:List (List Int)):Int:=if l - a.length<0 then -1 else Xy (l - a.length) a
set_option maxHeartbeats 1000000 in
theorem kU (a:List Int)(l:Int)(h0:0≤l)(h1:l≤1048576)(ha:a.length≤9223372036854775807):Fn Tryz.prog tyT 17 [.c (DI a), .c (.int .i64 l)] [.c (.int .i64 (Vn l a.length))]:=by
 refine zv (fn:=Tryz.f17) (ts:= [4]) Tryz.func17 (by kernel_rfl) rfl rfl (by rw [Tryz.ntmps17];exact Nat.le_of_ble_eq_true rfl) rfl (by simp only [szA,List.mem_cons,List.not_mem_nil,or_false,forall_eq_or_imp,forall_eq,VT.cells,szL];try decide) ?_
 rw [Tryz.ntmps17]
 push_cast
 refine zL fun K hK=> ?_
 refine zM zO zN [] rfl ?_
 push_cast
 repeat' apply And.intro
 all_goals try exact gB
 refine hK _ ?_;clear hK K
 refine zL fun K hK=> ?_
 refine zM zO zN [] rfl ?_
 push_cast
 repeat' apply And.intro
 all_goals try exact gB
 refine hK _ ?_;clear hK K
 refine zL fun K1 hK1=> ?_
 refine zL fun K hK=> ?_
 refine zM zO zN [] rfl ?_
 push_cast
 repeat' apply And.intro
 all_goals try exact gB
 refine hK _ ?_;clear hK K
 refine zT rfl (fun hc=> ?_) (fun hc=> ?_)<;>(try simp only [push_cast]at hc)
 ·
  refine zL fun K hK=> ?_
  refine zM zO zN [] rfl ?_
  push_cast
  repeat' apply And.intro
  all_goals try exact gB
  refine hK _ ?_;clear hK K
  refine zZ ?_
  refine⟨Or.inl rfl,?_⟩
  push_cast [zd]
  simp only [Vn,if_pos hc]
 ·
  refine zU ?_
  refine hK1 _ ?_
  refine zL fun K hK=> ?_
  refine zM zO zN [] rfl ?_
  push_cast
  repeat' apply And.intro
  all_goals try exact gB
  refine hK _ ?_;clear hK K
  refine zZ ?_
  refine⟨Or.inl rfl,?_⟩
  push_cast [zd]
  simp only [Vn,if_neg hc]
theorem zLE {a:List (List Int)}{k:Nat}(h:k<a.length):a.drop k=gl a k::a.drop (k+1):=by
 have h1:=Zs h
 rw [List.getElem?_eq_getElem h]at h1
 injection h1 with h1
 rw [←h1]
 exact List.drop_eq_getElem_cons h
set_option maxHeartbeats 1000000 in
theorem zDy (a:List (List Int))(l:Int)(h0:0≤l)(h1:l≤1048576)(ha:a.length≤9223372036854775807)(hr: ∀r∈a,r.length≤9223372036854775807):Fn Tryz.prog tyT 18 [.c (DII a), .c (.int .i64 l)] [.c (.int .i64 (WU l a))]:=by
 refine zv (fn:=Tryz.f18) (ts:= [4]) Tryz.func18 (by kernel_rfl) rfl rfl (by rw [Tryz.ntmps18];exact Nat.le_of_ble_eq_true rfl) rfl (by simp only [szA,List.mem_cons,List.not_mem_nil,or_false,forall_eq_or_imp,forall_eq,VT.cells,szL];try decide) ?_
 rw [Tryz.ntmps18]
 push_cast
 refine zL fun K hK=> ?_
 refine zM zO zN [] rfl ?_
 push_cast
 repeat' apply And.intro
 all_goals try exact gB
 refine hK _ ?_;clear hK K
 refine zL fun K hK=> ?_
 refine zM zO zN [] rfl ?_
 push_cast
 repeat' apply And.intro
 all_goals try exact gB
 refine hK _ ?_;clear hK K
 refine zL fun K1 hK1=> ?_
 refine zL fun K hK=> ?_
 refine zM zO zN [] rfl ?_
 push_cast
 repeat' apply And.intro
 all_goals try exact gB
 refine hK _ ?_;clear hK K
 refine zT rfl (fun hc=> ?_) (fun hc=> ?_)<;>(try simp only [push_cast]at hc)
 ·
  refine zL fun K hK=> ?_
  refine zM zO zN [] rfl ?_
  push_cast
  repeat' apply And.intro
  all_goals try exact gB
  refine hK _ ?_;clear hK K
  refine zZ ?_
  refine⟨Or.inl rfl,?_⟩
  push_cast [zd]
  simp only [WU,if_pos hc]
 ·
  refine zU ?_
  refine hK1 _ ?_
  have hneg: ¬l - (a.length:Int)<0:=hc
  refine zL fun K2 hK2=> ?_
  refine zL fun K hK=> ?_
  refine zM zO zN [] rfl ?_
  push_cast
  repeat' apply And.intro
  all_goals try exact gB
  refine hK _ ?_;clear hK K
  refine zV ?_
  refine zg [1,4,5,12,13,14,15,16,17,18,19,20,21,22,23,24,25] [] (fun x:Nat×Int=> [(5, .int .i64 x.1),(1, .int .i64 x.2)]) (fun _=> []) (fun _=> []) (fun x=>x.1≤a.length∧0≤x.2∧x.2≤1048576∧Xy (l - a.length) a=Xy x.2 (a.drop x.1)) (fun x=>a.length - x.1) (0,l - a.length) ?_ ⟨by simp,by simp;omega,by simp;omega,by simp⟩ ?_
  ·
   refine zY rfl ?_ ?_ ?_<;>push_cast [zb,za]
  ·rintro⟨k,m⟩ ⟨hk,hm0,hm1,hm⟩ K0 hK0
   simp only at hk hm0 hm1 hm
   push_cast
   refine zL fun K3 hK3=> ?_
   refine zL fun K hK=> ?_
   refine zM zO zN [] rfl ?_
   push_cast
   repeat' apply And.intro
   all_goals try exact gB
   refine hK _ ?_;clear hK K
   refine zT rfl (fun hc=> ?_) (fun hc=> ?_)<;>(try simp only [push_cast]at hc)
   ·
    have hkl:k<a.length:=by omega
    rw [zLE hkl,Xy]at hm
    have hrk:(gl a k).length≤9223372036854775807:=hr _ (List.mem_of_getElem? (Zs hkl))
    refine zU ?_
    refine hK3 _ ?_
    refine zL fun K4 hK4=> ?_
    refine zV ?_
    refine zL fun K hK=> ?_
    refine zM zO zN [] rfl ?_
    push_cast
    refine⟨by omega,by omega,⟨by omega,zQ (by omega)⟩,_,kU (gl a k) m hm0 hm1 hrk,?_⟩
    push_cast
    repeat' apply And.intro
    all_goals try exact gB
    refine hK _ ?_
    clear hK K
    refine zL fun K hK=> ?_
    refine zM zO zN [] rfl ?_
    push_cast
    repeat' apply And.intro
    all_goals try exact gB
    refine hK _ ?_;clear hK K
    refine zT rfl (fun hc=> ?_) (fun hc=> ?_)<;>(try simp only [push_cast]at hc)
    ·
     refine zL fun K hK=> ?_
     refine zM zO zN [] rfl ?_
     push_cast
     repeat' apply And.intro
     all_goals try exact gB
     refine hK _ ?_;clear hK K
     refine zZ ?_
     refine⟨Or.inl rfl,?_⟩
     push_cast [zd]
     have hn:m - ((gl a k).length:Int)<0:=by unfold Vn at hc;split at hc<;>omega
     rw [if_pos hn]at hm
     simp only [WU,if_neg hneg,hm]
    ·
     refine zU ?_
     refine hK4 _ ?_
     refine zM zO zN [] rfl ?_
     push_cast
     repeat' apply And.intro
     all_goals try exact gB
     refine hK0 _ ⟨(k+1,Vn m (gl a k).length),?_,by simp;omega,?_⟩
     ·have hn: ¬m - ((gl a k).length:Int)<0:=by
       intro h
       exact hc (by unfold Vn;rw [if_pos h];omega)
      have e:Vn m (gl a k).length=m - (gl a k).length:=by unfold Vn;rw [if_neg hn]
      rw [if_neg hn]at hm
      simp only [e]
      exact⟨by omega,by omega,by omega,hm⟩
     refine zY rfl ?_ ?_ ?_<;>push_cast [zb,za]
   ·
    refine zh ?_
    refine hK2 _ ?_
    have :k=a.length:=by omega
    subst this
    rw [List.drop_length,Xy]at hm
    refine zL fun K hK=> ?_
    refine zM zO zN [] rfl ?_
    push_cast
    repeat' apply And.intro
    all_goals try exact gB
    refine hK _ ?_;clear hK K
    refine zZ ?_
    refine⟨Or.inl rfl,?_⟩
    push_cast [zd]
    simp only [WU,if_neg hneg,hm]
set_option maxHeartbeats 1000000 in
theorem zCv (a b:List (List Int))(ha:a.length≤1048576)(hra: ∀r∈a,r.length≤1048576):Fn Tryz.prog tyT 36 [.c (DII a), .c (DII b)] [.c (.bool (a==b))]:=by
 refine zv (fn:=Tryz.f36) (ts:= [4]) Tryz.func36 (by kernel_rfl) rfl rfl (by rw [Tryz.ntmps36];exact Nat.le_of_ble_eq_true rfl) rfl (by simp only [szA,List.mem_cons,List.not_mem_nil,or_false,forall_eq_or_imp,forall_eq,VT.cells,szL];try decide) ?_
 rw [Tryz.ntmps36]
 push_cast
 refine zL fun K hK=> ?_
 refine zM zO zN [] rfl ?_
 push_cast
 repeat' apply And.intro
 all_goals try exact gB
 refine hK _ ?_;clear hK K
 refine zL fun K1 hK1=> ?_
 refine zL fun K hK=> ?_
 refine zM zO zN [] rfl ?_
 push_cast
 repeat' apply And.intro
 all_goals try exact gB
 refine hK _ ?_;clear hK K
 refine zT rfl (fun hc=> ?_) (fun hc=> ?_)<;>(try simp only [push_cast]at hc)
 ·
  refine zL fun K hK=> ?_
  refine zM zO zN [] rfl ?_
  push_cast
  repeat' apply And.intro
  all_goals try exact gB
  refine hK _ ?_;clear hK K
  refine zZ ?_
  refine⟨Or.inl rfl,?_⟩
  push_cast [zd]
  symm
  rw [beq_eq_false_iff_ne]
  rintro rfl
  exact hc rfl
 ·
  refine zU ?_
  refine hK1 _ ?_
  have hl:a.length=b.length:=by omega
  refine zL fun K2 hK2=> ?_
  refine zL fun K hK=> ?_
  refine zM zO zN [] rfl ?_
  push_cast
  repeat' apply And.intro
  all_goals try exact gB
  refine hK _ ?_;clear hK K
  refine zV ?_
  refine zg [4,5,11,12,13,14,15,16,17,18,19,20,21,22,23,24,25,26] [] (fun k:Nat=> [(5, .int .i64 k)]) (fun _=> []) (fun k=> []) (fun k=>k≤a.length∧∀j,j<k→gl a j=gl b j) (fun k=>a.length - k) 0 ?_ ⟨by omega,fun j hj=>by omega⟩ ?_
  ·
   refine zY rfl ?_ ?_ ?_<;>push_cast [zb,za]
  ·rintro k ⟨hk,hall⟩ K0 hK0
   push_cast
   refine zL fun K3 hK3=> ?_
   refine zL fun K hK=> ?_
   refine zM zO zN [] rfl ?_
   push_cast
   repeat' apply And.intro
   all_goals try exact gB
   refine hK _ ?_;clear hK K
   refine zT rfl (fun hc=> ?_) (fun hc=> ?_)<;>(try simp only [push_cast]at hc)
   ·
    have hkl:k<a.length:=by omega
    have hrk:(gl a k).length≤1048576:=hra _ (List.mem_of_getElem? (Zs hkl))
    refine zU ?_
    refine hK3 _ ?_
    refine zL fun K4 hK4=> ?_
    refine zV ?_
    refine zL fun K hK=> ?_
    refine xY false zO zN ya ?_ rfl ?_
    ·kernel_rfl
    intro C hC
    push_cast
    refine⟨by omega,by omega,by omega,by omega,⟨⟨by omega,zQ (by omega)⟩,by omega,zQ (by omega)⟩,_,kG (gl a k) (gl b k) hrk,?_⟩
    push_cast
    repeat' apply And.intro
    all_goals first|omega|with_reducible assumption|(refine hC _ ?_;kernel_rfl)|(simp only [List.length_set,List.length_append,List.length_replicate,List.length_cons,List.length_nil];omega)|skip
    refine hK _ ?_
    clear hC C hK K
    refine zT rfl (fun hc=> ?_) (fun hc=> ?_)<;>(try simp only [push_cast]at hc)
    ·
     refine zL fun K hK=> ?_
     refine zM zO zN [] rfl ?_
     push_cast
     repeat' apply And.intro
     all_goals try exact gB
     refine hK _ ?_;clear hK K
     refine zZ ?_
     refine⟨Or.inl rfl,?_⟩
     push_cast [zd]
     symm
     rw [beq_eq_false_iff_ne]
     rintro rfl
     simp [JE]at hc
    ·
     refine zU ?_
     refine hK4 _ ?_
     refine zM zO zN [] rfl ?_
     push_cast
     repeat' apply And.intro
     all_goals try exact gB
     refine hK0 _ ⟨k+1,⟨by omega,fun j hj=> ?_⟩,by omega,?_⟩
     ·by_cases h:j=k
      ·subst h;simpa [JE]using hc
      ·exact hall j (by omega)
     refine zY rfl ?_ ?_ ?_<;>push_cast [zb,za]
   ·
    refine zh ?_
    refine hK2 _ ?_
    refine zL fun K hK=> ?_
    refine zM zO zN [] rfl ?_
    push_cast
    repeat' apply And.intro
    all_goals try exact gB
    refine hK _ ?_;clear hK K
    refine zZ ?_
    refine⟨Or.inl rfl,?_⟩
    push_cast [zd]
    have :a=b:=by
     refine List.ext_getElem hl fun j h1 h2=> ?_
     have h3:=hall j (by omega)
     have h4:=Zs h1
     have h5:=Zs h2
     rw [List.getElem?_eq_getElem h1]at h4
     rw [List.getElem?_eq_getElem h2]at h5
     injection h4 with h4
     injection h5 with h5
     rw [h4,h5,h3]
    subst this
    simp
theorem zI6 (a:List Int)(ha:a.length≤1048576):Fn Tryz.prog tyT 37 [.c (DI a), .c (DI a)] [.c (.bool true)]:=by
 have :=kG a a ha
 rwa [show JE a a=true from by simp [JE]]at this
theorem zHI (a:List (List Int))(ha:a.length≤1048576)(hr: ∀r∈a,r.length≤1048576):Fn Tryz.prog tyT 36 [.c (DII a), .c (DII a)] [.c (.bool true)]:=by
 have :=zCv a a ha hr
 rwa [show(a==a)=true from by simp]at this
def szl (l:Int)(t:Nat):Int:=if l<t then -1 else l - t
theorem qg {l:Int}{t:Nat}(h:l<t):szl l t= -1:=if_pos h
theorem ve {l:Int}{t:Nat}(h: ¬l<t):szl l t=l - t:=if_neg h
def wT (a:List (List Int)):Nat:=a.length+yF a
def LnI (B:Nat)(a:List Int):Prop:=a.length≤B
def qV (B:Nat)(a:List (List Int)):Prop:=a.length≤B∧∀r∈a,r.length≤B
theorem zNt {a:List (List Int)}{r:List Int}(h:r∈a):r.length≤yF a:=by
 induction a with
 |nil=>simp at h
 |cons x a ih=>
  rw [Xd]
  rcases List.mem_cons.1 h with rfl|h
  ·omega
  ·have :=ih h;omega
theorem XU {B:Nat}{a:List Int}(h:a.length≤B):LnI B a:=h
theorem WB {B:Nat}{a:List (List Int)}(h:wT a≤B):qV B a:=⟨by unfold wT at h;omega,fun r hr=>by have :=zNt hr;unfold wT at h;omega⟩
theorem zBM : ∀(a:List (List Int)) (l:Int),0≤l→Xy l a=szl l (yF a)
 | [],l,h=>by rw [Jj,ve (by omega)];simp [Xy]
 |r::a,l,h=>by
  simp only [Xy,Xd]
  split
  ·rw [qg (by omega)]
  ·rw [zBM a _ (by omega)]
   unfold szl
   split<;>split<;>omega
theorem zDx (a:List Int)(l:Int)(h0:0≤l)(h1:l≤1048576)(ha:LnI 9223372036854775807 a):Fn Tryz.prog tyT 17 [.c (DI a), .c (.int .i64 l)] [.c (.int .i64 (szl l a.length))]:=by
 have :=kU a l h0 h1 ha
 have e:Vn l a.length=szl l a.length:=by unfold Vn szl;split<;>split<;>omega
 rwa [e]at this
theorem zMG (a:List (List Int))(l:Int)(h0:0≤l)(h1:l≤1048576)(ha:qV 9223372036854775807 a):Fn Tryz.prog tyT 18 [.c (DII a), .c (.int .i64 l)] [.c (.int .i64 (szl l (wT a)))]:=by
 have :=zDy a l h0 h1 ha.1 ha.2
 have e:WU l a=szl l (wT a):=by
  unfold WU wT
  split
  ·rw [qg (by omega)]
  ·rw [zBM _ _ (by omega)]
   unfold szl
   split<;>split<;>omega
 rwa [e]at this
theorem zD2 (a:List Int)(ha:LnI 1048576 a):Fn Tryz.prog tyT 25 [.c (DI a)] [.c (DI a)]:=kV a ha
theorem zMN (a:List (List Int))(ha:qV 1048576 a):Fn Tryz.prog tyT 26 [.c (DII a)] [.c (DII a)]:=zD3 a ha.1 ha.2
theorem zAC (a:List Int)(ha:LnI 1048576 a):Fn Tryz.prog tyT 37 [.c (DI a), .c (DI a)] [.c (.bool true)]:=zI6 a ha
theorem km (a:List (List Int))(ha:qV 1048576 a):Fn Tryz.prog tyT 36 [.c (DII a), .c (DII a)] [.c (.bool true)]:=zHI a ha.1 ha.2
theorem LnI.mono {B C:Nat}(hB:B≤C){a:List Int}(h:LnI B a):LnI C a:=Nat.le_trans h hB
theorem qV.mono {B C:Nat}(hB:B≤C){a:List (List Int)}(h:qV B a):qV C a:=⟨Nat.le_trans h.1 hB,fun r hr=>Nat.le_trans (h.2 r hr) hB⟩
theorem zFi {B:Nat}{a:List (List Int)}(h: ∀r∈a,r.length≤B):yF a≤a.length*B:=by
 induction a with
 |nil=>simp [yF]
 |cons x a ih=>
  have h1:=ih fun r hr=>h r (List.mem_cons_of_mem _ hr)
  have h2:=h x List.mem_cons_self
  rw [Xd,List.length_cons,Nat.add_mul,Nat.one_mul]
  omega
theorem Qh {a:List Int}(h:LnI 1048576 a):a.length≤1099511627776:=Nat.le_trans h (by decide)
theorem WK {a:List (List Int)}(h:qV 1048576 a):yF a≤1099511627776∧a.length≤1048576:=by
 have h1:=zFi h.2
 have h2:a.length*1048576≤1048576*1048576:=Nat.mul_le_mul_right _ h.1
 exact⟨by omega,h.1⟩
theorem zG5 {P:Go.Program}{τ:Ty}{Q:Go.Exit→St→Prop}{st:St}{ι:Type}{x y:Go.Code}(ds rs:List Nat)(L:ι→List (Nat×AV))(B:ι→List (Nat×List AV))(R:ι→List (Nat×zq))(I:ι→Prop)
  (hx: ∀K:St→Prop,(∀st',(∃j,I j∧Cov st' (st.reset ds rs (L j) (B j) (R j)))→K st')→awp P τ x (zR K Q) st) (hy: ∀j,I j→awp P τ y Q (st.reset ds rs (L j) (B j) (R j))):awp P τ (.seq x y) Q st:=
 zIw (fun j=>st.reset ds rs (L j) (B j) (R j)) I hx hy
theorem zKG (k:Int)(n:Nat):(iot k n).take n=iot k n:=List.take_of_length_le (by rw [ZU];exact Nat.le_refl _)
theorem zKH (k:Int)(xs:List (List Int)):(mkR k xs).take xs.length=mkR k xs:=List.take_of_length_le (by rw [QO];exact Nat.le_refl _)
theorem zL6 :List.range 0= []:=rfl
theorem zL7 :List.range 1= [0]:=rfl
theorem zL8 :List.range 2= [0,1]:=rfl
attribute [push_cast] List.map_nil zL6 zL7 zL8
attribute [push_cast] zKG zKH
open Go Go.RowKit
def St.settleB (ks:List CK)(b:Nat)(st:St):St:=
 match lk st.b b with
 |none=>st
 |some cells=>
  match lk (qx [] ks st (zc b 0) [] cells).1.b b with
  |none=>st
  |some cells'=>if cells'.length=(qx [] ks st (zc b 0) [] cells).2.length then(qx [] ks st (zc b 0) [] cells).1.setB b (qx [] ks st (zc b 0) [] cells).2 else st
theorem jS {α:Type}{a b:List α}(h:b.length=a.length):lay a 0 b=b:=by
 unfold lay
 rw [Nat.zero_add,h,List.drop_length]
 simp
theorem qE {P:Program}{τ:Ty}(ks:List CK)(b:Nat){c:Code}{Q:Exit→St→Prop}{st:St}(h:awp P τ c Q (st.settleB ks b)):awp P τ c Q st:=by
 unfold St.settleB at h
 split at h
 ·exact h
 ·rename_i cells hl
  split at h
  ·exact h
  ·rename_i cells' hl'
   split at h
   ·rename_i hlen
    intro lo w0 a w hr
    obtain⟨ow,hd,bk,hrr⟩:=hr
    obtain⟨cs,ty,g1,g2,g3⟩:=hrr.box b cells hl
    obtain⟨ow1,hd1,r1,r2⟩:=Xv [] ks st ow hd (zc b 0) [] cells [] cs hrr (by simp [ze]) g3
    obtain⟨cs0,ty0,k1,k2,k3⟩:=r1.box b cells' hl'
    rw [List.nil_append]at r2
    have e0:cs0=cs:=by
     rw [g1]at k1
     simp only [Option.some.injEq,Obj.cells.injEq]at k1
     have :=k1.1
     simpa using this.symm
    subst e0
    have hrel:=VB r1 hl' k1 (i:=0) (by omega) k3 r2
    rw [jS rfl,jS hlen.symm,setRow_self w _ _ _ _ k1]at hrel
    exact h lo w0 a w ⟨ow1,hd1,bk,hrel⟩
   ·exact h
attribute [push_cast] St.settleB
theorem zIq (xs:List (List Int))(r:List Int):dII xs++ [D.lst 2 (dI r)]=dII (xs++ [r]):=by simp [dII]
theorem zK0 (xs ys:List (List Int)):dII xs++dII ys=dII (xs++ys):=by simp [dII]
theorem Um {xs:List (List Int)}{k:Nat}(h:k<xs.length):xs.take (k+1)=xs.take k++ [gl xs k]:=by rw [List.take_add_one,Zs h];rfl
attribute [push_cast] zIq zK0
structure Ar where
 owner:List Int
 next:List (List Int)
 deriving DecidableEq
def dAr (x:Ar):List D:= [DI x.owner,DII x.next]
def Ar.tot (x:Ar):Nat:=x.owner.length+wT x.next
structure Ar.Ln (B:Nat)(x:Ar):Prop where
 owner:LnI B x.owner
 next:qV B x.next
theorem Ar.ln_of {B:Nat}{x:Ar}(h:x.tot≤B):x.Ln B:=by
 unfold Ar.tot at h
 exact⟨XU (by omega),WB (by omega)⟩
set_option maxHeartbeats 1000000 in
theorem zMF (x:Ar)(l:Int)(h0:0≤l)(h1:l≤1048576)(ha:x.Ln 9223372036854775807):Fn Tryz.prog tyT 4 [.agg (dAr x), .c (.int .i64 l)] [.c (.int .i64 (szl l x.tot))]:=by
 have ht:x.tot=x.owner.length+wT x.next:=by unfold Ar.tot; omega
 unfold dAr
 refine zv (fn:=Tryz.f4) (ts:= [4]) Tryz.func4 (by kernel_rfl) rfl rfl (by rw [Tryz.ntmps4];exact Nat.le_of_ble_eq_true rfl) rfl (by simp only [szA,List.mem_cons,List.not_mem_nil,or_false,forall_eq_or_imp,forall_eq,VT.cells,szL];try decide) ?_
 rw [Tryz.ntmps4]
 push_cast
 refine zL fun K hK=> ?_
 refine zM zO zN [] rfl ?_
 push_cast
 repeat' apply And.intro
 all_goals try exact gB
 refine hK _ ?_;clear hK K
 have hA:=zDx x.owner (l) (by omega) (by omega) ha.owner
 refine zL fun K hK=> ?_
 refine zM zO zN [] rfl ?_
 push_cast
 refine⟨_,hA,?_⟩
 push_cast
 repeat' apply And.intro
 all_goals try exact gB
 refine hK _ ?_
 clear hK K hA
 refine zL fun K0 hK0=> ?_
 refine zL fun K hK=> ?_
 refine zM zO zN [] rfl ?_
 push_cast
 repeat' apply And.intro
 all_goals try exact gB
 refine hK _ ?_;clear hK K
 by_cases hn0:(l)<(x.owner.length:Nat)
 ·rw [qg hn0]
  refine zT rfl (fun hc=> ?_) (fun hc=> ?_)<;>(try simp only [push_cast]at hc)
  ·
   refine zL fun K hK=> ?_
   refine zM zO zN [] rfl ?_
   push_cast
   repeat' apply And.intro
   all_goals try exact gB
   refine hK _ ?_;clear hK K
   refine zZ ?_
   refine⟨Or.inl rfl,?_⟩
   push_cast [zd]
   rw [qg (by omega)]
  ·exact absurd hc (by decide)
 ·rw [ve hn0]
  refine zT rfl (fun hc=> ?_) (fun hc=> ?_)<;>(try simp only [push_cast]at hc)
  ·exfalso;omega
  ·refine zU ?_
   refine hK0 _ ?_
   have hA:=zMG x.next (l - (x.owner.length:Nat)) (by omega) (by omega) ha.next
   refine zL fun K hK=> ?_
   refine zM zO zN [] rfl ?_
   push_cast
   refine⟨_,hA,?_⟩
   push_cast
   repeat' apply And.intro
   all_goals try exact gB
   refine hK _ ?_
   clear hK K hA
   refine zL fun K1 hK1=> ?_
   refine zL fun K hK=> ?_
   refine zM zO zN [] rfl ?_
   push_cast
   repeat' apply And.intro
   all_goals try exact gB
   refine hK _ ?_;clear hK K
   by_cases hn1:(l - (x.owner.length:Nat))<(wT x.next:Nat)
   ·rw [qg hn1]
    refine zT rfl (fun hc=> ?_) (fun hc=> ?_)<;>(try simp only [push_cast]at hc)
    ·
     refine zL fun K hK=> ?_
     refine zM zO zN [] rfl ?_
     push_cast
     repeat' apply And.intro
     all_goals try exact gB
     refine hK _ ?_;clear hK K
     refine zZ ?_
     refine⟨Or.inl rfl,?_⟩
     push_cast [zd]
     rw [qg (by omega)]
    ·exact absurd hc (by decide)
   ·rw [ve hn1]
    refine zT rfl (fun hc=> ?_) (fun hc=> ?_)<;>(try simp only [push_cast]at hc)
    ·exfalso;omega
    ·refine zU ?_
     refine hK1 _ ?_
     refine zL fun K hK=> ?_
     refine zM zO zN [] rfl ?_
     push_cast
     repeat' apply And.intro
     all_goals try exact gB
     refine hK _ ?_;clear hK K
     refine zZ ?_
     refine⟨Or.inl rfl,?_⟩
     push_cast [zd]
     rw [ve (by omega)];omega
set_option maxHeartbeats 1000000 in
theorem jm (x:Ar)(ha:x.Ln 1048576):Fn Tryz.prog tyT 7 [.agg (dAr x)] [.agg (dAr x)]:=by
 unfold dAr
 refine qm (fn:=Tryz.f7) (rs:= [.cell 2 33]) zO zN Tryz.func7 (by kernel_rfl) rfl rfl (by rw [Tryz.ntmps7];exact Nat.le_of_ble_eq_true rfl) rfl (by simp only [szA,List.mem_cons,List.not_mem_nil,or_false,forall_eq_or_imp,forall_eq,VT.cells,szL];try decide) ?_
 rw [Tryz.ntmps7]
 push_cast
 refine zL fun K hK=> ?_
 refine zM zO zN [] rfl ?_
 push_cast
 repeat' apply And.intro
 all_goals try exact gB
 refine hK _ ?_;clear hK K
 refine zL fun K hK=> ?_
 refine zM zO zN [] rfl ?_
 push_cast
 repeat' apply And.intro
 all_goals try exact gB
 refine hK _ ?_;clear hK K
 have hA:=zD2 x.owner ha.owner
 refine zL fun K hK=> ?_
 refine zM zO zN [] rfl ?_
 push_cast
 refine⟨_,hA,?_⟩
 push_cast
 repeat' apply And.intro
 all_goals try exact gB
 refine hK _ ?_
 clear hK K hA
 have hA:=zMN x.next ha.next
 refine zL fun K hK=> ?_
 refine zM zO zN [] rfl ?_
 push_cast
 refine⟨_,hA,?_⟩
 push_cast
 repeat' apply And.intro
 all_goals try exact gB
 refine hK _ ?_
 clear hK K hA
 refine zL fun K hK=> ?_
 refine zM zO zN [] rfl ?_
 push_cast
 repeat' apply And.intro
 all_goals try exact gB
 refine hK _ ?_;clear hK K
 refine zZ ?_
 refine⟨Or.inl rfl,?_⟩
 push_cast [zd,zo,yA]
 try rfl
set_option maxHeartbeats 1000000 in
theorem zLI (x:Ar)(ha:x.Ln 1048576):Fn Tryz.prog tyT 11 [.agg (dAr x), .agg (dAr x)] [.c (.bool true)]:=by
 unfold dAr
 refine zv (fn:=Tryz.f11) (ts:= [4]) Tryz.func11 (by kernel_rfl) rfl rfl (by rw [Tryz.ntmps11];exact Nat.le_of_ble_eq_true rfl) rfl (by simp only [szA,List.mem_cons,List.not_mem_nil,or_false,forall_eq_or_imp,forall_eq,VT.cells,szL];try decide) ?_
 rw [Tryz.ntmps11]
 push_cast
 refine zL fun K hK=> ?_
 refine zM zO zN [] rfl ?_
 push_cast
 repeat' apply And.intro
 all_goals try exact gB
 refine hK _ ?_;clear hK K
 refine zL fun K0 hK0=> ?_
 have hA:=zAC x.owner ha.owner
 refine zL fun K hK=> ?_
 refine zM zO zN [] rfl ?_
 push_cast
 refine⟨_,hA,?_⟩
 push_cast
 repeat' apply And.intro
 all_goals try exact gB
 refine hK _ ?_
 clear hK K hA
 refine zT rfl (fun hc=>by cases hc) (fun _=> ?_)
 refine zU ?_
 refine hK0 _ ?_
 refine zL fun K1 hK1=> ?_
 have hA:=km x.next ha.next
 refine zL fun K hK=> ?_
 refine zM zO zN [] rfl ?_
 push_cast
 refine⟨_,hA,?_⟩
 push_cast
 repeat' apply And.intro
 all_goals try exact gB
 refine hK _ ?_
 clear hK K hA
 refine zT rfl (fun hc=>by cases hc) (fun _=> ?_)
 refine zU ?_
 refine hK1 _ ?_
 refine zL fun K hK=> ?_
 refine zM zO zN [] rfl ?_
 push_cast
 repeat' apply And.intro
 all_goals try exact gB
 refine hK _ ?_;clear hK K
 refine zZ ?_
 refine⟨Or.inl rfl,?_⟩
 push_cast [zd]
def Ar.cnt (x:Ar):Nat:=x.owner.length+yF x.next
theorem Ar.ln_mono {B C:Nat}(hB:B≤C){x:Ar}(h:x.Ln B):x.Ln C:=⟨LnI.mono hB h.owner,qV.mono hB h.next⟩
theorem Ar.cnt_le {x:Ar}(h:x.Ln 1048576):x.cnt≤2199023255552:=by
 have h0:=Qh h.owner
 have h1:=WK h.next
 unfold Ar.cnt
 omega
def mkAr (k:Int)(x:Ar):Ar:=
 ⟨iot (k) x.owner.length,mkR (k+(x.owner.length:Nat)) x.next⟩
set_option maxHeartbeats 1000000 in
theorem zHr (x:Ar)(k:Int)(h0:0≤k)(h1:k+x.cnt≤4611686018427387904)(ha:x.Ln 4611686018427387904):FnG Tryz.prog tyT 13 [.agg (dAr x), .c (.int .i64 k)] [0,1] [(0,2,dI (iot (k) x.owner.length)),(1,22,dII (mkR (k+(x.owner.length:Nat)) x.next))] [.c (.int .i64 (k+x.cnt))]:=by
 have ht:x.cnt=x.owner.length+yF x.next:=by unfold Ar.cnt; omega
 unfold dAr
 refine QV (fn:=Tryz.f13) (rs:= [.tmp 4]) (own:= [0,1]) (outs:= [(0,2,dI (iot (k) x.owner.length)),(1,22,dII (mkR (k+(x.owner.length:Nat)) x.next))]) zO zN Tryz.func13 (by kernel_rfl) rfl rfl (by rw [Tryz.ntmps13];exact Nat.le_of_ble_eq_true rfl) rfl (by simp only [szA,List.mem_cons,List.not_mem_nil,or_false,forall_eq_or_imp,forall_eq,VT.cells,szL];try decide) ?_
 rw [Tryz.ntmps13]
 push_cast
 refine zL fun K hK=> ?_
 refine zM zO zN [] rfl ?_
 push_cast
 repeat' apply And.intro
 all_goals try exact gB
 refine hK _ ?_;clear hK K
 have hA:=Xi x.owner (k) (by omega) (by omega)
 refine zL fun K hK=> ?_
 refine qD 8 [0] [(0,2,dI (iot (k) x.owner.length))] zO zN [] rfl ?_
 push_cast
 refine⟨_,hA,?_⟩
 push_cast
 refine hK _ ?_
 clear hK K hA
 have hA:=Yw x.next (k+(x.owner.length:Nat)) (by omega) (by omega) ha.next.1
 refine zL fun K hK=> ?_
 refine qD 12 [0] [(0,22,dII (mkR (k+(x.owner.length:Nat)) x.next))] zO zN [] rfl ?_
 push_cast
 refine⟨_,hA,?_⟩
 push_cast
 refine hK _ ?_
 clear hK K hA
 refine zL fun K hK=> ?_
 refine zM zO zN [] rfl ?_
 push_cast
 repeat' apply And.intro
 all_goals try exact gB
 refine hK _ ?_;clear hK K
 refine zZ ?_
 refine⟨Or.inl rfl,?_⟩
 push_cast [Zg,wY,zo,yA]
 try(unfold Ar.cnt;omega)
structure Wt where
 a:Ar
 cost:List (List Int)
 deriving DecidableEq
def Wt.tot (x:Wt):Nat:=x.a.owner.length+wT x.a.next+wT x.cost
structure Wt.Ln (B:Nat)(x:Wt):Prop where
 a:x.a.Ln B
 cost:qV B x.cost
theorem Wt.ln_of {B:Nat}{x:Wt}(h:x.tot≤B):x.Ln B:=by
 unfold Wt.tot at h
 exact⟨Ar.ln_of (by unfold Ar.tot;omega),WB (by omega)⟩
def Wt.cnt (x:Wt):Nat:=x.a.owner.length+yF x.a.next+yF x.cost
theorem Wt.ln_mono {B C:Nat}(hB:B≤C){x:Wt}(h:x.Ln B):x.Ln C:=⟨Ar.ln_mono hB h.a,qV.mono hB h.cost⟩
theorem Wt.cnt_le {x:Wt}(h:x.Ln 1048576):x.cnt≤3298534883328:=by
 have h0:=Ar.cnt_le h.a
 have h1:=WK h.cost
 unfold Wt.cnt
 try unfold Ar.cnt at*
 omega
structure Ls where
 stem:List Int
 loop:List Int
 deriving DecidableEq
def Ls.tot (x:Ls):Nat:=x.stem.length+x.loop.length
structure Ls.Ln (B:Nat)(x:Ls):Prop where
 stem:LnI B x.stem
 loop:LnI B x.loop
theorem Ls.ln_of {B:Nat}{x:Ls}(h:x.tot≤B):x.Ln B:=by
 unfold Ls.tot at h
 exact⟨XU (by omega),XU (by omega)⟩
def Ls.cnt (x:Ls):Nat:=x.stem.length+x.loop.length
theorem Ls.ln_mono {B C:Nat}(hB:B≤C){x:Ls}(h:x.Ln B):x.Ln C:=⟨LnI.mono hB h.stem,LnI.mono hB h.loop⟩
theorem Ls.cnt_le {x:Ls}(h:x.Ln 1048576):x.cnt≤2199023255552:=by
 have h0:=Qh h.stem
 have h1:=Qh h.loop
 unfold Ls.cnt
 omega
structure Fm where
 names:List Int
 sets:List (List Int)
 deriving DecidableEq
def Fm.tot (x:Fm):Nat:=x.names.length+wT x.sets
structure Fm.Ln (B:Nat)(x:Fm):Prop where
 names:LnI B x.names
 sets:qV B x.sets
theorem Fm.ln_of {B:Nat}{x:Fm}(h:x.tot≤B):x.Ln B:=by
 unfold Fm.tot at h
 exact⟨XU (by omega),WB (by omega)⟩
def Fm.cnt (x:Fm):Nat:=x.names.length+yF x.sets
theorem Fm.ln_mono {B C:Nat}(hB:B≤C){x:Fm}(h:x.Ln B):x.Ln C:=⟨LnI.mono hB h.names,qV.mono hB h.sets⟩
theorem Fm.cnt_le {x:Fm}(h:x.Ln 1048576):x.cnt≤2199023255552:=by
 have h0:=Qh h.names
 have h1:=WK h.sets
 unfold Fm.cnt
 omega
structure Pr where
 ask:List Int
 give:List Int
 deriving DecidableEq
def dPr (x:Pr):List D:= [DI x.ask,DI x.give]
def Pr.tot (x:Pr):Nat:=x.ask.length+x.give.length
structure Pr.Ln (B:Nat)(x:Pr):Prop where
 ask:LnI B x.ask
 give:LnI B x.give
theorem Pr.ln_of {B:Nat}{x:Pr}(h:x.tot≤B):x.Ln B:=by
 unfold Pr.tot at h
 exact⟨XU (by omega),XU (by omega)⟩
set_option maxHeartbeats 1000000 in
theorem zMI (x:Pr)(l:Int)(h0:0≤l)(h1:l≤1048576)(ha:x.Ln 9223372036854775807):Fn Tryz.prog tyT 19 [.agg (dPr x), .c (.int .i64 l)] [.c (.int .i64 (szl l x.tot))]:=by
 have ht:x.tot=x.ask.length+x.give.length:=by unfold Pr.tot; omega
 unfold dPr
 refine zv (fn:=Tryz.f19) (ts:= [4]) Tryz.func19 (by kernel_rfl) rfl rfl (by rw [Tryz.ntmps19];exact Nat.le_of_ble_eq_true rfl) rfl (by simp only [szA,List.mem_cons,List.not_mem_nil,or_false,forall_eq_or_imp,forall_eq,VT.cells,szL];try decide) ?_
 rw [Tryz.ntmps19]
 push_cast
 refine zL fun K hK=> ?_
 refine zM zO zN [] rfl ?_
 push_cast
 repeat' apply And.intro
 all_goals try exact gB
 refine hK _ ?_;clear hK K
 have hA:=zDx x.ask (l) (by omega) (by omega) ha.ask
 refine zL fun K hK=> ?_
 refine zM zO zN [] rfl ?_
 push_cast
 refine⟨_,hA,?_⟩
 push_cast
 repeat' apply And.intro
 all_goals try exact gB
 refine hK _ ?_
 clear hK K hA
 refine zL fun K0 hK0=> ?_
 refine zL fun K hK=> ?_
 refine zM zO zN [] rfl ?_
 push_cast
 repeat' apply And.intro
 all_goals try exact gB
 refine hK _ ?_;clear hK K
 by_cases hn0:(l)<(x.ask.length:Nat)
 ·rw [qg hn0]
  refine zT rfl (fun hc=> ?_) (fun hc=> ?_)<;>(try simp only [push_cast]at hc)
  ·
   refine zL fun K hK=> ?_
   refine zM zO zN [] rfl ?_
   push_cast
   repeat' apply And.intro
   all_goals try exact gB
   refine hK _ ?_;clear hK K
   refine zZ ?_
   refine⟨Or.inl rfl,?_⟩
   push_cast [zd]
   rw [qg (by omega)]
  ·exact absurd hc (by decide)
 ·rw [ve hn0]
  refine zT rfl (fun hc=> ?_) (fun hc=> ?_)<;>(try simp only [push_cast]at hc)
  ·exfalso;omega
  ·refine zU ?_
   refine hK0 _ ?_
   have hA:=zDx x.give (l - (x.ask.length:Nat)) (by omega) (by omega) ha.give
   refine zL fun K hK=> ?_
   refine zM zO zN [] rfl ?_
   push_cast
   refine⟨_,hA,?_⟩
   push_cast
   repeat' apply And.intro
   all_goals try exact gB
   refine hK _ ?_
   clear hK K hA
   refine zL fun K1 hK1=> ?_
   refine zL fun K hK=> ?_
   refine zM zO zN [] rfl ?_
   push_cast
   repeat' apply And.intro
   all_goals try exact gB
   refine hK _ ?_;clear hK K
   by_cases hn1:(l - (x.ask.length:Nat))<(x.give.length:Nat)
   ·rw [qg hn1]
    refine zT rfl (fun hc=> ?_) (fun hc=> ?_)<;>(try simp only [push_cast]at hc)
    ·
     refine zL fun K hK=> ?_
     refine zM zO zN [] rfl ?_
     push_cast
     repeat' apply And.intro
     all_goals try exact gB
     refine hK _ ?_;clear hK K
     refine zZ ?_
     refine⟨Or.inl rfl,?_⟩
     push_cast [zd]
     rw [qg (by omega)]
    ·exact absurd hc (by decide)
   ·rw [ve hn1]
    refine zT rfl (fun hc=> ?_) (fun hc=> ?_)<;>(try simp only [push_cast]at hc)
    ·exfalso;omega
    ·refine zU ?_
     refine hK1 _ ?_
     refine zL fun K hK=> ?_
     refine zM zO zN [] rfl ?_
     push_cast
     repeat' apply And.intro
     all_goals try exact gB
     refine hK _ ?_;clear hK K
     refine zZ ?_
     refine⟨Or.inl rfl,?_⟩
     push_cast [zd]
     rw [ve (by omega)];omega
set_option maxHeartbeats 1000000 in
theorem zMP (x:Pr)(ha:x.Ln 1048576):Fn Tryz.prog tyT 27 [.agg (dPr x)] [.agg (dPr x)]:=by
 unfold dPr
 refine qm (fn:=Tryz.f27) (rs:= [.cell 2 64]) zO zN Tryz.func27 (by kernel_rfl) rfl rfl (by rw [Tryz.ntmps27];exact Nat.le_of_ble_eq_true rfl) rfl (by simp only [szA,List.mem_cons,List.not_mem_nil,or_false,forall_eq_or_imp,forall_eq,VT.cells,szL];try decide) ?_
 rw [Tryz.ntmps27]
 push_cast
 refine zL fun K hK=> ?_
 refine zM zO zN [] rfl ?_
 push_cast
 repeat' apply And.intro
 all_goals try exact gB
 refine hK _ ?_;clear hK K
 refine zL fun K hK=> ?_
 refine zM zO zN [] rfl ?_
 push_cast
 repeat' apply And.intro
 all_goals try exact gB
 refine hK _ ?_;clear hK K
 have hA:=zD2 x.ask ha.ask
 refine zL fun K hK=> ?_
 refine zM zO zN [] rfl ?_
 push_cast
 refine⟨_,hA,?_⟩
 push_cast
 repeat' apply And.intro
 all_goals try exact gB
 refine hK _ ?_
 clear hK K hA
 have hA:=zD2 x.give ha.give
 refine zL fun K hK=> ?_
 refine zM zO zN [] rfl ?_
 push_cast
 refine⟨_,hA,?_⟩
 push_cast
 repeat' apply And.intro
 all_goals try exact gB
 refine hK _ ?_
 clear hK K hA
 refine zL fun K hK=> ?_
 refine zM zO zN [] rfl ?_
 push_cast
 repeat' apply And.intro
 all_goals try exact gB
 refine hK _ ?_;clear hK K
 refine zZ ?_
 refine⟨Or.inl rfl,?_⟩
 push_cast [zd,zo,yA]
 try rfl
set_option maxHeartbeats 1000000 in
theorem zLK (x:Pr)(ha:x.Ln 1048576):Fn Tryz.prog tyT 38 [.agg (dPr x), .agg (dPr x)] [.c (.bool true)]:=by
 unfold dPr
 refine zv (fn:=Tryz.f38) (ts:= [4]) Tryz.func38 (by kernel_rfl) rfl rfl (by rw [Tryz.ntmps38];exact Nat.le_of_ble_eq_true rfl) rfl (by simp only [szA,List.mem_cons,List.not_mem_nil,or_false,forall_eq_or_imp,forall_eq,VT.cells,szL];try decide) ?_
 rw [Tryz.ntmps38]
 push_cast
 refine zL fun K hK=> ?_
 refine zM zO zN [] rfl ?_
 push_cast
 repeat' apply And.intro
 all_goals try exact gB
 refine hK _ ?_;clear hK K
 refine zL fun K0 hK0=> ?_
 have hA:=zAC x.ask ha.ask
 refine zL fun K hK=> ?_
 refine zM zO zN [] rfl ?_
 push_cast
 refine⟨_,hA,?_⟩
 push_cast
 repeat' apply And.intro
 all_goals try exact gB
 refine hK _ ?_
 clear hK K hA
 refine zT rfl (fun hc=>by cases hc) (fun _=> ?_)
 refine zU ?_
 refine hK0 _ ?_
 refine zL fun K1 hK1=> ?_
 have hA:=zAC x.give ha.give
 refine zL fun K hK=> ?_
 refine zM zO zN [] rfl ?_
 push_cast
 refine⟨_,hA,?_⟩
 push_cast
 repeat' apply And.intro
 all_goals try exact gB
 refine hK _ ?_
 clear hK K hA
 refine zT rfl (fun hc=>by cases hc) (fun _=> ?_)
 refine zU ?_
 refine hK1 _ ?_
 refine zL fun K hK=> ?_
 refine zM zO zN [] rfl ?_
 push_cast
 repeat' apply And.intro
 all_goals try exact gB
 refine hK _ ?_;clear hK K
 refine zZ ?_
 refine⟨Or.inl rfl,?_⟩
 push_cast [zd]
def Pr.cnt (x:Pr):Nat:=x.ask.length+x.give.length
theorem Pr.ln_mono {B C:Nat}(hB:B≤C){x:Pr}(h:x.Ln B):x.Ln C:=⟨LnI.mono hB h.ask,LnI.mono hB h.give⟩
theorem Pr.cnt_le {x:Pr}(h:x.Ln 1048576):x.cnt≤2199023255552:=by
 have h0:=Qh h.ask
 have h1:=Qh h.give
 unfold Pr.cnt
 omega
structure Hid (R:Prop):Prop where
 o:R
section
variable {Q:Exit→St→Prop}{x y:Code}{st:St}{R:Prop}
theorem θA (h0:R)(h:Hid R→∀K:St→Prop,(∀s,awp Tryz.prog tyT y Q s→K s)→awp Tryz.prog tyT x (zR K Q) st:=by
 intro hR K hK
 refine zM zO zN [] rfl ?_
 push_cast [↓zK,↓zJ]
 repeat' (first|apply And.intro|(intro hz;push_cast at hz)|(refine⟨_,by with_reducible assumption,?_⟩;push_cast [↓zK,↓zJ]))
 all_goals first|(refine hK _ ?_;clear hK K;(repeat revert hz);exact hR.o)|exact gB|exact gA|exact zQ (by omega)|exact zQ (by push_cast;omega)):awp Tryz.prog tyT (.seq x y) Q st:=zL (h ⟨h0⟩)
theorem θB (h0:R)(h:Hid R→awp Tryz.prog tyT x Q st:=by
 intro hR
 refine zM zO zN [] rfl ?_
 push_cast [↓zK,↓zJ]
 repeat' (first|apply And.intro|(intro hz;push_cast at hz)|(refine⟨_,by with_reducible assumption,?_⟩;push_cast [↓zK,↓zJ]))
 all_goals first|exact gB|exact gA|exact zQ (by omega)|exact zQ (by push_cast;omega)|((repeat revert hz);exact hR.o)):awp Tryz.prog tyT x Q st:=h ⟨h0⟩
theorem θL {id:Nat}{ops:List Oper}(h: ∀K:St→Prop,(∀s,awp Tryz.prog tyT y Q s→K s)→vF Tryz.prog tyT [] ops K ops st)(hd:yv st.n ops=true:=by exact rfl):awp Tryz.prog tyT (.seq (.region id ops.toArray false) y) Q st:=zL fun K hK=>zM zO zN [] hd (h K hK)
theorem θD (n:Nat){all:List Oper}{al:List Nat}{Q:St→Prop}{os:List Oper}(h0:R)(h:Hid R→∀K:St→Prop,(∀s,vF Tryz.prog tyT al all Q (os.drop n) s→K s)→vF Tryz.prog tyT al all K (os.take n) st:=by
 intro hR K hK
 push_cast [↓zK,↓zJ]
 repeat' (first|apply And.intro|(intro hz;push_cast at hz)|(refine⟨_,by with_reducible assumption,?_⟩;push_cast [↓zK,↓zJ]))
 all_goals first|(refine hK _ ?_;clear hK K;(repeat revert hz);exact hR.o)|exact gB|exact gA|exact zQ (by omega)|exact zQ (by push_cast;omega)):vF Tryz.prog tyT al all Q os st:=zm n (h ⟨h0⟩)
theorem θE {all os:List Oper}{al:List Nat}{K:St→Prop}(hK: ∀s,awp Tryz.prog tyT y Q s→K s)(h0:R)(h:Hid R→(∀s,awp Tryz.prog tyT y Q s→K s)→vF Tryz.prog tyT al all K os st:=by
 intro hR hK
 push_cast [↓zK,↓zJ]
 repeat' (first|apply And.intro|(intro hz;push_cast at hz)|(refine⟨_,by with_reducible assumption,?_⟩;push_cast [↓zK,↓zJ]))
 all_goals first|(refine hK _ ?_;(repeat revert hz);exact hR.o)|exact gB|exact gA|exact zQ (by omega)|exact zQ (by push_cast;omega)):vF Tryz.prog tyT al all K os st:=h ⟨h0⟩ hK
theorem θN (h0:R)(h:Hid R→∀K:St→Prop,(∀s,awp Tryz.prog tyT y Q s→K s)→awp Tryz.prog tyT x (zR K Q) st:=by
 intro hR K hK
 refine zf false zO zN ?_ rfl ?_
 ·kernel_rfl
 push_cast [↓zK,↓zJ]
 repeat' (first|(apply zP<;>(intro hz;push_cast at hz))|apply And.intro|(intro hz;push_cast at hz)|(refine⟨_,by with_reducible assumption,?_⟩;push_cast [↓zK,↓zJ]))
 all_goals first|(refine hK _ ?_;clear hK K;(repeat revert hz);exact hR.o)|exact gB|exact gA|exact zQ (by omega)|exact zQ (by push_cast;omega)):awp Tryz.prog tyT (.seq x y) Q st:=zL (h ⟨h0⟩)
theorem θN2 {S:Prop}(h0:R)(h1:S)(h:Hid R→Hid S→∀K:St→Prop,(∀s,awp Tryz.prog tyT y Q s→K s)→awp Tryz.prog tyT x (zR K Q) st:=by
 intro hR hS K hK
 refine zf false zO zN ?_ rfl ?_
 ·kernel_rfl
 push_cast [↓zK,↓zJ]
 repeat' (first|(apply zP<;>(intro hz;push_cast at hz))|apply And.intro|(intro hz;push_cast at hz)|(refine⟨_,by with_reducible assumption,?_⟩;push_cast [↓zK,↓zJ]))
 all_goals first|(refine hK _ ?_;clear hK K;(repeat revert hz);first|exact hR.o|exact hS.o)|exact gB|exact gA|exact zQ (by omega)|exact zQ (by push_cast;omega)):awp Tryz.prog tyT (.seq x y) Q st:=zL (h ⟨h0⟩ ⟨h1⟩)
theorem θN3 {S T:Prop}(h0:R)(h1:S)(h2:T)(h:Hid R→Hid S→Hid T→∀K:St→Prop,(∀s,awp Tryz.prog tyT y Q s→K s)→awp Tryz.prog tyT x (zR K Q) st:=by
 intro hR hS hT K hK
 refine zf false zO zN ?_ rfl ?_
 ·kernel_rfl
 push_cast [↓zK,↓zJ]
 repeat' (first|(apply zP<;>(intro hz;push_cast at hz))|apply And.intro|(intro hz;push_cast at hz)|(refine⟨_,by with_reducible assumption,?_⟩;push_cast [↓zK,↓zJ]))
 all_goals first|(refine hK _ ?_;clear hK K;(repeat revert hz);first|exact hR.o|exact hS.o|exact hT.o)|exact gB|exact gA|exact zQ (by omega)|exact zQ (by push_cast;omega)):awp Tryz.prog tyT (.seq x y) Q st:=zL (h ⟨h0⟩ ⟨h1⟩ ⟨h2⟩)
theorem θU {c:Operand}{b:Bool}{C D:Prop}(hx:C→awp Tryz.prog tyT x Q st)(hy:D→awp Tryz.prog tyT y Q st)(hc:ev st c= .bool b:=by exact rfl)(h1:b=true→C:=by intro hc;(try simp only [push_cast]at hc);exact hc)(h2:b=false→D:=by intro hc;(try simp only [push_cast]at hc);exact hc):awp Tryz.prog tyT (.cond c x y) Q st:=zT hc (fun h=>hx (h1 h)) fun h=>hy (h2 h)
theorem θH {f:FuncId}{fn:Func}{n:Nat}{ts:List Tmp}{args ress:List VT}(hfn:Tryz.prog.funcs[f]? =some fn)(hn:fn.ntmps=n)(h:awp Tryz.prog tyT x (RetQ tyT ts ress) (Zp tyT n args))(hname:(fn.name== "runtime.NumGoroutine")=false:=by kernel_rfl)(hb:fn.body=some x:=by exact rfl)(hres:fn.results=(ts.map ResultVar.tmp).toArray:=by exact rfl)(hl:args.length≤n:=by exact Nat.le_of_ble_eq_true rfl)(hfew:few args=true:=by exact rfl)(hs:szA tyT args:=by simp only [szA,List.mem_cons,List.not_mem_nil,or_false,forall_eq_or_imp,forall_eq,VT.cells,szL];try decide):Fn Tryz.prog tyT f args ress:=zv hfn hname hb hres (by rw [hn];exact hl) hfew hs (by rw [hn];exact h)
theorem θC {C:Prop}(hC:C)(h0:R)(h:Hid R→∀K:St→Prop,(∀s,awp Tryz.prog tyT y Q s→K s)→awp Tryz.prog tyT x (zR K Q) st:=by
 intro hR K hK
 refine zM zO zN [] rfl ?_
 push_cast [↓zK,↓zJ]
 repeat' (first|apply And.intro|(intro hz;push_cast at hz)|(refine⟨_,hC,?_⟩;push_cast [↓zK,↓zJ])|(refine⟨_,by with_reducible assumption,?_⟩;push_cast [↓zK,↓zJ]))
 all_goals first|(refine hK _ ?_;clear hK K;(repeat revert hz);exact hR.o)|exact gB|exact gA|exact zQ (by omega)|exact zQ (by push_cast;omega)):awp Tryz.prog tyT (.seq x y) Q st:=zL (h ⟨h0⟩)
theorem θC2 {C D:Prop}(hC:C)(hD:D)(h0:R)(h:Hid R→∀K:St→Prop,(∀s,awp Tryz.prog tyT y Q s→K s)→awp Tryz.prog tyT x (zR K Q) st:=by
 intro hR K hK
 refine zM zO zN [] rfl ?_
 push_cast [↓zK,↓zJ]
 repeat' (first|apply And.intro|(intro hz;push_cast at hz)|(refine⟨_,hC,?_⟩;push_cast [↓zK,↓zJ])|(refine⟨_,hD,?_⟩;push_cast [↓zK,↓zJ])|(refine⟨_,by with_reducible assumption,?_⟩;push_cast [↓zK,↓zJ]))
 all_goals first|(refine hK _ ?_;clear hK K;(repeat revert hz);exact hR.o)|exact gB|exact gA|exact zQ (by omega)|exact zQ (by push_cast;omega)):awp Tryz.prog tyT (.seq x y) Q st:=zL (h ⟨h0⟩)
theorem θX {s s':St}(h1:s'.n=s.n:=by exact rfl)(h2:zb s.s s'.s:=by push_cast [zb,za,↓zK,↓zJ])(h3:za s.b s'.b:=by push_cast [zb,za,↓zK,↓zJ])(h4:za s.r s'.r:=by push_cast [zb,za,↓zK,↓zJ]):Cov s s':=zY h1 h2 h3 h4
end
end Go.Proofs.YtcleaokoimhedaaGreat
