/- The types of this seat's program. Printed by tygen.py. -/
import Derived.Test.YtggpbepdeilpgaaGEzmw
import Derived.Test.YtggpbepdeilpgaaRows
import Derived.Laws.CopyRow
namespace Go.Proofs.Ytggpbepdeilpgaa
def tyT :Ty:= [(2, .sc (.int .i64),8),(3, .sc (.int .i64),8),(4, .sc .bool,1),(5, .sc (.int .u8),1),(21, .sc (.int .i32),4),(22, .sc (.sl 2),24),(23, .sc (.sl 22),24),(25, .st [.sl 2, .sl 22] [(0,22),(1,23)],48),(26, .sc (.sl 68),24),(28, .st [.sl 22, .sl 22] [(0,23),(1,23)],48),(33, .st [.sl 2, .sl 22] [(0,22),(1,23)],48),(35, .sc (.sl 76),24),(37, .st [.sl 22, .sl 22] [(0,23),(1,23)],48),(43, .sc (.sl 5),24),(47, .sc (.int .u64),8),(58, .st [.sl 2, .sl 2] [(0,22),(1,22)],48),(68, .st [.sl 2, .sl 2] [(0,22),(1,22)],48),(72, .sc (.sl 78),24),(75, .sc (.sl 4),24),(76, .st [.sl 2, .sl 2] [(0,22),(1,22)],48),(78, .st [.int .i64, .sl 2] [(0,2),(1,22)],32),(90, .st [.sl 5, .int .i64, .int .u64] [(0,43),(1,3),(2,47)],40),(92, .sc (.int .u64),8)]
theorem zQ :zu Try.prog tyT:=zFs (by kernel_rfl)
theorem zO :yK tyT:=zEB (by kernel_rfl)
theorem qM :Try.prog.follows .mixedOrders=true:=by kernel_rfl
theorem tk_2 :tk tyT 2=some (.sc (.int .i64),8):=rfl
theorem sz_2 :sz tyT 2=1:=rfl
theorem cks_2 :cks tyT 2= [.int .i64]:=rfl
theorem tk_3 :tk tyT 3=some (.sc (.int .i64),8):=rfl
theorem sz_3 :sz tyT 3=1:=rfl
theorem cks_3 :cks tyT 3= [.int .i64]:=rfl
theorem tk_4 :tk tyT 4=some (.sc .bool,1):=rfl
theorem sz_4 :sz tyT 4=1:=rfl
theorem cks_4 :cks tyT 4= [.bool]:=rfl
theorem tk_5 :tk tyT 5=some (.sc (.int .u8),1):=rfl
theorem sz_5 :sz tyT 5=1:=rfl
theorem cks_5 :cks tyT 5= [.int .u8]:=rfl
theorem tk_21 :tk tyT 21=some (.sc (.int .i32),4):=rfl
theorem sz_21 :sz tyT 21=1:=rfl
theorem zGA :cks tyT 21= [.int .i32]:=rfl
theorem tk_22 :tk tyT 22=some (.sc (.sl 2),24):=rfl
theorem zEY :sz tyT 22=1:=rfl
theorem zGB :cks tyT 22= [.sl 2]:=rfl
theorem tk_23 :tk tyT 23=some (.sc (.sl 22),24):=rfl
theorem sz_23 :sz tyT 23=1:=rfl
theorem zGC :cks tyT 23= [.sl 22]:=rfl
theorem tk_25 :tk tyT 25=some (.st [.sl 2, .sl 22] [(0,22),(1,23)],48):=rfl
theorem sz_25 :sz tyT 25=2:=rfl
theorem zGD :cks tyT 25= [.sl 2, .sl 22]:=rfl
theorem tk_26 :tk tyT 26=some (.sc (.sl 68),24):=rfl
theorem sz_26 :sz tyT 26=1:=rfl
theorem zGE :cks tyT 26= [.sl 68]:=rfl
theorem tk_28 :tk tyT 28=some (.st [.sl 22, .sl 22] [(0,23),(1,23)],48):=rfl
theorem sz_28 :sz tyT 28=2:=rfl
theorem zGF :cks tyT 28= [.sl 22, .sl 22]:=rfl
theorem tk_33 :tk tyT 33=some (.st [.sl 2, .sl 22] [(0,22),(1,23)],48):=rfl
theorem sz_33 :sz tyT 33=2:=rfl
theorem zGG :cks tyT 33= [.sl 2, .sl 22]:=rfl
theorem tk_35 :tk tyT 35=some (.sc (.sl 76),24):=rfl
theorem sz_35 :sz tyT 35=1:=rfl
theorem zGH :cks tyT 35= [.sl 76]:=rfl
theorem tk_37 :tk tyT 37=some (.st [.sl 22, .sl 22] [(0,23),(1,23)],48):=rfl
theorem sz_37 :sz tyT 37=2:=rfl
theorem zGI :cks tyT 37= [.sl 22, .sl 22]:=rfl
theorem tk_43 :tk tyT 43=some (.sc (.sl 5),24):=rfl
theorem sz_43 :sz tyT 43=1:=rfl
theorem zGJ :cks tyT 43= [.sl 5]:=rfl
theorem tk_47 :tk tyT 47=some (.sc (.int .u64),8):=rfl
theorem sz_47 :sz tyT 47=1:=rfl
theorem zGK :cks tyT 47= [.int .u64]:=rfl
theorem tk_58 :tk tyT 58=some (.st [.sl 2, .sl 2] [(0,22),(1,22)],48):=rfl
theorem sz_58 :sz tyT 58=2:=rfl
theorem zGL :cks tyT 58= [.sl 2, .sl 2]:=rfl
theorem tk_68 :tk tyT 68=some (.st [.sl 2, .sl 2] [(0,22),(1,22)],48):=rfl
theorem zEZ :sz tyT 68=2:=rfl
theorem zGM :cks tyT 68= [.sl 2, .sl 2]:=rfl
theorem tk_72 :tk tyT 72=some (.sc (.sl 78),24):=rfl
theorem sz_72 :sz tyT 72=1:=rfl
theorem zGN :cks tyT 72= [.sl 78]:=rfl
theorem tk_75 :tk tyT 75=some (.sc (.sl 4),24):=rfl
theorem sz_75 :sz tyT 75=1:=rfl
theorem zGO :cks tyT 75= [.sl 4]:=rfl
theorem tk_76 :tk tyT 76=some (.st [.sl 2, .sl 2] [(0,22),(1,22)],48):=rfl
theorem sz_76 :sz tyT 76=2:=rfl
theorem zGP :cks tyT 76= [.sl 2, .sl 2]:=rfl
theorem tk_78 :tk tyT 78=some (.st [.int .i64, .sl 2] [(0,2),(1,22)],32):=rfl
theorem sz_78 :sz tyT 78=2:=rfl
theorem zGQ :cks tyT 78= [.int .i64, .sl 2]:=rfl
theorem tk_90 :tk tyT 90=some (.st [.sl 5, .int .i64, .int .u64] [(0,43),(1,3),(2,47)],40):=rfl
theorem sz_90 :sz tyT 90=3:=rfl
theorem zGR :cks tyT 90= [.sl 5, .int .i64, .int .u64]:=rfl
theorem tk_92 :tk tyT 92=some (.sc (.int .u64),8):=rfl
theorem sz_92 :sz tyT 92=1:=rfl
theorem zGS :cks tyT 92= [.int .u64]:=rfl
attribute [push_cast] tk_2 sz_2 cks_2 tk_3 sz_3 cks_3 tk_4 sz_4 cks_4 tk_5 sz_5 cks_5 tk_21 sz_21 zGA tk_22 zEY zGB tk_23 sz_23 zGC tk_25 sz_25 zGD tk_26 sz_26 zGE tk_28 sz_28 zGF tk_33 sz_33 zGG tk_35 sz_35 zGH tk_37 sz_37 zGI tk_43 sz_43 zGJ tk_47 sz_47 zGK tk_58 sz_58 zGL tk_68 zEZ zGM tk_72 sz_72 zGN tk_75 sz_75 zGO tk_76 sz_76 zGP tk_78 sz_78 zGQ tk_90 sz_90 zGR tk_92 sz_92 zGS
open Nat renaming reduceMod → zA, reduceMul → zB, reduceDiv → zC, reduceAdd → zD, reduceSub → zE, reduceEqDiff → zF, reduceBEq → zG, reduceLT → zH, reduceLeDiff → zI
open Go.RowKit
set_option linter.unusedVariables false
set_option linter.unusedSimpArgs false
def gi (xs:List Int)(k:Nat):Int:=xs.getD k 0
def gl (rows:List (List Int))(k:Nat):List Int:=rows.getD k []
def gb (xs:List Bool)(k:Nat):Bool:=xs.getD k false
theorem ZY {xs:List Int}{k:Nat}(h:k<xs.length):xs[k]? =some (gi xs k):=by
 unfold gi;rw [List.getD_eq_getElem?_getD,List.getElem?_eq_getElem h];rfl
theorem wy {xs:List (List Int)}{k:Nat}(h:k<xs.length):xs[k]? =some (gl xs k):=by
 unfold gl;rw [List.getD_eq_getElem?_getD,List.getElem?_eq_getElem h];rfl
theorem zEK {xs:List Bool}{k:Nat}(h:k<xs.length):xs[k]? =some (gb xs k):=by
 unfold gb;rw [List.getD_eq_getElem?_getD,List.getElem?_eq_getElem h];rfl
def dI (xs:List Int):List D:=xs.map (.int .i64)
def dB (xs:List Bool):List D:=xs.map .bool
def dII (xss:List (List Int)):List D:=xss.map fun r=> .lst 2 (dI r)
@[reducible] def DI (xs : List Int) : D := .lst 2 (dI xs)
@[reducible] def DII (xss : List (List Int)) : D := .lst 22 (dII xss)
theorem Zp (xs:List Int):(dI xs).length=xs.length:=by simp [dI]
theorem zGl (xs:List Bool):(dB xs).length=xs.length:=by simp [dB]
theorem vZ (xs:List (List Int)):(dII xs).length=xs.length:=by simp [dII]
theorem zFB (xs:List Int)(i:Nat):XZ (dI xs) i=gi xs i:=by
 unfold XZ dI gi
 rw [List.getElem?_map,List.getD_eq_getElem?_getD]
 cases xs[i]? <;>rfl
theorem zE9 (xs:List Bool)(i:Nat):getB (dB xs) i=gb xs i:=by
 unfold getB dB gb
 rw [List.getElem?_map,List.getD_eq_getElem?_getD]
 cases xs[i]? <;>rfl
theorem zDS (xs:List (List Int))(i:Nat):yx (dII xs) i=dI (gl xs i):=by
 unfold yx dII gl
 rw [List.getElem?_map,List.getD_eq_getElem?_getD]
 cases xs[i]? <;>rfl
theorem zN {xs:List (List Int)}{i:Nat}(h:i<xs.length):xw (dII xs) i=2:=by
 unfold xw dII
 rw [List.getElem?_map,List.getElem?_eq_getElem h]
 rfl
theorem zEd (xs:List Int)(i:Nat):xK (.int .i64) (dI xs) i=(i<xs.length):=by
 unfold xK dI
 rw [List.getElem?_map]
 apply propext
 constructor
 ·rintro⟨n,h⟩
  rcases Nat.lt_or_ge i xs.length with h'|h'
  ·exact h'
  ·rw [List.getElem?_eq_none h']at h;cases h
 ·intro h;rw [List.getElem?_eq_getElem h];exact⟨_,rfl⟩
theorem zEc (xs:List Bool)(i:Nat):xK .bool (dB xs) i=(i<xs.length):=by
 unfold xK dB
 rw [List.getElem?_map]
 apply propext
 constructor
 ·rintro⟨n,h⟩
  rcases Nat.lt_or_ge i xs.length with h'|h'
  ·exact h'
  ·rw [List.getElem?_eq_none h']at h;cases h
 ·intro h;rw [List.getElem?_eq_getElem h];exact⟨_,rfl⟩
theorem zCt (xs:List (List Int))(i:Nat):xK (.sl 2) (dII xs) i=(i<xs.length):=by
 unfold xK dII
 rw [List.getElem?_map]
 apply propext
 constructor
 ·rintro⟨n,h⟩
  rcases Nat.lt_or_ge i xs.length with h'|h'
  ·exact h'
  ·rw [List.getElem?_eq_none h']at h;cases h
 ·intro h;rw [List.getElem?_eq_getElem h];exact⟨_,rfl⟩
theorem zBE (xs:List (List Int))(i:Nat):zk (dII xs) [i]=(i<xs.length):=by
 apply propext
 simp only [zk,and_true]
 unfold dII
 rw [List.getElem?_map]
 constructor
 ·rintro⟨e,n,h⟩
  rcases Nat.lt_or_ge i xs.length with h'|h'
  ·exact h'
  ·rw [List.getElem?_eq_none h']at h;cases h
 ·intro h;rw [List.getElem?_eq_getElem h];exact⟨_,_,rfl⟩
theorem zBF (xs:List D):zk xs []=True:=by simp [zk]
theorem zEy (xs:List Int)(n:Nat):(dI xs).drop n=dI (xs.drop n):=by simp [dI]
theorem zFq (xs:List Int)(n:Nat):(dI xs).take n=dI (xs.take n):=by simp [dI]
theorem zDM (xs:List (List Int))(n:Nat):(dII xs).drop n=dII (xs.drop n):=by simp [dII]
theorem zD3 (xs:List (List Int))(n:Nat):(dII xs).take n=dII (xs.take n):=by simp [dII]
theorem zF4 (xs ys:List Int):dI xs++dI ys=dI (xs++ys):=by simp [dI]
theorem zC4 (xs:List Int):(dI xs).all xR=true:=by simp [dI,xR]
theorem zC3 (xs:List Bool):(dB xs).all xR=true:=by simp [dB,xR]
theorem zG0 (xs:List Int)(i:Nat)(n:Int):(dI xs).set i (.int .i64 n)=dI (xs.set i n):=by simp [dI]
theorem zGz (xs:List Bool)(i:Nat)(b:Bool):(dB xs).set i (.bool b)=dB (xs.set i b):=by simp [dB]
theorem zEj (xs:List Int)(n:Int):dI xs++ [D.int .i64 n]=dI (xs++ [n]):=by simp [dI]
theorem zGv (n:Nat)(x:Int):List.replicate n (D.int .i64 x)=dI (List.replicate n x):=by simp [dI]
theorem zGu (n:Nat)(x:Bool):List.replicate n (D.bool x)=dB (List.replicate n x):=by simp [dB]
theorem zCo (n:Nat):((n:Int)).toNat=n:=Int.toNat_natCast n
def zj (s:List (Nat×AV)):List (Nat×AV)→Prop
 | []=>True
 |(k,v)::l=>(v= .dead∨lk s k=some v)∧zj s l
def zi {α:Type}(s:List (Nat×α)):List (Nat×α)→Prop
 | []=>True
 |(k,v)::l=>lk s k=some v∧zi s l
theorem Uv {s:List (Nat×AV)}: ∀{l:List (Nat×AV)},zj s l→∀k v,lk l k=some v→v= .dead∨lk s k=some v
 | [],_,k,v,h=>by simp [lk]at h
 |(j,u)::l,hc,k,v,h=>by
  simp only [zc]at h
  split at h
  ·rename_i e;subst e;cases h;exact hc.1
  ·exact Uv hc.2 k v h
theorem Jl {α:Type}{s:List (Nat×α)}: ∀{l:List (Nat×α)},zi s l→∀k v,lk l k=some v→lk s k=some v
 | [],_,k,v,h=>by simp [lk]at h
 |(j,u)::l,hc,k,v,h=>by
  simp only [zc]at h
  split at h
  ·rename_i e;subst e;cases h;exact hc.1
  ·exact Jl hc.2 k v h
theorem zb {st st':St}(h1:st'.n=st.n)(h2:zj st.s st'.s)(h3:zi st.b st'.b)(h4:zi st.r st'.r):Cov st st':=⟨h1,Uv h2,Jl h3,Jl h4⟩
theorem zCc (xs:List D)(i:Nat)(x:D):xg xs [] i x=xs.set i x:=rfl
theorem zBQ (k:Nat):((k:Int) - 1).toNat=k - 1:=by omega
theorem zBP (k:Nat):((k:Int)+1).toNat=k+1:=by omega
theorem zGa (e:TypeId)(ys l:List D):yx (.lst e ys::l) 0=ys:=rfl
theorem zGZ (x:D)(l:List D)(i:Nat):yx (x::l) (i+1)=yx l i:=rfl
theorem zGW (e:TypeId)(ys l:List D):xw (.lst e ys::l) 0=e:=rfl
theorem zGV (x:D)(l:List D)(i:Nat):xw (x::l) (i+1)=xw l i:=rfl
theorem zGY (k:IntKind)(n:Int)(l:List D):XZ (.int k n::l) 0=n:=rfl
theorem zGX (x:D)(l:List D)(i:Nat):XZ (x::l) (i+1)=XZ l i:=rfl
theorem zDi (e:TypeId)(ys l:List D)(q:List Nat):zk (.lst e ys::l) (0::q)=zk ys q:=by
 apply propext
 simp only [zk,List.getElem?_cons_zero]
 constructor
 ·rintro⟨e',ys',h,h2⟩;cases h;exact h2
 ·exact fun h=>⟨e,ys,rfl,h⟩
theorem zDh (x:D)(l:List D)(i:Nat)(q:List Nat):zk (x::l) ((i+1)::q)=zk l (i::q):=by
 simp only [zk,List.getElem?_cons_succ]
theorem zEf (e e':TypeId)(ys l:List D):xK (.sl e) (.lst e' ys::l) 0=(e=e'):=by
 apply propext
 simp only [xK,List.getElem?_cons_zero]
 constructor
 ·rintro⟨ys',h⟩;cases h;rfl
 ·rintro rfl;exact⟨ys,rfl⟩
theorem zEe (k k':IntKind)(n:Int)(l:List D):xK (.int k) (.int k' n::l) 0=(k=k'):=by
 apply propext
 simp only [xK,List.getElem?_cons_zero]
 constructor
 ·rintro⟨ys',h⟩;cases h;rfl
 ·rintro rfl;exact⟨n,rfl⟩
theorem zFv (c:CK)(x:D)(l:List D)(i:Nat):xK c (x::l) (i+1)=xK c l i:=by
 cases c<;>simp only [xK,List.getElem?_cons_succ]
attribute [push_cast] zGa zGZ zGW zGV zGY zGX zDi zDh zEf zEe zFv
attribute [push_cast] QU vp Jc KD fpA vD fpB fpC YZ vV wK jV xF Decidable.not_not Int.zero_add Bool.true_or Bool.or_true Int.toNat_zero Int.toNat_one zBQ zBP false_implies true_implies decide_eq_true_eq decide_eq_false_iff_not Bool.not_eq_true' Bool.not_eq_false' beq_iff_eq beq_eq_false_iff_ne bne_iff_ne bne_eq_false_iff_eq Int.add_zero Option.some_beq_none XT.cells wM xW YD VA mkF shE arC IntKind.bits Qw WR va Yz ZF JE ZK YO apart xu vo Xh qV qu uZ ub few Zr List.mem_cons List.not_mem_nil Option.isNone_some Option.isNone_none List.set_cons_zero List.singleton_append zCc xf yS St.settle St.app St.start St.cut Wl AV.cut AV.cutL vl Za vC Yg Yh YX wc ZP orE vX repC qC YR O3.own vf xx wL vJ Xj WA qZ Yl wb YW xe Dl.skip Dl.wr fp AV.nm AV.nmL Op.operands Call.operands St.clean yq List.foldr_cons List.foldr_nil St.reset qS aop zx zt zEG xQ effM xU ev zc yv cv cv1 Je ar XV Qy unE qB wR ki wS onR wX wP Xf vH KA KC VF Yr qi fieldsOf lay ve zBF zBE yG ql vn qq jT zEd zEc zCt zFB zE9 zDS Zp zGl vZ zEy zFq zDM zD3 zF4 zC4 zC3 zG0 zGz zEj zGv zGu zCo hom vK Qz vt xt qQ St.put St.addR St.delR St.moveR St.appG appG jX jY St.setR St.setB St.addB St.kill vg rm AV.kill AV.killL is1 noB zZ XH appE VE ja Jw scE scD WI CK.zeroD TK.cells O3.isSh O3.isEx cellsOf yQ jc vB yW yV yO zq VT.cells yw xy szL wt wg Qn qg yz zS zT xM vO wn YL jZ Wg Option.map_some Option.map_none Option.getD_some Option.getD_none List.map_cons List.map_nil List.getElem?_cons_zero List.getElem?_cons_succ List.getElem?_nil List.getD_cons_zero List.getD_cons_succ List.headD_cons List.tail_cons List.cons_append List.nil_append List.append_nil List.length_cons List.length_nil List.drop_zero List.take_zero List.drop_succ_cons List.take_succ_cons List.filter_cons List.filter_nil List.contains_cons List.contains_nil List.all_cons List.all_nil List.take_length Int.natCast_add Int.natCast_one Int.natCast_zero Int.cast_ofNat_Int Nat.zero_add Nat.add_zero Nat.mul_one Nat.div_one Nat.sub_zero Nat.zero_le if_true if_false true_and and_true and_self true_or or_true false_or or_false not_true_eq_false not_false_eq_true implies_true forall_const Bool.true_and Bool.and_true Bool.false_and Bool.and_false Bool.or_false Bool.false_or Bool.not_true Bool.not_false Bool.false_eq_true beq_self_eq_true eq_self_iff_true Option.some.injEq id_eq List.toList_toArray decide_true decide_false ne_eq forall_eq
def XY (a b:List Int):Bool:=a==b
theorem zDP {a b:List Int}(h: ¬a.length=b.length):XY a b=false:=by
 unfold XY
 rw [beq_eq_false_iff_ne]
 rintro rfl
 exact h rfl
set_option maxHeartbeats 1000000 in
theorem Vb (a b:List Int)(ha:a.length≤1048576):Fn Try.prog tyT 49 [.c (DI a), .c (DI b)] [.c (.bool (XY a b))]:=by
 refine yC (fn:=Try.f49) (ts:= [4]) Try.func49 (by kernel_rfl) rfl rfl (by rw [Try.ntmps49];exact Nat.le_of_ble_eq_true rfl) rfl (by simp only [szA,List.mem_cons,List.not_mem_nil,or_false,forall_eq_or_imp,forall_eq,VT.cells,szL];try decide) ?_
 rw [Try.ntmps49]
 simp only [push_cast,↓zK,↓zJ,↓reduceIte,zA,zB,zC,zD,zE,zF,zG,zH,zI,reduceCtorEq]
 refine zL fun K hK=> ?_
 refine zM zQ zO [] rfl ?_
 simp only [push_cast,↓zK,↓zJ,↓reduceIte,zA,zB,zC,zD,zE,zF,zG,zH,zI,reduceCtorEq]
 repeat' apply And.intro
 all_goals try exact gB
 all_goals first|(refine hK _ ?_;clear hK K)|(simp only [push_cast];done)
 refine zL fun K1 hK1=> ?_
 refine zL fun K hK=> ?_
 refine zM zQ zO [] rfl ?_
 simp only [push_cast,↓zK,↓zJ,↓reduceIte,zA,zB,zC,zD,zE,zF,zG,zH,zI,reduceCtorEq]
 repeat' apply And.intro
 all_goals try exact gB
 all_goals first|(refine hK _ ?_;clear hK K)|(simp only [push_cast];done)
 refine zU rfl (fun hc=> ?_) (fun hc=> ?_)<;>(try simp only [push_cast]at hc)
 ·
  refine zL fun K hK=> ?_
  refine zM zQ zO [] rfl ?_
  simp only [push_cast,↓zK,↓zJ,↓reduceIte,zA,zB,zC,zD,zE,zF,zG,zH,zI,reduceCtorEq]
  repeat' apply And.intro
  all_goals try exact gB
  all_goals first|(refine hK _ ?_;clear hK K)|(simp only [push_cast];done)
  refine za ?_
  (try simp only [zS,zT])
  refine⟨Or.inl rfl,?_⟩
  simp only [ze,push_cast,↓zK,↓zJ,↓reduceIte,zA,zB,zC,zD,zE,zF,zG,zH,zI,reduceCtorEq]
  rw [zDP (by omega)]
 ·refine zV ?_
  (try simp only [zS,zT,reduceIte,zF]);refine hK1 _ ?_
  have hl:a.length=b.length:=by omega
  refine zL fun K2 hK2=> ?_
  refine zL fun K hK=> ?_
  refine zM zQ zO [] rfl ?_
  simp only [push_cast,↓zK,↓zJ,↓reduceIte,zA,zB,zC,zD,zE,zF,zG,zH,zI,reduceCtorEq]
  repeat' apply And.intro
  all_goals try exact gB
  all_goals first|(refine hK _ ?_;clear hK K)|(simp only [push_cast];done)
  refine zX ?_
  refine zn [5,4,11,12,13,14,15,16,17,18,19,20,21,22,23,24,25] [] (fun k:Nat=> [(5, .int .i64 k)]) (fun _=> []) (fun _=> []) (fun k=>k≤a.length∧∀j,j<k→gi a j=gi b j) (fun k=>a.length - k) 0 ?_ ⟨by omega,fun j hj=>by omega⟩ ?_
  ·refine zb rfl ?_ ?_ ?_<;>simp only [zj,zi,push_cast,↓zK,↓zJ,↓reduceIte,zA,zB,zC,zD,zE,zF,zG,zH,zI,reduceCtorEq]
  ·rintro k ⟨hk,hall⟩ K0 hK0
   simp only [push_cast,↓zK,↓zJ,↓reduceIte,zA,zB,zC,zD,zE,zF,zG,zH,zI,reduceCtorEq]
   refine zL fun K3 hK3=> ?_
   refine zL fun K hK=> ?_
   refine zM zQ zO [] rfl ?_
   simp only [push_cast,↓zK,↓zJ,↓reduceIte,zA,zB,zC,zD,zE,zF,zG,zH,zI,reduceCtorEq]
   repeat' apply And.intro
   all_goals try exact gB
   all_goals first|(refine hK _ ?_;clear hK K)|(simp only [push_cast];done)
   refine zU rfl (fun hc=> ?_) (fun hc=> ?_)<;>(try simp only [push_cast]at hc)
   ·refine zV ?_
    (try simp only [zS,zT,reduceIte,zF]);refine hK3 _ ?_
    refine zL fun K4 hK4=> ?_
    refine zX ?_
    refine zL fun K hK=> ?_
    refine xr false zQ zO qM ?_ rfl ?_
    ·kernel_rfl
    intro C hC
    simp only [push_cast,↓zK,↓zJ,↓reduceIte,zA,zB,zC,zD,zE,zF,zG,zH,zI,reduceCtorEq]
    repeat' apply And.intro
    all_goals first|omega|with_reducible assumption|(refine hC _ ?_;kernel_rfl)|(simp only [List.length_set,List.length_append,List.length_replicate,List.length_cons,List.length_nil];omega)|skip
    all_goals first|(refine hK _ ?_;clear hC C hK K)|(simp only [push_cast];done)
    refine zU rfl (fun hc=> ?_) (fun hc=> ?_)<;>(try simp only [push_cast]at hc)
    ·
     refine zL fun K hK=> ?_
     refine zM zQ zO [] rfl ?_
     simp only [push_cast,↓zK,↓zJ,↓reduceIte,zA,zB,zC,zD,zE,zF,zG,zH,zI,reduceCtorEq]
     repeat' apply And.intro
     all_goals try exact gB
     all_goals first|(refine hK _ ?_;clear hK K)|(simp only [push_cast];done)
     refine za ?_
     (try simp only [zS,zT])
     refine⟨Or.inl rfl,?_⟩
     simp only [ze,push_cast,↓zK,↓zJ,↓reduceIte,zA,zB,zC,zD,zE,zF,zG,zH,zI,reduceCtorEq]
     unfold XY
     rw [beq_eq_false_iff_ne.2]
     rintro rfl
     exact hc rfl
    ·refine zV ?_
     (try simp only [zS,zT,reduceIte,zF]);refine hK4 _ ?_
     refine zM zQ zO [] rfl ?_
     simp only [push_cast,↓zK,↓zJ,↓reduceIte,zA,zB,zC,zD,zE,zF,zG,zH,zI,reduceCtorEq]
     repeat' apply And.intro
     all_goals try exact gB
     refine hK0 _ ⟨k+1,⟨by omega,fun j hj=> ?_⟩,by omega,?_⟩
     ·by_cases h:j=k
      ·subst h;exact hc
      ·exact hall j (by omega)
     ·refine zb rfl ?_ ?_ ?_<;>simp only [zj,zi,push_cast,↓zK,↓zJ,↓reduceIte,zA,zB,zC,zD,zE,zF,zG,zH,zI,reduceCtorEq]
   ·refine zp ?_
    (try simp only [zS,zT,reduceIte,zF]);refine hK2 _ ?_
    refine zL fun K hK=> ?_
    refine zM zQ zO [] rfl ?_
    simp only [push_cast,↓zK,↓zJ,↓reduceIte,zA,zB,zC,zD,zE,zF,zG,zH,zI,reduceCtorEq]
    repeat' apply And.intro
    all_goals try exact gB
    all_goals first|(refine hK _ ?_;clear hK K)|(simp only [push_cast];done)
    refine za ?_
    (try simp only [zS,zT])
    refine⟨Or.inl rfl,?_⟩
    simp only [ze,push_cast,↓zK,↓zJ,↓reduceIte,zA,zB,zC,zD,zE,zF,zG,zH,zI,reduceCtorEq]
    have :a=b:=by
     refine List.ext_getElem hl fun j h1 h2=> ?_
     have h3:=hall j (by omega)
     have h4:=ZY h1
     have h5:=ZY h2
     rw [List.getElem?_eq_getElem h1]at h4
     rw [List.getElem?_eq_getElem h2]at h5
     injection h4 with h4
     injection h5 with h5
     rw [h4,h5,h3]
    subst this
    simp [XY]
def pre (a:List Int)(k:Nat):List Int:=a.take k++List.replicate (a.length - k) 0
theorem zFa {a:List Int}{k:Nat}(h:k≤a.length):(pre a k).length=a.length:=by simp [pre];omega
theorem pre_0 (a:List Int):pre a 0=List.replicate a.length 0:=by simp [pre]
theorem zFZ (a:List Int):pre a a.length=a:=by simp [pre]
theorem zFb {a:List Int}{k:Nat}(h:k<a.length):(pre a k).set k (gi a k)=pre a (k+1):=by
 apply List.ext_getElem?
 intro j
 unfold pre
 rw [List.getElem?_set,List.getElem?_append,List.getElem?_append]
 have h1:=ZY h
 have e1:min k a.length=k:=by omega
 have e2:min (k+1) a.length=k+1:=by omega
 simp only [List.length_append,List.length_take,List.length_replicate,List.getElem?_take,List.getElem?_replicate,e1,e2]
 by_cases hj:k=j
 ·subst hj
  rw [if_pos rfl,if_pos (by omega),if_pos (by omega),if_pos (by omega),h1]
 ·rw [if_neg hj]
  by_cases hjk:j<k
  ·simp only [if_pos hjk,if_pos (show j<k+1 by omega)]
  ·simp only [if_neg hjk,if_neg (show ¬j<k+1 by omega)]
   by_cases h2:j - k<a.length - k
   ·rw [if_pos h2,if_pos (by omega)]
   ·rw [if_neg h2,if_neg (by omega)]
set_option maxHeartbeats 1000000 in
theorem Vm (a:List Int)(ha:a.length≤1048576):Fn Try.prog tyT 38 [.c (DI a)] [.c (DI a)]:=by
 refine yC (fn:=Try.f38) (ts:= [2]) Try.func38 (by kernel_rfl) rfl rfl (by rw [Try.ntmps38];exact Nat.le_of_ble_eq_true rfl) rfl (by simp only [szA,List.mem_cons,List.not_mem_nil,or_false,forall_eq_or_imp,forall_eq,VT.cells,szL];try decide) ?_
 rw [Try.ntmps38]
 simp only [push_cast,↓zK,↓zJ,↓reduceIte,zA,zB,zC,zD,zE,zF,zG,zH,zI,reduceCtorEq]
 refine zL fun K hK=> ?_
 refine zM zQ zO [] rfl ?_
 simp only [push_cast,↓zK,↓zJ,↓reduceIte,zA,zB,zC,zD,zE,zF,zG,zH,zI,reduceCtorEq]
 repeat' apply And.intro
 all_goals try exact gB
 all_goals first|(refine hK _ ?_;clear hK K)|(simp only [push_cast];done)
 refine zL fun K hK=> ?_
 refine zM zQ zO [] rfl ?_
 simp only [push_cast,↓zK,↓zJ,↓reduceIte,zA,zB,zC,zD,zE,zF,zG,zH,zI,reduceCtorEq]
 repeat' apply And.intro
 all_goals try exact gB
 all_goals first|(refine hK _ ?_;clear hK K)|(simp only [push_cast];done)
 refine zL fun K1 hK1=> ?_
 refine zL fun K hK=> ?_
 refine zM zQ zO [] rfl ?_
 simp only [push_cast,↓zK,↓zJ,↓reduceIte,zA,zB,zC,zD,zE,zF,zG,zH,zI,reduceCtorEq]
 repeat' apply And.intro
 all_goals try exact gB
 all_goals first|(refine hK _ ?_;clear hK K)|(simp only [push_cast];done)
 refine zX ?_
 refine zn [4,8,9,10,11,12,13,14,15,16,17,18,19,20,3] [] (fun k:Nat=> [(4, .int .i64 k),(3, .sl 48 [] 0 a.length 2)]) (fun _=> []) (fun k=> [(48,⟨.ex,2,dI (pre a k),none⟩)]) (fun k=>k≤a.length) (fun k=>a.length - k) 0 ?_ (by omega) ?_
 ·rw [pre_0]
  refine zb rfl ?_ ?_ ?_<;>simp only [zj,zi,push_cast,↓zK,↓zJ,↓reduceIte,zA,zB,zC,zD,zE,zF,zG,zH,zI,reduceCtorEq]
 ·rintro k hk K0 hK0
  have hpl:=zFa hk
  simp only [push_cast,↓zK,↓zJ,↓reduceIte,zA,zB,zC,zD,zE,zF,zG,zH,zI,reduceCtorEq]
  refine zL fun K2 hK2=> ?_
  refine zL fun K hK=> ?_
  refine zM zQ zO [] rfl ?_
  simp only [push_cast,↓zK,↓zJ,↓reduceIte,zA,zB,zC,zD,zE,zF,zG,zH,zI,reduceCtorEq]
  repeat' apply And.intro
  all_goals try exact gB
  all_goals first|(refine hK _ ?_;clear hK K)|(simp only [push_cast];done)
  refine zU rfl (fun hc=> ?_) (fun hc=> ?_)<;>(try simp only [push_cast]at hc)
  ·refine zV ?_
   (try simp only [zS,zT,reduceIte,zF]);refine hK2 _ ?_
   refine zL fun K3 hK3=> ?_
   refine zX ?_
   refine zM zQ zO [] rfl ?_
   simp only [push_cast,↓zK,↓zJ,↓reduceIte,zA,zB,zC,zD,zE,zF,zG,zH,zI,reduceCtorEq]
   repeat' apply And.intro
   all_goals try exact gB
   rw [zFb (by omega)]
   (try simp only [zS,zT,reduceIte,zF]);refine hK3 _ ?_
   refine zM zQ zO [] rfl ?_
   simp only [push_cast,↓zK,↓zJ,↓reduceIte,zA,zB,zC,zD,zE,zF,zG,zH,zI,reduceCtorEq]
   repeat' apply And.intro
   all_goals try exact gB
   refine hK0 _ ⟨k+1,by omega,by omega,?_⟩
   refine zb rfl ?_ ?_ ?_<;>simp only [zj,zi,push_cast,↓zK,↓zJ,↓reduceIte,zA,zB,zC,zD,zE,zF,zG,zH,zI,reduceCtorEq]
  ·refine zp ?_
   (try simp only [zS,zT,reduceIte,zF]);refine hK1 _ ?_
   have hk':k=a.length:=by omega
   subst hk'
   rw [zFZ]
   refine zL fun K hK=> ?_
   refine zM zQ zO [] rfl ?_
   simp only [push_cast,↓zK,↓zJ,↓reduceIte,zA,zB,zC,zD,zE,zF,zG,zH,zI,reduceCtorEq]
   repeat' apply And.intro
   all_goals try exact gB
   all_goals first|(refine hK _ ?_;clear hK K)|(simp only [push_cast];done)
   refine za ?_
   (try simp only [zS,zT])
   refine⟨Or.inl rfl,?_⟩
   simp only [ze,push_cast,↓zK,↓zJ,↓reduceIte,zA,zB,zC,zD,zE,zF,zG,zH,zI,reduceCtorEq]
   trace_state
def Yk (a:List (List Int))(k:Nat):List (List Int):=a.take k++List.replicate (a.length - k) []
theorem zDp {a:List (List Int)}{k:Nat}(h:k≤a.length):(Yk a k).length=a.length:=by simp [Yk];omega
theorem zGs (a:List (List Int)):dII (Yk a 0)=List.replicate a.length (D.lst 2 []):=by simp [Yk,dII,dI]
theorem zDo (a:List (List Int)):Yk a a.length=a:=by simp [Yk]
theorem zDY {r:List (List Int)}{k:Nat}{x:List Int}(h:k<r.length):dII (List.take k r)++ [D.lst 2 (dI x)]++dII (List.drop (k+1) r)=dII (r.set k x):=by
 rw [List.set_eq_take_append_cons_drop,if_pos h]
 simp [dII]
theorem zDq {a:List (List Int)}{k:Nat}(h:k<a.length):(Yk a k).set k (gl a k)=Yk a (k+1):=by
 have h1:=wy h
 have hk:(a.take k).length=k:=by rw [List.length_take];omega
 have e:a.take (k+1)=a.take k++ [gl a k]:=by
  rw [List.take_add_one,h1];rfl
 unfold Yk
 rw [List.set_append_right _ _ (by omega),hk,Nat.sub_self,show a.length - k=(a.length - (k+1))+1 from by omega,List.replicate_succ,List.set_cons_zero,e,List.append_assoc]
 rfl
set_option maxHeartbeats 1000000 in
theorem ut (a:List (List Int))(ha:a.length≤1048576)(hr: ∀r∈a,r.length≤1048576):Fn Try.prog tyT 39 [.c (DII a)] [.c (DII a)]:=by
 refine yC (fn:=Try.f39) (ts:= [2]) Try.func39 (by kernel_rfl) rfl rfl (by rw [Try.ntmps39];exact Nat.le_of_ble_eq_true rfl) rfl (by simp only [szA,List.mem_cons,List.not_mem_nil,or_false,forall_eq_or_imp,forall_eq,VT.cells,szL];try decide) ?_
 rw [Try.ntmps39]
 simp only [push_cast,↓zK,↓zJ,↓reduceIte,zA,zB,zC,zD,zE,zF,zG,zH,zI,reduceCtorEq]
 refine zL fun K hK=> ?_
 refine zM zQ zO [] rfl ?_
 simp only [push_cast,↓zK,↓zJ,↓reduceIte,zA,zB,zC,zD,zE,zF,zG,zH,zI,reduceCtorEq]
 repeat' apply And.intro
 all_goals try exact gB
 all_goals first|(refine hK _ ?_;clear hK K)|(simp only [push_cast];done)
 refine zL fun K hK=> ?_
 refine zM zQ zO [] rfl ?_
 simp only [push_cast,↓zK,↓zJ,↓reduceIte,zA,zB,zC,zD,zE,zF,zG,zH,zI,reduceCtorEq]
 repeat' apply And.intro
 all_goals try exact gB
 all_goals first|(refine hK _ ?_;clear hK K)|(simp only [push_cast];done)
 refine zL fun K1 hK1=> ?_
 refine zL fun K hK=> ?_
 refine zM zQ zO [] rfl ?_
 simp only [push_cast,↓zK,↓zJ,↓reduceIte,zA,zB,zC,zD,zE,zF,zG,zH,zI,reduceCtorEq]
 repeat' apply And.intro
 all_goals try exact gB
 all_goals first|(refine hK _ ?_;clear hK K)|(simp only [push_cast];done)
 refine zX ?_
 refine zn [4,8,9,10,11,12,13,14,15,16,17,18,19,20,21,3] [] (fun k:Nat=> [(4, .int .i64 k),(3, .sl 48 [] 0 a.length 22)]) (fun _=> []) (fun k=> [(48,⟨.ex,22,dII (Yk a k),none⟩)]) (fun k=>k≤a.length) (fun k=>a.length - k) 0 ?_ (by omega) ?_
 ·rw [zGs]
  refine zb rfl ?_ ?_ ?_<;>simp only [zj,zi,push_cast,↓zK,↓zJ,↓reduceIte,zA,zB,zC,zD,zE,zF,zG,zH,zI,reduceCtorEq]
 ·rintro k hk K0 hK0
  have hpl:=zDp hk
  simp only [push_cast,↓zK,↓zJ,↓reduceIte,zA,zB,zC,zD,zE,zF,zG,zH,zI,reduceCtorEq]
  refine zL fun K2 hK2=> ?_
  refine zL fun K hK=> ?_
  refine zM zQ zO [] rfl ?_
  simp only [push_cast,↓zK,↓zJ,↓reduceIte,zA,zB,zC,zD,zE,zF,zG,zH,zI,reduceCtorEq]
  repeat' apply And.intro
  all_goals try exact gB
  all_goals first|(refine hK _ ?_;clear hK K)|(simp only [push_cast];done)
  refine zU rfl (fun hc=> ?_) (fun hc=> ?_)<;>(try simp only [push_cast]at hc)
  ·refine zV ?_
   (try simp only [zS,zT,reduceIte,zF]);refine hK2 _ ?_
   refine zL fun K3 hK3=> ?_
   refine zX ?_
   refine zf true zQ zO ?_ rfl ?_
   ·kernel_rfl
   simp only [push_cast,↓zK,↓zJ,↓reduceIte,zA,zB,zC,zD,zE,zF,zG,zH,zI,reduceCtorEq]
   refine⟨by omega,by omega,⟨by omega,zN (by omega)⟩,_,Vm (gl a k) ?_,?_⟩
   ·exact hr _ (List.mem_of_getElem? (wy (by omega)))
   simp only [push_cast,↓zK,↓zJ,↓reduceIte,zA,zB,zC,zD,zE,zF,zG,zH,zI,reduceCtorEq]
   repeat' apply And.intro
   all_goals try exact gB
   rw [zDY (by omega),zDq (by omega)]
   (try simp only [zS,zT,reduceIte,zF]);refine hK3 _ ?_
   refine zM zQ zO [] rfl ?_
   simp only [push_cast,↓zK,↓zJ,↓reduceIte,zA,zB,zC,zD,zE,zF,zG,zH,zI,reduceCtorEq]
   repeat' apply And.intro
   all_goals try exact gB
   refine hK0 _ ⟨k+1,by omega,by omega,?_⟩
   refine zb rfl ?_ ?_ ?_<;>simp only [zj,zi,push_cast,↓zK,↓zJ,↓reduceIte,zA,zB,zC,zD,zE,zF,zG,zH,zI,reduceCtorEq]
  ·refine zp ?_
   (try simp only [zS,zT,reduceIte,zF]);refine hK1 _ ?_
   have hk':k=a.length:=by omega
   subst hk'
   rw [zDo]
   refine zL fun K hK=> ?_
   refine zM zQ zO [] rfl ?_
   simp only [push_cast,↓zK,↓zJ,↓reduceIte,zA,zB,zC,zD,zE,zF,zG,zH,zI,reduceCtorEq]
   repeat' apply And.intro
   all_goals try exact gB
   all_goals first|(refine hK _ ?_;clear hK K)|(simp only [push_cast];done)
   refine za ?_
   (try simp only [zS,zT])
   refine⟨Or.inl rfl,?_⟩
   simp only [ze,push_cast,↓zK,↓zJ,↓reduceIte,zA,zB,zC,zD,zE,zF,zG,zH,zI,reduceCtorEq]
def iot (k:Int):Nat→List Int
 |0=> []
 |n+1=>iot k n++ [k+n]
theorem zAF (k:Int): ∀n,(iot k n).length=n
 |0=>rfl
 |n+1=>by simp [iot,zAF k n]
def qJ (rs:List (List Int)):Nat:=(rs.map List.length).sum
def mkR (k:Int):List (List Int)→List (List Int)
 | []=> []
 |r::rs=>iot k r.length::mkR (k+r.length) rs
theorem zFR (k:Int)(rs:List (List Int)):(mkR k rs).length=rs.length:=by
 induction rs generalizing k with
 |nil=>rfl
 |cons r rs ih=>simp [mkR,ih]
theorem jK (r:List Int)(rs:List (List Int)):qJ (r::rs)=r.length+qJ rs:=by simp [qJ]
theorem zD2 :qJ []=0:=rfl
theorem Vk (a b:List (List Int)):qJ (a++b)=qJ a+qJ b:=by simp [qJ]
def Yf (l:Int)(n:Nat):Int:=if l - n<0 then -1 else l - n
def ZZ (l:Int):List (List Int)→Int
 | []=>l
 |r::rs=>if l - r.length<0 then -1 else ZZ (l - r.length) rs
def XA (l:Int)(a:List (List Int)):Int:=if l - a.length<0 then -1 else ZZ (l - a.length) a
set_option maxHeartbeats 1000000 in
theorem Vl (a:List Int)(l:Int)(h0:0≤l)(h1:l≤1048576)(ha:a.length≤9223372036854775807):Fn Try.prog tyT 29 [.c (DI a), .c (.int .i64 l)] [.c (.int .i64 (Yf l a.length))]:=by
 refine yC (fn:=Try.f29) (ts:= [4]) Try.func29 (by kernel_rfl) rfl rfl (by rw [Try.ntmps29];exact Nat.le_of_ble_eq_true rfl) rfl (by simp only [szA,List.mem_cons,List.not_mem_nil,or_false,forall_eq_or_imp,forall_eq,VT.cells,szL];try decide) ?_
 rw [Try.ntmps29]
 simp only [push_cast,↓zK,↓zJ,↓reduceIte,zA,zB,zC,zD,zE,zF,zG,zH,zI,reduceCtorEq]
 refine zL fun K hK=> ?_
 refine zM zQ zO [] rfl ?_
 simp only [push_cast,↓zK,↓zJ,↓reduceIte,zA,zB,zC,zD,zE,zF,zG,zH,zI,reduceCtorEq]
 repeat' apply And.intro
 all_goals try exact gB
 all_goals first|(refine hK _ ?_;clear hK K)|(simp only [push_cast];done)
 refine zL fun K hK=> ?_
 refine zM zQ zO [] rfl ?_
 simp only [push_cast,↓zK,↓zJ,↓reduceIte,zA,zB,zC,zD,zE,zF,zG,zH,zI,reduceCtorEq]
 repeat' apply And.intro
 all_goals try exact gB
 all_goals first|(refine hK _ ?_;clear hK K)|(simp only [push_cast];done)
 refine zL fun K1 hK1=> ?_
 refine zL fun K hK=> ?_
 refine zM zQ zO [] rfl ?_
 simp only [push_cast,↓zK,↓zJ,↓reduceIte,zA,zB,zC,zD,zE,zF,zG,zH,zI,reduceCtorEq]
 repeat' apply And.intro
 all_goals try exact gB
 all_goals first|(refine hK _ ?_;clear hK K)|(simp only [push_cast];done)
 refine zU rfl (fun hc=> ?_) (fun hc=> ?_)<;>(try simp only [push_cast]at hc)
 ·
  refine zL fun K hK=> ?_
  refine zM zQ zO [] rfl ?_
  simp only [push_cast,↓zK,↓zJ,↓reduceIte,zA,zB,zC,zD,zE,zF,zG,zH,zI,reduceCtorEq]
  repeat' apply And.intro
  all_goals try exact gB
  all_goals first|(refine hK _ ?_;clear hK K)|(simp only [push_cast];done)
  refine za ?_
  (try simp only [zS,zT])
  refine⟨Or.inl rfl,?_⟩
  simp only [ze,push_cast,↓zK,↓zJ,↓reduceIte,zA,zB,zC,zD,zE,zF,zG,zH,zI,reduceCtorEq]
  simp only [Yf,if_pos hc]
 ·
  refine zV ?_
  (try simp only [zS,zT,reduceIte,zF]);refine hK1 _ ?_
  refine zL fun K hK=> ?_
  refine zM zQ zO [] rfl ?_
  simp only [push_cast,↓zK,↓zJ,↓reduceIte,zA,zB,zC,zD,zE,zF,zG,zH,zI,reduceCtorEq]
  repeat' apply And.intro
  all_goals try exact gB
  all_goals first|(refine hK _ ?_;clear hK K)|(simp only [push_cast];done)
  refine za ?_
  (try simp only [zS,zT])
  refine⟨Or.inl rfl,?_⟩
  simp only [ze,push_cast,↓zK,↓zJ,↓reduceIte,zA,zB,zC,zD,zE,zF,zG,zH,zI,reduceCtorEq]
  simp only [Yf,if_neg hc]
theorem zEz {a:List (List Int)}{k:Nat}(h:k<a.length):a.drop k=gl a k::a.drop (k+1):=by
 have h1:=wy h
 rw [List.getElem?_eq_getElem h]at h1
 injection h1 with h1
 rw [←h1]
 exact List.drop_eq_getElem_cons h
set_option maxHeartbeats 1000000 in
theorem ul (a:List (List Int))(l:Int)(h0:0≤l)(h1:l≤1048576)(ha:a.length≤9223372036854775807)(hr: ∀r∈a,r.length≤9223372036854775807):Fn Try.prog tyT 30 [.c (DII a), .c (.int .i64 l)] [.c (.int .i64 (XA l a))]:=by
 refine yC (fn:=Try.f30) (ts:= [4]) Try.func30 (by kernel_rfl) rfl rfl (by rw [Try.ntmps30];exact Nat.le_of_ble_eq_true rfl) rfl (by simp only [szA,List.mem_cons,List.not_mem_nil,or_false,forall_eq_or_imp,forall_eq,VT.cells,szL];try decide) ?_
 rw [Try.ntmps30]
 simp only [push_cast,↓zK,↓zJ,↓reduceIte,zA,zB,zC,zD,zE,zF,zG,zH,zI,reduceCtorEq]
 refine zL fun K hK=> ?_
 refine zM zQ zO [] rfl ?_
 simp only [push_cast,↓zK,↓zJ,↓reduceIte,zA,zB,zC,zD,zE,zF,zG,zH,zI,reduceCtorEq]
 repeat' apply And.intro
 all_goals try exact gB
 all_goals first|(refine hK _ ?_;clear hK K)|(simp only [push_cast];done)
 refine zL fun K hK=> ?_
 refine zM zQ zO [] rfl ?_
 simp only [push_cast,↓zK,↓zJ,↓reduceIte,zA,zB,zC,zD,zE,zF,zG,zH,zI,reduceCtorEq]
 repeat' apply And.intro
 all_goals try exact gB
 all_goals first|(refine hK _ ?_;clear hK K)|(simp only [push_cast];done)
 refine zL fun K1 hK1=> ?_
 refine zL fun K hK=> ?_
 refine zM zQ zO [] rfl ?_
 simp only [push_cast,↓zK,↓zJ,↓reduceIte,zA,zB,zC,zD,zE,zF,zG,zH,zI,reduceCtorEq]
 repeat' apply And.intro
 all_goals try exact gB
 all_goals first|(refine hK _ ?_;clear hK K)|(simp only [push_cast];done)
 refine zU rfl (fun hc=> ?_) (fun hc=> ?_)<;>(try simp only [push_cast]at hc)
 ·
  refine zL fun K hK=> ?_
  refine zM zQ zO [] rfl ?_
  simp only [push_cast,↓zK,↓zJ,↓reduceIte,zA,zB,zC,zD,zE,zF,zG,zH,zI,reduceCtorEq]
  repeat' apply And.intro
  all_goals try exact gB
  all_goals first|(refine hK _ ?_;clear hK K)|(simp only [push_cast];done)
  refine za ?_
  (try simp only [zS,zT])
  refine⟨Or.inl rfl,?_⟩
  simp only [ze,push_cast,↓zK,↓zJ,↓reduceIte,zA,zB,zC,zD,zE,zF,zG,zH,zI,reduceCtorEq]
  simp only [XA,if_pos hc]
 ·
  refine zV ?_
  (try simp only [zS,zT,reduceIte,zF]);refine hK1 _ ?_
  have hneg: ¬l - (a.length:Int)<0:=hc
  refine zL fun K2 hK2=> ?_
  refine zL fun K hK=> ?_
  refine zM zQ zO [] rfl ?_
  simp only [push_cast,↓zK,↓zJ,↓reduceIte,zA,zB,zC,zD,zE,zF,zG,zH,zI,reduceCtorEq]
  repeat' apply And.intro
  all_goals try exact gB
  all_goals first|(refine hK _ ?_;clear hK K)|(simp only [push_cast];done)
  refine zX ?_
  refine zn [1,4,5,12,13,14,15,16,17,18,19,20,21,22,23,24,25] [] (fun x:Nat×Int=> [(5, .int .i64 x.1),(1, .int .i64 x.2)]) (fun _=> []) (fun _=> []) (fun x=>x.1≤a.length∧0≤x.2∧x.2≤1048576∧ZZ (l - a.length) a=ZZ x.2 (a.drop x.1)) (fun x=>a.length - x.1) (0,l - a.length) ?_ ⟨by simp,by simp;omega,by simp;omega,by simp⟩ ?_
  ·
   refine zb rfl ?_ ?_ ?_<;>simp only [zj,zi,push_cast,↓zK,↓zJ,↓reduceIte,zA,zB,zC,zD,zE,zF,zG,zH,zI,reduceCtorEq]
  ·rintro⟨k,m⟩ ⟨hk,hm0,hm1,hm⟩ K0 hK0
   simp only at hk hm0 hm1 hm
   simp only [push_cast,↓zK,↓zJ,↓reduceIte,zA,zB,zC,zD,zE,zF,zG,zH,zI,reduceCtorEq]
   refine zL fun K3 hK3=> ?_
   refine zL fun K hK=> ?_
   refine zM zQ zO [] rfl ?_
   simp only [push_cast,↓zK,↓zJ,↓reduceIte,zA,zB,zC,zD,zE,zF,zG,zH,zI,reduceCtorEq]
   repeat' apply And.intro
   all_goals try exact gB
   all_goals first|(refine hK _ ?_;clear hK K)|(simp only [push_cast];done)
   refine zU rfl (fun hc=> ?_) (fun hc=> ?_)<;>(try simp only [push_cast]at hc)
   ·
    have hkl:k<a.length:=by omega
    rw [zEz hkl,ZZ]at hm
    have hrk:(gl a k).length≤9223372036854775807:=hr _ (List.mem_of_getElem? (wy hkl))
    refine zV ?_
    (try simp only [zS,zT,reduceIte,zF]);refine hK3 _ ?_
    refine zL fun K4 hK4=> ?_
    refine zX ?_
    refine zL fun K hK=> ?_
    refine zM zQ zO [] rfl ?_
    simp only [push_cast,↓zK,↓zJ,↓reduceIte,zA,zB,zC,zD,zE,zF,zG,zH,zI,reduceCtorEq]
    refine⟨by omega,by omega,⟨by omega,zN (by omega)⟩,_,Vl (gl a k) m hm0 hm1 hrk,?_⟩
    simp only [push_cast,↓zK,↓zJ,↓reduceIte,zA,zB,zC,zD,zE,zF,zG,zH,zI,reduceCtorEq]
    repeat' apply And.intro
    all_goals try exact gB
    refine hK _ ?_
    clear hK K
    refine zL fun K hK=> ?_
    refine zM zQ zO [] rfl ?_
    simp only [push_cast,↓zK,↓zJ,↓reduceIte,zA,zB,zC,zD,zE,zF,zG,zH,zI,reduceCtorEq]
    repeat' apply And.intro
    all_goals try exact gB
    all_goals first|(refine hK _ ?_;clear hK K)|(simp only [push_cast];done)
    refine zU rfl (fun hc=> ?_) (fun hc=> ?_)<;>(try simp only [push_cast]at hc)
    ·
     refine zL fun K hK=> ?_
     refine zM zQ zO [] rfl ?_
     simp only [push_cast,↓zK,↓zJ,↓reduceIte,zA,zB,zC,zD,zE,zF,zG,zH,zI,reduceCtorEq]
     repeat' apply And.intro
     all_goals try exact gB
     all_goals first|(refine hK _ ?_;clear hK K)|(simp only [push_cast];done)
     refine za ?_
     (try simp only [zS,zT])
     refine⟨Or.inl rfl,?_⟩
     simp only [ze,push_cast,↓zK,↓zJ,↓reduceIte,zA,zB,zC,zD,zE,zF,zG,zH,zI,reduceCtorEq]
     have hn:m - ((gl a k).length:Int)<0:=by unfold Yf at hc;split at hc<;>omega
     rw [if_pos hn]at hm
     simp only [XA,if_neg hneg,hm]
    ·
     refine zV ?_
     (try simp only [zS,zT,reduceIte,zF]);refine hK4 _ ?_
     refine zM zQ zO [] rfl ?_
     simp only [push_cast,↓zK,↓zJ,↓reduceIte,zA,zB,zC,zD,zE,zF,zG,zH,zI,reduceCtorEq]
     repeat' apply And.intro
     all_goals try exact gB
     refine hK0 _ ⟨(k+1,Yf m (gl a k).length),?_,by simp;omega,?_⟩
     ·have hn: ¬m - ((gl a k).length:Int)<0:=by
       intro h
       exact hc (by unfold Yf;rw [if_pos h];omega)
      have e:Yf m (gl a k).length=m - (gl a k).length:=by unfold Yf;rw [if_neg hn]
      rw [if_neg hn]at hm
      simp only [e]
      exact⟨by omega,by omega,by omega,hm⟩
     refine zb rfl ?_ ?_ ?_<;>simp only [zj,zi,push_cast,↓zK,↓zJ,↓reduceIte,zA,zB,zC,zD,zE,zF,zG,zH,zI,reduceCtorEq]
   ·
    refine zp ?_
    (try simp only [zS,zT,reduceIte,zF]);refine hK2 _ ?_
    have :k=a.length:=by omega
    subst this
    rw [List.drop_length,ZZ]at hm
    refine zL fun K hK=> ?_
    refine zM zQ zO [] rfl ?_
    simp only [push_cast,↓zK,↓zJ,↓reduceIte,zA,zB,zC,zD,zE,zF,zG,zH,zI,reduceCtorEq]
    repeat' apply And.intro
    all_goals try exact gB
    all_goals first|(refine hK _ ?_;clear hK K)|(simp only [push_cast];done)
    refine za ?_
    (try simp only [zS,zT])
    refine⟨Or.inl rfl,?_⟩
    simp only [ze,push_cast,↓zK,↓zJ,↓reduceIte,zA,zB,zC,zD,zE,zF,zG,zH,zI,reduceCtorEq]
    simp only [XA,if_neg hneg,hm]
set_option maxHeartbeats 1000000 in
theorem kg (a b:List (List Int))(ha:a.length≤1048576)(hra: ∀r∈a,r.length≤1048576):Fn Try.prog tyT 50 [.c (DII a), .c (DII b)] [.c (.bool (a==b))]:=by
 refine yC (fn:=Try.f50) (ts:= [4]) Try.func50 (by kernel_rfl) rfl rfl (by rw [Try.ntmps50];exact Nat.le_of_ble_eq_true rfl) rfl (by simp only [szA,List.mem_cons,List.not_mem_nil,or_false,forall_eq_or_imp,forall_eq,VT.cells,szL];try decide) ?_
 rw [Try.ntmps50]
 simp only [push_cast,↓zK,↓zJ,↓reduceIte,zA,zB,zC,zD,zE,zF,zG,zH,zI,reduceCtorEq]
 refine zL fun K hK=> ?_
 refine zM zQ zO [] rfl ?_
 simp only [push_cast,↓zK,↓zJ,↓reduceIte,zA,zB,zC,zD,zE,zF,zG,zH,zI,reduceCtorEq]
 repeat' apply And.intro
 all_goals try exact gB
 all_goals first|(refine hK _ ?_;clear hK K)|(simp only [push_cast];done)
 refine zL fun K1 hK1=> ?_
 refine zL fun K hK=> ?_
 refine zM zQ zO [] rfl ?_
 simp only [push_cast,↓zK,↓zJ,↓reduceIte,zA,zB,zC,zD,zE,zF,zG,zH,zI,reduceCtorEq]
 repeat' apply And.intro
 all_goals try exact gB
 all_goals first|(refine hK _ ?_;clear hK K)|(simp only [push_cast];done)
 refine zU rfl (fun hc=> ?_) (fun hc=> ?_)<;>(try simp only [push_cast]at hc)
 ·
  refine zL fun K hK=> ?_
  refine zM zQ zO [] rfl ?_
  simp only [push_cast,↓zK,↓zJ,↓reduceIte,zA,zB,zC,zD,zE,zF,zG,zH,zI,reduceCtorEq]
  repeat' apply And.intro
  all_goals try exact gB
  all_goals first|(refine hK _ ?_;clear hK K)|(simp only [push_cast];done)
  refine za ?_
  (try simp only [zS,zT])
  refine⟨Or.inl rfl,?_⟩
  simp only [ze,push_cast,↓zK,↓zJ,↓reduceIte,zA,zB,zC,zD,zE,zF,zG,zH,zI,reduceCtorEq]
  symm
  rw [beq_eq_false_iff_ne]
  rintro rfl
  exact hc rfl
 ·
  refine zV ?_
  (try simp only [zS,zT,reduceIte,zF]);refine hK1 _ ?_
  have hl:a.length=b.length:=by omega
  refine zL fun K2 hK2=> ?_
  refine zL fun K hK=> ?_
  refine zM zQ zO [] rfl ?_
  simp only [push_cast,↓zK,↓zJ,↓reduceIte,zA,zB,zC,zD,zE,zF,zG,zH,zI,reduceCtorEq]
  repeat' apply And.intro
  all_goals try exact gB
  all_goals first|(refine hK _ ?_;clear hK K)|(simp only [push_cast];done)
  refine zX ?_
  refine zn [4,5,11,12,13,14,15,16,17,18,19,20,21,22,23,24,25,26] [] (fun k:Nat=> [(5, .int .i64 k)]) (fun _=> []) (fun k=> []) (fun k=>k≤a.length∧∀j,j<k→gl a j=gl b j) (fun k=>a.length - k) 0 ?_ ⟨by omega,fun j hj=>by omega⟩ ?_
  ·
   refine zb rfl ?_ ?_ ?_<;>simp only [zj,zi,push_cast,↓zK,↓zJ,↓reduceIte,zA,zB,zC,zD,zE,zF,zG,zH,zI,reduceCtorEq]
  ·rintro k ⟨hk,hall⟩ K0 hK0
   simp only [push_cast,↓zK,↓zJ,↓reduceIte,zA,zB,zC,zD,zE,zF,zG,zH,zI,reduceCtorEq]
   refine zL fun K3 hK3=> ?_
   refine zL fun K hK=> ?_
   refine zM zQ zO [] rfl ?_
   simp only [push_cast,↓zK,↓zJ,↓reduceIte,zA,zB,zC,zD,zE,zF,zG,zH,zI,reduceCtorEq]
   repeat' apply And.intro
   all_goals try exact gB
   all_goals first|(refine hK _ ?_;clear hK K)|(simp only [push_cast];done)
   refine zU rfl (fun hc=> ?_) (fun hc=> ?_)<;>(try simp only [push_cast]at hc)
   ·
    have hkl:k<a.length:=by omega
    have hrk:(gl a k).length≤1048576:=hra _ (List.mem_of_getElem? (wy hkl))
    refine zV ?_
    (try simp only [zS,zT,reduceIte,zF]);refine hK3 _ ?_
    refine zL fun K4 hK4=> ?_
    refine zX ?_
    refine zL fun K hK=> ?_
    refine xr false zQ zO qM ?_ rfl ?_
    ·kernel_rfl
    intro C hC
    simp only [push_cast,↓zK,↓zJ,↓reduceIte,zA,zB,zC,zD,zE,zF,zG,zH,zI,reduceCtorEq]
    refine⟨by omega,by omega,by omega,by omega,⟨⟨by omega,zN (by omega)⟩,by omega,zN (by omega)⟩,_,Vb (gl a k) (gl b k) hrk,?_⟩
    simp only [push_cast,↓zK,↓zJ,↓reduceIte,zA,zB,zC,zD,zE,zF,zG,zH,zI,reduceCtorEq]
    repeat' apply And.intro
    all_goals first|omega|with_reducible assumption|(refine hC _ ?_;kernel_rfl)|(simp only [List.length_set,List.length_append,List.length_replicate,List.length_cons,List.length_nil];omega)|skip
    refine hK _ ?_
    clear hC C hK K
    refine zU rfl (fun hc=> ?_) (fun hc=> ?_)<;>(try simp only [push_cast]at hc)
    ·
     refine zL fun K hK=> ?_
     refine zM zQ zO [] rfl ?_
     simp only [push_cast,↓zK,↓zJ,↓reduceIte,zA,zB,zC,zD,zE,zF,zG,zH,zI,reduceCtorEq]
     repeat' apply And.intro
     all_goals try exact gB
     all_goals first|(refine hK _ ?_;clear hK K)|(simp only [push_cast];done)
     refine za ?_
     (try simp only [zS,zT])
     refine⟨Or.inl rfl,?_⟩
     simp only [ze,push_cast,↓zK,↓zJ,↓reduceIte,zA,zB,zC,zD,zE,zF,zG,zH,zI,reduceCtorEq]
     symm
     rw [beq_eq_false_iff_ne]
     rintro rfl
     simp [XY]at hc
    ·
     refine zV ?_
     (try simp only [zS,zT,reduceIte,zF]);refine hK4 _ ?_
     refine zM zQ zO [] rfl ?_
     simp only [push_cast,↓zK,↓zJ,↓reduceIte,zA,zB,zC,zD,zE,zF,zG,zH,zI,reduceCtorEq]
     repeat' apply And.intro
     all_goals try exact gB
     refine hK0 _ ⟨k+1,⟨by omega,fun j hj=> ?_⟩,by omega,?_⟩
     ·by_cases h:j=k
      ·subst h;simpa [XY]using hc
      ·exact hall j (by omega)
     refine zb rfl ?_ ?_ ?_<;>simp only [zj,zi,push_cast,↓zK,↓zJ,↓reduceIte,zA,zB,zC,zD,zE,zF,zG,zH,zI,reduceCtorEq]
   ·
    refine zp ?_
    (try simp only [zS,zT,reduceIte,zF]);refine hK2 _ ?_
    refine zL fun K hK=> ?_
    refine zM zQ zO [] rfl ?_
    simp only [push_cast,↓zK,↓zJ,↓reduceIte,zA,zB,zC,zD,zE,zF,zG,zH,zI,reduceCtorEq]
    repeat' apply And.intro
    all_goals try exact gB
    all_goals first|(refine hK _ ?_;clear hK K)|(simp only [push_cast];done)
    refine za ?_
    (try simp only [zS,zT])
    refine⟨Or.inl rfl,?_⟩
    simp only [ze,push_cast,↓zK,↓zJ,↓reduceIte,zA,zB,zC,zD,zE,zF,zG,zH,zI,reduceCtorEq]
    have :a=b:=by
     refine List.ext_getElem hl fun j h1 h2=> ?_
     have h3:=hall j (by omega)
     have h4:=wy h1
     have h5:=wy h2
     rw [List.getElem?_eq_getElem h1]at h4
     rw [List.getElem?_eq_getElem h2]at h5
     injection h4 with h4
     injection h5 with h5
     rw [h4,h5,h3]
    subst this
    simp
theorem zDO (a:List Int)(ha:a.length≤1048576):Fn Try.prog tyT 49 [.c (DI a), .c (DI a)] [.c (.bool true)]:=by
 have :=Vb a a ha
 rwa [show XY a a=true from by simp [XY]]at this
theorem zBx (a:List (List Int))(ha:a.length≤1048576)(hr: ∀r∈a,r.length≤1048576):Fn Try.prog tyT 50 [.c (DII a), .c (DII a)] [.c (.bool true)]:=by
 have :=kg a a ha hr
 rwa [show(a==a)=true from by simp]at this
def szl (l:Int)(t:Nat):Int:=if l<t then -1 else l - t
theorem yZ {l:Int}{t:Nat}(h:l<t):szl l t= -1:=if_pos h
theorem xI {l:Int}{t:Nat}(h: ¬l<t):szl l t=l - t:=if_neg h
def xO (a:List (List Int)):Nat:=a.length+qJ a
def LnI (B:Nat)(a:List Int):Prop:=a.length≤B
def qN (B:Nat)(a:List (List Int)):Prop:=a.length≤B∧∀r∈a,r.length≤B
theorem zGy {a:List (List Int)}{r:List Int}(h:r∈a):r.length≤qJ a:=by
 induction a with
 |nil=>simp at h
 |cons x a ih=>
  rw [jK]
  rcases List.mem_cons.1 h with rfl|h
  ·omega
  ·have :=ih h;omega
theorem ZD {B:Nat}{a:List Int}(h:a.length≤B):LnI B a:=h
theorem Yo {B:Nat}{a:List (List Int)}(h:xO a≤B):qN B a:=⟨by unfold xO at h;omega,fun r hr=>by have :=zGy hr;unfold xO at h;omega⟩
theorem Ku : ∀(a:List (List Int)) (l:Int),0≤l→ZZ l a=szl l (qJ a)
 | [],l,h=>by rw [zD2,xI (by omega)];simp [ZZ]
 |r::a,l,h=>by
  simp only [ZZ,jK]
  split
  ·rw [yZ (by omega)]
  ·rw [Ku a _ (by omega)]
   unfold szl
   split<;>split<;>omega
theorem uk (a:List Int)(l:Int)(h0:0≤l)(h1:l≤1048576)(ha:LnI 9223372036854775807 a):Fn Try.prog tyT 29 [.c (DI a), .c (.int .i64 l)] [.c (.int .i64 (szl l a.length))]:=by
 have :=Vl a l h0 h1 ha
 have e:Yf l a.length=szl l a.length:=by unfold Yf szl;split<;>split<;>omega
 rwa [e]at this
theorem KH (a:List (List Int))(l:Int)(h0:0≤l)(h1:l≤1048576)(ha:qN 9223372036854775807 a):Fn Try.prog tyT 30 [.c (DII a), .c (.int .i64 l)] [.c (.int .i64 (szl l (xO a)))]:=by
 have :=ul a l h0 h1 ha.1 ha.2
 have e:XA l a=szl l (xO a):=by
  unfold XA xO
  split
  ·rw [yZ (by omega)]
  ·rw [Ku _ _ (by omega)]
   unfold szl
   split<;>split<;>omega
 rwa [e]at this
theorem ur (a:List Int)(ha:LnI 1048576 a):Fn Try.prog tyT 38 [.c (DI a)] [.c (DI a)]:=Vm a ha
theorem KL (a:List (List Int))(ha:qN 1048576 a):Fn Try.prog tyT 39 [.c (DII a)] [.c (DII a)]:=ut a ha.1 ha.2
theorem Jn (a:List Int)(ha:LnI 1048576 a):Fn Try.prog tyT 49 [.c (DI a), .c (DI a)] [.c (.bool true)]:=zDO a ha
theorem Vv (a:List (List Int))(ha:qN 1048576 a):Fn Try.prog tyT 50 [.c (DII a), .c (DII a)] [.c (.bool true)]:=zBx a ha.1 ha.2
theorem LnI.mono {B C:Nat}(hB:B≤C){a:List Int}(h:LnI B a):LnI C a:=Nat.le_trans h hB
theorem qN.mono {B C:Nat}(hB:B≤C){a:List (List Int)}(h:qN B a):qN C a:=⟨Nat.le_trans h.1 hB,fun r hr=>Nat.le_trans (h.2 r hr) hB⟩
theorem zD5 (k:Int)(n:Nat):(iot k n).take n=iot k n:=List.take_of_length_le (by rw [zAF];exact Nat.le_refl _)
theorem zD6 (k:Int)(xs:List (List Int)):(mkR k xs).take xs.length=mkR k xs:=List.take_of_length_le (by rw [zFR];exact Nat.le_refl _)
theorem zFc :List.range 0= []:=rfl
theorem zFd :List.range 1= [0]:=rfl
theorem zFe :List.range 2= [0,1]:=rfl
attribute [push_cast] List.map_nil zFc zFd zFe
attribute [push_cast] zD5 zD6
open Go Go.RowKit
theorem zC6 (xs:List (List Int))(r:List Int):dII xs++ [D.lst 2 (dI r)]=dII (xs++ [r]):=by simp [dII]
theorem zEk (xs ys:List (List Int)):dII xs++dII ys=dII (xs++ys):=by simp [dII]
attribute [push_cast] zC6 zEk
structure Ar where
 owner:List Int
 next:List (List Int)
 deriving DecidableEq
def dAr (x:Ar):List D:= [DI x.owner,DII x.next]
def Ar.tot (x:Ar):Nat:=x.owner.length+xO x.next
structure Ar.Ln (B:Nat)(x:Ar):Prop where
 owner:LnI B x.owner
 next:qN B x.next
theorem Ar.ln_of {B:Nat}{x:Ar}(h:x.tot≤B):x.Ln B:=by
 unfold Ar.tot at h
 exact⟨ZD (by omega),Yo (by omega)⟩
set_option maxHeartbeats 1000000 in
theorem zFk (x:Ar)(l:Int)(h0:0≤l)(h1:l≤1048576)(ha:x.Ln 9223372036854775807):Fn Try.prog tyT 5 [.agg (dAr x), .c (.int .i64 l)] [.c (.int .i64 (szl l x.tot))]:=by
 have ht:x.tot=x.owner.length+xO x.next:=by unfold Ar.tot; omega
 unfold dAr
 refine yC (fn:=Try.f5) (ts:= [4]) Try.func5 (by kernel_rfl) rfl rfl (by rw [Try.ntmps5];exact Nat.le_of_ble_eq_true rfl) rfl (by simp only [szA,List.mem_cons,List.not_mem_nil,or_false,forall_eq_or_imp,forall_eq,VT.cells,szL];try decide) ?_
 rw [Try.ntmps5]
 simp only [push_cast,↓zK,↓zJ,↓reduceIte,zA,zB,zC,zD,zE,zF,zG,zH,zI,reduceCtorEq]
 refine zL fun K hK=> ?_
 refine zM zQ zO [] rfl ?_
 simp only [push_cast,↓zK,↓zJ,↓reduceIte,zA,zB,zC,zD,zE,zF,zG,zH,zI,reduceCtorEq]
 repeat' apply And.intro
 all_goals try exact gB
 all_goals first|(refine hK _ ?_;clear hK K)|(simp only [push_cast];done)
 have hA:=uk x.owner (l) (by omega) (by omega) ha.owner
 refine zL fun K hK=> ?_
 refine zM zQ zO [] rfl ?_
 simp only [push_cast,↓zK,↓zJ,↓reduceIte,zA,zB,zC,zD,zE,zF,zG,zH,zI,reduceCtorEq]
 refine⟨_,hA,?_⟩
 simp only [push_cast,↓zK,↓zJ,↓reduceIte,zA,zB,zC,zD,zE,zF,zG,zH,zI,reduceCtorEq]
 repeat' apply And.intro
 all_goals try exact gB
 refine hK _ ?_
 clear hK K hA
 refine zL fun K0 hK0=> ?_
 refine zL fun K hK=> ?_
 refine zM zQ zO [] rfl ?_
 simp only [push_cast,↓zK,↓zJ,↓reduceIte,zA,zB,zC,zD,zE,zF,zG,zH,zI,reduceCtorEq]
 repeat' apply And.intro
 all_goals try exact gB
 all_goals first|(refine hK _ ?_;clear hK K)|(simp only [push_cast];done)
 by_cases hn0:(l)<(x.owner.length:Nat)
 ·rw [yZ hn0]
  refine zU rfl (fun hc=> ?_) (fun hc=> ?_)<;>(try simp only [push_cast]at hc)
  ·
   refine zL fun K hK=> ?_
   refine zM zQ zO [] rfl ?_
   simp only [push_cast,↓zK,↓zJ,↓reduceIte,zA,zB,zC,zD,zE,zF,zG,zH,zI,reduceCtorEq]
   repeat' apply And.intro
   all_goals try exact gB
   all_goals first|(refine hK _ ?_;clear hK K)|(simp only [push_cast];done)
   refine za ?_
   (try simp only [zS,zT])
   refine⟨Or.inl rfl,?_⟩
   simp only [ze,push_cast,↓zK,↓zJ,↓reduceIte,zA,zB,zC,zD,zE,zF,zG,zH,zI,reduceCtorEq]
   rw [yZ (by omega)]
  ·exact absurd hc (by decide)
 ·rw [xI hn0]
  refine zU rfl (fun hc=> ?_) (fun hc=> ?_)<;>(try simp only [push_cast]at hc)
  ·exfalso;omega
  ·refine zV ?_
   (try simp only [zS,zT,reduceIte,zF]);refine hK0 _ ?_
   have hA:=KH x.next (l - (x.owner.length:Nat)) (by omega) (by omega) ha.next
   refine zL fun K hK=> ?_
   refine zM zQ zO [] rfl ?_
   simp only [push_cast,↓zK,↓zJ,↓reduceIte,zA,zB,zC,zD,zE,zF,zG,zH,zI,reduceCtorEq]
   refine⟨_,hA,?_⟩
   simp only [push_cast,↓zK,↓zJ,↓reduceIte,zA,zB,zC,zD,zE,zF,zG,zH,zI,reduceCtorEq]
   repeat' apply And.intro
   all_goals try exact gB
   refine hK _ ?_
   clear hK K hA
   refine zL fun K1 hK1=> ?_
   refine zL fun K hK=> ?_
   refine zM zQ zO [] rfl ?_
   simp only [push_cast,↓zK,↓zJ,↓reduceIte,zA,zB,zC,zD,zE,zF,zG,zH,zI,reduceCtorEq]
   repeat' apply And.intro
   all_goals try exact gB
   all_goals first|(refine hK _ ?_;clear hK K)|(simp only [push_cast];done)
   by_cases hn1:(l - (x.owner.length:Nat))<(xO x.next:Nat)
   ·rw [yZ hn1]
    refine zU rfl (fun hc=> ?_) (fun hc=> ?_)<;>(try simp only [push_cast]at hc)
    ·
     refine zL fun K hK=> ?_
     refine zM zQ zO [] rfl ?_
     simp only [push_cast,↓zK,↓zJ,↓reduceIte,zA,zB,zC,zD,zE,zF,zG,zH,zI,reduceCtorEq]
     repeat' apply And.intro
     all_goals try exact gB
     all_goals first|(refine hK _ ?_;clear hK K)|(simp only [push_cast];done)
     refine za ?_
     (try simp only [zS,zT])
     refine⟨Or.inl rfl,?_⟩
     simp only [ze,push_cast,↓zK,↓zJ,↓reduceIte,zA,zB,zC,zD,zE,zF,zG,zH,zI,reduceCtorEq]
     rw [yZ (by omega)]
    ·exact absurd hc (by decide)
   ·rw [xI hn1]
    refine zU rfl (fun hc=> ?_) (fun hc=> ?_)<;>(try simp only [push_cast]at hc)
    ·exfalso;omega
    ·refine zV ?_
     (try simp only [zS,zT,reduceIte,zF]);refine hK1 _ ?_
     refine zL fun K hK=> ?_
     refine zM zQ zO [] rfl ?_
     simp only [push_cast,↓zK,↓zJ,↓reduceIte,zA,zB,zC,zD,zE,zF,zG,zH,zI,reduceCtorEq]
     repeat' apply And.intro
     all_goals try exact gB
     all_goals first|(refine hK _ ?_;clear hK K)|(simp only [push_cast];done)
     refine za ?_
     (try simp only [zS,zT])
     refine⟨Or.inl rfl,?_⟩
     simp only [ze,push_cast,↓zK,↓zJ,↓reduceIte,zA,zB,zC,zD,zE,zF,zG,zH,zI,reduceCtorEq]
     rw [xI (by omega)];omega
set_option maxHeartbeats 1000000 in
theorem KK (x:Ar)(ha:x.Ln 1048576):Fn Try.prog tyT 9 [.agg (dAr x)] [.agg (dAr x)]:=by
 unfold dAr
 refine jo (fn:=Try.f9) (rs:= [.cell 2 33]) zQ zO Try.func9 (by kernel_rfl) rfl rfl (by rw [Try.ntmps9];exact Nat.le_of_ble_eq_true rfl) rfl (by simp only [szA,List.mem_cons,List.not_mem_nil,or_false,forall_eq_or_imp,forall_eq,VT.cells,szL];try decide) ?_
 rw [Try.ntmps9]
 simp only [push_cast,↓zK,↓zJ,↓reduceIte,zA,zB,zC,zD,zE,zF,zG,zH,zI,reduceCtorEq]
 refine zL fun K hK=> ?_
 refine zM zQ zO [] rfl ?_
 simp only [push_cast,↓zK,↓zJ,↓reduceIte,zA,zB,zC,zD,zE,zF,zG,zH,zI,reduceCtorEq]
 repeat' apply And.intro
 all_goals try exact gB
 all_goals first|(refine hK _ ?_;clear hK K)|(simp only [push_cast];done)
 refine zL fun K hK=> ?_
 refine zM zQ zO [] rfl ?_
 simp only [push_cast,↓zK,↓zJ,↓reduceIte,zA,zB,zC,zD,zE,zF,zG,zH,zI,reduceCtorEq]
 repeat' apply And.intro
 all_goals try exact gB
 all_goals first|(refine hK _ ?_;clear hK K)|(simp only [push_cast];done)
 have hA:=ur x.owner ha.owner
 refine zL fun K hK=> ?_
 refine zM zQ zO [] rfl ?_
 simp only [push_cast,↓zK,↓zJ,↓reduceIte,zA,zB,zC,zD,zE,zF,zG,zH,zI,reduceCtorEq]
 refine⟨_,hA,?_⟩
 simp only [push_cast,↓zK,↓zJ,↓reduceIte,zA,zB,zC,zD,zE,zF,zG,zH,zI,reduceCtorEq]
 repeat' apply And.intro
 all_goals try exact gB
 refine hK _ ?_
 clear hK K hA
 have hA:=KL x.next ha.next
 refine zL fun K hK=> ?_
 refine zM zQ zO [] rfl ?_
 simp only [push_cast,↓zK,↓zJ,↓reduceIte,zA,zB,zC,zD,zE,zF,zG,zH,zI,reduceCtorEq]
 refine⟨_,hA,?_⟩
 simp only [push_cast,↓zK,↓zJ,↓reduceIte,zA,zB,zC,zD,zE,zF,zG,zH,zI,reduceCtorEq]
 repeat' apply And.intro
 all_goals try exact gB
 refine hK _ ?_
 clear hK K hA
 refine zL fun K hK=> ?_
 refine zM zQ zO [] rfl ?_
 simp only [push_cast,↓zK,↓zJ,↓reduceIte,zA,zB,zC,zD,zE,zF,zG,zH,zI,reduceCtorEq]
 repeat' apply And.intro
 all_goals try exact gB
 all_goals first|(refine hK _ ?_;clear hK K)|(simp only [push_cast];done)
 refine za ?_
 (try simp only [zS,zT])
 refine⟨Or.inl rfl,?_⟩
 simp only [ze,qY,Zs,push_cast,↓zK,↓zJ,↓reduceIte,zA,zB,zC,zD,zE,zF,zG,zH,zI,reduceCtorEq]
 try rfl
set_option maxHeartbeats 1000000 in
theorem zE2 (x:Ar)(ha:x.Ln 1048576):Fn Try.prog tyT 13 [.agg (dAr x), .agg (dAr x)] [.c (.bool true)]:=by
 unfold dAr
 refine yC (fn:=Try.f13) (ts:= [4]) Try.func13 (by kernel_rfl) rfl rfl (by rw [Try.ntmps13];exact Nat.le_of_ble_eq_true rfl) rfl (by simp only [szA,List.mem_cons,List.not_mem_nil,or_false,forall_eq_or_imp,forall_eq,VT.cells,szL];try decide) ?_
 rw [Try.ntmps13]
 simp only [push_cast,↓zK,↓zJ,↓reduceIte,zA,zB,zC,zD,zE,zF,zG,zH,zI,reduceCtorEq]
 refine zL fun K hK=> ?_
 refine zM zQ zO [] rfl ?_
 simp only [push_cast,↓zK,↓zJ,↓reduceIte,zA,zB,zC,zD,zE,zF,zG,zH,zI,reduceCtorEq]
 repeat' apply And.intro
 all_goals try exact gB
 all_goals first|(refine hK _ ?_;clear hK K)|(simp only [push_cast];done)
 refine zL fun K0 hK0=> ?_
 have hA:=Jn x.owner ha.owner
 refine zL fun K hK=> ?_
 refine zM zQ zO [] rfl ?_
 simp only [push_cast,↓zK,↓zJ,↓reduceIte,zA,zB,zC,zD,zE,zF,zG,zH,zI,reduceCtorEq]
 refine⟨_,hA,?_⟩
 simp only [push_cast,↓zK,↓zJ,↓reduceIte,zA,zB,zC,zD,zE,zF,zG,zH,zI,reduceCtorEq]
 repeat' apply And.intro
 all_goals try exact gB
 refine hK _ ?_
 clear hK K hA
 refine zU rfl (fun hc=>by cases hc) (fun _=> ?_)
 refine zV ?_
 (try simp only [zS,zT,reduceIte,zF]);refine hK0 _ ?_
 refine zL fun K1 hK1=> ?_
 have hA:=Vv x.next ha.next
 refine zL fun K hK=> ?_
 refine zM zQ zO [] rfl ?_
 simp only [push_cast,↓zK,↓zJ,↓reduceIte,zA,zB,zC,zD,zE,zF,zG,zH,zI,reduceCtorEq]
 refine⟨_,hA,?_⟩
 simp only [push_cast,↓zK,↓zJ,↓reduceIte,zA,zB,zC,zD,zE,zF,zG,zH,zI,reduceCtorEq]
 repeat' apply And.intro
 all_goals try exact gB
 refine hK _ ?_
 clear hK K hA
 refine zU rfl (fun hc=>by cases hc) (fun _=> ?_)
 refine zV ?_
 (try simp only [zS,zT,reduceIte,zF]);refine hK1 _ ?_
 refine zL fun K hK=> ?_
 refine zM zQ zO [] rfl ?_
 simp only [push_cast,↓zK,↓zJ,↓reduceIte,zA,zB,zC,zD,zE,zF,zG,zH,zI,reduceCtorEq]
 repeat' apply And.intro
 all_goals try exact gB
 all_goals first|(refine hK _ ?_;clear hK K)|(simp only [push_cast];done)
 refine za ?_
 (try simp only [zS,zT])
 refine⟨Or.inl rfl,?_⟩
 simp only [ze,push_cast,↓zK,↓zJ,↓reduceIte,zA,zB,zC,zD,zE,zF,zG,zH,zI,reduceCtorEq]
def Ar.cnt (x:Ar):Nat:=x.owner.length+qJ x.next
theorem Ar.ln_mono {B C:Nat}(hB:B≤C){x:Ar}(h:x.Ln B):x.Ln C:=⟨LnI.mono hB h.owner,qN.mono hB h.next⟩
structure Wt where
 a:Ar
 cost:List (List Int)
 deriving DecidableEq
def Wt.tot (x:Wt):Nat:=x.a.owner.length+xO x.a.next+xO x.cost
structure Wt.Ln (B:Nat)(x:Wt):Prop where
 a:x.a.Ln B
 cost:qN B x.cost
theorem Wt.ln_of {B:Nat}{x:Wt}(h:x.tot≤B):x.Ln B:=by
 unfold Wt.tot at h
 exact⟨Ar.ln_of (by unfold Ar.tot;omega),Yo (by omega)⟩
def Wt.cnt (x:Wt):Nat:=x.a.owner.length+qJ x.a.next+qJ x.cost
theorem Wt.ln_mono {B C:Nat}(hB:B≤C){x:Wt}(h:x.Ln B):x.Ln C:=⟨Ar.ln_mono hB h.a,qN.mono hB h.cost⟩
structure Ls where
 stem:List Int
 loop:List Int
 deriving DecidableEq
def Ls.tot (x:Ls):Nat:=x.stem.length+x.loop.length
structure Ls.Ln (B:Nat)(x:Ls):Prop where
 stem:LnI B x.stem
 loop:LnI B x.loop
theorem Ls.ln_of {B:Nat}{x:Ls}(h:x.tot≤B):x.Ln B:=by
 unfold Ls.tot at h
 exact⟨ZD (by omega),ZD (by omega)⟩
def Ls.cnt (x:Ls):Nat:=x.stem.length+x.loop.length
theorem Ls.ln_mono {B C:Nat}(hB:B≤C){x:Ls}(h:x.Ln B):x.Ln C:=⟨LnI.mono hB h.stem,LnI.mono hB h.loop⟩
structure Fm where
 names:List Int
 sets:List (List Int)
 deriving DecidableEq
def Fm.tot (x:Fm):Nat:=x.names.length+xO x.sets
structure Fm.Ln (B:Nat)(x:Fm):Prop where
 names:LnI B x.names
 sets:qN B x.sets
theorem Fm.ln_of {B:Nat}{x:Fm}(h:x.tot≤B):x.Ln B:=by
 unfold Fm.tot at h
 exact⟨ZD (by omega),Yo (by omega)⟩
def Fm.cnt (x:Fm):Nat:=x.names.length+qJ x.sets
theorem Fm.ln_mono {B C:Nat}(hB:B≤C){x:Fm}(h:x.Ln B):x.Ln C:=⟨LnI.mono hB h.names,qN.mono hB h.sets⟩
structure Pr where
 ask:List Int
 give:List Int
 deriving DecidableEq
def dPr (x:Pr):List D:= [DI x.ask,DI x.give]
def Pr.tot (x:Pr):Nat:=x.ask.length+x.give.length
structure Pr.Ln (B:Nat)(x:Pr):Prop where
 ask:LnI B x.ask
 give:LnI B x.give
theorem Pr.ln_of {B:Nat}{x:Pr}(h:x.tot≤B):x.Ln B:=by
 unfold Pr.tot at h
 exact⟨ZD (by omega),ZD (by omega)⟩
set_option maxHeartbeats 1000000 in
theorem zFn (x:Pr)(l:Int)(h0:0≤l)(h1:l≤1048576)(ha:x.Ln 9223372036854775807):Fn Try.prog tyT 31 [.agg (dPr x), .c (.int .i64 l)] [.c (.int .i64 (szl l x.tot))]:=by
 have ht:x.tot=x.ask.length+x.give.length:=by unfold Pr.tot; omega
 unfold dPr
 refine yC (fn:=Try.f31) (ts:= [4]) Try.func31 (by kernel_rfl) rfl rfl (by rw [Try.ntmps31];exact Nat.le_of_ble_eq_true rfl) rfl (by simp only [szA,List.mem_cons,List.not_mem_nil,or_false,forall_eq_or_imp,forall_eq,VT.cells,szL];try decide) ?_
 rw [Try.ntmps31]
 simp only [push_cast,↓zK,↓zJ,↓reduceIte,zA,zB,zC,zD,zE,zF,zG,zH,zI,reduceCtorEq]
 refine zL fun K hK=> ?_
 refine zM zQ zO [] rfl ?_
 simp only [push_cast,↓zK,↓zJ,↓reduceIte,zA,zB,zC,zD,zE,zF,zG,zH,zI,reduceCtorEq]
 repeat' apply And.intro
 all_goals try exact gB
 all_goals first|(refine hK _ ?_;clear hK K)|(simp only [push_cast];done)
 have hA:=uk x.ask (l) (by omega) (by omega) ha.ask
 refine zL fun K hK=> ?_
 refine zM zQ zO [] rfl ?_
 simp only [push_cast,↓zK,↓zJ,↓reduceIte,zA,zB,zC,zD,zE,zF,zG,zH,zI,reduceCtorEq]
 refine⟨_,hA,?_⟩
 simp only [push_cast,↓zK,↓zJ,↓reduceIte,zA,zB,zC,zD,zE,zF,zG,zH,zI,reduceCtorEq]
 repeat' apply And.intro
 all_goals try exact gB
 refine hK _ ?_
 clear hK K hA
 refine zL fun K0 hK0=> ?_
 refine zL fun K hK=> ?_
 refine zM zQ zO [] rfl ?_
 simp only [push_cast,↓zK,↓zJ,↓reduceIte,zA,zB,zC,zD,zE,zF,zG,zH,zI,reduceCtorEq]
 repeat' apply And.intro
 all_goals try exact gB
 all_goals first|(refine hK _ ?_;clear hK K)|(simp only [push_cast];done)
 by_cases hn0:(l)<(x.ask.length:Nat)
 ·rw [yZ hn0]
  refine zU rfl (fun hc=> ?_) (fun hc=> ?_)<;>(try simp only [push_cast]at hc)
  ·
   refine zL fun K hK=> ?_
   refine zM zQ zO [] rfl ?_
   simp only [push_cast,↓zK,↓zJ,↓reduceIte,zA,zB,zC,zD,zE,zF,zG,zH,zI,reduceCtorEq]
   repeat' apply And.intro
   all_goals try exact gB
   all_goals first|(refine hK _ ?_;clear hK K)|(simp only [push_cast];done)
   refine za ?_
   (try simp only [zS,zT])
   refine⟨Or.inl rfl,?_⟩
   simp only [ze,push_cast,↓zK,↓zJ,↓reduceIte,zA,zB,zC,zD,zE,zF,zG,zH,zI,reduceCtorEq]
   rw [yZ (by omega)]
  ·exact absurd hc (by decide)
 ·rw [xI hn0]
  refine zU rfl (fun hc=> ?_) (fun hc=> ?_)<;>(try simp only [push_cast]at hc)
  ·exfalso;omega
  ·refine zV ?_
   (try simp only [zS,zT,reduceIte,zF]);refine hK0 _ ?_
   have hA:=uk x.give (l - (x.ask.length:Nat)) (by omega) (by omega) ha.give
   refine zL fun K hK=> ?_
   refine zM zQ zO [] rfl ?_
   simp only [push_cast,↓zK,↓zJ,↓reduceIte,zA,zB,zC,zD,zE,zF,zG,zH,zI,reduceCtorEq]
   refine⟨_,hA,?_⟩
   simp only [push_cast,↓zK,↓zJ,↓reduceIte,zA,zB,zC,zD,zE,zF,zG,zH,zI,reduceCtorEq]
   repeat' apply And.intro
   all_goals try exact gB
   refine hK _ ?_
   clear hK K hA
   refine zL fun K1 hK1=> ?_
   refine zL fun K hK=> ?_
   refine zM zQ zO [] rfl ?_
   simp only [push_cast,↓zK,↓zJ,↓reduceIte,zA,zB,zC,zD,zE,zF,zG,zH,zI,reduceCtorEq]
   repeat' apply And.intro
   all_goals try exact gB
   all_goals first|(refine hK _ ?_;clear hK K)|(simp only [push_cast];done)
   by_cases hn1:(l - (x.ask.length:Nat))<(x.give.length:Nat)
   ·rw [yZ hn1]
    refine zU rfl (fun hc=> ?_) (fun hc=> ?_)<;>(try simp only [push_cast]at hc)
    ·
     refine zL fun K hK=> ?_
     refine zM zQ zO [] rfl ?_
     simp only [push_cast,↓zK,↓zJ,↓reduceIte,zA,zB,zC,zD,zE,zF,zG,zH,zI,reduceCtorEq]
     repeat' apply And.intro
     all_goals try exact gB
     all_goals first|(refine hK _ ?_;clear hK K)|(simp only [push_cast];done)
     refine za ?_
     (try simp only [zS,zT])
     refine⟨Or.inl rfl,?_⟩
     simp only [ze,push_cast,↓zK,↓zJ,↓reduceIte,zA,zB,zC,zD,zE,zF,zG,zH,zI,reduceCtorEq]
     rw [yZ (by omega)]
    ·exact absurd hc (by decide)
   ·rw [xI hn1]
    refine zU rfl (fun hc=> ?_) (fun hc=> ?_)<;>(try simp only [push_cast]at hc)
    ·exfalso;omega
    ·refine zV ?_
     (try simp only [zS,zT,reduceIte,zF]);refine hK1 _ ?_
     refine zL fun K hK=> ?_
     refine zM zQ zO [] rfl ?_
     simp only [push_cast,↓zK,↓zJ,↓reduceIte,zA,zB,zC,zD,zE,zF,zG,zH,zI,reduceCtorEq]
     repeat' apply And.intro
     all_goals try exact gB
     all_goals first|(refine hK _ ?_;clear hK K)|(simp only [push_cast];done)
     refine za ?_
     (try simp only [zS,zT])
     refine⟨Or.inl rfl,?_⟩
     simp only [ze,push_cast,↓zK,↓zJ,↓reduceIte,zA,zB,zC,zD,zE,zF,zG,zH,zI,reduceCtorEq]
     rw [xI (by omega)];omega
set_option maxHeartbeats 1000000 in
theorem zFr (x:Pr)(ha:x.Ln 1048576):Fn Try.prog tyT 40 [.agg (dPr x)] [.agg (dPr x)]:=by
 unfold dPr
 refine jo (fn:=Try.f40) (rs:= [.cell 2 76]) zQ zO Try.func40 (by kernel_rfl) rfl rfl (by rw [Try.ntmps40];exact Nat.le_of_ble_eq_true rfl) rfl (by simp only [szA,List.mem_cons,List.not_mem_nil,or_false,forall_eq_or_imp,forall_eq,VT.cells,szL];try decide) ?_
 rw [Try.ntmps40]
 simp only [push_cast,↓zK,↓zJ,↓reduceIte,zA,zB,zC,zD,zE,zF,zG,zH,zI,reduceCtorEq]
 refine zL fun K hK=> ?_
 refine zM zQ zO [] rfl ?_
 simp only [push_cast,↓zK,↓zJ,↓reduceIte,zA,zB,zC,zD,zE,zF,zG,zH,zI,reduceCtorEq]
 repeat' apply And.intro
 all_goals try exact gB
 all_goals first|(refine hK _ ?_;clear hK K)|(simp only [push_cast];done)
 refine zL fun K hK=> ?_
 refine zM zQ zO [] rfl ?_
 simp only [push_cast,↓zK,↓zJ,↓reduceIte,zA,zB,zC,zD,zE,zF,zG,zH,zI,reduceCtorEq]
 repeat' apply And.intro
 all_goals try exact gB
 all_goals first|(refine hK _ ?_;clear hK K)|(simp only [push_cast];done)
 have hA:=ur x.ask ha.ask
 refine zL fun K hK=> ?_
 refine zM zQ zO [] rfl ?_
 simp only [push_cast,↓zK,↓zJ,↓reduceIte,zA,zB,zC,zD,zE,zF,zG,zH,zI,reduceCtorEq]
 refine⟨_,hA,?_⟩
 simp only [push_cast,↓zK,↓zJ,↓reduceIte,zA,zB,zC,zD,zE,zF,zG,zH,zI,reduceCtorEq]
 repeat' apply And.intro
 all_goals try exact gB
 refine hK _ ?_
 clear hK K hA
 have hA:=ur x.give ha.give
 refine zL fun K hK=> ?_
 refine zM zQ zO [] rfl ?_
 simp only [push_cast,↓zK,↓zJ,↓reduceIte,zA,zB,zC,zD,zE,zF,zG,zH,zI,reduceCtorEq]
 refine⟨_,hA,?_⟩
 simp only [push_cast,↓zK,↓zJ,↓reduceIte,zA,zB,zC,zD,zE,zF,zG,zH,zI,reduceCtorEq]
 repeat' apply And.intro
 all_goals try exact gB
 refine hK _ ?_
 clear hK K hA
 refine zL fun K hK=> ?_
 refine zM zQ zO [] rfl ?_
 simp only [push_cast,↓zK,↓zJ,↓reduceIte,zA,zB,zC,zD,zE,zF,zG,zH,zI,reduceCtorEq]
 repeat' apply And.intro
 all_goals try exact gB
 all_goals first|(refine hK _ ?_;clear hK K)|(simp only [push_cast];done)
 refine za ?_
 (try simp only [zS,zT])
 refine⟨Or.inl rfl,?_⟩
 simp only [ze,qY,Zs,push_cast,↓zK,↓zJ,↓reduceIte,zA,zB,zC,zD,zE,zF,zG,zH,zI,reduceCtorEq]
 try rfl
set_option maxHeartbeats 1000000 in
theorem zE5 (x:Pr)(ha:x.Ln 1048576):Fn Try.prog tyT 51 [.agg (dPr x), .agg (dPr x)] [.c (.bool true)]:=by
 unfold dPr
 refine yC (fn:=Try.f51) (ts:= [4]) Try.func51 (by kernel_rfl) rfl rfl (by rw [Try.ntmps51];exact Nat.le_of_ble_eq_true rfl) rfl (by simp only [szA,List.mem_cons,List.not_mem_nil,or_false,forall_eq_or_imp,forall_eq,VT.cells,szL];try decide) ?_
 rw [Try.ntmps51]
 simp only [push_cast,↓zK,↓zJ,↓reduceIte,zA,zB,zC,zD,zE,zF,zG,zH,zI,reduceCtorEq]
 refine zL fun K hK=> ?_
 refine zM zQ zO [] rfl ?_
 simp only [push_cast,↓zK,↓zJ,↓reduceIte,zA,zB,zC,zD,zE,zF,zG,zH,zI,reduceCtorEq]
 repeat' apply And.intro
 all_goals try exact gB
 all_goals first|(refine hK _ ?_;clear hK K)|(simp only [push_cast];done)
 refine zL fun K0 hK0=> ?_
 have hA:=Jn x.ask ha.ask
 refine zL fun K hK=> ?_
 refine zM zQ zO [] rfl ?_
 simp only [push_cast,↓zK,↓zJ,↓reduceIte,zA,zB,zC,zD,zE,zF,zG,zH,zI,reduceCtorEq]
 refine⟨_,hA,?_⟩
 simp only [push_cast,↓zK,↓zJ,↓reduceIte,zA,zB,zC,zD,zE,zF,zG,zH,zI,reduceCtorEq]
 repeat' apply And.intro
 all_goals try exact gB
 refine hK _ ?_
 clear hK K hA
 refine zU rfl (fun hc=>by cases hc) (fun _=> ?_)
 refine zV ?_
 (try simp only [zS,zT,reduceIte,zF]);refine hK0 _ ?_
 refine zL fun K1 hK1=> ?_
 have hA:=Jn x.give ha.give
 refine zL fun K hK=> ?_
 refine zM zQ zO [] rfl ?_
 simp only [push_cast,↓zK,↓zJ,↓reduceIte,zA,zB,zC,zD,zE,zF,zG,zH,zI,reduceCtorEq]
 refine⟨_,hA,?_⟩
 simp only [push_cast,↓zK,↓zJ,↓reduceIte,zA,zB,zC,zD,zE,zF,zG,zH,zI,reduceCtorEq]
 repeat' apply And.intro
 all_goals try exact gB
 refine hK _ ?_
 clear hK K hA
 refine zU rfl (fun hc=>by cases hc) (fun _=> ?_)
 refine zV ?_
 (try simp only [zS,zT,reduceIte,zF]);refine hK1 _ ?_
 refine zL fun K hK=> ?_
 refine zM zQ zO [] rfl ?_
 simp only [push_cast,↓zK,↓zJ,↓reduceIte,zA,zB,zC,zD,zE,zF,zG,zH,zI,reduceCtorEq]
 repeat' apply And.intro
 all_goals try exact gB
 all_goals first|(refine hK _ ?_;clear hK K)|(simp only [push_cast];done)
 refine za ?_
 (try simp only [zS,zT])
 refine⟨Or.inl rfl,?_⟩
 simp only [ze,push_cast,↓zK,↓zJ,↓reduceIte,zA,zB,zC,zD,zE,zF,zG,zH,zI,reduceCtorEq]
def Pr.cnt (x:Pr):Nat:=x.ask.length+x.give.length
theorem Pr.ln_mono {B C:Nat}(hB:B≤C){x:Pr}(h:x.Ln B):x.Ln C:=⟨LnI.mono hB h.ask,LnI.mono hB h.give⟩
end Go.Proofs.Ytggpbepdeilpgaa
