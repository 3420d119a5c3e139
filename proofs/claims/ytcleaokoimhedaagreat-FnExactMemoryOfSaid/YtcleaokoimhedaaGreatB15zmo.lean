/- The recursive solver of the reference: its small functions -/
import Derived.Test.YtcleaokoimhedaaGreatGDzmo
import Derived.Test.YtcleaokoimhedaaGreatB14zmo
import Derived.Test.YtcleaokoimhedaaGreatB10zmo
namespace Go.Proofs.YtcleaokoimhedaaGreat
open Nat renaming reduceMod → zA, reduceMul → zB, reduceDiv → zC, reduceAdd → zD, reduceSub → zE, reduceEqDiff → zF, reduceBEq → zG, reduceLT → zH, reduceLeDiff → zI
open Go.RowKit
set_option linter.unusedVariables false
set_option linter.unusedSimpArgs false
theorem zMK (xs:List Bool)(n:Nat):(dB xs).take n=dB (xs.take n):=by simp [dB]
attribute [push_cast] zMK
structure L7 where
 owner:List Int
 prio:List Int
 next:List (List Int)
 prev:List (List Int)
 pick:List Int
def dL7 (x:L7):List D:= [DI x.owner,DI x.prio,DII x.next,DII x.prev,DI x.pick]
structure L7.Ok (x:L7)(n:Nat):Prop where
 hn:n≤256
 ho:x.owner.length=n
 hp:x.prio.length=n
 hx:x.next.length=n
 hv:x.prev.length=n
 hk:x.pick.length=n
 deg: ∀v,v<n→(gl x.next v).length≤256
 to: ∀v,v<n→∀j,j<(gl x.next v).length→0≤gi (gl x.next v) j∧gi (gl x.next v) j<n
 pr: ∀v,v<n→0≤gi x.prio v∧gi x.prio v≤40
 ow: ∀v,v<n→gi x.owner v=0∨gi x.owner v=1
 nd: ∀v,v<n→∀i j,i<j→j<(gl x.next v).length→gi (gl x.next v) i≠gi (gl x.next v) j
 dpv: ∀u,u<n→(gl x.prev u).length≤256
 pin: ∀u,u<n→∀m,m<(gl x.prev u).length→(0≤gi (gl x.prev u) m∧gi (gl x.prev u) m<n)∧∃j,j<(gl x.next (gi (gl x.prev u) m).toNat).length∧gi (gl x.next (gi (gl x.prev u) m).toNat) j=u
 pal: ∀v,v<n→∀j,j<(gl x.next v).length→∃m,m<(gl x.prev (gi (gl x.next v) j).toNat).length∧gi (gl x.prev (gi (gl x.next v) j).toNat) m=v
 pnd: ∀u,u<n→∀i j,i<j→j<(gl x.prev u).length→gi (gl x.prev u) i≠gi (gl x.prev u) j
def edB (x:L7)(v u:Int):Bool:=decide (gi x.pick v.toNat<0∨gi x.pick v.toNat=u)
def vu (x:L7)(inn:List Bool)(v:Nat):Nat→Int
 |0=>0
 |k+1=>if gb inn (gi (gl x.next v) k).toNat&&edB x v (gi (gl x.next v) k)then vu x inn v k+1 else vu x inn v k
theorem jH (x:L7)(inn:List Bool)(v:Nat): ∀k,0≤vu x inn v k∧vu x inn v k≤k
 |0=>⟨Int.le_refl _,Int.le_refl _⟩
 |k+1=>by
  have :=jH x inn v k
  unfold vu
  split<;>omega
theorem ki {x:L7}{inn:List Bool}{v k:Nat}(h1:gb inn (gi (gl x.next v) k).toNat=true)(h2:edB x v (gi (gl x.next v) k)=true):vu x inn v (k+1)=vu x inn v k+1:=by
 show(if _ then _ else _)=_;rw [h1,h2];rfl
theorem kh {x:L7}{inn:List Bool}{v k:Nat}(h1:gb inn (gi (gl x.next v) k).toNat=false):vu x inn v (k+1)=vu x inn v k:=by
 show(if _ then _ else _)=_;rw [h1];rfl
theorem zCq {x:L7}{inn:List Bool}{v k:Nat}(h2:edB x v (gi (gl x.next v) k)=false):vu x inn v (k+1)=vu x inn v k:=by
 show(if _ then _ else _)=_;rw [h2,Bool.and_false];rfl
def wK (x:L7)(inn:List Bool)(v:Nat):Int:=vu x inn v (gl x.next v).length
def mkB (n:Nat)(f:Nat→Bool)(k:Nat):List Bool:=(List.range k).map f++List.replicate (n - k) false
theorem wb {n:Nat}{f:Nat→Bool}{k:Nat}(h:k≤n):(mkB n f k).length=n:=by unfold mkB;simp;omega
theorem QA (n:Nat)(f:Nat→Bool):mkB n f 0=List.replicate n false:=by simp [mkB]
theorem zBx (n:Nat)(f:Nat→Bool):mkB n f n=(List.range n).map f:=by simp [mkB]
theorem qc {n:Nat}{f:Nat→Bool}{k:Nat}(h:k<n):(mkB n f k).set k (f k)=mkB n f (k+1):=by
 unfold mkB
 rw [List.set_append_right _ _ (by simp),List.length_map,List.length_range,Nat.sub_self,show n - k=(n - (k+1))+1 from by omega,List.replicate_succ,List.set_cons_zero,List.range_succ,List.map_append,List.append_assoc]
 rfl
theorem UL {n:Nat}{f:Nat→Bool}{v:Nat}(h:v<n):gb ((List.range n).map f) v=f v:=by
 unfold gb
 rw [List.getD_eq_getElem?_getD,List.getElem?_map,List.getElem?_range h]
 rfl
def vi (inn out:List Bool)(v:Nat):Bool:=gb inn v&& !gb out v
def yY (inn out:List Bool):List Bool:=(List.range inn.length).map (vi inn out)
def yc (x:L7)(inn:List Bool):Nat→Int
 |0=> -1
 |k+1=>if gb inn k then max (yc x inn k) (gi x.prio k)else yc x inn k
theorem jo {x:L7}{n:Nat}(h:x.Ok n)(inn:List Bool): ∀k,k≤n→ -1≤yc x inn k∧yc x inn k≤40
 |0,_=>⟨Int.le_refl _,(show(-1:Int)≤40 by decide)⟩
 |k+1,hk=>by
  have :=jo h inn k (by omega)
  have :=h.pr k (by omega)
  unfold yc
  split<;>omega
theorem zD6 {x:L7}{inn:List Bool}{k:Nat}(h:gb inn k=true):yc x inn (k+1)=if gi x.prio k>yc x inn k then gi x.prio k else yc x inn k:=by
 show(if _ then _ else _)=_
 rw [if_pos h]
 split<;>omega
theorem zFk {x:L7}{inn:List Bool}{k:Nat}(h:gb inn k=false):yc x inn (k+1)=yc x inn k:=by
 show(if _ then _ else _)=_
 rw [h];rfl
set_option maxRecDepth 20000 in
set_option maxHeartbeats 4000000 in
theorem zBJ (x:L7)(n:Nat)(hx:x.Ok n)(v u:Int)(hv:0≤v∧v<n):Fn Tryz.prog tyT 126 [.agg (dL7 x), .c (.int .i64 v), .c (.int .i64 u)] [.c (.bool (edB x v u))]:=by
 have hn1:=hx.hn
 have hn2:=hx.ho
 have hn3:=hx.hp
 have hn4:=hx.hx
 have hn5:=hx.hv
 have hn6:=hx.hk
 unfold dL7
 refine θH (ts:= [6]) Tryz.func126 Tryz.ntmps126 ?_
 push_cast [↓zK,↓zJ]
 refine θA ?_
 refine zL fun K hK=> ?_
 refine zf false zO zN ?_ rfl ?_
 ·kernel_rfl
 all_goals push_cast [↓zK,↓zJ]
 all_goals repeat'(first|(apply zP<;>(intro hg;(try simp only [push_cast]at hg)))|apply And.intro|(intro hg;(try simp only [push_cast]at hg)))
 all_goals try exact gA
 all_goals(refine hK _ ?_;clear hK K)
 all_goals(
   refine zZ ?_
   refine⟨Or.inl rfl,?_⟩
   push_cast [zd,↓zK,↓zJ]
   all_goals first|(symm;unfold edB;rw [decide_eq_true_eq];omega)|(symm;unfold edB;rw [decide_eq_false_iff_not];omega)|(unfold edB;rw [Bool.eq_iff_iff];simp;omega))
set_option maxRecDepth 20000 in
set_option maxHeartbeats 4000000 in
theorem zEU (x:L7)(n:Nat)(hx:x.Ok n)(inn:List Bool)(hi:inn.length=n)(v:Nat)(hv:v<n):Fn Tryz.prog tyT 125 [.agg (dL7 x), .c (.lst 4 (dB inn)), .c (.int .i64 v)] [.c (.int .i64 (wK x inn v))]:=by
 have hn1:=hx.hn
 have hn2:=hx.ho
 have hn3:=hx.hp
 have hn4:=hx.hx
 have hn5:=hx.hv
 have hn6:=hx.hk
 have hdeg:=hx.deg v hv
 have hto:=hx.to v hv
 have hE:=fun u=>zBJ x n hx (v:Int) u (by omega)
 unfold dL7 at hE⊢
 refine θH (ts:= [6]) Tryz.func125 Tryz.ntmps125 ?_
 push_cast [↓zK,↓zJ]
 refine θA ?_
 refine θA ?_
 refine zL fun K1 hK1=> ?_
 refine θA ?_
 refine zV ?_
 refine zg [7,8,9,10,11,12,13,14,15,16,17,18,19,20,21,22,23,24,25,26,27,28,29,30,31,32,33,34,35,36,37,38,39] [] (fun(k:Nat)=> [(8, .int .i64 k),(7, .int .i64 (vu x inn v k))]) (fun k=> []) (fun k=> []) (fun k=>k≤(gl x.next v).length) (fun k=>(gl x.next v).length - k) 0 ?_ (by omega) ?_
 ·
  rw [show vu x inn v 0=0 from rfl]
  exact θX
 ·rintro k hk KL0 hL0
  push_cast [↓zK,↓zJ]
  refine zL fun K2 hK2=> ?_
  refine θA ?_
  refine θU (fun hc=> ?_) fun hc=> ?_
  ·
   refine zU (hK2 _ ?_)
   refine zL fun K3 hK3=> ?_
   refine zV ?_
   have hto1:=hto k (by omega)
   have hdk:=jH x inn v k
   refine θA ?_
   refine zL fun K hK=> ?_
   refine zf false zO zN ?_ rfl ?_
   ·kernel_rfl
   all_goals refine yD 9 fun K9 hK9=> ?_
   all_goals push_cast [↓zK,↓zJ]
   all_goals repeat'(first|(apply zP<;>(intro hg;(try push_cast at hg)))|(refine⟨_,hE (gi (gl x.next v) k),?_⟩;push_cast [↓zK,↓zJ])|apply And.intro|(intro hg;(try push_cast at hg)))
   all_goals first|exact gA|(exact zQ (by omega))|skip
   all_goals(refine hK9 _ ?_;clear hK9 K9)
   all_goals push_cast [↓zK,↓zJ]
   all_goals repeat'(first|(apply zP<;>(intro hg;(try push_cast at hg)))|(refine⟨_,hE (gi (gl x.next v) k),?_⟩;push_cast [↓zK,↓zJ])|apply And.intro|(intro hg;(try push_cast at hg)))
   all_goals first|exact gA|(exact zQ (by omega))|skip
   all_goals(refine hK _ ?_;clear hK K)
   all_goals refine zT rfl (fun hc=> ?_) (fun hc=> ?_)
   all_goals(first|(cases hc;done)|skip)
   all_goals(try simp only [push_cast]at hc)
   all_goals first
    |(
      refine zU (hK3 _ ?_)
      refine θB ?_
      refine hL0 _ ⟨k+1,by omega,by omega,?_⟩
      first|rw [ki (by with_reducible assumption) (by with_reducible assumption)]|rw [kh (by with_reducible assumption)]|rw [zCq (by with_reducible assumption)]
      exact θX
      done)
    |(
      refine θB ?_
      refine hK3 _ ?_
      refine θB ?_
      refine hL0 _ ⟨k+1,by omega,by omega,?_⟩
      first|rw [ki (by with_reducible assumption) (by with_reducible assumption)]|rw [kh (by with_reducible assumption)]|rw [zCq (by with_reducible assumption)]
      exact θX
      done)
  ·
   refine zh ?_
   have hkk:k=(gl x.next v).length:=by omega
   subst hkk
   refine hK1 _ ?_
   refine θA ?_
   refine zZ ⟨Or.inl rfl,?_⟩
   push_cast [zd,↓zK,↓zJ]
   all_goals first|rfl|skip
set_option maxRecDepth 20000 in
set_option maxHeartbeats 4000000 in
theorem zBK (inn out:List Bool)(hn:inn.length≤256)(ho:out.length=inn.length):Fn Tryz.prog tyT 108 [.c (.lst 4 (dB inn)), .c (.lst 4 (dB out))] [.c (.lst 4 (dB (yY inn out)))]:=by
 refine θH (ts:= [4]) Tryz.func108 Tryz.ntmps108 ?_
 push_cast
 refine θA ?_
 refine θA ?_
 refine zL fun K1 hK1=> ?_
 refine θA ?_
 refine zV ?_
 refine zg [6,10,11,12,13,14,15,16,17,18,19,20,21,22,23,24,25,26,27,28,29] [80] (fun(k:Nat)=> [(6, .int .i64 k),(5, .sl 80 [] 0 inn.length 4)]) (fun k=> []) (fun k=> [(80,⟨.ex,4,dB (mkB inn.length (vi inn out) k),none⟩)]) (fun k=>k≤inn.length) (fun k=>inn.length - k) 0 ?_ (by omega) ?_
 ·
  rw [QA]
  exact θX
 ·rintro k hk KL0 hL0
  have hml:=wb (f:=vi inn out) hk
  push_cast
  refine zL fun K2 hK2=> ?_
  refine θA ?_
  refine θU (fun hc=> ?_) fun hc=> ?_
  ·
   refine zU (hK2 _ ?_)
   refine zL fun K3 hK3=> ?_
   refine zV ?_
   refine zf false zO zN ?_ rfl ?_
   ·kernel_rfl
   all_goals push_cast
   all_goals repeat'(first|(apply zP<;>(intro hg;push_cast at hg))|apply And.intro|(intro hg;push_cast at hg))
   all_goals try exact gA
   all_goals(
     refine hK3 _ ?_
     refine θB ?_
     refine hL0 _ ⟨k+1,by omega,by omega,?_⟩
     first|rw [show(mkB inn.length (vi inn out) k).set k (!gb out k)=mkB inn.length (vi inn out) (k+1)from by rw [←qc (by omega)];unfold vi;rw [show gb inn k=true from by with_reducible assumption];rfl]|rw [show(mkB inn.length (vi inn out) k).set k false=mkB inn.length (vi inn out) (k+1)from by rw [←qc (by omega)];unfold vi;rw [show gb inn k=false from by with_reducible assumption];rfl]
     refine zY rfl ?_ ?_ ?_<;>push_cast [zb,za])
  ·
   refine zh ?_
   have hkk:k=inn.length:=by omega
   subst hkk
   refine hK1 _ ?_
   refine θA ?_
   refine zZ ⟨Or.inl rfl,?_⟩
   push_cast [zd]
   try rw [zBx]
   unfold yY
   all_goals first|rfl|exact⟨rfl,by simp⟩|exact⟨by simp,rfl⟩|(simp;done)
set_option maxRecDepth 20000 in
set_option maxHeartbeats 4000000 in
theorem zHh (x y:Int):Fn Tryz.prog tyT 124 [.c (.int .i64 x), .c (.int .i64 y)] [.c (.int .i64 (if y>x then y else x))]:=by
 refine θH (ts:= [4]) Tryz.func124 Tryz.ntmps124 ?_
 push_cast
 refine θA ?_
 refine zL fun K1 hK1=> ?_
 refine θA ?_
 refine θU (fun hc=> ?_) fun hc=> ?_
 ·
  refine θA ?_
  refine zZ ⟨Or.inl rfl,?_⟩
  push_cast [zd]
  rw [if_neg (by omega)]
 ·
  refine zU (hK1 _ ?_)
  refine θA ?_
  refine zZ ⟨Or.inl rfl,?_⟩
  push_cast [zd]
  split<;>omega
set_option maxRecDepth 20000 in
set_option maxHeartbeats 4000000 in
theorem zJM (x:L7)(n:Nat)(hx:x.Ok n)(inn:List Bool)(hi:inn.length=n):Fn Tryz.prog tyT 107 [.agg (dL7 x), .c (.lst 4 (dB inn))] [.c (.int .i64 (yc x inn n))]:=by
 have hn1:=hx.hn
 have hn2:=hx.ho
 have hn3:=hx.hp
 have hn4:=hx.hx
 have hn5:=hx.hv
 have hn6:=hx.hk
 have hM:=zHh
 unfold dL7
 refine θH (ts:= [4]) Tryz.func107 Tryz.ntmps107 ?_
 push_cast
 refine θA ?_
 refine θA ?_
 refine zL fun K1 hK1=> ?_
 refine θA ?_
 refine zV ?_
 refine zg [5,6,7,8,9,10,11,12,13,14,15,16,17,18,19,20,21,22,23] [] (fun(k:Nat)=> [(6, .int .i64 k),(5, .int .i64 (yc x inn k))]) (fun k=> []) (fun k=> []) (fun k=>k≤n) (fun k=>n - k) 0 ?_ (by omega) ?_
 ·
  rw [show yc x inn 0= -1 from rfl]
  exact θX
 ·rintro k hk KL0 hL0
  push_cast
  refine zL fun K2 hK2=> ?_
  refine θA ?_
  refine θU (fun hc=> ?_) fun hc=> ?_
  ·
   refine zU (hK2 _ ?_)
   refine zL fun K3 hK3=> ?_
   refine zV ?_
   refine θA ?_
   refine θU (fun hc=> ?_) fun hc=> ?_
   ·
    refine zM zO zN [] rfl ?_
    all_goals refine zm 7 fun K9 hK9=> ?_
    all_goals push_cast
    all_goals repeat'(first|(apply zP<;>(intro hg;push_cast at hg))|(refine⟨_,hM _ _,?_⟩;push_cast)|apply And.intro|(intro hg;push_cast at hg))
    all_goals try exact gA
    refine hK9 _ ?_;clear hK9 K9
    all_goals push_cast
    all_goals repeat'(first|(apply zP<;>(intro hg;push_cast at hg))|(refine⟨_,hM _ _,?_⟩;push_cast)|apply And.intro|(intro hg;push_cast at hg))
    all_goals try exact gA
    refine hK3 _ ?_
    refine θB ?_
    refine hL0 _ ⟨k+1,by omega,by omega,?_⟩
    first|rw [zD6 (by with_reducible assumption)]|rw [zFk (by with_reducible assumption)]
    exact θX
   ·
    refine zU (hK3 _ ?_)
    refine θB ?_
    refine hL0 _ ⟨k+1,by omega,by omega,?_⟩
    first|rw [zD6 (by with_reducible assumption)]|rw [zFk (by with_reducible assumption)]
    exact θX
  ·
   refine zh ?_
   have hkk:k=n:=by omega
   subst hkk
   refine hK1 _ ?_
   refine θA ?_
   refine zZ ⟨Or.inl rfl,?_⟩
   push_cast [zd]
   all_goals first|rfl|skip
set_option maxRecDepth 20000 in
set_option maxHeartbeats 4000000 in
theorem zJK (n:Nat)(hn:n≤256):Fn Tryz.prog tyT 93 [.c (.int .i64 n)] [.c (.lst 4 (dB (List.replicate n true)))]:=by
 refine θH (ts:= [2]) Tryz.func93 Tryz.ntmps93 ?_
 push_cast
 refine θA ?_
 refine θA ?_
 refine zL fun K1 hK1=> ?_
 refine θA ?_
 refine zV ?_
 refine zg [4,7,8,9,10,11,12,13,14] [48] (fun(k:Nat)=> [(4, .int .i64 k),(3, .sl 48 [] 0 n 4)]) (fun k=> []) (fun k=> [(48,⟨.ex,4,dB (mkB n (fun _=>true) k),none⟩)]) (fun k=>k≤n) (fun k=>n - k) 0 ?_ (by omega) ?_
 ·
  rw [QA]
  exact θX
 ·rintro k hk KL0 hL0
  have hml:=wb (f:=fun _=>true) hk
  push_cast
  refine zL fun K2 hK2=> ?_
  refine θA ?_
  refine θU (fun hc=> ?_) fun hc=> ?_
  ·
   refine zU (hK2 _ ?_)
   refine zL fun K3 hK3=> ?_
   refine zV ?_
   refine θB ?_
   refine hK3 _ ?_
   refine θB ?_
   refine hL0 _ ⟨k+1,by omega,by omega,?_⟩
   rw [show(mkB n (fun _=>true) k).set k true=mkB n (fun _=>true) (k+1)from qc (by omega)]
   exact θX
  ·
   refine zh ?_
   have hkk:k=n:=by omega
   subst hkk
   refine hK1 _ ?_
   refine θA ?_
   refine zZ ⟨Or.inl rfl,?_⟩
   push_cast [zd]
   rw [zBx,show(List.range k).map (fun _=>true)=List.replicate k true from by rw [List.map_const',List.length_range]]
   all_goals first|rfl|exact⟨rfl,by simp⟩|(simp;done)
def pgL (x:L7):PG:=⟨fun v=>if v<x.owner.length then gi x.owner v else 0,fun v=>(gi x.prio v).toNat,fun v u=>v<x.owner.length∧∃j,j<(gl x.next v).length∧(gi (gl x.next v) j).toNat=u∧edB x v (gi (gl x.next v) j)=true⟩
def inD (n:Nat)(inn:List Bool)(v:Nat):Prop:=v<n∧gb inn v=true
section
variable {x:L7} {n:Nat}
theorem Wa (hx:x.Ok n){v:Nat}(hv:v<n):(pgL x).own v=gi x.owner v:=if_pos (by rw [hx.ho];exact hv)
theorem JX (hx:x.Ok n)(v:Nat):(pgL x).own v=0∨(pgL x).own v=1:=by
 by_cases h:v<n
 ·rw [Wa hx h];exact hx.ow v h
 ·exact .inl (if_neg (by rw [hx.ho];exact h))
theorem pgL_E (hx:x.Ok n){v:Nat}(hv:v<n){u:Int}(hu:0≤u):(pgL x).E v u.toNat↔(∃j,j<(gl x.next v).length∧gi (gl x.next v) j=u)∧edB x v u=true:=by
 constructor
 ·rintro⟨-,j,hj,e,h⟩
  have :=(hx.to v hv j hj).1
  have e2:gi (gl x.next v) j=u:=by omega
  rw [e2]at h
  exact⟨⟨j,hj,e2⟩,h⟩
 ·rintro⟨⟨j,hj,e⟩,h⟩
  exact⟨by rw [hx.ho];exact hv,j,hj,by rw [e],by rw [e];exact h⟩
theorem jf (hx:x.Ok n)(v u:Nat)(h:(pgL x).E v u):u<n:=by
 obtain⟨h1,j,hj,e,-⟩:=h
 have :=hx.to v (by rw [←hx.ho];exact h1) j hj
 omega
def qq (x:L7)(inn:List Bool)(v:Nat)(p:Int→Bool):Nat→Int
 |0=>0
 |k+1=>if gb inn (gi (gl x.next v) k).toNat&&edB x v (gi (gl x.next v) k)&& !p (gi (gl x.next v) k)then qq x inn v p k+1 else qq x inn v p k
theorem KM (x:L7)(inn:List Bool)(v:Nat){p:Int→Bool}: ∀k,(∀j,j<k→p (gi (gl x.next v) j)=false)→qq x inn v p k=vu x inn v k
 |0,_=>rfl
 |k+1,h=>by
  unfold qq vu
  rw [KM x inn v k fun j hj=>h j (by omega),h k (by omega),Bool.not_false,Bool.and_true]
theorem YD (x:L7)(inn:List Bool)(v:Nat){p q:Int→Bool}: ∀k,(∀j,j<k→gb inn (gi (gl x.next v) j).toNat=true→edB x v (gi (gl x.next v) j)=true→p (gi (gl x.next v) j)=q (gi (gl x.next v) j))→qq x inn v p k=qq x inn v q k
 |0,_=>rfl
 |k+1,h=>by
  unfold qq
  rw [YD x inn v k fun j hj=>h j (by omega)]
  by_cases h1:gb inn (gi (gl x.next v) k).toNat=true
  ·by_cases h2:edB x v (gi (gl x.next v) k)=true
   ·rw [h k (by omega) h1 h2]
   ·have h3:edB x v (gi (gl x.next v) k)=false:=by simpa using h2
    rw [h3,Bool.and_false,Bool.false_and,Bool.false_and]
  ·have h3:gb inn (gi (gl x.next v) k).toNat=false:=by simpa using h1
   rw [h3,Bool.false_and,Bool.false_and,Bool.false_and]
theorem zCr (x:L7)(inn:List Bool)(v:Nat){p q:Int→Bool}{u:Int}(hp:p u=false)(hq:q u=true)(hu:gb inn u.toNat=true)(he:edB x v u=true): ∀k,(∀j,j<k→gi (gl x.next v) j≠u→p (gi (gl x.next v) j)=q (gi (gl x.next v) j))→
  (∀i j,i<j→j<k→gi (gl x.next v) i≠gi (gl x.next v) j)→(∃j,j<k∧gi (gl x.next v) j=u)→qq x inn v q k=qq x inn v p k - 1
 |0,_,_,h=>by obtain⟨j,hj,-⟩:=h;omega
 |k+1,h,hd,hex=>by
  obtain⟨j,hj,e⟩:=hex
  by_cases hk:gi (gl x.next v) k=u
  ·have h1:qq x inn v q k=qq x inn v p k:=(YD x inn v k fun j' hj' _ _=>h j' (by omega) (fun e'=>hd j' k hj' (by omega) (e'.trans hk.symm))).symm
   unfold qq
   rw [hk,hp,hq,hu,he,h1]
   simp
  ·have hjk:j≠k:=fun e2=>hk (by rw [←e2];exact e)
   have ih:=zCr x inn v hp hq hu he k (fun j' hj'=>h j' (by omega)) (fun a b h1 h2=>hd a b h1 (by omega)) ⟨j,by omega,e⟩
   unfold qq
   rw [h k (by omega) hk,ih]
   split<;>omega
theorem jI (x:L7)(inn:List Bool)(v:Nat)(p:Int→Bool): ∀k,0≤qq x inn v p k∧qq x inn v p k≤k
 |0=>⟨Int.le_refl _,Int.le_refl _⟩
 |k+1=>by
  have :=jI x inn v p k
  unfold qq
  split<;>omega
theorem zA6 (x:L7)(inn:List Bool)(v:Nat)(p:Int→Bool): ∀k,qq x inn v p k=0→∀j,j<k→gb inn (gi (gl x.next v) j).toNat=true→edB x v (gi (gl x.next v) j)=true→p (gi (gl x.next v) j)=true
 |0,_,j,hj,_,_=>by omega
 |k+1,h,j,hj,h1,h2=>by
  have hn:=jI x inn v p k
  unfold qq at h
  split at h
  ·omega
  ·rename_i hc
   by_cases e:j=k
   ·rw [e]at h1 h2⊢
    rw [h1,h2]at hc
    simpa using hc
   ·exact zA6 x inn v p k h j (by omega) h1 h2
structure AtI (x:L7)(n:Nat)(inn:List Bool)(who:Int)(goal out:List Bool)(left queue:List Int)(P:Nat→Int→Bool):Prop where
 lo:out.length=n
 ll:left.length=n
 qrg: ∀i,i<queue.length→0≤gi queue i∧gi queue i<n
 qnd: ∀i j,i<j→j<queue.length→gi queue i≠gi queue j
 qout: ∀v,v<n→(gb out v=true↔∃i,i<queue.length∧gi queue i=v)
 sound: ∀v,v<n→gb out v=true→Att (pgL x) who (inD n inn) (fun v=>gb goal v=true) v
 base: ∀v,v<n→gb inn v=true→gb goal v=true→gb out v=true
 own: ∀v,v<n→gb inn v=true→gb out v=false→gi x.owner v=who→∀j,j<(gl x.next v).length→edB x v (gi (gl x.next v) j)=true→gb inn (gi (gl x.next v) j).toNat=true→P v (gi (gl x.next v) j)=false
 opp: ∀v,v<n→gb inn v=true→gb out v=false→¬gi x.owner v=who→(∃j,j<(gl x.next v).length∧edB x v (gi (gl x.next v) j)=true∧gb inn (gi (gl x.next v) j).toNat=true∧P v (gi (gl x.next v) j)=true)→gi left v≠0
 cnt: ∀v,v<n→gb inn v=true→gb out v=false→gi left v=qq x inn v (P v) (gl x.next v).length
 psub: ∀v,v<n→∀j,j<(gl x.next v).length→P v (gi (gl x.next v) j)=true→gb out (gi (gl x.next v) j).toNat=true
variable {inn goal out:List Bool} {who:Int} {left queue:List Int} {P Q:Nat→Int→Bool}
theorem AtI.cong (h:AtI x n inn who goal out left queue P)(hPQ: ∀v,v<n→∀j,j<(gl x.next v).length→P v (gi (gl x.next v) j)=Q v (gi (gl x.next v) j)):AtI x n inn who goal out left queue Q:=
 ⟨h.lo,h.ll,h.qrg,h.qnd,h.qout,h.sound,h.base,fun v hv h1 h2 h3 j hj h4 h5=>by rw [←hPQ v hv j hj];exact h.own v hv h1 h2 h3 j hj h4 h5,
  fun v hv h1 h2 h3 ⟨j,hj,h4,h5,h6⟩=>h.opp v hv h1 h2 h3 ⟨j,hj,h4,h5,by rw [hPQ v hv j hj];exact h6⟩,
  fun v hv h1 h2=>by rw [h.cnt v hv h1 h2];exact YD x inn v _ fun j hj _ _=>hPQ v hv j hj,
  fun v hv j hj h1=>h.psub v hv j hj (by rw [hPQ v hv j hj];exact h1)⟩
theorem AtI.skip (h:AtI x n inn who goal out left queue P){v0:Nat}(hv0:v0<n){u0:Int}(hu0:gb out u0.toNat=true)(hs:gb inn v0=false∨gb out v0=true∨edB x v0 u0=false)
  (hQ: ∀v u,Q v u=(P v u||(decide (v=v0)&&decide (u=u0)))):AtI x n inn who goal out left queue Q:=by
 have key: ∀v,v<n→gb inn v=true→gb out v=false→∀j,j<(gl x.next v).length→edB x v (gi (gl x.next v) j)=true→Q v (gi (gl x.next v) j)=P v (gi (gl x.next v) j):=fun v hv h1 h2 j hj h3=>by
  rw [hQ]
  by_cases e:v=v0∧gi (gl x.next v) j=u0
  ·exfalso
   obtain⟨rfl,e2⟩:=e
   rw [e2]at h3
   rcases hs with h|h|h
   ·rw [h]at h1;cases h1
   ·rw [h]at h2;cases h2
   ·rw [h]at h3;cases h3
  ·have :(decide (v=v0)&&decide (gi (gl x.next v) j=u0))=false:=by
    rw [Bool.and_eq_false_iff,decide_eq_false_iff_not,decide_eq_false_iff_not]
    omega
   rw [this,Bool.or_false]
 refine⟨h.lo,h.ll,h.qrg,h.qnd,h.qout,h.sound,h.base,fun v hv h1 h2 h3 j hj h4 h5=>by rw [key v hv h1 h2 j hj h4];exact h.own v hv h1 h2 h3 j hj h4 h5,
  fun v hv h1 h2 h3 ⟨j,hj,h4,h5,h6⟩=>h.opp v hv h1 h2 h3 ⟨j,hj,h4,h5,by rw [←key v hv h1 h2 j hj h4];exact h6⟩,
  fun v hv h1 h2=>by rw [h.cnt v hv h1 h2];exact YD x inn v _ fun j hj _ h4=>(key v hv h1 h2 j hj h4).symm,
  fun v hv j hj h1=> ?_⟩
 rw [hQ,Bool.or_eq_true,Bool.and_eq_true,decide_eq_true_eq,decide_eq_true_eq]at h1
 rcases h1 with h1|⟨-,h1⟩
 ·exact h.psub v hv j hj h1
 ·rw [h1];exact hu0
theorem qb {c:List Int}{v u:Nat}{y:Int}(hv:v<c.length):gi (c.set v y) u=if u=v then y else gi c u:=by
 unfold gi
 rw [List.getD_eq_getElem?_getD,List.getElem?_set]
 split
 ·rename_i h;subst h;simp [hv]
 ·rename_i h;rw [if_neg (by omega),List.getD_eq_getElem?_getD]
theorem YE {c:List Bool}{v u:Nat}{y:Bool}(hv:v<c.length):gb (c.set v y) u=if u=v then y else gb c u:=by
 unfold gb
 rw [List.getD_eq_getElem?_getD,List.getElem?_set]
 split
 ·rename_i h;subst h;simp [hv]
 ·rename_i h;rw [if_neg (by omega),List.getD_eq_getElem?_getD]
theorem AtI.step (hx:x.Ok n)(h:AtI x n inn who goal out left queue P){v0:Nat}(hv0:v0<n){u0:Int}(hu:0≤u0∧u0<n)(hu0:gb out u0.toNat=true)(hui:gb inn u0.toNat=true)(h1:gb inn v0=true)(h2:gb out v0=false)(h3:edB x v0 u0=true)
  (hj: ∃j,j<(gl x.next v0).length∧gi (gl x.next v0) j=u0) (hP:P v0 u0=false) (hQ: ∀v u,Q v u=(P v u||(decide (v=v0)&&decide (u=u0)))):
  (¬(gi x.owner v0=who∨gi left v0 - 1=0)→AtI x n inn who goal out (left.set v0 (gi left v0 - 1)) queue Q)∧
  ((gi x.owner v0=who∨gi left v0 - 1=0)→AtI x n inn who goal (out.set v0 true) (left.set v0 (gi left v0 - 1)) (queue++ [(v0:Int)]) Q):=by
 have hother: ∀v,v≠v0→∀u,Q v u=P v u:=fun v hv u=>by rw [hQ,decide_eq_false hv,Bool.false_and,Bool.or_false]
 have hQ1:Q v0 u0=true:=by rw [hQ];simp
 have hQ2: ∀u,u≠u0→Q v0 u=P v0 u:=fun u hu=>by rw [hQ,decide_eq_false hu,Bool.and_false,Bool.or_false]
 have hcount:qq x inn v0 (Q v0) (gl x.next v0).length=gi left v0 - 1:=by
  rw [h.cnt v0 hv0 h1 h2]
  exact zCr x inn v0 hP hQ1 hui h3 _ (fun j hj hne=>(hQ2 _ hne).symm) (fun i j a b=>hx.nd v0 hv0 i j a b) hj
 have hps: ∀v,v<n→∀j,j<(gl x.next v).length→Q v (gi (gl x.next v) j)=true→gb out (gi (gl x.next v) j).toNat=true:=fun v hv j hj h5=>by
  rw [hQ,Bool.or_eq_true,Bool.and_eq_true,decide_eq_true_eq,decide_eq_true_eq]at h5
  rcases h5 with h5|⟨-,h5⟩
  ·exact h.psub v hv j hj h5
  ·rw [h5];exact hu0
 have hll:v0<left.length:=by rw [h.ll];exact hv0
 have hlo:v0<out.length:=by rw [h.lo];exact hv0
 constructor
 ·intro hno
  refine⟨h.lo,by rw [List.length_set];exact h.ll,h.qrg,h.qnd,h.qout,h.sound,h.base,fun v hv a b c j hj' d e=> ?_,fun v hv a b c hex=> ?_,fun v hv a b=> ?_,hps⟩
  ·by_cases ev:v=v0
   ·exfalso;rw [ev]at c;exact hno (.inl c)
   ·rw [hother v ev];exact h.own v hv a b c j hj' d e
  ·rw [qb hll]
   split
   ·exact fun e=>hno (.inr e)
   ·rename_i ev
    obtain⟨j,hj',d,e,f⟩:=hex
    exact h.opp v hv a b c ⟨j,hj',d,e,by rw [←hother v ev];exact f⟩
  ·rw [qb hll]
   split
   ·rename_i ev;rw [ev];exact hcount.symm
   ·rename_i ev
    rw [h.cnt v hv a b]
    exact YD x inn v _ fun j _ _ _=>(hother v ev _).symm
 ·intro hyes
  have hnew: ∀i,i<queue.length→gi queue i≠(v0:Int):=fun i hi e=>by
   have :=(h.qout v0 hv0).2 ⟨i,hi,e⟩
   rw [this]at h2;cases h2
  have hql:(queue++ [(v0:Int)]).length=queue.length+1:=by simp
  have hqs: ∀j,j<queue.length+1→gi (queue++ [(v0:Int)]) j=if j=queue.length then(v0:Int)else gi queue j:=fun j hj=>by
   split
   ·rename_i e;rw [e];unfold gi;rw [List.getD_eq_getElem?_getD,List.getElem?_append_right (Nat.le_refl _)];simp
   ·unfold gi;rw [List.getD_eq_getElem?_getD,List.getElem?_append_left (by omega),List.getD_eq_getElem?_getD]
  have hup: ∀v,gb out v=true→gb (out.set v0 true) v=true:=fun v hv=>by
   rw [YE hlo]
   split
   ·rfl
   ·exact hv
  have hdown: ∀v,gb (out.set v0 true) v=false→v≠v0∧gb out v=false:=fun v hv=>by
   rw [YE hlo]at hv
   split at hv
   ·cases hv
   ·rename_i e;exact⟨e,hv⟩
  refine⟨by rw [List.length_set];exact h.lo,by rw [List.length_set];exact h.ll,fun i hi=> ?_,fun i j hij hj'=> ?_,fun v hv=> ?_,fun v hv hb=> ?_,fun v hv a b=>hup v (h.base v hv a b),fun v hv a b c j hj' d e=> ?_,fun v hv a b c hex=> ?_,fun v hv a b=> ?_,fun v hv j hj' h5=>hup _ (hps v hv j hj' h5)⟩
  ·rw [hql]at hi
   rw [hqs i hi]
   split
   ·omega
   ·exact h.qrg i (by omega)
  ·rw [hql]at hj'
   rw [hqs i (by omega),hqs j hj',if_neg (by omega)]
   split
   ·exact hnew i (by omega)
   ·exact h.qnd i j hij (by omega)
  ·rw [YE hlo,hql]
   constructor
   ·intro hb
    split at hb
    ·rename_i e;exact⟨queue.length,by omega,by rw [hqs _ (by omega),if_pos rfl,e]⟩
    ·obtain⟨i,hi,e⟩:=(h.qout v hv).1 hb
     exact⟨i,by omega,by rw [hqs i (by omega),if_neg (by omega)];exact e⟩
   ·rintro⟨i,hi,e⟩
    rw [hqs i hi]at e
    split at e
    ·rw [if_pos (by omega)]
    ·split
     ·rfl
     ·exact(h.qout v hv).2 ⟨i,by omega,e⟩
  ·rw [YE hlo]at hb
   split at hb
   ·rename_i e
    subst e
    have hE:(pgL x).E v u0.toNat:=(pgL_E hx hv hu.1).2 ⟨hj,h3⟩
    have hAu:=h.sound u0.toNat (by omega) hu0
    by_cases ho:gi x.owner v=who
    ·exact Att.own ⟨hv,h1⟩ (by rw [Wa hx hv];exact ho) hE hAu
    ·have hz:qq x inn v (Q v) (gl x.next v).length=0:=by rw [hcount];exact hyes.resolve_left ho
     refine Att.opp (fun a b=>jf hx a b) ⟨hv,h1⟩ (by rw [Wa hx hv];exact ho) ⟨_,hE,by omega,hui⟩ fun u he hd=> ?_
     obtain⟨-,j,hj',e1,e2⟩:=he
     have hq:=zA6 x inn v (Q v) _ hz j hj' (by rw [e1];exact hd.2) e2
     have :=hps v hv j hj' hq
     rw [e1]at this
     exact h.sound u hd.1 this
   ·exact h.sound v hv hb
  ·obtain⟨b1,b2⟩:=hdown v b
   rw [hother v b1];exact h.own v hv a b2 c j hj' d e
  ·obtain⟨b1,b2⟩:=hdown v b
   rw [qb hll,if_neg b1]
   obtain⟨j,hj',d,e,f⟩:=hex
   exact h.opp v hv a b2 c ⟨j,hj',d,e,by rw [←hother v b1];exact f⟩
  ·obtain⟨b1,b2⟩:=hdown v b
   rw [qb hll,if_neg b1,h.cnt v hv a b2]
   exact YD x inn v _ fun j _ _ _=>(hother v b1 _).symm
theorem AtI.done (hx:x.Ok n)(h:AtI x n inn who goal out left queue P)(hP: ∀v,v<n→∀j,j<(gl x.next v).length→gb out (gi (gl x.next v) j).toNat=true→P v (gi (gl x.next v) j)=true){v:Nat}(hv:v<n):gb out v=true↔Att (pgL x) who (inD n inn) (fun v=>gb goal v=true) v:=by
 refine⟨h.sound v hv,fun⟨k,hk⟩=> ?_⟩
 have key: ∀k v,v<n→vR (pgL x) who (inD n inn) (fun v=>gb goal v=true) k v→gb out v=true:=by
  intro k
  induction k with
  |zero=>exact fun v hv hk=>h.base v hv hk.1.2 hk.2
  |succ k ih=>
   intro v hv hk
   rcases hk with hk|⟨hD,hk⟩
   ·exact ih v hv hk
   ·cases hb:gb out v
    ·exfalso
     rcases hk with⟨ho,u,he,hu⟩|⟨ho,⟨u,he,hud⟩,ha⟩
     ·have hun:=jf hx v u he
      have hub:=ih u hun hu
      have huD:=hu.inD
      obtain⟨-,j,hj,e1,e2⟩:=he
      rw [Wa hx hv]at ho
      have h6:=h.own v hv hD.2 hb ho j hj e2 (by rw [e1];exact huD.2)
      have h7:=hP v hv j hj (by rw [e1];exact hub)
      rw [h6]at h7;cases h7
     ·rw [Wa hx hv]at ho
      have hz:qq x inn v (P v) (gl x.next v).length=0:=by
       have hall: ∀j,j<(gl x.next v).length→gb inn (gi (gl x.next v) j).toNat=true→edB x v (gi (gl x.next v) j)=true→P v (gi (gl x.next v) j)=true:=fun j hj a b=>by
        have hto:=hx.to v hv j hj
        have hE:(pgL x).E v (gi (gl x.next v) j).toNat:=⟨by rw [hx.ho];exact hv,j,hj,rfl,b⟩
        exact hP v hv j hj (ih _ (by omega) (ha _ hE ⟨by omega,a⟩))
       have : ∀m,m≤(gl x.next v).length→qq x inn v (P v) m=0:=by
        intro m
        induction m with
        |zero=>intro _;rfl
        |succ m ihm=>
         intro hm
         unfold qq
         rw [ihm (by omega),if_neg]
         intro hc
         simp only [Bool.and_eq_true,Bool.not_eq_true']at hc
         have :=hall m (by omega) hc.1.1 hc.1.2
         rw [this]at hc
         cases hc.2
       exact this _ (Nat.le_refl _)
      have hc:=h.cnt v hv hD.2 hb
      rw [hz]at hc
      obtain⟨-,j,hj,e1,e2⟩:=he
      have hE:(pgL x).E v u:=⟨by rw [hx.ho];exact hv,j,hj,e1,e2⟩
      have hub:=ih u hud.1 (ha u hE hud)
      exact h.opp v hv hD.2 hb ho ⟨j,hj,e2,by rw [e1];exact hud.2,hP v hv j hj (by rw [e1];exact hub)⟩ hc
    ·rfl
 exact key k v hv hk
open Classical in
noncomputable def yn (x:L7)(n:Nat)(inn:List Bool)(who:Int)(goal:List Bool):List Bool:=(List.range n).map fun v=>decide (Att (pgL x) who (inD n inn) (fun v=>gb goal v=true) v)
theorem wu (x:L7)(n:Nat)(inn:List Bool)(who:Int)(goal:List Bool):(yn x n inn who goal).length=n:=by simp [yn]
open Classical in
theorem QI {v:Nat}(hv:v<n):gb (yn x n inn who goal) v=true↔Att (pgL x) who (inD n inn) (fun v=>gb goal v=true) v:=by
 unfold yn
 rw [UL hv]
 exact decide_eq_true_iff
theorem wa {a b:List Bool}(hl:a.length=b.length)(h: ∀v,v<a.length→gb a v=gb b v):a=b:=by
 refine List.ext_getElem? fun i=> ?_
 by_cases hi:i<a.length
 ·rw [zKO hi,zKO (by omega),h i hi]
 ·rw [List.getElem?_eq_none (by omega),List.getElem?_eq_none (by omega)]
theorem AtI.result (hx:x.Ok n)(h:AtI x n inn who goal out left queue P)(hP: ∀v,v<n→∀j,j<(gl x.next v).length→gb out (gi (gl x.next v) j).toNat=true→P v (gi (gl x.next v) j)=true):out=yn x n inn who goal:=by
 refine wa (by rw [wu];exact h.lo) fun v hv=> ?_
 rw [h.lo]at hv
 rw [Bool.eq_iff_iff,h.done hx hP hv,QI hv]
structure At0 (x:L7)(n:Nat)(inn goal:List Bool)(k:Nat)(out:List Bool)(left queue:List Int):Prop where
 lo:out.length=n
 ll:left.length=n
 lq:queue.length≤k
 qrg: ∀i,i<queue.length→0≤gi queue i∧gi queue i<k
 qnd: ∀i j,i<j→j<queue.length→gi queue i≠gi queue j
 qout: ∀v,v<n→(gb out v=true↔∃i,i<queue.length∧gi queue i=v)
 outs: ∀v,v<n→gb out v=(decide (v<k)&&(gb inn v&&gb goal v))
 lef: ∀v,v<k→gb inn v=true→gi left v=wK x inn v
theorem At0.start (n:Nat)(inn goal:List Bool):At0 x n inn goal 0 (List.replicate n false) (List.replicate n 0) []:=by
 have h0: ∀v,gb (List.replicate n false) v=false:=fun v=>by
  unfold gb
  rw [List.getD_eq_getElem?_getD,List.getElem?_replicate]
  split<;>rfl
 refine⟨by simp,by simp,by simp,fun i hi=>(by simp at hi),fun i j _ hj=>(by simp at hj),fun v _=> ?_,fun v _=>(by rw [h0];rfl),fun v hv=>(by omega)⟩
 rw [h0]
 exact⟨fun h=>(by cases h),fun⟨i,hi,_⟩=>(by simp at hi)⟩
theorem At0.inv (hx:x.Ok n)(h:At0 x n inn goal n out left queue):AtI x n inn who goal out left queue (fun _ _=>false):=by
 refine⟨h.lo,h.ll,h.qrg,h.qnd,h.qout,fun v hv hb=> ?_,fun v hv a b=> ?_,fun v hv _ _ _ j _ _ _=>rfl,fun v hv _ _ _ ⟨j,_,_,_,hf⟩=>(by cases hf),fun v hv a b=> ?_,fun v hv j hj hf=>(by cases hf)⟩
 ·rw [h.outs v hv,Bool.and_eq_true,Bool.and_eq_true]at hb
  exact Att.base ⟨hv,hb.2.1⟩ hb.2.2
 ·rw [h.outs v hv,decide_eq_true hv,a,b];rfl
 ·rw [h.lef v hv a]
  exact(KM x inn v _ fun _ _=>rfl).symm
end
end Go.Proofs.YtcleaokoimhedaaGreat
