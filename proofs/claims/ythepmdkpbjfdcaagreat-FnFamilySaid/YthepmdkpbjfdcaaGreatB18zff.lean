/- The program's attractor: what holds while it is reckoned, plain. -/
import Derived.Test.YthepmdkpbjfdcaaGreatB13zff
import Derived.Test.YthepmdkpbjfdcaaGreatB17zff
import Derived.Test.YthepmdkpbjfdcaaGreatB4zff
import Derived.Test.YthepmdkpbjfdcaaGreatB5zff
import Derived.Test.YthepmdkpbjfdcaaGreatB16zff
import Derived.ArgAppend
namespace Go.Proofs.YthepmdkpbjfdcaaGreat
open Go.RowKit
set_option linter.unusedVariables false
set_option linter.unusedSimpArgs false
def yq (l:List Bool):Nat→List Int
 |0=> []
 |k+1=>if gb l k then yq l k++ [(k:Int)]else yq l k
theorem Wv {l:List Bool}{k:Nat}(h:gb l k=true):yq l (k+1)=yq l k++ [(k:Int)]:=by
 show(if _ then _ else _)=_;rw [if_pos h]
theorem WK {l:List Bool}{k:Nat}(h:gb l k=false):yq l (k+1)=yq l k:=by
 show(if _ then _ else _)=_;rw [if_neg (by rw [h];exact Bool.false_ne_true)]
theorem wx {l:List Bool}{y:Int}: ∀{k:Nat},y∈yq l k↔∃v:Nat,v<k∧gb l v=true∧y=v
 |0=>⟨fun h=>(by cases h),fun⟨v,h,_⟩=>absurd h (Nat.not_lt_zero _)⟩
 |k+1=>by
  cases hk:gb l k
  ·rw [WK hk,wx]
   constructor
   ·rintro⟨v,a,b,c⟩;exact⟨v,by omega,b,c⟩
   ·rintro⟨v,a,b,c⟩
    by_cases e:v=k
    ·rw [e,hk]at b;cases b
    ·exact⟨v,by omega,b,c⟩
  ·rw [Wv hk,List.mem_append,wx]
   constructor
   ·rintro(⟨v,a,b,c⟩|h)
    ·exact⟨v,by omega,b,c⟩
    ·exact⟨k,by omega,hk,by simpa using h⟩
   ·rintro⟨v,a,b,c⟩
    by_cases e:v=k
    ·right;rw [c,e];simp
    ·exact .inl ⟨v,by omega,b,c⟩
theorem wv (l:List Bool): ∀k,(yq l k).length≤k
 |0=>Nat.le_refl _
 |k+1=>by
  have :=wv l k
  cases hk:gb l k
  ·rw [WK hk];omega
  ·rw [Wv hk,List.length_append];simp;omega
theorem zAN (l:List Bool): ∀k,(yq l k).Pairwise (· < ·)
 |0=>List.Pairwise.nil
 |k+1=>by
  cases hk:gb l k
  ·rw [WK hk];exact zAN l k
  ·rw [Wv hk,List.pairwise_append]
   refine⟨zAN l k,List.pairwise_singleton _ _,fun a ha b hb=> ?_⟩
   obtain⟨v,h1,-,h3⟩:=wx.1 ha
   rw [List.mem_singleton.1 hb,h3];omega
theorem QQ {l:List Bool}{k i:Nat}(h:i<(yq l k).length):0≤gi (yq l k) i∧gi (yq l k) i<k∧gb l (gi (yq l k) i).toNat=true:=by
 obtain⟨v,a,b,c⟩:=wx.1 (WI h)
 rw [c]
 exact⟨by omega,by omega,by rw [Int.toNat_natCast];exact b⟩
section
variable {x:L7} {n:Nat} {inn goal out:List Bool} {who:Int} {lc Lf Q:List Int} {P P':Nat→Int→Bool}
theorem zC7 {v:Nat}{p:Int→Bool}: ∀{k:Nat},(∃j,j<k∧gb inn (gi (gl x.next v) j).toNat=true∧edB x v (gi (gl x.next v) j)=true∧p (gi (gl x.next v) j)=false)→1≤qk x inn v p k
 |0,⟨j,h,_⟩=>absurd h (Nat.not_lt_zero _)
 |k+1,⟨j,hj,h1,h2,h3⟩=>by
  have hn:=jJ x inn v p k
  unfold qk
  by_cases e:j=k
  ·subst e
   rw [h1,h2,h3]
   simp
   omega
  ·have :=zC7 ⟨j,by omega,h1,h2,h3⟩ (k:=k)
   split<;>omega
theorem zAC (hx:x.Ok n){v:Nat}(hv:v<n):0≤wR x inn v∧wR x inn v≤256:=by
 have :=jI x inn v (gl x.next v).length
 have :=hx.deg v hv
 unfold wR
 omega
structure PuI (x:L7)(n:Nat)(inn:List Bool)(who:Int)(goal out:List Bool)(lc Lf Q:List Int)(P:Nat→Int→Bool):Prop where
 at_:AtI x n inn who goal out Lf Q P
 len:lc.length=n
 rg: ∀v,v<n→0≤gi lc v∧gi lc v≤256
 lcv: ∀v,v<n→gb inn v=true→gb out v=false→¬gi x.owner v=who→(gi lc v=0∧gi Lf v=wR x inn v)∨(¬gi lc v=0∧gi Lf v=gi lc v)
theorem PuI.start (hx:x.Ok n)(hg:goal.length=n)(hsub: ∀v,v<n→gb goal v=true→gb inn v=true):
  PuI x n inn who goal goal (List.replicate n 0) ((List.range n).map fun v=>wR x inn v) (yq goal n) (fun _ _=>false):=by
 have hgiL: ∀v,v<n→gi ((List.range n).map fun v=>wR x inn v) v=wR x inn v:=fun v hv=>by
  unfold gi
  rw [List.getD_eq_getElem?_getD,List.getElem?_map,List.getElem?_range hv]
  rfl
 refine⟨⟨hg,by simp,fun i hi=> ?_,fun i j hij hj=> ?_,fun v hv=> ?_,fun v hv hb=> .base ⟨hv,hsub v hv hb⟩ hb,fun v hv _ hb=>hb,fun v hv _ _ _ j _ _ _=>rfl,fun v hv _ _ _ ⟨j,_,_,_,hf⟩=>(by cases hf),fun v hv a b=> ?_,fun v hv j hj hf=>(by cases hf)⟩,by simp,fun v hv=> ?_,fun v hv a b c=> ?_⟩
 ·have :=QQ hi;omega
 ·have h1:=List.pairwise_iff_getElem.1 (zAN goal n) i j (by omega) hj hij
  unfold gi
  rw [List.getD_eq_getElem?_getD,List.getD_eq_getElem?_getD,List.getElem?_eq_getElem (by omega),List.getElem?_eq_getElem hj]
  simp only [Option.getD_some]
  omega
 ·constructor
  ·intro hb
   obtain⟨i,hi⟩:=List.getElem?_of_mem (wx.2 ⟨v,hv,hb,rfl⟩:(v:Int)∈yq goal n)
   have hl:=(List.getElem?_eq_some_iff.1 hi).1
   refine⟨i,hl,?_⟩
   have :=wC hl
   rw [hi]at this
   exact(Option.some.inj this).symm
  ·rintro⟨i,hi,e⟩
   have :=(QQ hi).2.2
   rw [e,Int.toNat_natCast]at this
   exact this
 ·rw [hgiL v hv]
  exact(KI x inn v _ fun _ _=>rfl).symm
 ·have :gi (List.replicate n 0) v=0:=UF hv
  omega
 ·exact .inl ⟨UF hv,hgiL v hv⟩
theorem PuI.cong (h:PuI x n inn who goal out lc Lf Q P)(h2:AtI x n inn who goal out Lf Q P'):PuI x n inn who goal out lc Lf Q P':=⟨h2,h.len,h.rg,h.lcv⟩
theorem PuI.skip (h:PuI x n inn who goal out lc Lf Q P){v0:Nat}(hv0:v0<n){u0:Int}(hu0:gb out u0.toNat=true)(hs:gb inn v0=false∨gb out v0=true∨edB x v0 u0=false)
  (hQ: ∀v u,P' v u=(P v u||(decide (v=v0)&&decide (u=u0)))):PuI x n inn who goal out lc Lf Q P':=h.cong (h.at_.skip hv0 hu0 hs hQ)
def vv (x:L7)(inn:List Bool)(lc:List Int)(v:Nat):Int:=if gi lc v=0 then wR x inn v else gi lc v
theorem PuI.step (hx:x.Ok n)(h:PuI x n inn who goal out lc Lf Q P){v0:Nat}(hv0:v0<n){u0:Int}(hu:0≤u0∧u0<n)(hu0:gb out u0.toNat=true)(hui:gb inn u0.toNat=true)(h1:gb inn v0=true)(h2:gb out v0=false)(h3:edB x v0 u0=true)
  (hj: ∃j,j<(gl x.next v0).length∧gi (gl x.next v0) j=u0) (hP:P v0 u0=false) (hQ: ∀v u,P' v u=(P v u||(decide (v=v0)&&decide (u=u0)))):
  (gi x.owner v0=who→PuI x n inn who goal (out.set v0 true) lc (Lf.set v0 (gi Lf v0 - 1)) (Q++ [(v0:Int)]) P')∧
  (¬gi x.owner v0=who→(1≤vv x inn lc v0∧vv x inn lc v0≤256)∧
   (0<vv x inn lc v0 - 1→PuI x n inn who goal out (lc.set v0 (vv x inn lc v0 - 1)) (Lf.set v0 (gi Lf v0 - 1)) Q P')∧
   (¬0<vv x inn lc v0 - 1→PuI x n inn who goal (out.set v0 true) (lc.set v0 (vv x inn lc v0 - 1)) (Lf.set v0 (gi Lf v0 - 1)) (Q++ [(v0:Int)]) P')):=by
 have hst:=AtI.step hx h.at_ hv0 hu hu0 hui h1 h2 h3 hj hP hQ
 have hlo:v0<out.length:=by rw [h.at_.lo];exact hv0
 have hll:v0<Lf.length:=by rw [h.at_.ll];exact hv0
 have hlc:v0<lc.length:=by rw [h.len];exact hv0
 have hdown: ∀v,gb (out.set v0 true) v=false→v≠v0∧gb out v=false:=fun v hv=>by
  rw [Zz hlo]at hv
  split at hv
  ·cases hv
  ·rename_i e;exact⟨e,hv⟩
 refine⟨fun ho=>⟨hst.2 (.inl ho),h.len,h.rg,fun v hv a b c=> ?_⟩,fun ho=> ?_⟩
 ·obtain⟨b1,b2⟩:=hdown v b
  rw [qp hll,if_neg b1]
  exact h.lcv v hv a b2 c
 ·have hm:gi Lf v0=vv x inn lc v0:=by
   unfold vv
   rcases h.lcv v0 hv0 h1 h2 ho with⟨a,b⟩|⟨a,b⟩
   ·rw [if_pos a];exact b
   ·rw [if_neg a];exact b
  have hpos:1≤gi Lf v0:=by
   rw [h.at_.cnt v0 hv0 h1 h2]
   obtain⟨j,a,b⟩:=hj
   exact zC7 ⟨j,a,by rw [b];exact hui,by rw [b];exact h3,by rw [b];exact hP⟩
  have hle:vv x inn lc v0≤256:=by
   unfold vv
   split
   ·exact(zAC hx hv0).2
   ·exact(h.rg v0 hv0).2
  rw [hm]at hpos hst⊢
  have hrg: ∀v,v<n→0≤gi (lc.set v0 (vv x inn lc v0 - 1)) v∧gi (lc.set v0 (vv x inn lc v0 - 1)) v≤256:=fun v hv=>by
   rw [qp hlc]
   split
   ·omega
   ·exact h.rg v hv
  refine⟨⟨hpos,hle⟩,fun hp=>⟨hst.1 (fun e=> ?_),by rw [List.length_set];exact h.len,hrg,fun v hv a b c=> ?_⟩,fun hp=>⟨hst.2 (.inr (by omega)),by rw [List.length_set];exact h.len,hrg,fun v hv a b c=> ?_⟩⟩
  ·rcases e with e|e
   ·exact ho e
   ·omega
  ·rw [qp hll,qp hlc]
   by_cases ev:v=v0
   ·rw [if_pos ev,if_pos ev]
    exact .inr ⟨by omega,rfl⟩
   ·rw [if_neg ev,if_neg ev]
    exact h.lcv v hv a b c
  ·obtain⟨b1,b2⟩:=hdown v b
   rw [qp hll,qp hlc,if_neg b1,if_neg b1]
   exact h.lcv v hv a b2 c
end
structure QdI (Q:List Int)(i:Nat)(qd:List Int)(o:Nat):Prop where
 drop:qd.drop o=Q.drop i
 lo:o≤i
 li:i≤Q.length
 oq:o≤qd.length
theorem QdI.start (Q:List Int):QdI Q 0 Q 0:=⟨rfl,by omega,by omega,by omega⟩
theorem QdI.len {Q qd:List Int}{i o:Nat}(h:QdI Q i qd o):o+(Q.length - i)=qd.length:=by
 have h1:=congrArg List.length h.drop
 rw [List.length_drop,List.length_drop]at h1
 have :=h.oq;have :=h.li
 omega
theorem QdI.head {Q qd:List Int}{i o:Nat}(h:QdI Q i qd o)(hi:i<Q.length):gi qd o=gi Q i:=by
 have h1:=congrArg (fun l=>l[0]?) h.drop
 simp only [List.getElem?_drop,Nat.add_zero]at h1
 unfold gi
 rw [List.getD_eq_getElem?_getD,List.getD_eq_getElem?_getD,h1]
theorem QdI.pop {Q qd:List Int}{i o:Nat}(h:QdI Q i qd o)(hi:i<Q.length):QdI Q (i+1) qd (o+1):=by
 have hl:=h.len
 refine⟨?_,by have :=h.lo;omega,by omega,by omega⟩
 have h1:=congrArg (List.drop 1) h.drop
 rwa [List.drop_drop,List.drop_drop]at h1
theorem QdI.push {Q qd ps:List Int}{i o:Nat}(h:QdI Q i qd o)(v:Int)(hp:ps= []∨ps=qd.take o):QdI (Q++ [v]) i (ps++(qd.drop o++ [v])) ps.length:=by
 have hle:ps.length≤o:=by
  rcases hp with rfl|rfl
  ·simp
  ·rw [List.length_take];omega
 refine⟨?_,by have :=h.lo;omega,by rw [List.length_append];have :=h.li;omega,by rw [List.length_append];omega⟩
 rw [List.drop_append_of_le_length (Nat.le_refl _),List.drop_length,List.nil_append,h.drop,List.drop_append_of_le_length h.li]
open Go Go.RowKit
def St.settleBA (al:List Nat)(ks:List CK)(b:Nat)(st:St):St:=
 match lk st.b b with
 |none=>st
 |some cells=>
  match lk (qw al ks st (zb b 0) [] cells).1.b b with
  |none=>st
  |some cells'=>if cells'.length=(qw al ks st (zb b 0) [] cells).2.length then(qw al ks st (zb b 0) [] cells).1.setB b (qw al ks st (zb b 0) [] cells).2 else st
theorem KA {P:Program}{τ:Ty}(al:List Nat)(ks:List CK)(b:Nat){c:Code}{Q:Exit→St→Prop}{st:St}(h:awp P τ c Q (st.settleBA al ks b)):awp P τ c Q st:=by
 unfold St.settleBA at h
 split at h
 ·exact h
 ·rename_i cells hl
  split at h
  ·exact h
  ·rename_i cells' hl'
   split at h
   ·rename_i hlen
    intro lo w0 a w hr
    obtain⟨ow,hd,bk,hrr⟩:=hr
    obtain⟨cs,ty,g1,g2,g3⟩:=hrr.box b cells hl
    obtain⟨ow1,hd1,r1,r2⟩:=Xz al ks st ow hd (zb b 0) [] cells [] cs hrr (by simp [za]) g3
    obtain⟨cs0,ty0,k1,k2,k3⟩:=r1.box b cells' hl'
    rw [List.nil_append]at r2
    have e0:cs0=cs:=by
     rw [g1]at k1
     simp only [Option.some.injEq,Obj.cells.injEq]at k1
     have :=k1.1
     simpa using this.symm
    subst e0
    have hrel:=Qx r1 hl' k1 (i:=0) (by omega) k3 r2
    rw [jS rfl,jS hlen.symm,setRow_self w _ _ _ _ k1]at hrel
    exact h lo w0 a w ⟨ow1,hd1,bk,hrel⟩
   ·exact h
attribute [push_cast] St.settleBA
open Nat renaming reduceMod → zA, reduceMul → zB, reduceDiv → zC, reduceAdd → zD, reduceSub → zE, reduceEqDiff → zF, reduceBEq → zG, reduceLT → zH, reduceLeDiff → zI
def mkS (n:Nat)(xs:List Int)(k:Nat):List Bool:=(List.range n).map fun(v:Nat)=>zr (xs.take k) (v:Int)
theorem wc (n:Nat)(xs:List Int)(k:Nat):(mkS n xs k).length=n:=by simp [mkS]
theorem zDl {n:Nat}{xs:List Int}{k v:Nat}(h:v<n):gb (mkS n xs k) v=zr (xs.take k) (v:Int):=UP h
theorem mkS_0 (n:Nat)(xs:List Int):mkS n xs 0=List.replicate n false:=by
 refine List.ext_getElem (by simp [mkS]) fun j h1 h2=> ?_
 simp [mkS,zr,qA]
theorem zL6 {n:Nat}{xs:List Int}{k:Nat}(hk:k<xs.length)(h:0≤gi xs k∧gi xs k<n):(mkS n xs k).set (gi xs k).toNat true=mkS n xs (k+1):=by
 refine ZM (by rw [List.length_set,wc,wc]) fun v hv=> ?_
 rw [List.length_set,wc]at hv
 rw [Zz (by rw [wc];omega),zDl (k:=k+1) hv,YA hk]
 split
 ·rename_i e
  rw [decide_eq_true (by omega),Bool.or_true]
 ·rename_i e
  rw [zDl hv,decide_eq_false (by omega),Bool.or_false]
theorem zKM {P:List (List Int)}{u m:Nat}{r:List Int}(hu:u<P.length)(hm:r.length≤m):List.take u ((dII P).set u D.hole)++ [D.lst 2 (dI (List.take m r))]++List.drop (u+1) ((dII P).set u D.hole)=dII (P.set u r):=by
 have e:dII (P.set u r)=(dII P).set u (D.lst 2 (dI r)):=by unfold dII;rw [List.map_set]
 have hl:u<(dII P).length:=by rw [WM];exact hu
 rw [e,List.take_of_length_le hm,List.take_set,List.set_eq_of_length_le (by simp;omega),List.drop_set_of_lt (by omega),List.set_eq_take_append_cons_drop,if_pos hl]
 simp
def Zr (k:Nat):List Int:=(List.range k).map fun(v:Nat)=>(v:Int)
theorem Qn (k:Nat):(Zr k).length=k:=by simp [Zr]
theorem zNe (k:Nat):Zr (k+1)=Zr k++ [(k:Int)]:=by unfold Zr;rw [List.range_succ,List.map_append];rfl
set_option maxRecDepth 20000 in
set_option maxHeartbeats 4000000 in
theorem Xa (l:List Bool)(hl:l.length≤1048576):Fn Tryz.prog tyT 162 [.c (.lst 4 (dB l))] [.c (DI (yq l l.length))]:=by
 refine θH (ts:= [2]) Tryz.func162 Tryz.ntmps162 ?_
 push_cast
 refine θA ?_
 refine θA ?_
 refine zL fun K1 hK1=> ?_
 refine θA ?_
 refine zV ?_
 refine zh [3,4,5,9,10,11,12,13,14,15,16,17,18,19] [48] (fun(k:Nat)=> [(9, .int .i64 k),(3, .sl 48 [] 0 (yq l k).length 2)]) (fun k=> []) (fun k=> [(48,⟨.ex,2,dI (yq l k),none⟩)]) (fun k=>k≤l.length) (fun k=>l.length - k) 0 ?_ (by omega) ?_
 ·
  rw [show yq l 0= []from rfl,show dI ([]:List Int)= []from rfl]
  exact θX
 ·rintro k hk KL0 hL0
  have hil:=wv l k
  push_cast
  refine θA ?_
  refine zL fun K2 hK2=> ?_
  refine θU (fun hc=> ?_) fun hc=> ?_
  ·
   refine zW (hK2 _ ?_)
   refine zL fun K3 hK3=> ?_
   refine zV ?_
   refine θA ?_
   refine θA ?_
   all_goals refine zU rfl (fun hc=> ?_) (fun hc=> ?_)
   all_goals(first|(cases hc;done)|skip)
   all_goals(try simp only [push_cast]at hc)
   all_goals first
    |(
      refine zW (hK3 _ ?_)
      refine θB ?_
      refine hL0 _ ⟨k+1,by omega,by omega,?_⟩
      rw [WK (by with_reducible assumption)]
      exact θX
      done)
    |(
      refine θB ?_
      refine hK3 _ ?_
      refine θB ?_
      refine hL0 _ ⟨k+1,by omega,by omega,?_⟩
      (try rw [List.take_of_length_le (l:=yq l k) (by omega)])
      rw [Wv (by with_reducible assumption)]
      simp only [List.length_append,List.length_cons,List.length_nil,Nat.zero_add]
      exact θX
      done)
  ·
   refine zi ?_
   have hkk:k=l.length:=by omega
   subst hkk
   refine hK1 _ ?_
   refine θA ?_
   refine zY ⟨Or.inl rfl,?_⟩
   push_cast [zd]
   all_goals first|rfl|exact⟨rfl,rfl⟩|(simp;done)
set_option maxRecDepth 20000 in
set_option maxHeartbeats 4000000 in
theorem zIW (a:Ar)(ha:a.Ln 1048576)(xs:List Int)(hx:xs.length≤1048576)(hr: ∀j,j<xs.length→0≤gi xs j∧gi xs j<a.owner.length):Fn Tryz.prog tyT 160 [.agg (dAr a), .c (DI xs)] [.c (.lst 4 (dB (mkS a.owner.length xs xs.length)))]:=by
 have h0:=ha.owner
 unfold LnI at h0
 unfold dAr
 refine θH (ts:= [4]) Tryz.func160 Tryz.ntmps160 ?_
 push_cast
 refine θA ?_
 refine θA ?_
 refine zL fun K1 hK1=> ?_
 refine θA ?_
 refine zV ?_
 refine zh [7,14,15,16,17,18,19,20,21] [80] (fun(k:Nat)=> [(14, .int .i64 k),(5, .sl 80 [] 0 a.owner.length 4)]) (fun k=> []) (fun k=> [(80,⟨.ex,4,dB (mkS a.owner.length xs k),none⟩)]) (fun k=>k≤xs.length) (fun k=>xs.length - k) 0 ?_ (by omega) ?_
 ·
  rw [mkS_0]
  exact θX
 ·rintro k hk KL0 hL0
  have hml:=wc a.owner.length xs k
  push_cast
  refine θA ?_
  refine zL fun K2 hK2=> ?_
  refine θU (fun hc=> ?_) fun hc=> ?_
  ·
   refine zW (hK2 _ ?_)
   refine zL fun K3 hK3=> ?_
   refine zV ?_
   have hrk:=hr k (by omega)
   have hst:=zL6 (n:=a.owner.length) (xs:=xs) (k:=k) (by omega) hrk
   refine θA ?_
   refine θB ?_
   refine hK3 _ ?_
   refine θB ?_
   refine hL0 _ ⟨k+1,by omega,by omega,?_⟩
   (try rw [hst])
   exact θX
   all_goals first|rfl|(rw [hst];done)|skip
  ·
   refine zi ?_
   have hkk:k=xs.length:=by omega
   subst hkk
   refine hK1 _ ?_
   refine θA ?_
   refine zY ⟨Or.inl rfl,?_⟩
   push_cast [zd]
   all_goals first|rfl|exact⟨rfl,(wc _ _ _).symm⟩|(simp [wc];done)
set_option maxRecDepth 20000 in
set_option maxHeartbeats 4000000 in
theorem ZW (a b:List Bool)(ha:a.length≤1048576)(hb:b.length=a.length):Fn Tryz.prog tyT 163 [.c (.lst 4 (dB a)), .c (.lst 4 (dB b))] [.c (.lst 4 (dB (yT a b)))]:=by
 refine θH (ts:= [4]) Tryz.func163 Tryz.ntmps163 ?_
 push_cast
 refine θA ?_
 refine θA ?_
 refine zL fun K1 hK1=> ?_
 refine θA ?_
 refine zV ?_
 refine zh [6,12,13,14,15,16,17,18,19,20,21,22,23,24,25,26,27,28,29] [80] (fun(k:Nat)=> [(12, .int .i64 k),(5, .sl 80 [] 0 a.length 4)]) (fun k=> []) (fun k=> [(80,⟨.ex,4,dB (mkB a.length (vm a b) k),none⟩)]) (fun k=>k≤a.length) (fun k=>a.length - k) 0 ?_ (by omega) ?_
 ·
  rw [VN]
  exact θX
 ·rintro k hk KL0 hL0
  have hml:=ZR (f:=vm a b) hk
  push_cast
  refine θA ?_
  refine zL fun K2 hK2=> ?_
  refine θU (fun hc=> ?_) fun hc=> ?_
  ·
   refine zW (hK2 _ ?_)
   refine zL fun K3 hK3=> ?_
   refine zV ?_
   refine θA ?_
   refine zc false zQ zN ?_ rfl ?_
   ·kernel_rfl
   all_goals push_cast
   all_goals repeat'(first|(apply zO<;>(intro hg;push_cast at hg))|apply And.intro|(intro hg;push_cast at hg))
   all_goals try exact gA
   all_goals(
     refine hK3 _ ?_
     refine θB ?_
     refine hL0 _ ⟨k+1,by omega,by omega,?_⟩
     first|rw [show(mkB a.length (vm a b) k).set k (!gb b k)=mkB a.length (vm a b) (k+1)from by rw [←qq (by omega)];unfold vm;rw [show gb a k=true from by with_reducible assumption];rfl]|rw [show(mkB a.length (vm a b) k).set k false=mkB a.length (vm a b) (k+1)from by rw [←qq (by omega)];unfold vm;rw [show gb a k=false from by with_reducible assumption];rfl]
     refine zX rfl ?_ ?_ ?_<;>push_cast [zf,ze])
  ·
   refine zi ?_
   have hkk:k=a.length:=by omega
   subst hkk
   refine hK1 _ ?_
   refine θA ?_
   refine zY ⟨Or.inl rfl,?_⟩
   push_cast [zd]
   try rw [zCG]
   unfold yT
   all_goals first|rfl|exact⟨rfl,by simp⟩|exact⟨by simp,rfl⟩|(simp;done)
set_option maxRecDepth 20000 in
set_option maxHeartbeats 4000000 in
theorem zI8 (n:Nat)(hn:n≤256):Fn Tryz.prog tyT 164 [.c (.int .i64 n)] [.c (DI (Zr n))]:=by
 refine θH (ts:= [2]) Tryz.func164 Tryz.ntmps164 ?_
 push_cast
 refine θA ?_
 refine zL fun K1 hK1=> ?_
 refine zL fun K hK=> ?_
 refine zc false zQ zN ?_ rfl ?_
 ·kernel_rfl
 all_goals push_cast
 all_goals repeat'(first|(apply zO<;>(intro hg;push_cast at hg))|apply And.intro|(intro hg;push_cast at hg))
 all_goals try exact gA
 refine hK _ ?_;clear hK K
 all_goals(
   refine zU rfl (fun hc=> ?_) (fun hc=> ?_)
   skip
   ·exfalso;first|(cases hc;done)|(simp only [push_cast]at hc;done)|(simp only [push_cast]at hc;omega)|omega
   refine zW (hK1 _ ?_)
   refine θA ?_
   refine zL fun K2 hK2=> ?_
   refine θA ?_
   refine zV ?_
   refine zh [3,4,7,12,13,14,15,16,17,18,19,20] [48] (fun(k:Nat)=> [(4, .int .i64 k),(3, .sl 48 [] 0 k 2)]) (fun k=> []) (fun k=> [(48,⟨.ex,2,dI (Zr k),none⟩)]) (fun k=>k≤n) (fun k=>n - k) 0 ?_ (by omega) ?_
   ·
    rw [show dI (Zr 0)= []from rfl]
    exact θX
   ·rintro k hk KL0 hL0
    have hfl:=Qn k
    push_cast
    refine zL fun K3 hK3=> ?_
    refine θA ?_
    refine θU (fun hc=> ?_) fun hc=> ?_
    ·
     refine zW (hK3 _ ?_)
     refine zL fun K4 hK4=> ?_
     refine zV ?_
     refine θB ?_
     refine hK4 _ ?_
     refine θB ?_
     refine hL0 _ ⟨k+1,by omega,by omega,?_⟩
     (try rw [List.take_of_length_le (l:=Zr k) (by omega)])
     rw [zNe]
     exact θX
    ·
     refine zi ?_
     have hkk:k=n:=by omega
     subst hkk
     refine hK2 _ ?_
     refine θA ?_
     refine zY ⟨Or.inl rfl,?_⟩
     push_cast [zd]
     all_goals first|rfl|exact⟨rfl,by simp [Qn]⟩|(simp [Qn];done))
set_option maxRecDepth 20000 in
set_option maxHeartbeats 4000000 in
theorem zJI (a:Ar)(hn:a.owner.length≤256):Fn Tryz.prog tyT 116 [.agg (dAr a)] [.c (DI (Zr a.owner.length))]:=by
 have hS:=jh a
 have hA:=zI8 a.owner.length hn
 unfold dAr at hS⊢
 refine θH (ts:= [2]) Tryz.func116 Tryz.ntmps116 ?_
 push_cast
 refine θA ?_
 refine θL fun K hK=> ?_
 refine θD 2 ?_
 refine θD 1 ?_
 refine θE hK ?_
 refine zY ⟨Or.inl rfl,?_⟩
 push_cast [zd]
set_option maxRecDepth 20000 in
set_option maxHeartbeats 4000000 in
theorem zHA (a:Ar)(hao:yK a=true):Fn Tryz.prog tyT 159 [.agg (dAr a)] [.c (DII (qW a a.owner.length a.owner.length 0))]:=by
 have hal:=yO hao
 have hrow:=fun v hv=>(xD hao (v:=v) hv).2.2
 have hset:=fun v j hv hj=>Zv (xD hao (v:=v) hv).2.2.2.2 (j:=j) hj
 obtain⟨n,hn⟩: ∃n,a.owner.length=n:=⟨_,rfl⟩
 rw [hn]at hal hrow hset
 rw [hn]
 unfold dAr
 (try rw [hn])
 (try rw [hal.2.2])
 refine θH (ts:= [2]) Tryz.func159 Tryz.ntmps159 ?_
 push_cast
 refine θA ?_
 refine θA ?_
 refine zL fun K1 hK1=> ?_
 refine θA ?_
 refine zV ?_
 refine zh [4,5,7,15,16,17,18,19,20,21,22,23,24,25,26,27,28,29,30,31,32,33,34,35,36,37] [48] (fun(v:Nat)=> [(15, .int .i64 v),(3, .sl 48 [] 0 a.owner.length 22)]) (fun v=> []) (fun v=> [(48,⟨.ex,22,dII (qW a n v 0),none⟩)]) (fun v=>v≤n) (fun v=>n - v) 0 ?_ (by omega) ?_
 ·
  rw [zBk]
  refine zX rfl ?_ ?_ ?_<;>push_cast [zf,ze]
  all_goals first|(simp [dII,dI];done)|(simp [dII,dI];exact hn)|exact hn
 ·rintro v hv KL0 hL0
  have hpv:=vz a n v 0
  push_cast
  refine θA ?_
  refine zL fun K2 hK2=> ?_
  refine θU (fun hc=> ?_) fun hc=> ?_
  ·
   refine zW (hK2 _ ?_)
   refine zL fun K3 hK3=> ?_
   refine zV ?_
   refine θA ?_
   refine θA ?_
   refine zV ?_
   refine zh [7,22,23,24,25,26,27,28,29,30,31,32,33,34,35,36] [48] (fun(i:Nat)=> [(22, .int .i64 i),(3, .sl 48 [] 0 a.owner.length 22)]) (fun i=> []) (fun i=> [(48,⟨.ex,22,dII (qW a n v i),none⟩)]) (fun i=>i≤(gl a.next v).length) (fun i=>(gl a.next v).length - i) 0 ?_ (by omega) ?_
   ·
    exact θX
   ·rintro i hi KL1 hL1
    have hpv:=vz a n v i
    push_cast
    refine θA ?_
    refine zL fun K4 hK4=> ?_
    refine θU (fun hc=> ?_) fun hc=> ?_
    ·
     refine zW (hK4 _ ?_)
     refine zL fun K5 hK5=> ?_
     refine zV ?_
     refine θA ?_
     have hrv:=(hrow v (by omega)).2.1
     have hst:=hset v i (by omega) (by omega)
     have hps:=zBj hao (n:=n) (v:=v) (i:=i) (by omega) (by omega) (by omega)
     have hpe:(gl (qW a n v i) (gi (gl a.next v) i).toNat).length≤v+1:=by rw [jd (by omega)];exact zD2 _ _ _ _
     refine zc true zQ zN ?_ rfl ?_
     ·kernel_rfl
     push_cast
     all_goals repeat'(first|(apply zO<;>(intro hg;push_cast at hg))|apply And.intro|(intro hg;push_cast at hg))
     all_goals first|exact gA|(rw [List.length_set,WM];omega)|(exact zP (by omega))|skip
     refine hK5 _ ?_
     refine θB ?_
     refine hL1 _ ⟨i+1,by omega,by omega,?_⟩
     refine zX rfl ?_ ?_ ?_<;>push_cast [zf,ze]
     all_goals(rw [zKM (by omega) (by rw [List.length_append];exact Nat.le_refl _),hps])
    ·
     refine zi ?_
     have hii:i=(gl a.next v).length:=by omega
     subst hii
     rw [zBi]
     refine hK3 _ ?_
     refine θB ?_
     refine hL0 _ ⟨v+1,by omega,by omega,?_⟩
     exact θX
  ·
   refine zi ?_
   have hvv:v=n:=by omega
   subst hvv
   refine hK1 _ ?_
   refine θA ?_
   refine zY ⟨Or.inl rfl,?_⟩
   push_cast [zd]
   all_goals first|rfl|exact hn|exact hn.symm|(simp [vz];exact hn)|exact⟨rfl,by simp only [vz];omega⟩|(simp [vz];done)
section
variable {P:Program} {τ:Ty} {lo:Nat} {w0:Fz} {ow:Nat→Option Pl} {hd:Nat→Value} {bk:Nat→Nat} {st:St} {a:Act} {w:World}
theorem zLL {w:World}{g i:Nat}{cur:Array Value}{e:TypeId}(h:w.heap[g]? =some (.cells cur e (0,0)))(hi:i<cur.size):(w.cell? ⟨g,i,none⟩).isSome=true∧w.frozen? ⟨g,i,none⟩=false:=by
 constructor
 ·simp [World.cell?,h,hi]
 ·simp [World.frozen?,h]
theorem zKV (hτ:yA P τ)(h:zk τ lo w0 ow hd bk st a w){d k:Nat}{e:TypeId}{xs:List D}{pin:Option Nat}(hR:lk st.r d=some ⟨.ex,e,xs,pin⟩){off len m:Nat}{v:Value}(hsub:Sub (sz τ e) (hd d) off len v)(hfull:off+len=xs.length){t ty:TypeId}{bt by_:Nat}{ck:CK}(ht:tk τ t=some (.sc (.sl e),bt))(he:tk τ e=some (.sc ck,by_))(hall:xs.all xu=true)
  (newD:List D) (news:List Value) (src:Value) (hsrc: ∃ad c2,src= .slice (some ad) m c2∧∀(j:Nat) (u:Value),news[j]? =some u→w.cell? (ad.add j)=some u) (hm:0<m) (hnl:news.length=m) (hdl:newD.length=m) (h1: ∀u∈news,u.oneCell'=true)
  (hN: ∀(i:Nat) (x:D) (u:Value),newD[i]? =some x→news[i]? =some u→xu x=true∧∃mo,Rp (sz τ) lo w ow mo x u) (h63:len+m≤1073741824) (hoff:xs.length≤1073741824) (hby:by_≤64):
  ∃v' w' ow' hd' pre,(pre= []∨pre=xs.take off)∧(Builtin.append_ #[t,t] ty #[v,src]).run P w= .ok v' w'∧zk τ lo w0 ow' hd' bk (st.appG St.delR d k ⟨.ex,e,pre++(xs.drop off++newD),none⟩) a w'∧
   AvR τ w' (st.appG St.delR d k ⟨.ex,e,pre++(xs.drop off++newD),none⟩).r (st.appG St.delR d k ⟨.ex,e,pre++(xs.drop off++newD),none⟩).b hd' bk (.sl k [] pre.length (len+m) e) v':=by
 have hsz:sz τ e=1:=QJ he
 have hu:P.underlying t=some (.slice e):=(yZ hτ ht).1
 obtain⟨i0,hi0,hs0,hz0,hb0⟩:=QS hτ he
 obtain⟨A,n,c,A',c',hnw,hhd,hval,hle,hlc,hmx,hf0,hA⟩:=hsub
 obtain⟨vs,⟨k1,N,k2,k3⟩,k5⟩:=(yC _ _).1 (h.root d _ hR)
 have hH0:Hd (sz τ) lo w ow (md .ex d) e (hd d) xs.length vs:=⟨k1,N,k2,k3⟩
 have k1:vs.length=xs.length:=k1
 have k2:xs.length=N*sz τ e:=k2
 simp only [md]at k3
 obtain⟨hown,hlab⟩:=k3
 rw [hsz,Nat.mul_one]at k2
 rw [hhd]at hown hlab
 rw [hsz]at hown hnw hA
 have hNn:N=n:=by
  rcases hown.2 with⟨hv,h0⟩|⟨g,cap,cur,hv,_⟩
  ·cases hv;exact h0
  ·cases hv;rfl
 subst hNn
 by_cases hroom:len+m≤c'
 ·-- there is room
  obtain⟨g,cap,cur,hv,hg,hb,hnc,hcm,hcs,htk⟩: ∃g cap cur,Value.slice A N c= .slice (some ⟨g,0,none⟩) N cap∧lo≤g∧w.heap[g]? =some (.cells cur e (0,0))∧N≤cap∧cap≤maxLen∧cur.size=cap*1∧cur.toList.take (N*1)=vs:=by
   rcases hown.2 with⟨hv,h0⟩|h9
   ·cases hv;exfalso;omega
   ·exact h9
  cases hv
  have hA':=hnw.2 g 0 rfl (by omega)
  rw [Nat.zero_add,Nat.mul_one]at hA'
  subst hA'
  have hw9:=hnw.1
  have hNm:N+m≤c:=by omega
  obtain⟨ad,c2,rfl,hcells⟩:=hsrc
  have hcells2: ∀j,j<news.length→(w.cell? ⟨g,N+j,none⟩).isSome=true∧w.frozen? ⟨g,N+j,none⟩=false:=fun j hj=>zLL hb (by omega)
  obtain⟨v1,w1,ow1,hrun1,hrel⟩:=Ve (P:=P) hτ h (Zw h d) (by simp [St.delR,xX,is1]) (k:=k) (len:=N) (d:=d) hR (by simp) hhd (Nat.le_refl _) (ty:=ty) ht he (by show 0<sz τ e;omega) newD news (.slice (some ad) m c2) (m:=m) (.inl ⟨ad,c2,rfl,hcells⟩) (by rw [hsz,Nat.mul_one];exact hnl) (by omega) h1 (fun i x u hx hu=>by
   obtain⟨s1,mo,s2⟩:=hN i x u hx hu
   exact Xt s1 s2) (by omega) (by
   have :(N+m)*by_≤2147483648*64:=Nat.mul_le_mul (by omega) hby
   omega)
  have hr1:=run_append_room_cells (P:=P) (w:=w) t ty e i0 hu hi0 g 0 N c ad m c2 news (by rw [hs0,Nat.mul_one];exact hnl) hcells h1 (by omega) (fun j hj=>by rw [hs0,Nat.mul_one,Nat.zero_add];exact(hcells2 j hj).1) (fun j hj=>by rw [hs0,Nat.mul_one,Nat.zero_add];exact(hcells2 j hj).2)
  have hr2:=run_append_room_cells (P:=P) (w:=w) t ty e i0 hu hi0 g off len c' ad m c2 news (by rw [hs0,Nat.mul_one];exact hnl) hcells h1 hroom (fun j hj=>by rw [hs0,Nat.mul_one,show off+len=N by omega];exact(hcells2 j hj).1) (fun j hj=>by rw [hs0,Nat.mul_one,show off+len=N by omega];exact(hcells2 j hj).2)
  rw [hs0,Nat.mul_one,Nat.zero_add]at hr1
  rw [hs0,Nat.mul_one,show off+len=N by omega]at hr2
  rw [hr1]at hrun1
  cases hrun1
  have exs:xs.take off++(xs.drop off++newD)=xs.take (N*sz τ e)++newD:=by
   rw [←List.append_assoc,List.take_append_drop,hsz,Nat.mul_one,List.take_of_length_le (by omega)]
  refine⟨_,_,_,_,xs.take off, .inr rfl,by rw [hval];exact hr2,by rw [exs];exact hrel,?_⟩
  have hlo:(xs.take off).length=off:=by rw [List.length_take];omega
  rw [hlo]
  simp only [AvR]
  refine⟨⟨_,_,_,rfl⟩,fun R' hR' hp=>⟨.slice (some ⟨g,0,none⟩) (N+m) c,by simp only [yI,yB],some ⟨g,0,none⟩,N+m,c,some ⟨g,off,none⟩,c',⟨hnw.1,fun b o e9 _=> ?_⟩,rfl,rfl,by omega,hroom,hmx,hf0,fun _=>⟨g,0,rfl,by rw [hsz,Nat.mul_one,Nat.zero_add]⟩⟩⟩
  cases e9
  rw [hsz,Nat.mul_one,Nat.zero_add]
 ·-- a new row
  have hdr:(vs.drop off).length=len:=by rw [List.length_drop];omega
  obtain⟨v',w',hrun,hown',hg⟩: ∃v' w',(Builtin.append_ #[t,t] ty #[v,src]).run P w= .ok v' w'∧w'.ownsRow w.heap.size e 1 v' (len+m) (vs.drop off++news)∧w.grownBy w' none:=by
   obtain⟨ad,c2,rfl,hcells⟩:=hsrc
   have hbytes:(len+m)*by_≤140737488355328:=by
    have :(len+m)*by_≤1073741824*64:=Nat.mul_le_mul h63 hby
    omega
   have hmax:len+m≤maxLen:=by unfold maxLen;omega
   rw [hval]
   cases A' with
   |some ad'=>
    refine run_append_arg_grows (P:=P) (w:=w) t ty e i0 ck.zero 1 by_ hu hi0 hz0 hs0 hb0 (by cases ck<;>rfl) (by decide) ad' len c' (vs.drop off) (by rw [Nat.mul_one];exact hdr) (fun j u hj=> ?_) ad m c2 news (by rw [Nat.mul_one];exact hnl) hcells (by omega) hmax hbytes
    have hjl:=(List.getElem?_eq_some_iff.1 hj).1
    rw [List.getElem?_drop]at hj
    obtain⟨b1,o1,n1,c1,hv1,-,-,-,hc1⟩:=qb hH0 hj
    rw [hhd]at hv1
    cases hv1
    obtain⟨b2,o2,e1,e2⟩:=hA (by omega)
    cases e1
    rw [Nat.mul_one]at e2
    cases e2
    rw [Addr.add_lit,Nat.add_assoc]
    exact hc1
   |none=>
    have hl0:len=0:=by
     rcases Nat.eq_zero_or_pos len with h9|h9
     ·exact h9
     ·obtain⟨b2,o2,e1,e2⟩:=hA (by omega)
      cases e2
    have hc0:c'=0:=by
     rcases Nat.eq_zero_or_pos c' with h9|h9
     ·exact h9
     ·rcases hown.2 with⟨hv,h0⟩|⟨g,cap,cur,hv,_⟩
      ·cases hv;omega
      ·cases hv
       have :=hnw.2 g 0 rfl (by omega)
       cases this
    subst hl0
    subst hc0
    have hnil:vs.drop off= []:=List.eq_nil_of_length_eq_zero hdr
    rw [hnil]
    obtain⟨v',w',r1,r2,r3,-,r5⟩:=run_append_own_at (P:=P) w w.heap.size t ty e i0 ck.zero 1 by_ hu hi0 hz0 hs0 hb0 (by cases ck<;>rfl) (by decide) (.slice none 0 0) 0 [] ⟨rfl, .inl ⟨rfl,rfl⟩⟩ ad m c2 news (by rw [Nat.mul_one];exact hnl) hcells h1 hmax hbytes (Nat.le_refl _)
    exact⟨v',w',r1,r2,r3⟩
  have hvlt: ∀b,v'.ownBlock=some b→w.heap.size≤b∧b<w'.heap.size:=fun b hb=>⟨(hown'.lt b hb).1,(hown'.lt b hb).2⟩
  have s1:=Zw (Zw h d) k
  have hnew: ∀b,b<w.heap.size→¬v'.ownBlock=some b:=fun b hb e9=>by have :=(hvlt b e9).1;omega
  have s2:=XR s1 (w':=w') (ow':=fun b=>if v'.ownBlock=some b then some (.root k [])else ow b) hg.size (fun b hb=>⟨hg.block b hb (by simp),if_neg (hnew b hb)⟩) (h.below.grown hg (fun b hb=>by cases hb)) (fun b p hle hp hne=>by
   refine⟨Nat.le_trans h.low hle,fun hlt=>by have :=h.below.size;omega⟩) (fun b hle=>by
   have h9: ¬v'.ownBlock=some b:=fun e9=>by have :=(hvlt b e9).2;omega
   simp only [h9,if_false]
   exact h.new b (by have :=hg.size;omega))
  have hxl:(xs.drop off).length=len:=by rw [List.length_drop];omega
  have hownlo:w'.ownsRow lo e 1 v' (len+m) (vs.drop off++news):=⟨hown'.1,hown'.2.imp id fun⟨g,cap,cur,q1,q2,q3⟩=>⟨g,cap,cur,q1,Nat.le_trans h.low q2,q3⟩⟩
  have hroot:Rp (sz τ) lo w' (fun b=>if v'.ownBlock=some b then some (.root k [])else ow b) (md .ex k) (.lst e (xs.drop off++newD)) v':=by
   refine(yC _ _).2 ⟨vs.drop off++news,⟨by rw [List.length_append,List.length_append,hdr,hxl,hnl,hdl],len+m,by rw [hsz,Nat.mul_one,List.length_append,hxl,hdl],?_⟩,fun i x u hx hu=> ?_⟩
   ·simp only [md]
    rw [hsz]
    exact⟨hownlo,fun b hb=>by simp only [hb,if_true]⟩
   ·rcases Nat.lt_or_ge i len with hi|hi
    ·rw [List.getElem?_append_left (by omega),List.getElem?_drop]at hx hu
     exact Xt (List.all_eq_true.1 hall x (List.mem_of_getElem? hx)) (k5 _ x u hx hu)
    ·rw [List.getElem?_append_right (by omega)]at hx hu
     rw [hxl]at hx
     rw [hdr]at hu
     obtain⟨s3,mo,s4⟩:=hN _ x u hx hu
     exact Xt s3 s4
  have s3:=qh s2 k ⟨.ex,e,xs.drop off++newD,none⟩ v' hroot
  refine⟨v',w',_,_,[], .inl rfl,hrun,s3,?_⟩
  obtain⟨A2,n2,c2,hv',hlen',hnc2,hm2⟩:=xK hroot
  have hn2:n2=len+m:=by
   rw [List.length_append,hxl,hdl,hsz,Nat.mul_one]at hlen'
   omega
  subst hn2
  subst hv'
  simp only [AvR,List.length_nil,List.nil_append]
  refine⟨⟨_,_,_,rfl⟩,fun R' hR' hp=>⟨.slice A2 (len+m) c2,by simp only [yI,yB],A2,len+m,c2,A2,c2,nw0,rfl,rfl,by omega,hnc2,hm2,fun _=>⟨rfl,rfl⟩,fun hne0=> ?_⟩⟩
  rcases hown'.2 with⟨hv9,h0⟩|⟨g,cap,cur,hv9,_⟩
  ·omega
  ·cases hv9
   exact⟨g,0,rfl,by rw [Nat.zero_mul]⟩
def zCg (τ:Ty)(o:Oper)(K:St→Prop)(st:St):Prop:=
 match o.op,o.dst with
 | .call c,some t=>
  match c.callee with
  | .builtin .append=>
   match c.args.toList,c.argTypes.toList with
   | [X,Y],[t1,t2]=>
    match ev st X,ev st Y,tk τ t1 with
    | .sl d [] off len e, .sl d2 p2 off2 len2 e2,some (.sc (.sl e'),_)=>
     match lk st.r d,lk st.r d2,tk τ e with
     |some R,some R2,some (.sc ck,by_)=>t1=t2∧e'=e∧e2=e∧R.o= .ex∧R.e=e∧(by_≤64)∧off+len=R.xs.length∧R.xs.all xu=true∧zo R2.xs p2∧vo R2.e R2.xs p2=e∧(((yW R2.xs p2).drop off2).take len2).all xu=true∧0<len2∧len+len2≤1073741824∧R.xs.length≤1073741824∧
      ∀pre:List D,(pre= []∨pre=R.xs.take off)→K ((st.appG St.delR d (zb t 0) ⟨.ex,e,pre++(R.xs.drop off++((yW R2.xs p2).drop off2).take len2),none⟩).put (some t) (.sl (zb t 0) [] pre.length (len+len2) e))
     |_,_,_=>False
    |_,_,_=>False
   |_,_=>False
  |_=>False
 |_,_=>False
theorem uf (hτ:yA P τ):ue P τ (zCg τ):=by
 intro lo w0 st a w o K Q K' hd9 h ha hK
 obtain⟨ow,hd,bk,hr⟩:=h
 obtain⟨dst,op,oty,pos,after,guard⟩:=o
 unfold zCg at ha
 cases op<;>simp only at ha
 rename_i c
 obtain⟨callee,args,argTypes⟩:=c
 cases dst with
 |none=>simp only at ha
 |some t=>
 simp only at ha
 split at ha
 rotate_left
 ·exact ha.elim
 split at ha
 rotate_left
 ·exact ha.elim
 rename_i X Y t1 t2 h1 h2
 split at ha
 rotate_left
 ·exact ha.elim
 rename_i d off len e d2 p2 off2 len2 e2 e' bt hX hY ht1
 split at ha
 rotate_left
 ·exact ha.elim
 rename_i R R2 ck by_ hR hR2 hte
 obtain⟨rfl,rfl,rfl,hex,hRe,hb64,hfull,hall,hp2,hnode,hall2,hlen2,hbd,hbd2,hK1⟩:=ha
 obtain⟨ro,re,rx,rp⟩:=R
 simp only at hex hRe hfull hall hbd2 hK1
 subst hex;subst hRe
 have e1:args= #[X,Y]:=by cases args;simp at h1;subst h1;rfl
 have e2:argTypes= #[t1,t1]:=by cases argTypes;simp at h2;subst h2;rfl
 subst e1;subst e2
 have hx:=zl hr X
 have hy:=zl hr Y
 rw [hX]at hx
 rw [hY]at hy
 simp only [AvR]at hx hy
 obtain⟨hv,hin,hsub⟩:=hx.2 _ hR (by simp only [zo])
 simp only [yI,Option.some.injEq]at hin
 subst hin
 have hsz1:=QJ hte
 obtain⟨hv2,hin2,hsub2⟩:=hy.2 R2 hR2 hp2
 have hview:=QK hr hR2 hp2 hin2 hsub2 hnode lo
 rw [hsz1,Nat.mul_one,Nat.mul_one]at hview
 obtain⟨vs,⟨k1,N,k2,A3,c3,k3,k4,k5,k6⟩,k7⟩:=(yC _ _).1 hview
 obtain⟨A4,n4,c4,A5,c5,hnw5,e4,e5,hle4,-⟩:=hsub2
 rw [k3]at e5
 cases e5
 rw [hsz1,Nat.mul_one]at k2
 obtain⟨b,oo,hA,hb,-,hcell⟩:=k6 (by omega)
 subst hA
 have hsc: ∀(i:Nat) (x:D) (u:Value),(((yW R2.xs p2).drop off2).take len2)[i]? =some x→vs[i]? =some u→xu x=true∧∃mo,Rp (sz τ) lo w ow mo x u:=fun i x u hx hu=>
  ⟨List.all_eq_true.1 hall2 x (List.mem_of_getElem? hx), .sh,Xt (m':= .sh) (List.all_eq_true.1 hall2 x (List.mem_of_getElem? hx)) (k7 i x u hx hu)⟩
 have hone: ∀u∈vs,u.oneCell'=true:=fun u hu=>by
  obtain⟨j,hj⟩:=List.getElem?_of_mem hu
  have hjl:=(List.getElem?_eq_some_iff.1 hj).1
  obtain⟨s1,mo,s2⟩:=hsc j _ u (List.getElem?_eq_getElem (by omega)) hj
  cases hd':(((yW R2.xs p2).drop off2).take len2)[j]'(by omega)with
  |int k n=>rw [hd']at s2;simp only [Rp]at s2;subst s2;rfl
  |bool b=>rw [hd']at s2;simp only [Rp]at s2;subst s2;rfl
  |hole=>rw [hd']at s1;cases s1
  |lst e xs=>rw [hd']at s1;cases s1
 obtain⟨v',w',ow',hd',pre,r1,r2,r3,r4⟩:=zKV (P:=P) hτ hr (k:=zb t 0) hR hsub hfull (ty:=oty) ht1 hte hall _ vs (a.eval Y) ⟨_,c3,k3,fun j u hu=>by rw [Addr.add_lit];exact hcell j u hu⟩ hlen2 (by rw [k1,k2]) k2 hone hsc hbd hbd2 hb64
 unfold Oper.wp
 have hexec:(execOp a.eval ⟨some t, .call ⟨.builtin .append,#[X,Y],#[t1,t1]⟩,oty,pos,after,guard⟩).run P w= .ok (.value v') w':=by
  simp [execOp,resolve,invoke,builtin,r2]
 rw [hexec]
 exact hK _ v' _ (hK1 pre r1) (xW r3 hd9 r4)
end
attribute [push_cast] zCg
end Go.Proofs.YthepmdkpbjfdcaaGreat
