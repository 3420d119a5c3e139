/- The program's attractor: what holds while it is reckoned, plain. -/
import Derived.Test.YtcleaokoimhedaaGreatB16zmo
import Derived.Test.YtcleaokoimhedaaGreatB20zmo
import Derived.Test.YtcleaokoimhedaaGreatB6zmo
import Derived.Test.YtcleaokoimhedaaGreatB17zmo
namespace Go.Proofs.YtcleaokoimhedaaGreat
open Go.RowKit
set_option linter.unusedVariables false
set_option linter.unusedSimpArgs false
def yT (l:List Bool):Nat→List Int
 |0=> []
 |k+1=>if gb l k then yT l k++ [(k:Int)]else yT l k
theorem Ql {l:List Bool}{k:Nat}(h:gb l k=true):yT l (k+1)=yT l k++ [(k:Int)]:=by
 show(if _ then _ else _)=_;rw [if_pos h]
theorem QK {l:List Bool}{k:Nat}(h:gb l k=false):yT l (k+1)=yT l k:=by
 show(if _ then _ else _)=_;rw [if_neg (by rw [h];exact Bool.false_ne_true)]
theorem vv {l:List Bool}{y:Int}: ∀{k:Nat},y∈yT l k↔∃v:Nat,v<k∧gb l v=true∧y=v
 |0=>⟨fun h=>(by cases h),fun⟨v,h,_⟩=>absurd h (Nat.not_lt_zero _)⟩
 |k+1=>by
  cases hk:gb l k
  ·rw [QK hk,vv]
   constructor
   ·rintro⟨v,a,b,c⟩;exact⟨v,by omega,b,c⟩
   ·rintro⟨v,a,b,c⟩
    by_cases e:v=k
    ·rw [e,hk]at b;cases b
    ·exact⟨v,by omega,b,c⟩
  ·rw [Ql hk,List.mem_append,vv]
   constructor
   ·rintro(⟨v,a,b,c⟩|h)
    ·exact⟨v,by omega,b,c⟩
    ·exact⟨k,by omega,hk,by simpa using h⟩
   ·rintro⟨v,a,b,c⟩
    by_cases e:v=k
    ·right;rw [c,e];simp
    ·exact .inl ⟨v,by omega,b,c⟩
theorem xp (l:List Bool): ∀k,(yT l k).length≤k
 |0=>Nat.le_refl _
 |k+1=>by
  have :=xp l k
  cases hk:gb l k
  ·rw [QK hk];omega
  ·rw [Ql hk,List.length_append];simp;omega
theorem zAH (l:List Bool): ∀k,(yT l k).Pairwise (· < ·)
 |0=>List.Pairwise.nil
 |k+1=>by
  cases hk:gb l k
  ·rw [QK hk];exact zAH l k
  ·rw [Ql hk,List.pairwise_append]
   refine⟨zAH l k,List.pairwise_singleton _ _,fun a ha b hb=> ?_⟩
   obtain⟨v,h1,-,h3⟩:=vv.1 ha
   rw [List.mem_singleton.1 hb,h3];omega
theorem Yu {l:List Bool}{k i:Nat}(h:i<(yT l k).length):0≤gi (yT l k) i∧gi (yT l k) i<k∧gb l (gi (yT l k) i).toNat=true:=by
 obtain⟨v,a,b,c⟩:=vv.1 (UA h)
 rw [c]
 exact⟨by omega,by omega,by rw [Int.toNat_natCast];exact b⟩
theorem zJE {l:List Bool}{k:Nat}(h:yT l k= [])(v:Nat)(hv:v<k):gb l v=false:=by
 cases hb:gb l v
 ·rfl
 ·exfalso
  have :(v:Int)∈yT l k:=vv.2 ⟨v,hv,hb,rfl⟩
  rw [h]at this;cases this
section
variable {x:L7} {n:Nat} {inn goal out:List Bool} {who:Int} {lc Lf Q:List Int} {P P':Nat→Int→Bool}
theorem zCs {v:Nat}{p:Int→Bool}: ∀{k:Nat},(∃j,j<k∧gb inn (gi (gl x.next v) j).toNat=true∧edB x v (gi (gl x.next v) j)=true∧p (gi (gl x.next v) j)=false)→1≤qq x inn v p k
 |0,⟨j,h,_⟩=>absurd h (Nat.not_lt_zero _)
 |k+1,⟨j,hj,h1,h2,h3⟩=>by
  have hn:=jI x inn v p k
  unfold qq
  by_cases e:j=k
  ·subst e
   rw [h1,h2,h3]
   simp
   omega
  ·have :=zCs ⟨j,by omega,h1,h2,h3⟩ (k:=k)
   split<;>omega
theorem Uz (hx:x.Ok n){v:Nat}(hv:v<n):0≤wK x inn v∧wK x inn v≤256:=by
 have :=jH x inn v (gl x.next v).length
 have :=hx.deg v hv
 unfold wK
 omega
structure PuI (x:L7)(n:Nat)(inn:List Bool)(who:Int)(goal out:List Bool)(lc Lf Q:List Int)(P:Nat→Int→Bool):Prop where
 at_:AtI x n inn who goal out Lf Q P
 len:lc.length=n
 rg: ∀v,v<n→0≤gi lc v∧gi lc v≤256
 lcv: ∀v,v<n→gb inn v=true→gb out v=false→¬gi x.owner v=who→(gi lc v=0∧gi Lf v=wK x inn v)∨(¬gi lc v=0∧gi Lf v=gi lc v)
theorem PuI.start (hx:x.Ok n)(hg:goal.length=n)(hsub: ∀v,v<n→gb goal v=true→gb inn v=true):
  PuI x n inn who goal goal (List.replicate n 0) ((List.range n).map fun v=>wK x inn v) (yT goal n) (fun _ _=>false):=by
 have hgiL: ∀v,v<n→gi ((List.range n).map fun v=>wK x inn v) v=wK x inn v:=fun v hv=>by
  unfold gi
  rw [List.getD_eq_getElem?_getD,List.getElem?_map,List.getElem?_range hv]
  rfl
 refine⟨⟨hg,by simp,fun i hi=> ?_,fun i j hij hj=> ?_,fun v hv=> ?_,fun v hv hb=> .base ⟨hv,hsub v hv hb⟩ hb,fun v hv _ hb=>hb,fun v hv _ _ _ j _ _ _=>rfl,fun v hv _ _ _ ⟨j,_,_,_,hf⟩=>(by cases hf),fun v hv a b=> ?_,fun v hv j hj hf=>(by cases hf)⟩,by simp,fun v hv=> ?_,fun v hv a b c=> ?_⟩
 ·have :=Yu hi;omega
 ·have h1:=List.pairwise_iff_getElem.1 (zAH goal n) i j (by omega) hj hij
  unfold gi
  rw [List.getD_eq_getElem?_getD,List.getD_eq_getElem?_getD,List.getElem?_eq_getElem (by omega),List.getElem?_eq_getElem hj]
  simp only [Option.getD_some]
  omega
 ·constructor
  ·intro hb
   obtain⟨i,hi⟩:=List.getElem?_of_mem (vv.2 ⟨v,hv,hb,rfl⟩:(v:Int)∈yT goal n)
   have hl:=(List.getElem?_eq_some_iff.1 hi).1
   refine⟨i,hl,?_⟩
   have :=qk hl
   rw [hi]at this
   exact(Option.some.inj this).symm
  ·rintro⟨i,hi,e⟩
   have :=(Yu hi).2.2
   rw [e,Int.toNat_natCast]at this
   exact this
 ·rw [hgiL v hv]
  exact(KM x inn v _ fun _ _=>rfl).symm
 ·have :gi (List.replicate n 0) v=0:=UB hv
  omega
 ·exact .inl ⟨UB hv,hgiL v hv⟩
theorem PuI.cong (h:PuI x n inn who goal out lc Lf Q P)(h2:AtI x n inn who goal out Lf Q P'):PuI x n inn who goal out lc Lf Q P':=⟨h2,h.len,h.rg,h.lcv⟩
theorem PuI.skip (h:PuI x n inn who goal out lc Lf Q P){v0:Nat}(hv0:v0<n){u0:Int}(hu0:gb out u0.toNat=true)(hs:gb inn v0=false∨gb out v0=true∨edB x v0 u0=false)
  (hQ: ∀v u,P' v u=(P v u||(decide (v=v0)&&decide (u=u0)))):PuI x n inn who goal out lc Lf Q P':=h.cong (h.at_.skip hv0 hu0 hs hQ)
def vt (x:L7)(inn:List Bool)(lc:List Int)(v:Nat):Int:=if gi lc v=0 then wK x inn v else gi lc v
theorem PuI.step (hx:x.Ok n)(h:PuI x n inn who goal out lc Lf Q P){v0:Nat}(hv0:v0<n){u0:Int}(hu:0≤u0∧u0<n)(hu0:gb out u0.toNat=true)(hui:gb inn u0.toNat=true)(h1:gb inn v0=true)(h2:gb out v0=false)(h3:edB x v0 u0=true)
  (hj: ∃j,j<(gl x.next v0).length∧gi (gl x.next v0) j=u0) (hP:P v0 u0=false) (hQ: ∀v u,P' v u=(P v u||(decide (v=v0)&&decide (u=u0)))):
  (gi x.owner v0=who→PuI x n inn who goal (out.set v0 true) lc (Lf.set v0 (gi Lf v0 - 1)) (Q++ [(v0:Int)]) P')∧
  (¬gi x.owner v0=who→(1≤vt x inn lc v0∧vt x inn lc v0≤256)∧
   (0<vt x inn lc v0 - 1→PuI x n inn who goal out (lc.set v0 (vt x inn lc v0 - 1)) (Lf.set v0 (gi Lf v0 - 1)) Q P')∧
   (¬0<vt x inn lc v0 - 1→PuI x n inn who goal (out.set v0 true) (lc.set v0 (vt x inn lc v0 - 1)) (Lf.set v0 (gi Lf v0 - 1)) (Q++ [(v0:Int)]) P')):=by
 have hst:=AtI.step hx h.at_ hv0 hu hu0 hui h1 h2 h3 hj hP hQ
 have hlo:v0<out.length:=by rw [h.at_.lo];exact hv0
 have hll:v0<Lf.length:=by rw [h.at_.ll];exact hv0
 have hlc:v0<lc.length:=by rw [h.len];exact hv0
 have hdown: ∀v,gb (out.set v0 true) v=false→v≠v0∧gb out v=false:=fun v hv=>by
  rw [YE hlo]at hv
  split at hv
  ·cases hv
  ·rename_i e;exact⟨e,hv⟩
 refine⟨fun ho=>⟨hst.2 (.inl ho),h.len,h.rg,fun v hv a b c=> ?_⟩,fun ho=> ?_⟩
 ·obtain⟨b1,b2⟩:=hdown v b
  rw [qb hll,if_neg b1]
  exact h.lcv v hv a b2 c
 ·have hm:gi Lf v0=vt x inn lc v0:=by
   unfold vt
   rcases h.lcv v0 hv0 h1 h2 ho with⟨a,b⟩|⟨a,b⟩
   ·rw [if_pos a];exact b
   ·rw [if_neg a];exact b
  have hpos:1≤gi Lf v0:=by
   rw [h.at_.cnt v0 hv0 h1 h2]
   obtain⟨j,a,b⟩:=hj
   exact zCs ⟨j,a,by rw [b];exact hui,by rw [b];exact h3,by rw [b];exact hP⟩
  have hle:vt x inn lc v0≤256:=by
   unfold vt
   split
   ·exact(Uz hx hv0).2
   ·exact(h.rg v0 hv0).2
  rw [hm]at hpos hst⊢
  have hrg: ∀v,v<n→0≤gi (lc.set v0 (vt x inn lc v0 - 1)) v∧gi (lc.set v0 (vt x inn lc v0 - 1)) v≤256:=fun v hv=>by
   rw [qb hlc]
   split
   ·omega
   ·exact h.rg v hv
  refine⟨⟨hpos,hle⟩,fun hp=>⟨hst.1 (fun e=> ?_),by rw [List.length_set];exact h.len,hrg,fun v hv a b c=> ?_⟩,fun hp=>⟨hst.2 (.inr (by omega)),by rw [List.length_set];exact h.len,hrg,fun v hv a b c=> ?_⟩⟩
  ·rcases e with e|e
   ·exact ho e
   ·omega
  ·rw [qb hll,qb hlc]
   by_cases ev:v=v0
   ·rw [if_pos ev,if_pos ev]
    exact .inr ⟨by omega,rfl⟩
   ·rw [if_neg ev,if_neg ev]
    exact h.lcv v hv a b c
  ·obtain⟨b1,b2⟩:=hdown v b
   rw [qb hll,qb hlc,if_neg b1,if_neg b1]
   exact h.lcv v hv a b2 c
end
structure QdI (Q:List Int)(i:Nat)(qd:List Int)(o:Nat):Prop where
 drop:qd.drop o=Q.drop i
 lo:o≤i
 li:i≤Q.length
 oq:o≤qd.length
theorem QdI.start (Q:List Int):QdI Q 0 Q 0:=⟨rfl,by omega,by omega,by omega⟩
theorem QdI.len {Q qd:List Int}{i o:Nat}(h:QdI Q i qd o):o+(Q.length - i)=qd.length:=by
 have h1:=congrArg List.length h.drop
 rw [List.length_drop,List.length_drop]at h1
 have :=h.oq;have :=h.li
 omega
theorem QdI.head {Q qd:List Int}{i o:Nat}(h:QdI Q i qd o)(hi:i<Q.length):gi qd o=gi Q i:=by
 have h1:=congrArg (fun l=>l[0]?) h.drop
 simp only [List.getElem?_drop,Nat.add_zero]at h1
 unfold gi
 rw [List.getD_eq_getElem?_getD,List.getD_eq_getElem?_getD,h1]
theorem QdI.pop {Q qd:List Int}{i o:Nat}(h:QdI Q i qd o)(hi:i<Q.length):QdI Q (i+1) qd (o+1):=by
 have hl:=h.len
 refine⟨?_,by have :=h.lo;omega,by omega,by omega⟩
 have h1:=congrArg (List.drop 1) h.drop
 rwa [List.drop_drop,List.drop_drop]at h1
theorem QdI.push {Q qd ps:List Int}{i o:Nat}(h:QdI Q i qd o)(v:Int)(hp:ps= []∨ps=qd.take o):QdI (Q++ [v]) i (ps++(qd.drop o++ [v])) ps.length:=by
 have hle:ps.length≤o:=by
  rcases hp with rfl|rfl
  ·simp
  ·rw [List.length_take];omega
 refine⟨?_,by have :=h.lo;omega,by rw [List.length_append];have :=h.li;omega,by rw [List.length_append];omega⟩
 rw [List.drop_append_of_le_length (Nat.le_refl _),List.drop_length,List.nil_append,h.drop,List.drop_append_of_le_length h.li]
open Nat renaming reduceMod → zA, reduceMul → zB, reduceDiv → zC, reduceAdd → zD, reduceSub → zE, reduceEqDiff → zF, reduceBEq → zG, reduceLT → zH, reduceLeDiff → zI
def mkS (n:Nat)(xs:List Int)(k:Nat):List Bool:=(List.range n).map fun(v:Nat)=>yI (xs.take k) (v:Int)
theorem vd (n:Nat)(xs:List Int)(k:Nat):(mkS n xs k).length=n:=by simp [mkS]
theorem UM {n:Nat}{xs:List Int}{k v:Nat}(h:v<n):gb (mkS n xs k) v=yI (xs.take k) (v:Int):=UL h
theorem mkS_0 (n:Nat)(xs:List Int):mkS n xs 0=List.replicate n false:=by
 refine List.ext_getElem (by simp [mkS]) fun j h1 h2=> ?_
 simp [mkS,yI,vH]
theorem zLo {n:Nat}{xs:List Int}{k:Nat}(hk:k<xs.length)(h:0≤gi xs k∧gi xs k<n):(mkS n xs k).set (gi xs k).toNat true=mkS n xs (k+1):=by
 refine wa (by rw [List.length_set,vd,vd]) fun v hv=> ?_
 rw [List.length_set,vd]at hv
 rw [YE (by rw [vd];omega),UM (k:=k+1) hv,YF hk]
 split
 ·rename_i e
  rw [decide_eq_true (by omega),Bool.or_true]
 ·rename_i e
  rw [UM hv,decide_eq_false (by omega),Bool.or_false]
theorem zJ2 {P:List (List Int)}{u m:Nat}{r:List Int}(hu:u<P.length)(hm:r.length≤m):List.take u ((dII P).set u D.hole)++ [D.lst 2 (dI (List.take m r))]++List.drop (u+1) ((dII P).set u D.hole)=dII (P.set u r):=by
 have e:dII (P.set u r)=(dII P).set u (D.lst 2 (dI r)):=by unfold dII;rw [List.map_set]
 have hl:u<(dII P).length:=by rw [qP];exact hu
 rw [e,List.take_of_length_le hm,List.take_set,List.set_eq_of_length_le (by simp;omega),List.drop_set_of_lt (by omega),List.set_eq_take_append_cons_drop,if_pos hl]
 simp
def Zw (k:Nat):List Int:=(List.range k).map fun(v:Nat)=>(v:Int)
theorem Qm (k:Nat):(Zw k).length=k:=by simp [Zw]
theorem zNP (k:Nat):Zw (k+1)=Zw k++ [(k:Int)]:=by unfold Zw;rw [List.range_succ,List.map_append];rfl
set_option maxRecDepth 20000 in
set_option maxHeartbeats 4000000 in
theorem XY (l:List Bool)(hl:l.length≤1048576):Fn Tryz.prog tyT 84 [.c (.lst 4 (dB l))] [.c (DI (yT l l.length))]:=by
 refine θH (ts:= [2]) Tryz.func84 Tryz.ntmps84 ?_
 push_cast
 refine θA ?_
 refine θA ?_
 refine zL fun K1 hK1=> ?_
 refine θA ?_
 refine zV ?_
 refine zg [3,4,5,9,10,11,12,13,14,15,16,17,18,19] [48] (fun(k:Nat)=> [(9, .int .i64 k),(3, .sl 48 [] 0 (yT l k).length 2)]) (fun k=> []) (fun k=> [(48,⟨.ex,2,dI (yT l k),none⟩)]) (fun k=>k≤l.length) (fun k=>l.length - k) 0 ?_ (by omega) ?_
 ·
  rw [show yT l 0= []from rfl,show dI ([]:List Int)= []from rfl]
  exact θX
 ·rintro k hk KL0 hL0
  have hil:=xp l k
  push_cast
  refine θA ?_
  refine zL fun K2 hK2=> ?_
  refine θU (fun hc=> ?_) fun hc=> ?_
  ·
   refine zU (hK2 _ ?_)
   refine zL fun K3 hK3=> ?_
   refine zV ?_
   refine θA ?_
   refine θA ?_
   all_goals refine zT rfl (fun hc=> ?_) (fun hc=> ?_)
   all_goals(first|(cases hc;done)|skip)
   all_goals(try simp only [push_cast]at hc)
   all_goals first
    |(
      refine zU (hK3 _ ?_)
      refine θB ?_
      refine hL0 _ ⟨k+1,by omega,by omega,?_⟩
      rw [QK (by with_reducible assumption)]
      exact θX
      done)
    |(
      refine θB ?_
      refine hK3 _ ?_
      refine θB ?_
      refine hL0 _ ⟨k+1,by omega,by omega,?_⟩
      (try rw [List.take_of_length_le (l:=yT l k) (by omega)])
      rw [Ql (by with_reducible assumption)]
      simp only [List.length_append,List.length_cons,List.length_nil,Nat.zero_add]
      exact θX
      done)
  ·
   refine zh ?_
   have hkk:k=l.length:=by omega
   subst hkk
   refine hK1 _ ?_
   refine θA ?_
   refine zZ ⟨Or.inl rfl,?_⟩
   push_cast [zd]
   all_goals first|rfl|exact⟨rfl,rfl⟩|(simp;done)
set_option maxRecDepth 20000 in
set_option maxHeartbeats 4000000 in
theorem zHt (a:Ar)(ha:a.Ln 1048576)(xs:List Int)(hx:xs.length≤1048576)(hr: ∀j,j<xs.length→0≤gi xs j∧gi xs j<a.owner.length):Fn Tryz.prog tyT 82 [.agg (dAr a), .c (DI xs)] [.c (.lst 4 (dB (mkS a.owner.length xs xs.length)))]:=by
 have h0:=ha.owner
 unfold LnI at h0
 unfold dAr
 refine θH (ts:= [4]) Tryz.func82 Tryz.ntmps82 ?_
 push_cast
 refine θA ?_
 refine θA ?_
 refine zL fun K1 hK1=> ?_
 refine θA ?_
 refine zV ?_
 refine zg [7,14,15,16,17,18,19,20,21] [80] (fun(k:Nat)=> [(14, .int .i64 k),(5, .sl 80 [] 0 a.owner.length 4)]) (fun k=> []) (fun k=> [(80,⟨.ex,4,dB (mkS a.owner.length xs k),none⟩)]) (fun k=>k≤xs.length) (fun k=>xs.length - k) 0 ?_ (by omega) ?_
 ·
  rw [mkS_0]
  exact θX
 ·rintro k hk KL0 hL0
  have hml:=vd a.owner.length xs k
  push_cast
  refine θA ?_
  refine zL fun K2 hK2=> ?_
  refine θU (fun hc=> ?_) fun hc=> ?_
  ·
   refine zU (hK2 _ ?_)
   refine zL fun K3 hK3=> ?_
   refine zV ?_
   have hrk:=hr k (by omega)
   have hst:=zLo (n:=a.owner.length) (xs:=xs) (k:=k) (by omega) hrk
   refine θA ?_
   refine θB ?_
   refine hK3 _ ?_
   refine θB ?_
   refine hL0 _ ⟨k+1,by omega,by omega,?_⟩
   (try rw [hst])
   exact θX
   all_goals first|rfl|(rw [hst];done)|skip
  ·
   refine zh ?_
   have hkk:k=xs.length:=by omega
   subst hkk
   refine hK1 _ ?_
   refine θA ?_
   refine zZ ⟨Or.inl rfl,?_⟩
   push_cast [zd]
   all_goals first|rfl|exact⟨rfl,(vd _ _ _).symm⟩|(simp [vd];done)
set_option maxRecDepth 20000 in
set_option maxHeartbeats 4000000 in
theorem ZY (a b:List Bool)(ha:a.length≤1048576)(hb:b.length=a.length):Fn Tryz.prog tyT 85 [.c (.lst 4 (dB a)), .c (.lst 4 (dB b))] [.c (.lst 4 (dB (yY a b)))]:=by
 refine θH (ts:= [4]) Tryz.func85 Tryz.ntmps85 ?_
 push_cast
 refine θA ?_
 refine θA ?_
 refine zL fun K1 hK1=> ?_
 refine θA ?_
 refine zV ?_
 refine zg [6,12,13,14,15,16,17,18,19,20,21,22,23,24,25,26,27,28,29] [80] (fun(k:Nat)=> [(12, .int .i64 k),(5, .sl 80 [] 0 a.length 4)]) (fun k=> []) (fun k=> [(80,⟨.ex,4,dB (mkB a.length (vi a b) k),none⟩)]) (fun k=>k≤a.length) (fun k=>a.length - k) 0 ?_ (by omega) ?_
 ·
  rw [QA]
  exact θX
 ·rintro k hk KL0 hL0
  have hml:=wb (f:=vi a b) hk
  push_cast
  refine θA ?_
  refine zL fun K2 hK2=> ?_
  refine θU (fun hc=> ?_) fun hc=> ?_
  ·
   refine zU (hK2 _ ?_)
   refine zL fun K3 hK3=> ?_
   refine zV ?_
   refine θA ?_
   refine zf false zO zN ?_ rfl ?_
   ·kernel_rfl
   all_goals push_cast
   all_goals repeat'(first|(apply zP<;>(intro hg;push_cast at hg))|apply And.intro|(intro hg;push_cast at hg))
   all_goals try exact gA
   all_goals(
     refine hK3 _ ?_
     refine θB ?_
     refine hL0 _ ⟨k+1,by omega,by omega,?_⟩
     first|rw [show(mkB a.length (vi a b) k).set k (!gb b k)=mkB a.length (vi a b) (k+1)from by rw [←qc (by omega)];unfold vi;rw [show gb a k=true from by with_reducible assumption];rfl]|rw [show(mkB a.length (vi a b) k).set k false=mkB a.length (vi a b) (k+1)from by rw [←qc (by omega)];unfold vi;rw [show gb a k=false from by with_reducible assumption];rfl]
     refine zY rfl ?_ ?_ ?_<;>push_cast [zb,za])
  ·
   refine zh ?_
   have hkk:k=a.length:=by omega
   subst hkk
   refine hK1 _ ?_
   refine θA ?_
   refine zZ ⟨Or.inl rfl,?_⟩
   push_cast [zd]
   try rw [zBx]
   unfold yY
   all_goals first|rfl|exact⟨rfl,by simp⟩|exact⟨by simp,rfl⟩|(simp;done)
set_option maxRecDepth 20000 in
set_option maxHeartbeats 4000000 in
theorem zIY (n:Nat)(hn:n≤256):Fn Tryz.prog tyT 86 [.c (.int .i64 n)] [.c (DI (Zw n))]:=by
 refine θH (ts:= [2]) Tryz.func86 Tryz.ntmps86 ?_
 push_cast
 refine θA ?_
 refine zL fun K1 hK1=> ?_
 refine zL fun K hK=> ?_
 refine zf false zO zN ?_ rfl ?_
 ·kernel_rfl
 all_goals push_cast
 all_goals repeat'(first|(apply zP<;>(intro hg;push_cast at hg))|apply And.intro|(intro hg;push_cast at hg))
 all_goals try exact gA
 refine hK _ ?_;clear hK K
 all_goals(
   refine zT rfl (fun hc=> ?_) (fun hc=> ?_)
   skip
   ·exfalso;first|(cases hc;done)|(simp only [push_cast]at hc;done)|(simp only [push_cast]at hc;omega)|omega
   refine zU (hK1 _ ?_)
   refine θA ?_
   refine zL fun K2 hK2=> ?_
   refine θA ?_
   refine zV ?_
   refine zg [3,4,7,12,13,14,15,16,17,18,19,20] [48] (fun(k:Nat)=> [(4, .int .i64 k),(3, .sl 48 [] 0 k 2)]) (fun k=> []) (fun k=> [(48,⟨.ex,2,dI (Zw k),none⟩)]) (fun k=>k≤n) (fun k=>n - k) 0 ?_ (by omega) ?_
   ·
    rw [show dI (Zw 0)= []from rfl]
    exact θX
   ·rintro k hk KL0 hL0
    have hfl:=Qm k
    push_cast
    refine zL fun K3 hK3=> ?_
    refine θA ?_
    refine θU (fun hc=> ?_) fun hc=> ?_
    ·
     refine zU (hK3 _ ?_)
     refine zL fun K4 hK4=> ?_
     refine zV ?_
     refine θB ?_
     refine hK4 _ ?_
     refine θB ?_
     refine hL0 _ ⟨k+1,by omega,by omega,?_⟩
     (try rw [List.take_of_length_le (l:=Zw k) (by omega)])
     rw [zNP]
     exact θX
    ·
     refine zh ?_
     have hkk:k=n:=by omega
     subst hkk
     refine hK2 _ ?_
     refine θA ?_
     refine zZ ⟨Or.inl rfl,?_⟩
     push_cast [zd]
     all_goals first|rfl|exact⟨rfl,by simp [Qm]⟩|(simp [Qm];done))
set_option maxRecDepth 20000 in
set_option maxHeartbeats 4000000 in
theorem zIm (a:Ar)(hn:a.owner.length≤256):Fn Tryz.prog tyT 60 [.agg (dAr a)] [.c (DI (Zw a.owner.length))]:=by
 have hS:=zAc a
 have hA:=zIY a.owner.length hn
 unfold dAr at hS⊢
 refine θH (ts:= [2]) Tryz.func60 Tryz.ntmps60 ?_
 push_cast
 refine θA ?_
 refine θL fun K hK=> ?_
 refine θD 2 ?_
 refine θD 1 ?_
 refine θE hK ?_
 refine zZ ⟨Or.inl rfl,?_⟩
 push_cast [zd]
set_option maxRecDepth 20000 in
set_option maxHeartbeats 4000000 in
theorem zGc (a:Ar)(hao:yi a=true):Fn Tryz.prog tyT 81 [.agg (dAr a)] [.c (DII (xq a a.owner.length a.owner.length 0))]:=by
 have hal:=yQ hao
 have hrow:=fun v hv=>(yl hao (v:=v) hv).2.2
 have hset:=fun v j hv hj=>qf (yl hao (v:=v) hv).2.2.2.2 (j:=j) hj
 obtain⟨n,hn⟩: ∃n,a.owner.length=n:=⟨_,rfl⟩
 rw [hn]at hal hrow hset
 rw [hn]
 unfold dAr
 (try rw [hn])
 (try rw [hal.2.2])
 refine θH (ts:= [2]) Tryz.func81 Tryz.ntmps81 ?_
 push_cast
 refine θA ?_
 refine θA ?_
 refine zL fun K1 hK1=> ?_
 refine θA ?_
 refine zV ?_
 refine zg [4,5,7,15,16,17,18,19,20,21,22,23,24,25,26,27,28,29,30,31,32,33,34,35,36,37] [48] (fun(v:Nat)=> [(15, .int .i64 v),(3, .sl 48 [] 0 a.owner.length 22)]) (fun v=> []) (fun v=> [(48,⟨.ex,22,dII (xq a n v 0),none⟩)]) (fun v=>v≤n) (fun v=>n - v) 0 ?_ (by omega) ?_
 ·
  rw [zBV]
  refine zY rfl ?_ ?_ ?_<;>push_cast [zb,za]
  all_goals first|(simp [dII,dI];done)|(simp [dII,dI];exact hn)|exact hn
 ·rintro v hv KL0 hL0
  have hpv:=vT a n v 0
  push_cast
  refine θA ?_
  refine zL fun K2 hK2=> ?_
  refine θU (fun hc=> ?_) fun hc=> ?_
  ·
   refine zU (hK2 _ ?_)
   refine zL fun K3 hK3=> ?_
   refine zV ?_
   refine θA ?_
   refine θA ?_
   refine zV ?_
   refine zg [7,22,23,24,25,26,27,28,29,30,31,32,33,34,35,36] [48] (fun(i:Nat)=> [(22, .int .i64 i),(3, .sl 48 [] 0 a.owner.length 22)]) (fun i=> []) (fun i=> [(48,⟨.ex,22,dII (xq a n v i),none⟩)]) (fun i=>i≤(gl a.next v).length) (fun i=>(gl a.next v).length - i) 0 ?_ (by omega) ?_
   ·
    exact θX
   ·rintro i hi KL1 hL1
    have hpv:=vT a n v i
    push_cast
    refine θA ?_
    refine zL fun K4 hK4=> ?_
    refine θU (fun hc=> ?_) fun hc=> ?_
    ·
     refine zU (hK4 _ ?_)
     refine zL fun K5 hK5=> ?_
     refine zV ?_
     refine θA ?_
     have hrv:=(hrow v (by omega)).2.1
     have hst:=hset v i (by omega) (by omega)
     have hps:=zBU hao (n:=n) (v:=v) (i:=i) (by omega) (by omega) (by omega)
     have hpe:(gl (xq a n v i) (gi (gl a.next v) i).toNat).length≤v+1:=by rw [jg (by omega)];exact zDg _ _ _ _
     refine zf true zO zN ?_ rfl ?_
     ·kernel_rfl
     push_cast
     all_goals repeat'(first|(apply zP<;>(intro hg;push_cast at hg))|apply And.intro|(intro hg;push_cast at hg))
     all_goals first|exact gA|(rw [List.length_set,qP];omega)|(exact zQ (by omega))|skip
     refine hK5 _ ?_
     refine θB ?_
     refine hL1 _ ⟨i+1,by omega,by omega,?_⟩
     refine zY rfl ?_ ?_ ?_<;>push_cast [zb,za]
     all_goals(rw [zJ2 (by omega) (by rw [List.length_append];exact Nat.le_refl _),hps])
    ·
     refine zh ?_
     have hii:i=(gl a.next v).length:=by omega
     subst hii
     rw [zBT]
     refine hK3 _ ?_
     refine θB ?_
     refine hL0 _ ⟨v+1,by omega,by omega,?_⟩
     exact θX
  ·
   refine zh ?_
   have hvv:v=n:=by omega
   subst hvv
   refine hK1 _ ?_
   refine θA ?_
   refine zZ ⟨Or.inl rfl,?_⟩
   push_cast [zd]
   all_goals first|rfl|exact hn|exact hn.symm|(simp [vT];exact hn)|exact⟨rfl,by simp only [vT];omega⟩|(simp [vT];done)
end Go.Proofs.YtcleaokoimhedaaGreat
