/- The attractor, as the reference reckons it: plain. -/
import Derived.Test.YthepmdkpbjfdcaaGreatB12zff
import Derived.Test.YthepmdkpbjfdcaaGreatB5zff
namespace Go.Proofs.YthepmdkpbjfdcaaGreat
open Go.RowKit
set_option linter.unusedVariables false
set_option linter.unusedSimpArgs false
def pgL (x:L7):PG:=⟨fun v=>if v<x.owner.length then gi x.owner v else 0,fun v=>(gi x.prio v).toNat,fun v u=>v<x.owner.length∧∃j,j<(gl x.next v).length∧(gi (gl x.next v) j).toNat=u∧edB x v (gi (gl x.next v) j)=true⟩
def inD (n:Nat)(inn:List Bool)(v:Nat):Prop:=v<n∧gb inn v=true
section
variable {x:L7} {n:Nat}
theorem WS (hx:x.Ok n){v:Nat}(hv:v<n):(pgL x).own v=gi x.owner v:=if_pos (by rw [hx.ho];exact hv)
theorem JS (hx:x.Ok n)(v:Nat):(pgL x).own v=0∨(pgL x).own v=1:=by
 by_cases h:v<n
 ·rw [WS hx h];exact hx.ow v h
 ·exact .inl (if_neg (by rw [hx.ho];exact h))
theorem pgL_E (hx:x.Ok n){v:Nat}(hv:v<n){u:Int}(hu:0≤u):(pgL x).E v u.toNat↔(∃j,j<(gl x.next v).length∧gi (gl x.next v) j=u)∧edB x v u=true:=by
 constructor
 ·rintro⟨-,j,hj,e,h⟩
  have :=(hx.to v hv j hj).1
  have e2:gi (gl x.next v) j=u:=by omega
  rw [e2]at h
  exact⟨⟨j,hj,e2⟩,h⟩
 ·rintro⟨⟨j,hj,e⟩,h⟩
  exact⟨by rw [hx.ho];exact hv,j,hj,by rw [e],by rw [e];exact h⟩
theorem jc (hx:x.Ok n)(v u:Nat)(h:(pgL x).E v u):u<n:=by
 obtain⟨h1,j,hj,e,-⟩:=h
 have :=hx.to v (by rw [←hx.ho];exact h1) j hj
 omega
def qk (x:L7)(inn:List Bool)(v:Nat)(p:Int→Bool):Nat→Int
 |0=>0
 |k+1=>if gb inn (gi (gl x.next v) k).toNat&&edB x v (gi (gl x.next v) k)&& !p (gi (gl x.next v) k)then qk x inn v p k+1 else qk x inn v p k
theorem KI (x:L7)(inn:List Bool)(v:Nat){p:Int→Bool}: ∀k,(∀j,j<k→p (gi (gl x.next v) j)=false)→qk x inn v p k=vw x inn v k
 |0,_=>rfl
 |k+1,h=>by
  unfold qk vw
  rw [KI x inn v k fun j hj=>h j (by omega),h k (by omega),Bool.not_false,Bool.and_true]
theorem Zy (x:L7)(inn:List Bool)(v:Nat){p q:Int→Bool}: ∀k,(∀j,j<k→gb inn (gi (gl x.next v) j).toNat=true→edB x v (gi (gl x.next v) j)=true→p (gi (gl x.next v) j)=q (gi (gl x.next v) j))→qk x inn v p k=qk x inn v q k
 |0,_=>rfl
 |k+1,h=>by
  unfold qk
  rw [Zy x inn v k fun j hj=>h j (by omega)]
  by_cases h1:gb inn (gi (gl x.next v) k).toNat=true
  ·by_cases h2:edB x v (gi (gl x.next v) k)=true
   ·rw [h k (by omega) h1 h2]
   ·have h3:edB x v (gi (gl x.next v) k)=false:=by simpa using h2
    rw [h3,Bool.and_false,Bool.false_and,Bool.false_and]
  ·have h3:gb inn (gi (gl x.next v) k).toNat=false:=by simpa using h1
   rw [h3,Bool.false_and,Bool.false_and,Bool.false_and]
theorem zC6 (x:L7)(inn:List Bool)(v:Nat){p q:Int→Bool}{u:Int}(hp:p u=false)(hq:q u=true)(hu:gb inn u.toNat=true)(he:edB x v u=true): ∀k,(∀j,j<k→gi (gl x.next v) j≠u→p (gi (gl x.next v) j)=q (gi (gl x.next v) j))→
  (∀i j,i<j→j<k→gi (gl x.next v) i≠gi (gl x.next v) j)→(∃j,j<k∧gi (gl x.next v) j=u)→qk x inn v q k=qk x inn v p k - 1
 |0,_,_,h=>by obtain⟨j,hj,-⟩:=h;omega
 |k+1,h,hd,hex=>by
  obtain⟨j,hj,e⟩:=hex
  by_cases hk:gi (gl x.next v) k=u
  ·have h1:qk x inn v q k=qk x inn v p k:=(Zy x inn v k fun j' hj' _ _=>h j' (by omega) (fun e'=>hd j' k hj' (by omega) (e'.trans hk.symm))).symm
   unfold qk
   rw [hk,hp,hq,hu,he,h1]
   simp
  ·have hjk:j≠k:=fun e2=>hk (by rw [←e2];exact e)
   have ih:=zC6 x inn v hp hq hu he k (fun j' hj'=>h j' (by omega)) (fun a b h1 h2=>hd a b h1 (by omega)) ⟨j,by omega,e⟩
   unfold qk
   rw [h k (by omega) hk,ih]
   split<;>omega
theorem jJ (x:L7)(inn:List Bool)(v:Nat)(p:Int→Bool): ∀k,0≤qk x inn v p k∧qk x inn v p k≤k
 |0=>⟨Int.le_refl _,Int.le_refl _⟩
 |k+1=>by
  have :=jJ x inn v p k
  unfold qk
  split<;>omega
theorem zBC (x:L7)(inn:List Bool)(v:Nat)(p:Int→Bool): ∀k,qk x inn v p k=0→∀j,j<k→gb inn (gi (gl x.next v) j).toNat=true→edB x v (gi (gl x.next v) j)=true→p (gi (gl x.next v) j)=true
 |0,_,j,hj,_,_=>by omega
 |k+1,h,j,hj,h1,h2=>by
  have hn:=jJ x inn v p k
  unfold qk at h
  split at h
  ·omega
  ·rename_i hc
   by_cases e:j=k
   ·rw [e]at h1 h2⊢
    rw [h1,h2]at hc
    simpa using hc
   ·exact zBC x inn v p k h j (by omega) h1 h2
structure AtI (x:L7)(n:Nat)(inn:List Bool)(who:Int)(goal out:List Bool)(left queue:List Int)(P:Nat→Int→Bool):Prop where
 lo:out.length=n
 ll:left.length=n
 qrg: ∀i,i<queue.length→0≤gi queue i∧gi queue i<n
 qnd: ∀i j,i<j→j<queue.length→gi queue i≠gi queue j
 qout: ∀v,v<n→(gb out v=true↔∃i,i<queue.length∧gi queue i=v)
 sound: ∀v,v<n→gb out v=true→Att (pgL x) who (inD n inn) (fun v=>gb goal v=true) v
 base: ∀v,v<n→gb inn v=true→gb goal v=true→gb out v=true
 own: ∀v,v<n→gb inn v=true→gb out v=false→gi x.owner v=who→∀j,j<(gl x.next v).length→edB x v (gi (gl x.next v) j)=true→gb inn (gi (gl x.next v) j).toNat=true→P v (gi (gl x.next v) j)=false
 opp: ∀v,v<n→gb inn v=true→gb out v=false→¬gi x.owner v=who→(∃j,j<(gl x.next v).length∧edB x v (gi (gl x.next v) j)=true∧gb inn (gi (gl x.next v) j).toNat=true∧P v (gi (gl x.next v) j)=true)→gi left v≠0
 cnt: ∀v,v<n→gb inn v=true→gb out v=false→gi left v=qk x inn v (P v) (gl x.next v).length
 psub: ∀v,v<n→∀j,j<(gl x.next v).length→P v (gi (gl x.next v) j)=true→gb out (gi (gl x.next v) j).toNat=true
variable {inn goal out:List Bool} {who:Int} {left queue:List Int} {P Q:Nat→Int→Bool}
theorem AtI.cong (h:AtI x n inn who goal out left queue P)(hPQ: ∀v,v<n→∀j,j<(gl x.next v).length→P v (gi (gl x.next v) j)=Q v (gi (gl x.next v) j)):AtI x n inn who goal out left queue Q:=
 ⟨h.lo,h.ll,h.qrg,h.qnd,h.qout,h.sound,h.base,fun v hv h1 h2 h3 j hj h4 h5=>by rw [←hPQ v hv j hj];exact h.own v hv h1 h2 h3 j hj h4 h5,
  fun v hv h1 h2 h3 ⟨j,hj,h4,h5,h6⟩=>h.opp v hv h1 h2 h3 ⟨j,hj,h4,h5,by rw [hPQ v hv j hj];exact h6⟩,
  fun v hv h1 h2=>by rw [h.cnt v hv h1 h2];exact Zy x inn v _ fun j hj _ _=>hPQ v hv j hj,
  fun v hv j hj h1=>h.psub v hv j hj (by rw [hPQ v hv j hj];exact h1)⟩
theorem AtI.skip (h:AtI x n inn who goal out left queue P){v0:Nat}(hv0:v0<n){u0:Int}(hu0:gb out u0.toNat=true)(hs:gb inn v0=false∨gb out v0=true∨edB x v0 u0=false)
  (hQ: ∀v u,Q v u=(P v u||(decide (v=v0)&&decide (u=u0)))):AtI x n inn who goal out left queue Q:=by
 have key: ∀v,v<n→gb inn v=true→gb out v=false→∀j,j<(gl x.next v).length→edB x v (gi (gl x.next v) j)=true→Q v (gi (gl x.next v) j)=P v (gi (gl x.next v) j):=fun v hv h1 h2 j hj h3=>by
  rw [hQ]
  by_cases e:v=v0∧gi (gl x.next v) j=u0
  ·exfalso
   obtain⟨rfl,e2⟩:=e
   rw [e2]at h3
   rcases hs with h|h|h
   ·rw [h]at h1;cases h1
   ·rw [h]at h2;cases h2
   ·rw [h]at h3;cases h3
  ·have :(decide (v=v0)&&decide (gi (gl x.next v) j=u0))=false:=by
    rw [Bool.and_eq_false_iff,decide_eq_false_iff_not,decide_eq_false_iff_not]
    omega
   rw [this,Bool.or_false]
 refine⟨h.lo,h.ll,h.qrg,h.qnd,h.qout,h.sound,h.base,fun v hv h1 h2 h3 j hj h4 h5=>by rw [key v hv h1 h2 j hj h4];exact h.own v hv h1 h2 h3 j hj h4 h5,
  fun v hv h1 h2 h3 ⟨j,hj,h4,h5,h6⟩=>h.opp v hv h1 h2 h3 ⟨j,hj,h4,h5,by rw [←key v hv h1 h2 j hj h4];exact h6⟩,
  fun v hv h1 h2=>by rw [h.cnt v hv h1 h2];exact Zy x inn v _ fun j hj _ h4=>(key v hv h1 h2 j hj h4).symm,
  fun v hv j hj h1=> ?_⟩
 rw [hQ,Bool.or_eq_true,Bool.and_eq_true,decide_eq_true_eq,decide_eq_true_eq]at h1
 rcases h1 with h1|⟨-,h1⟩
 ·exact h.psub v hv j hj h1
 ·rw [h1];exact hu0
theorem qp {c:List Int}{v u:Nat}{y:Int}(hv:v<c.length):gi (c.set v y) u=if u=v then y else gi c u:=by
 unfold gi
 rw [List.getD_eq_getElem?_getD,List.getElem?_set]
 split
 ·rename_i h;subst h;simp [hv]
 ·rename_i h;rw [if_neg (by omega),List.getD_eq_getElem?_getD]
theorem Zz {c:List Bool}{v u:Nat}{y:Bool}(hv:v<c.length):gb (c.set v y) u=if u=v then y else gb c u:=by
 unfold gb
 rw [List.getD_eq_getElem?_getD,List.getElem?_set]
 split
 ·rename_i h;subst h;simp [hv]
 ·rename_i h;rw [if_neg (by omega),List.getD_eq_getElem?_getD]
theorem AtI.step (hx:x.Ok n)(h:AtI x n inn who goal out left queue P){v0:Nat}(hv0:v0<n){u0:Int}(hu:0≤u0∧u0<n)(hu0:gb out u0.toNat=true)(hui:gb inn u0.toNat=true)(h1:gb inn v0=true)(h2:gb out v0=false)(h3:edB x v0 u0=true)
  (hj: ∃j,j<(gl x.next v0).length∧gi (gl x.next v0) j=u0) (hP:P v0 u0=false) (hQ: ∀v u,Q v u=(P v u||(decide (v=v0)&&decide (u=u0)))):
  (¬(gi x.owner v0=who∨gi left v0 - 1=0)→AtI x n inn who goal out (left.set v0 (gi left v0 - 1)) queue Q)∧
  ((gi x.owner v0=who∨gi left v0 - 1=0)→AtI x n inn who goal (out.set v0 true) (left.set v0 (gi left v0 - 1)) (queue++ [(v0:Int)]) Q):=by
 have hother: ∀v,v≠v0→∀u,Q v u=P v u:=fun v hv u=>by rw [hQ,decide_eq_false hv,Bool.false_and,Bool.or_false]
 have hQ1:Q v0 u0=true:=by rw [hQ];simp
 have hQ2: ∀u,u≠u0→Q v0 u=P v0 u:=fun u hu=>by rw [hQ,decide_eq_false hu,Bool.and_false,Bool.or_false]
 have hcount:qk x inn v0 (Q v0) (gl x.next v0).length=gi left v0 - 1:=by
  rw [h.cnt v0 hv0 h1 h2]
  exact zC6 x inn v0 hP hQ1 hui h3 _ (fun j hj hne=>(hQ2 _ hne).symm) (fun i j a b=>hx.nd v0 hv0 i j a b) hj
 have hps: ∀v,v<n→∀j,j<(gl x.next v).length→Q v (gi (gl x.next v) j)=true→gb out (gi (gl x.next v) j).toNat=true:=fun v hv j hj h5=>by
  rw [hQ,Bool.or_eq_true,Bool.and_eq_true,decide_eq_true_eq,decide_eq_true_eq]at h5
  rcases h5 with h5|⟨-,h5⟩
  ·exact h.psub v hv j hj h5
  ·rw [h5];exact hu0
 have hll:v0<left.length:=by rw [h.ll];exact hv0
 have hlo:v0<out.length:=by rw [h.lo];exact hv0
 constructor
 ·intro hno
  refine⟨h.lo,by rw [List.length_set];exact h.ll,h.qrg,h.qnd,h.qout,h.sound,h.base,fun v hv a b c j hj' d e=> ?_,fun v hv a b c hex=> ?_,fun v hv a b=> ?_,hps⟩
  ·by_cases ev:v=v0
   ·exfalso;rw [ev]at c;exact hno (.inl c)
   ·rw [hother v ev];exact h.own v hv a b c j hj' d e
  ·rw [qp hll]
   split
   ·exact fun e=>hno (.inr e)
   ·rename_i ev
    obtain⟨j,hj',d,e,f⟩:=hex
    exact h.opp v hv a b c ⟨j,hj',d,e,by rw [←hother v ev];exact f⟩
  ·rw [qp hll]
   split
   ·rename_i ev;rw [ev];exact hcount.symm
   ·rename_i ev
    rw [h.cnt v hv a b]
    exact Zy x inn v _ fun j _ _ _=>(hother v ev _).symm
 ·intro hyes
  have hnew: ∀i,i<queue.length→gi queue i≠(v0:Int):=fun i hi e=>by
   have :=(h.qout v0 hv0).2 ⟨i,hi,e⟩
   rw [this]at h2;cases h2
  have hql:(queue++ [(v0:Int)]).length=queue.length+1:=by simp
  have hqs: ∀j,j<queue.length+1→gi (queue++ [(v0:Int)]) j=if j=queue.length then(v0:Int)else gi queue j:=fun j hj=>by
   split
   ·rename_i e;rw [e];unfold gi;rw [List.getD_eq_getElem?_getD,List.getElem?_append_right (Nat.le_refl _)];simp
   ·unfold gi;rw [List.getD_eq_getElem?_getD,List.getElem?_append_left (by omega),List.getD_eq_getElem?_getD]
  have hup: ∀v,gb out v=true→gb (out.set v0 true) v=true:=fun v hv=>by
   rw [Zz hlo]
   split
   ·rfl
   ·exact hv
  have hdown: ∀v,gb (out.set v0 true) v=false→v≠v0∧gb out v=false:=fun v hv=>by
   rw [Zz hlo]at hv
   split at hv
   ·cases hv
   ·rename_i e;exact⟨e,hv⟩
  refine⟨by rw [List.length_set];exact h.lo,by rw [List.length_set];exact h.ll,fun i hi=> ?_,fun i j hij hj'=> ?_,fun v hv=> ?_,fun v hv hb=> ?_,fun v hv a b=>hup v (h.base v hv a b),fun v hv a b c j hj' d e=> ?_,fun v hv a b c hex=> ?_,fun v hv a b=> ?_,fun v hv j hj' h5=>hup _ (hps v hv j hj' h5)⟩
  ·rw [hql]at hi
   rw [hqs i hi]
   split
   ·omega
   ·exact h.qrg i (by omega)
  ·rw [hql]at hj'
   rw [hqs i (by omega),hqs j hj',if_neg (by omega)]
   split
   ·exact hnew i (by omega)
   ·exact h.qnd i j hij (by omega)
  ·rw [Zz hlo,hql]
   constructor
   ·intro hb
    split at hb
    ·rename_i e;exact⟨queue.length,by omega,by rw [hqs _ (by omega),if_pos rfl,e]⟩
    ·obtain⟨i,hi,e⟩:=(h.qout v hv).1 hb
     exact⟨i,by omega,by rw [hqs i (by omega),if_neg (by omega)];exact e⟩
   ·rintro⟨i,hi,e⟩
    rw [hqs i hi]at e
    split at e
    ·rw [if_pos (by omega)]
    ·split
     ·rfl
     ·exact(h.qout v hv).2 ⟨i,by omega,e⟩
  ·rw [Zz hlo]at hb
   split at hb
   ·rename_i e
    subst e
    have hE:(pgL x).E v u0.toNat:=(pgL_E hx hv hu.1).2 ⟨hj,h3⟩
    have hAu:=h.sound u0.toNat (by omega) hu0
    by_cases ho:gi x.owner v=who
    ·exact Att.own ⟨hv,h1⟩ (by rw [WS hx hv];exact ho) hE hAu
    ·have hz:qk x inn v (Q v) (gl x.next v).length=0:=by rw [hcount];exact hyes.resolve_left ho
     refine Att.opp (fun a b=>jc hx a b) ⟨hv,h1⟩ (by rw [WS hx hv];exact ho) ⟨_,hE,by omega,hui⟩ fun u he hd=> ?_
     obtain⟨-,j,hj',e1,e2⟩:=he
     have hq:=zBC x inn v (Q v) _ hz j hj' (by rw [e1];exact hd.2) e2
     have :=hps v hv j hj' hq
     rw [e1]at this
     exact h.sound u hd.1 this
   ·exact h.sound v hv hb
  ·obtain⟨b1,b2⟩:=hdown v b
   rw [hother v b1];exact h.own v hv a b2 c j hj' d e
  ·obtain⟨b1,b2⟩:=hdown v b
   rw [qp hll,if_neg b1]
   obtain⟨j,hj',d,e,f⟩:=hex
   exact h.opp v hv a b2 c ⟨j,hj',d,e,by rw [←hother v b1];exact f⟩
  ·obtain⟨b1,b2⟩:=hdown v b
   rw [qp hll,if_neg b1,h.cnt v hv a b2]
   exact Zy x inn v _ fun j _ _ _=>(hother v b1 _).symm
theorem AtI.done (hx:x.Ok n)(h:AtI x n inn who goal out left queue P)(hP: ∀v,v<n→∀j,j<(gl x.next v).length→gb out (gi (gl x.next v) j).toNat=true→P v (gi (gl x.next v) j)=true){v:Nat}(hv:v<n):gb out v=true↔Att (pgL x) who (inD n inn) (fun v=>gb goal v=true) v:=by
 refine⟨h.sound v hv,fun⟨k,hk⟩=> ?_⟩
 have key: ∀k v,v<n→vT (pgL x) who (inD n inn) (fun v=>gb goal v=true) k v→gb out v=true:=by
  intro k
  induction k with
  |zero=>exact fun v hv hk=>h.base v hv hk.1.2 hk.2
  |succ k ih=>
   intro v hv hk
   rcases hk with hk|⟨hD,hk⟩
   ·exact ih v hv hk
   ·cases hb:gb out v
    ·exfalso
     rcases hk with⟨ho,u,he,hu⟩|⟨ho,⟨u,he,hud⟩,ha⟩
     ·have hun:=jc hx v u he
      have hub:=ih u hun hu
      have huD:=hu.inD
      obtain⟨-,j,hj,e1,e2⟩:=he
      rw [WS hx hv]at ho
      have h6:=h.own v hv hD.2 hb ho j hj e2 (by rw [e1];exact huD.2)
      have h7:=hP v hv j hj (by rw [e1];exact hub)
      rw [h6]at h7;cases h7
     ·rw [WS hx hv]at ho
      have hz:qk x inn v (P v) (gl x.next v).length=0:=by
       have hall: ∀j,j<(gl x.next v).length→gb inn (gi (gl x.next v) j).toNat=true→edB x v (gi (gl x.next v) j)=true→P v (gi (gl x.next v) j)=true:=fun j hj a b=>by
        have hto:=hx.to v hv j hj
        have hE:(pgL x).E v (gi (gl x.next v) j).toNat:=⟨by rw [hx.ho];exact hv,j,hj,rfl,b⟩
        exact hP v hv j hj (ih _ (by omega) (ha _ hE ⟨by omega,a⟩))
       have : ∀m,m≤(gl x.next v).length→qk x inn v (P v) m=0:=by
        intro m
        induction m with
        |zero=>intro _;rfl
        |succ m ihm=>
         intro hm
         unfold qk
         rw [ihm (by omega),if_neg]
         intro hc
         simp only [Bool.and_eq_true,Bool.not_eq_true']at hc
         have :=hall m (by omega) hc.1.1 hc.1.2
         rw [this]at hc
         cases hc.2
       exact this _ (Nat.le_refl _)
      have hc:=h.cnt v hv hD.2 hb
      rw [hz]at hc
      obtain⟨-,j,hj,e1,e2⟩:=he
      have hE:(pgL x).E v u:=⟨by rw [hx.ho];exact hv,j,hj,e1,e2⟩
      have hub:=ih u hud.1 (ha u hE hud)
      exact h.opp v hv hD.2 hb ho ⟨j,hj,e2,by rw [e1];exact hud.2,hP v hv j hj (by rw [e1];exact hub)⟩ hc
    ·rfl
 exact key k v hv hk
open Classical in
noncomputable def yk (x:L7)(n:Nat)(inn:List Bool)(who:Int)(goal:List Bool):List Bool:=(List.range n).map fun v=>decide (Att (pgL x) who (inD n inn) (fun v=>gb goal v=true) v)
theorem wo (x:L7)(n:Nat)(inn:List Bool)(who:Int)(goal:List Bool):(yk x n inn who goal).length=n:=by simp [yk]
open Classical in
theorem QN {v:Nat}(hv:v<n):gb (yk x n inn who goal) v=true↔Att (pgL x) who (inD n inn) (fun v=>gb goal v=true) v:=by
 unfold yk
 rw [UP hv]
 exact decide_eq_true_iff
theorem ZM {a b:List Bool}(hl:a.length=b.length)(h: ∀v,v<a.length→gb a v=gb b v):a=b:=by
 refine List.ext_getElem? fun i=> ?_
 by_cases hi:i<a.length
 ·rw [zKl hi,zKl (by omega),h i hi]
 ·rw [List.getElem?_eq_none (by omega),List.getElem?_eq_none (by omega)]
theorem AtI.result (hx:x.Ok n)(h:AtI x n inn who goal out left queue P)(hP: ∀v,v<n→∀j,j<(gl x.next v).length→gb out (gi (gl x.next v) j).toNat=true→P v (gi (gl x.next v) j)=true):out=yk x n inn who goal:=by
 refine ZM (by rw [wo];exact h.lo) fun v hv=> ?_
 rw [h.lo]at hv
 rw [Bool.eq_iff_iff,h.done hx hP hv,QN hv]
structure At0 (x:L7)(n:Nat)(inn goal:List Bool)(k:Nat)(out:List Bool)(left queue:List Int):Prop where
 lo:out.length=n
 ll:left.length=n
 lq:queue.length≤k
 qrg: ∀i,i<queue.length→0≤gi queue i∧gi queue i<k
 qnd: ∀i j,i<j→j<queue.length→gi queue i≠gi queue j
 qout: ∀v,v<n→(gb out v=true↔∃i,i<queue.length∧gi queue i=v)
 outs: ∀v,v<n→gb out v=(decide (v<k)&&(gb inn v&&gb goal v))
 lef: ∀v,v<k→gb inn v=true→gi left v=wR x inn v
theorem At0.start (n:Nat)(inn goal:List Bool):At0 x n inn goal 0 (List.replicate n false) (List.replicate n 0) []:=by
 have h0: ∀v,gb (List.replicate n false) v=false:=fun v=>by
  unfold gb
  rw [List.getD_eq_getElem?_getD,List.getElem?_replicate]
  split<;>rfl
 refine⟨by simp,by simp,by simp,fun i hi=>(by simp at hi),fun i j _ hj=>(by simp at hj),fun v _=> ?_,fun v _=>(by rw [h0];rfl),fun v hv=>(by omega)⟩
 rw [h0]
 exact⟨fun h=>(by cases h),fun⟨i,hi,_⟩=>(by simp at hi)⟩
theorem At0.inv (hx:x.Ok n)(h:At0 x n inn goal n out left queue):AtI x n inn who goal out left queue (fun _ _=>false):=by
 refine⟨h.lo,h.ll,h.qrg,h.qnd,h.qout,fun v hv hb=> ?_,fun v hv a b=> ?_,fun v hv _ _ _ j _ _ _=>rfl,fun v hv _ _ _ ⟨j,_,_,_,hf⟩=>(by cases hf),fun v hv a b=> ?_,fun v hv j hj hf=>(by cases hf)⟩
 ·rw [h.outs v hv,Bool.and_eq_true,Bool.and_eq_true]at hb
  exact Att.base ⟨hv,hb.2.1⟩ hb.2.2
 ·rw [h.outs v hv,decide_eq_true hv,a,b];rfl
 ·rw [h.lef v hv a]
  exact(KI x inn v _ fun _ _=>rfl).symm
end
def xU (x:L7)(inn:List Bool)(top:Int)(v:Nat):Bool:=gb inn v&&(gi x.prio v==top)
def yY (rest low:List Bool)(who:Int)(v:Nat):Bool:=gb rest v&&(gb low v !=(who==0))
def wG (l:List Bool):Nat→Bool
 |0=>false
 |k+1=>wG l k||gb l k
def Zc (inn:List Bool)(who:Int)(v:Nat):Bool:=gb inn v&&(who==0)
def wX (again away:List Bool)(who:Int)(v:Nat):Bool:=gb again v||(gb away v&&(who==1))
def ym (n:Nat)(f:Nat→Bool):List Bool:=(List.range n).map f
theorem vY (n:Nat)(f:Nat→Bool):(ym n f).length=n:=by simp [ym]
theorem WR (n:Nat)(f:Nat→Bool):mkB n f n=ym n f:=zCG n f
theorem yf {n:Nat}{f:Nat→Bool}{v:Nat}(h:v<n):gb (ym n f) v=f v:=UP h
theorem zJ2 {n:Nat}{f:Nat→Bool}{k:Nat}(h:k<n):gb (mkB n f (k+1)) k=gb (ym n f) k:=by
 rw [yf h]
 unfold mkB gb
 rw [List.getD_eq_getElem?_getD,List.getElem?_append_left (by simp),List.getElem?_map,List.getElem?_range (by omega)]
 rfl
theorem zDQ {x:L7}{inn:List Bool}{top:Int}{k n:Nat}(hk:k<n)(h:gb inn k=true):(mkB n (xU x inn top) k).set k (gi x.prio k==top)=mkB n (xU x inn top) (k+1):=by
 rw [←qq hk];unfold xU;rw [h];rfl
theorem zFf {x:L7}{inn:List Bool}{top:Int}{k n:Nat}(hk:k<n)(h:gb inn k=false):(mkB n (xU x inn top) k).set k false=mkB n (xU x inn top) (k+1):=by
 rw [←qq hk];unfold xU;rw [h];rfl
theorem zJv {rest low:List Bool}{who:Int}{k n:Nat}(hk:k<n)(h:gb rest k=true):(mkB n (yY rest low who) k).set k (!(gb low k==(who==0)))=mkB n (yY rest low who) (k+1):=by
 rw [←qq hk];unfold yY;rw [h];rfl
theorem zL1 {rest low:List Bool}{who:Int}{k n:Nat}(hk:k<n)(h:gb rest k=false):(mkB n (yY rest low who) k).set k false=mkB n (yY rest low who) (k+1):=by
 rw [←qq hk];unfold yY;rw [h];rfl
theorem zKe {inn:List Bool}{who:Int}{k n:Nat}(hk:k<n)(h:gb inn k=true):(mkB n (Zc inn who) k).set k (who==0)=mkB n (Zc inn who) (k+1):=by
 rw [←qq hk];unfold Zc;rw [h];rfl
theorem zMa {inn:List Bool}{who:Int}{k n:Nat}(hk:k<n)(h:gb inn k=false):(mkB n (Zc inn who) k).set k false=mkB n (Zc inn who) (k+1):=by
 rw [←qq hk];unfold Zc;rw [h];rfl
theorem zOM {again away:List Bool}{who:Int}{k n:Nat}(hk:k<n)(h:gb again k=true):(mkB n (wX again away who) k).set k true=mkB n (wX again away who) (k+1):=by
 rw [←qq hk];unfold wX;rw [h];rfl
theorem zON {again away:List Bool}{who:Int}{k n:Nat}(hk:k<n)(h:gb again k=false)(h2:gb away k=true):(mkB n (wX again away who) k).set k (who==1)=mkB n (wX again away who) (k+1):=by
 rw [←qq hk];unfold wX;rw [h,h2];rfl
theorem zOO {again away:List Bool}{who:Int}{k n:Nat}(hk:k<n)(h:gb again k=false)(h2:gb away k=false):(mkB n (wX again away who) k).set k false=mkB n (wX again away who) (k+1):=by
 rw [←qq hk];unfold wX;rw [h,h2];rfl
theorem qH (a b:List Bool):(yT a b).length=a.length:=by simp [yT]
theorem qx {a b:List Bool}{v:Nat}(h:v<a.length):gb (yT a b) v=(gb a v&& !gb b v):=UP h
def xC (l:List Bool):Nat→Nat
 |0=>0
 |k+1=>if gb l k then xC l k+1 else xC l k
theorem KH (l:List Bool)(k:Nat):xC l (k+1)=if gb l k=true then xC l k+1 else xC l k:=rfl
theorem zAA {a b:List Bool}: ∀k,(∀v,v<k→gb a v=true→gb b v=true)→xC a k≤xC b k
 |0,_=>Nat.le_refl _
 |k+1,h=>by
  have ih:=zAA k fun v hv=>h v (by omega)
  have hk:=h k (by omega)
  rw [KH,KH]
  split
  ·rename_i e;rw [if_pos (hk e)];omega
  ·split<;>omega
theorem zFX {a b:List Bool}: ∀k,(∀v,v<k→gb a v=true→gb b v=true)→(∃v,v<k∧gb a v=false∧gb b v=true)→xC a k<xC b k
 |0,_,⟨v,hv,_⟩=>absurd hv (Nat.not_lt_zero _)
 |k+1,h,⟨v,hv,h1,h2⟩=>by
  have hk:=h k (by omega)
  have hle:=zAA k fun v hv=>h v (by omega)
  rw [KH,KH]
  by_cases e:v=k
  ·subst e;rw [h1,h2];exact Nat.lt_succ_of_le hle
  ·have ih:=zFX k (fun v hv=>h v (by omega)) ⟨v,by omega,h1,h2⟩
   split
   ·rename_i e;rw [if_pos (hk e)];omega
   ·split<;>omega
theorem Qi (l:List Bool): ∀k,xC l k≤k
 |0=>Nat.le_refl _
 |k+1=>by
  have :=Qi l k
  rw [KH]
  split<;>omega
theorem wO {l:List Bool}: ∀{k:Nat},(wG l k=true↔∃v,v<k∧gb l v=true)
 |0=>⟨fun h=>(by cases h),fun⟨v,h,_⟩=>absurd h (Nat.not_lt_zero _)⟩
 |k+1=>by
  show(wG l k||gb l k)=true↔_
  rw [Bool.or_eq_true,wO]
  constructor
  ·rintro(⟨v,hv,h⟩|h)
   ·exact⟨v,by omega,h⟩
   ·exact⟨k,by omega,h⟩
  ·rintro⟨v,hv,h⟩
   by_cases e:v=k
   ·subst e;exact .inr h
   ·exact .inl ⟨v,by omega,h⟩
noncomputable def yh (x:L7)(n:Nat):Nat→List Bool→List Bool
 |0,_=>List.replicate n false
 |f+1,inn=>
  if yV x inn n<0 then List.replicate n false else
  if wG (ym n (yY (yT inn (yk x n inn (Int.tmod (yV x inn n) 2) (ym n (xU x inn (yV x inn n))))) (yh x n f (yT inn (yk x n inn (Int.tmod (yV x inn n) 2) (ym n (xU x inn (yV x inn n)))))) (Int.tmod (yV x inn n) 2))) n=true then
   ym n (wX (yh x n f (yT inn (yk x n inn (1 - Int.tmod (yV x inn n) 2) (ym n (yY (yT inn (yk x n inn (Int.tmod (yV x inn n) 2) (ym n (xU x inn (yV x inn n))))) (yh x n f (yT inn (yk x n inn (Int.tmod (yV x inn n) 2) (ym n (xU x inn (yV x inn n)))))) (Int.tmod (yV x inn n) 2))))))
    (yk x n inn (1 - Int.tmod (yV x inn n) 2) (ym n (yY (yT inn (yk x n inn (Int.tmod (yV x inn n) 2) (ym n (xU x inn (yV x inn n))))) (yh x n f (yT inn (yk x n inn (Int.tmod (yV x inn n) 2) (ym n (xU x inn (yV x inn n)))))) (Int.tmod (yV x inn n) 2)))) (Int.tmod (yV x inn n) 2))
  else ym n (Zc inn (Int.tmod (yV x inn n) 2))
theorem Uk (x:L7)(n f:Nat)(inn:List Bool){top who:Int}{goal rest low lost away:List Bool}(hT:yV x inn n=top)(hW:Int.tmod top 2=who)(hG:ym n (xU x inn top)=goal)(hR:yT inn (yk x n inn who goal)=rest)(hLo:yh x n f rest=low)(hL:ym n (yY rest low who)=lost)(hA2:yk x n inn (1 - who) lost=away):
  yh x n (f+1) inn=if top<0 then List.replicate n false else if wG lost n=true then ym n (wX (yh x n f (yT inn away)) away who)else ym n (Zc inn who):=by
 subst hT hW hG hR hLo hL hA2
 rfl
theorem uT (x:L7)(n:Nat): ∀f inn,(yh x n f inn).length=n
 |0,inn=>by unfold yh;simp
 |f+1,inn=>by
  rw [Uk x n f inn rfl rfl rfl rfl rfl rfl rfl]
  split
  ·simp
  ·split<;>exact vY _ _
theorem zIz (x:L7)(inn:List Bool)(k:Nat):yV x inn (k+1)=if gb inn k=true then max (yV x inn k) (gi x.prio k)else yV x inn k:=rfl
theorem XE {x:L7}{inn:List Bool}: ∀k,∀v,v<k→gb inn v=true→gi x.prio v≤yV x inn k
 |0,v,h,_=>absurd h (Nat.not_lt_zero _)
 |k+1,v,hv,hb=>by
  rw [zIz]
  by_cases e:v=k
  ·subst e;rw [if_pos hb];omega
  ·have :=XE (x:=x) k v (by omega) hb
   split<;>omega
theorem Kw {x:L7}{n:Nat}(hx:x.Ok n){inn:List Bool}: ∀k,k≤n→yV x inn k= -1∨∃v,v<k∧gb inn v=true∧gi x.prio v=yV x inn k
 |0,_=> .inl rfl
 |k+1,hk=>by
  have ih:=Kw hx (inn:=inn) k (by omega)
  have hp:=hx.pr k (by omega)
  rw [zIz]
  by_cases e:gb inn k=true
  ·rw [if_pos e]
   rcases Int.le_total (yV x inn k) (gi x.prio k)with h|h
   ·exact .inr ⟨k,by omega,e,by omega⟩
   ·rcases ih with h2|⟨v,hv,h2,h3⟩
    ·exact .inr ⟨k,by omega,e,by omega⟩
    ·exact .inr ⟨v,by omega,h2,by omega⟩
  ·rw [if_neg e]
   rcases ih with h2|⟨v,hv,h2,h3⟩
   ·exact .inl h2
   ·exact .inr ⟨v,by omega,h2,h3⟩
section
variable {x:L7} {n:Nat} {inn:List Bool}
theorem zJR {who:Int}{goal:List Bool}{v:Nat}(hv:v<n)(h:gb (yk x n inn who goal) v=true):gb inn v=true:=((QN hv).1 h).inD.2
theorem zET : ∀f inn,inn.length=n→∀v,v<n→gb (yh x n f inn) v=true→gb inn v=true
 |0,inn,_,v,hv,h=>by
  unfold yh at h
  rw [show gb (List.replicate n false) v=false from by unfold gb;rw [List.getD_eq_getElem?_getD,List.getElem?_replicate];split<;>rfl]at h
  cases h
 |f+1,inn,hi,v,hv,h=>by
  rw [Uk x n f inn rfl rfl rfl rfl rfl rfl rfl]at h
  split at h
  ·rw [show gb (List.replicate n false) v=false from by unfold gb;rw [List.getD_eq_getElem?_getD,List.getElem?_replicate];split<;>rfl]at h
   cases h
  ·split at h
   ·rw [yf hv]at h
    unfold wX at h
    rw [Bool.or_eq_true,Bool.and_eq_true]at h
    rcases h with h|h
    ·have :=zET f _ (by rw [qH];exact hi) v hv h
     rw [qx (by omega),Bool.and_eq_true]at this
     exact this.1
    ·exact zJR hv h.1
   ·rw [yf hv]at h
    unfold Zc at h
    rw [Bool.and_eq_true]at h
    exact h.1
end
theorem Qg {g:PG}{who:Int}{D goal goal':Nat→Prop}(h: ∀v,D v→(goal v↔goal' v))(v:Nat):Att g who D goal v↔Att g who D goal' v:=by
 have hk: ∀k v,vT g who D goal k v↔vT g who D goal' k v:=by
  intro k
  induction k with
  |zero=>exact fun v=>⟨fun⟨a,b⟩=>⟨a,(h v a).1 b⟩,fun⟨a,b⟩=>⟨a,(h v a).2 b⟩⟩
  |succ k ih=>
   have e:vT g who D goal k=vT g who D goal' k:=funext fun v=>propext (ih v)
   intro v
   show(_∨_)↔(_∨_)
   rw [e]
 exact⟨fun⟨k,a⟩=>⟨k,(hk k v).1 a⟩,fun⟨k,a⟩=>⟨k,(hk k v).2 a⟩⟩
theorem ZA (g:PG)(who:Int)(D U:Nat→Prop)(h: ∀v,¬U v): ∃s,xt g who D U s:=
 ⟨fun _=>0,⟨fun v a=>absurd a (h v),fun v a=>absurd a (h v),fun v u a=>absurd a (h v),fun v t w=>by
  cases w with
  |one a=>exact absurd a.1 (h v)
  |cons a _=>exact absurd a.1 (h v)⟩⟩
section
variable {x:L7} {n:Nat}
theorem WV {inn:List Bool}(hi:inn.length=n){who:Int}{goal:List Bool}(v:Nat):inD n (yT inn (yk x n inn who goal)) v↔inD n inn v∧¬Att (pgL x) who (inD n inn) (fun v=>gb goal v=true) v:=by
 unfold inD
 constructor
 ·rintro⟨h1,h2⟩
  rw [qx (by omega),Bool.and_eq_true]at h2
  refine⟨⟨h1,h2.1⟩,fun h=> ?_⟩
  rw [(QN h1).2 h]at h2
  cases h2.2
 ·rintro⟨⟨h1,h2⟩,h3⟩
  refine⟨h1,?_⟩
  rw [qx (by omega),h2,Bool.eq_false_iff.2 fun e=>h3 ((QN h1).1 e)]
  rfl
theorem QW {inn:List Bool}(hi:inn.length=n){who:Int}{goal:List Bool}{w:Nat}(hw:w<n)(h1:gb inn w=true)(h2:gb goal w=true):xC (yT inn (yk x n inn who goal)) n<xC inn n:=by
 refine zFX n (fun v hv h=> ?_) ⟨w,hw,?_,h1⟩
 ·rw [qx (by omega),Bool.and_eq_true]at h;exact h.1
 ·rw [qx (by omega),(QN hw).2 (.base ⟨hw,h1⟩ h2),h1];rfl
theorem VY {t:Int}(h:0≤t):Int.tmod t 2=t%2:=Int.tmod_eq_emod_of_nonneg h
theorem jl (hx:x.Ok n): ∀f inn,inn.length=n→xC inn n<f→wE (pgL x) (inD n inn)→
  (∃s,xt (pgL x) 0 (inD n inn) (fun v=>inD n inn v∧gb (yh x n f inn) v=true) s)∧∃s,xt (pgL x) 1 (inD n inn) (fun v=>inD n inn v∧gb (yh x n f inn) v=false) s
 |0,inn,_,h,_=>absurd h (Nat.not_lt_zero _)
 |f+1,inn,hi,hc,hl=>by
  have hn: ∀v u,(pgL x).E v u→u<n:=jc hx
  obtain⟨top,hT⟩: ∃t,yV x inn n=t:=⟨_,rfl⟩
  obtain⟨who,hW⟩: ∃t,Int.tmod top 2=t:=⟨_,rfl⟩
  obtain⟨goal,hG⟩: ∃t,ym n (xU x inn top)=t:=⟨_,rfl⟩
  obtain⟨rest,hR⟩: ∃t,yT inn (yk x n inn who goal)=t:=⟨_,rfl⟩
  obtain⟨low,hLo⟩: ∃t,yh x n f rest=t:=⟨_,rfl⟩
  obtain⟨lost,hL⟩: ∃t,ym n (yY rest low who)=t:=⟨_,rfl⟩
  obtain⟨away,hA⟩: ∃t,yk x n inn (1 - who) lost=t:=⟨_,rfl⟩
  rw [Uk x n f inn hT hW hG hR hLo hL hA]
  have hmax:=fun v hv hb=>XE (x:=x) (inn:=inn) n v hv hb
  have hex:=Kw hx (inn:=inn) n (Nat.le_refl _)
  rw [hT]at hmax hex
  by_cases ht:top<0
  ·have hno: ∀v,¬inD n inn v:=fun v hv=>by
    have :=hmax v hv.1 hv.2
    have :=hx.pr v hv.1
    omega
   exact⟨ZA _ _ _ _ fun v h=>hno v h.1,ZA _ _ _ _ fun v h=>hno v h.1⟩
  rw [if_neg ht]
  have hw2:who=0∨who=1:=by rw [VY (by omega)]at hW;omega
  have hgoal: ∀v,inD n inn v→(gb goal v=true↔(pgL x).pr v=top.toNat):=fun v hv=>by
   rw [←hG,yf hv.1]
   unfold xU
   rw [hv.2,Bool.true_and,beq_iff_eq]
   have :=hx.pr v hv.1
   show _↔(gi x.prio v).toNat=top.toNat
   omega
  obtain⟨w,hw,hw3,hw4⟩:=hex.resolve_left (by omega)
  have hrl:rest.length=n:=by rw [←hR,qH];exact hi
  have hRD: ∀v,inD n rest v↔inD n inn v∧¬Att (pgL x) who (inD n inn) (fun v=>gb goal v=true) v:=fun v=>by rw [←hR];exact WV hi v
  have hlt:xC rest n<f:=by
   have :xC rest n<xC inn n:=by
    rw [←hR]
    refine QW hi hw hw3 ((hgoal w ⟨hw,hw3⟩).2 ?_)
    show(gi x.prio w).toNat=_
    rw [hw4]
   omega
  have hlr:wE (pgL x) (inD n rest):=by
   have :=VM (who:=who) (goal:=fun v=>gb goal v=true) hn hl
   rw [show inD n rest=_ from funext fun v=>propext (hRD v)]
   exact this
  have ih:=jl hx f rest hrl hlt hlr
  rw [hLo]at ih
  have hlost: ∀v,v<n→(gb lost v=true↔gb rest v=true∧(gb low v=true↔¬who=0)):=fun v hv=>by
   rw [←hL,yf hv]
   unfold yY
   rw [Bool.and_eq_true]
   rcases hw2 with e|e<;>rw [e]<;>cases gb low v<;>simp
  by_cases ha:wG lost n=true
  ·rw [if_pos ha]
   obtain⟨a,ha1,ha2⟩:=wO.1 ha
   obtain⟨rest2,hR2⟩: ∃t,yT inn away=t:=⟨_,rfl⟩
   obtain⟨again,hAg⟩: ∃t,yh x n f rest2=t:=⟨_,rfl⟩
   rw [hR2,hAg]
   have hr2l:rest2.length=n:=by rw [←hR2,qH];exact hi
   have hai:gb inn a=true:=((hRD a).1 ⟨ha1,((hlost a ha1).1 ha2).1⟩).1.2
   have hRD2: ∀v,inD n rest2 v↔inD n inn v∧¬Att (pgL x) (1 - who) (inD n inn) (fun v=>gb lost v=true) v:=fun v=>by rw [←hR2,←hA];exact WV hi v
   have hlt2:xC rest2 n<f:=by
    have :xC rest2 n<xC inn n:=by rw [←hR2,←hA];exact QW hi ha1 hai ha2
    omega
   have hlr2:wE (pgL x) (inD n rest2):=by
    have :=VM (who:=1 - who) (goal:=fun v=>gb lost v=true) hn hl
    rw [show inD n rest2=_ from funext fun v=>propext (hRD2 v)]
    exact this
   have ih2:=jl hx f rest2 hr2l hlt2 hlr2
   have hsub:=fun v hv=>zET (x:=x) f rest2 hr2l v hv
   rw [hAg]at ih2 hsub
   have haw: ∀v,v<n→(gb away v=true↔Att (pgL x) (1 - who) (inD n inn) (fun v=>gb lost v=true) v):=fun v hv=>by rw [←hA];exact QN hv
   have hnot: ∀v,v<n→gb away v=true→gb again v=false:=fun v hv h=>Bool.eq_false_iff.2 fun e=>((hRD2 v).1 ⟨hv,hsub v hv e⟩).2 ((haw v hv).1 h)
   have hown:=JS hx
   rcases hw2 with e|e
   ·subst e
    have hop:((1:Int) - 0)=1:=rfl
    rw [hop]at hRD2 haw
    obtain⟨-,⟨s1,hs1⟩⟩:=ih
    obtain⟨⟨m0,hm0⟩,⟨m1,hm1⟩⟩:=ih2
    have hLs: ∀v,inD n inn v→(gb lost v=true↔inD n rest v∧gb low v=false):=fun v hv=>by
     rw [hlost v hv.1]
     constructor
     ·rintro⟨h1,h2⟩
      exact⟨⟨hv.1,h1⟩,Bool.eq_false_iff.2 fun h3=>h2.1 h3 rfl⟩
     ·rintro⟨h1,h2⟩
      exact⟨h1.2,by rw [h2];simp⟩
    have hatt:=fun v=>Qg (g:=pgL x) (who:=1) hLs v
    obtain⟨s',hs'⟩:=zAr (who:=0) (opp:=1) hown (by decide) (yU hs1 hRD fun v=>Iff.rfl) (yU hm1 (fun v=>by rw [hRD2 v,hatt v]) fun v=>Iff.rfl)
    have hz:=zAs (who:=0) (opp:=1) hown (yU hm0 hRD2 fun v=>Iff.rfl)
    have hres: ∀v,v<n→gb (ym n (wX again away 0)) v=gb again v:=fun v hv=>by
     rw [yf hv];unfold wX;rw [show((0:Int)==1)=false from rfl,Bool.and_false,Bool.or_false]
    refine⟨⟨m0,yU hz (fun v=>Iff.rfl) fun v=> ?_⟩,⟨s',yU hs' (fun v=>Iff.rfl) fun v=> ?_⟩⟩
    ·constructor
     ·rintro⟨h1,h2⟩
      exact⟨((hRD2 v).1 h1).1,by rw [hres v h1.1];exact h2⟩
     ·rintro⟨h1,h2⟩
      rw [hres v h1.1]at h2
      exact⟨⟨h1.1,hsub v h1.1 h2⟩,h2⟩
    ·rw [←hatt v]
     constructor
     ·rintro(⟨h1,h2⟩|h)
      ·exact⟨((hRD2 v).1 h1).1,by rw [hres v h1.1];exact h2⟩
      ·have hv:=h.inD
       exact⟨hv,by rw [hres v hv.1];exact hnot v hv.1 ((haw v hv.1).2 h)⟩
     ·rintro⟨h1,h2⟩
      rw [hres v h1.1]at h2
      by_cases h3:Att (pgL x) 1 (inD n inn) (fun v=>gb lost v=true) v
      ·exact .inr h3
      ·exact .inl ⟨(hRD2 v).2 ⟨h1,h3⟩,h2⟩
   ·subst e
    have hop:((1:Int) - 1)=0:=rfl
    rw [hop]at hRD2 haw
    obtain⟨⟨s1,hs1⟩,-⟩:=ih
    obtain⟨⟨m0,hm0⟩,⟨m1,hm1⟩⟩:=ih2
    have hLs: ∀v,inD n inn v→(gb lost v=true↔inD n rest v∧gb low v=true):=fun v hv=>by
     rw [hlost v hv.1]
     constructor
     ·rintro⟨h1,h2⟩
      exact⟨⟨hv.1,h1⟩,h2.2 (by decide)⟩
     ·rintro⟨h1,h2⟩
      exact⟨h1.2,by rw [h2];simp⟩
    have hatt:=fun v=>Qg (g:=pgL x) (who:=0) hLs v
    have hown2: ∀v,(pgL x).own v=1∨(pgL x).own v=0:=fun v=>(hown v).symm
    obtain⟨s',hs'⟩:=zAr (who:=1) (opp:=0) hown2 (by decide) (yU hs1 hRD fun v=>Iff.rfl) (yU hm0 (fun v=>by rw [hRD2 v,hatt v]) fun v=>Iff.rfl)
    have hz:=zAs (who:=1) (opp:=0) hown2 (yU hm1 hRD2 fun v=>Iff.rfl)
    have hres: ∀v,v<n→gb (ym n (wX again away 1)) v=(gb again v||gb away v):=fun v hv=>by
     rw [yf hv];unfold wX;rw [show((1:Int)==1)=true from rfl,Bool.and_true]
    refine⟨⟨s',yU hs' (fun v=>Iff.rfl) fun v=> ?_⟩,⟨m1,yU hz (fun v=>Iff.rfl) fun v=> ?_⟩⟩
    ·rw [←hatt v]
     constructor
     ·rintro(⟨h1,h2⟩|h)
      ·exact⟨((hRD2 v).1 h1).1,by rw [hres v h1.1,h2];rfl⟩
      ·have hv:=h.inD
       exact⟨hv,by rw [hres v hv.1,(haw v hv.1).2 h,Bool.or_true]⟩
     ·rintro⟨h1,h2⟩
      rw [hres v h1.1,Bool.or_eq_true]at h2
      rcases h2 with h2|h2
      ·exact .inl ⟨⟨h1.1,hsub v h1.1 h2⟩,h2⟩
      ·exact .inr ((haw v h1.1).1 h2)
    ·constructor
     ·rintro⟨h1,h2⟩
      have h3:=(hRD2 v).1 h1
      refine⟨h3.1,?_⟩
      rw [hres v h1.1,h2,Bool.eq_false_iff.2 fun e=>h3.2 ((haw v h1.1).1 e)]
      rfl
     ·rintro⟨h1,h2⟩
      rw [hres v h1.1,Bool.or_eq_false_iff]at h2
      refine⟨(hRD2 v).2 ⟨h1,fun h=> ?_⟩,h2.1⟩
      have :=(haw v h1.1).2 h
      rw [h2.2]at this
      cases this
  ·rw [if_neg ha]
   have hnl: ∀v,v<n→¬gb lost v=true:=fun v hv h=>ha (wO.2 ⟨v,hv,h⟩)
   have hall: ∀s,xt (pgL x) who (inD n rest) (inD n rest) s→∃s',xt (pgL x) who (inD n inn) (inD n inn) s':=fun s h=>by
    refine zGG (top:=top.toNat) hn hl (fun v hv=> ?_) ?_ (s:=s) ?_
    ·have :=hmax v hv.1 hv.2
     have :=hx.pr v hv.1
     show(gi x.prio v).toNat≤_
     omega
    ·rw [←hW,VY (by omega)];omega
    ·refine yU h (fun v=> ?_) (fun v=> ?_)<;>(rw [hRD,Qg fun v hv=>hgoal v hv])
   rcases hw2 with e|e
   ·subst e
    obtain⟨⟨s,hs⟩,-⟩:=ih
    obtain⟨s',hs'⟩:=hall s (yU hs (fun v=>Iff.rfl) fun v=>⟨fun h=>h.1,fun h=>⟨h,by have :=hnl v h.1;rw [hlost v h.1]at this;have h5:=h.2;cases hlv:gb low v<;>simp_all⟩⟩)
    refine⟨⟨s',yU hs' (fun v=>Iff.rfl) fun v=>⟨fun h=>⟨h,by rw [yf h.1];unfold Zc;rw [h.2];rfl⟩,fun h=>h.1⟩⟩,ZA _ _ _ _ fun v h=> ?_⟩
    have h5:=h.2
    rw [yf h.1.1]at h5
    unfold Zc at h5
    rw [h.1.2]at h5
    cases h5
   ·subst e
    obtain⟨-,⟨s,hs⟩⟩:=ih
    obtain⟨s',hs'⟩:=hall s (yU hs (fun v=>Iff.rfl) fun v=>⟨fun h=>h.1,fun h=>⟨h,by have :=hnl v h.1;rw [hlost v h.1]at this;have h5:=h.2;cases hlv:gb low v<;>simp_all⟩⟩)
    refine⟨ZA _ _ _ _ fun v h=> ?_,⟨s',yU hs' (fun v=>Iff.rfl) fun v=>⟨fun h=>⟨h,by rw [yf h.1];unfold Zc;rw [h.2];rfl⟩,fun h=>h.1⟩⟩⟩
    have h5:=h.2
    rw [yf h.1.1]at h5
    unfold Zc at h5
    rw [h.1.2]at h5
    cases h5
end
open Nat renaming reduceMod → zA, reduceMul → zB, reduceDiv → zC, reduceAdd → zD, reduceSub → zE, reduceEqDiff → zF, reduceBEq → zG, reduceLT → zH, reduceLeDiff → zI
theorem zFV {b:Bool}{P:Prop}(h1:b=true)(h2:b=false):P:=by rw [h1]at h2;cases h2
theorem wH {xs:List Int}{u:Int}:zr xs u=true↔∃i,i<xs.length∧gi xs i=u:=by
 rw [yD]
 constructor
 ·intro h
  obtain⟨i,hi⟩:=List.getElem?_of_mem h
  have hl:i<xs.length:=(List.getElem?_eq_some_iff.1 hi).1
  refine⟨i,hl,?_⟩
  have :=wC hl
  rw [hi]at this
  exact(Option.some.inj this).symm
 ·rintro⟨i,hi,rfl⟩
  exact List.mem_of_getElem? (wC hi)
theorem ZO {xs:List Int}{k i:Nat}(h:i<k):gi (xs.take k) i=gi xs i:=by
 unfold gi
 rw [List.getD_eq_getElem?_getD,List.getD_eq_getElem?_getD,List.getElem?_take,if_pos h]
theorem YA {xs:List Int}{k:Nat}(h:k<xs.length)(u:Int):zr (xs.take (k+1)) u=(zr (xs.take k) u||decide (u=gi xs k)):=by
 rw [Bool.eq_iff_iff,Bool.or_eq_true,decide_eq_true_eq,wH,wH]
 constructor
 ·rintro⟨i,hi,e⟩
  rw [List.length_take]at hi
  rw [ZO (by omega)]at e
  by_cases hk:i=k
  ·subst hk;exact .inr e.symm
  ·exact .inl ⟨i,by rw [List.length_take];omega,by rw [ZO (by omega)];exact e⟩
 ·rintro(⟨i,hi,e⟩|e)
  ·rw [List.length_take]at hi
   rw [ZO (by omega)]at e
   exact⟨i,by rw [List.length_take];omega,by rw [ZO (by omega)];exact e⟩
  ·exact⟨k,by rw [List.length_take];omega,by rw [ZO (by omega)];exact e.symm⟩
def PK (x:L7)(qi:List Int)(u0:Int)(k:Nat)(v:Nat)(u:Int):Bool:=zr qi u||(decide (u=u0)&&zr ((gl x.prev u0.toNat).take k) (v:Int))
theorem PK_s {x:L7}{qi:List Int}{u0:Int}{k:Nat}(hk:k<(gl x.prev u0.toNat).length)(h0:0≤gi (gl x.prev u0.toNat) k)(v:Nat)(u:Int):PK x qi u0 (k+1) v u=(PK x qi u0 k v u||(decide (v=(gi (gl x.prev u0.toNat) k).toNat)&&decide (u=u0))):=by
 unfold PK
 rw [YA hk,Bool.eq_iff_iff]
 simp only [Bool.or_eq_true,Bool.and_eq_true,decide_eq_true_eq]
 have :((v:Int)=gi (gl x.prev u0.toNat) k)↔v=(gi (gl x.prev u0.toNat) k).toNat:=by omega
 rw [this]
 constructor
 ·rintro(h|⟨h1,h2|h2⟩)
  ·exact .inl (.inl h)
  ·exact .inl (.inr ⟨h1,h2⟩)
  ·exact .inr ⟨h2,h1⟩
 ·rintro((h|h)|h)
  ·exact .inl h
  ·exact .inr ⟨h.1, .inl h.2⟩
  ·exact .inr ⟨h.2, .inr h.1⟩
section
variable {x:L7} {n:Nat} {inn goal out:List Bool} {who:Int} {left queue:List Int}
theorem zHT {P:Nat→Int→Bool}(hx:x.Ok n)(h:AtI x n inn who goal out left queue P){i:Nat}(hi:i<queue.length){k:Nat}(hk:k<(gl x.prev (gi queue i).toNat).length):PK x (queue.take i) (gi queue i) k (gi (gl x.prev (gi queue i).toNat) k).toNat (gi queue i)=false:=by
 have hr:=h.qrg i hi
 have hp:=hx.pin (gi queue i).toNat (by omega) k hk
 unfold PK
 rw [Bool.or_eq_false_iff,Bool.and_eq_false_iff]
 refine⟨Bool.eq_false_iff.2 fun e=> ?_, .inr (Bool.eq_false_iff.2 fun e=> ?_)⟩
 ·obtain⟨j,hj,e2⟩:=wH.1 e
  rw [List.length_take]at hj
  rw [ZO (by omega)]at e2
  exact h.qnd j i (by omega) hi e2
 ·obtain⟨j,hj,e2⟩:=wH.1 e
  rw [List.length_take]at hj
  rw [ZO (by omega),Int.toNat_of_nonneg hp.1.1]at e2
  exact hx.pnd (gi queue i).toNat (by omega) j k (by omega) hk e2
theorem zCU {i:Nat}(h:AtI x n inn who goal out left queue (fun _ u=>zr (queue.take i) u)):AtI x n inn who goal out left queue (PK x (queue.take i) (gi queue i) 0):=
 h.cong fun v hv j hj=>by
  unfold PK
  have :zr ((gl x.prev (gi queue i).toNat).take 0) (v:Int)=false:=rfl
  rw [this,Bool.and_false,Bool.or_false]
theorem zHS (hx:x.Ok n){i:Nat}(hi:i<queue.length){qi:List Int}(hq:queue.take i=qi){u0:Int}(hu:gi queue i=u0){k:Nat}(hk:k=(gl x.prev u0.toNat).length)(h:AtI x n inn who goal out left queue (PK x qi u0 k)):AtI x n inn who goal out left queue (fun _ u=>zr (queue.take (i+1)) u):=
 h.cong fun v hv j hj=>by
  subst hu;subst hq;subst hk
  rw [YA hi]
  unfold PK
  rw [List.take_length]
  by_cases e:gi (gl x.next v) j=gi queue i
  ·obtain⟨m,hm,e2⟩:=hx.pal v hv j hj
   rw [e]at hm e2
   have :zr (gl x.prev (gi queue i).toNat) (v:Int)=true:=wH.2 ⟨m,hm,e2⟩
   rw [this,decide_eq_true e]
   rfl
  ·rw [decide_eq_false e];rfl
theorem AtI.qle {P:Nat→Int→Bool}(h:AtI x n inn who goal out left queue P):queue.length≤n:=by
 have hl:((List.range queue.length).map fun j=>(gi queue j).toNat).length=queue.length:=by simp
 rw [←hl]
 have hnd:((List.range queue.length).map fun j=>(gi queue j).toNat).Nodup:=by
  rw [List.nodup_iff_pairwise_ne,List.pairwise_map]
  refine List.Pairwise.imp_of_mem ?_ (List.pairwise_lt_range)
  intro a b ha hb hab e
  have h1:=h.qrg a (List.mem_range.1 ha)
  have h2:=h.qrg b (List.mem_range.1 hb)
  exact h.qnd a b hab (List.mem_range.1 hb) (by omega)
 have :=List.Nodup.length_le_of_subset (l₂:=List.range n) hnd (fun y hy=>by
  obtain⟨j,hj,rfl⟩:=List.mem_map.1 hy
  have :=h.qrg j (List.mem_range.1 hj)
  exact List.mem_range.2 (by omega))
 simpa using this
theorem AtI.qin {P:Nat→Int→Bool}(h:AtI x n inn who goal out left queue P){i:Nat}(hi:i<queue.length):(0≤gi queue i∧gi queue i<n)∧gb out (gi queue i).toNat=true∧gb inn (gi queue i).toNat=true:=by
 have hr:=h.qrg i hi
 have ho:=(h.qout (gi queue i).toNat (by omega)).2 ⟨i,hi,by omega⟩
 exact⟨hr,ho,(h.sound _ (by omega) ho).inD.2⟩
theorem AtI.end' (hx:x.Ok n)(h:AtI x n inn who goal out left queue (fun _ u=>zr (queue.take queue.length) u)):out=yk x n inn who goal:=
 h.result hx fun v hv j hj hb=>by
  have hto:=hx.to v hv j hj
  obtain⟨i,hi,e⟩:=(h.qout _ (by omega)).1 hb
  rw [List.take_length]
  exact wH.2 ⟨i,hi,by omega⟩
theorem At0.next {k:Nat}(h:At0 x n inn goal k out left queue)(hk:k<n):
  (gb inn k=false→At0 x n inn goal (k+1) out left queue)∧(gb inn k=true→gb goal k=false→At0 x n inn goal (k+1) out (left.set k (wR x inn k)) queue)∧
  (gb inn k=true→gb goal k=true→At0 x n inn goal (k+1) (out.set k true) (left.set k (wR x inn k)) (queue++ [(k:Int)])):=by
 have hll:k<left.length:=by rw [h.ll];exact hk
 have hlo:k<out.length:=by rw [h.lo];exact hk
 have hlef:gb inn k=true→∀v,v<k+1→gb inn v=true→gi (left.set k (wR x inn k)) v=wR x inn v:=fun _ v hv hb=>by
  rw [qp hll]
  split
  ·rename_i e;rw [e]
  ·exact h.lef v (by omega) hb
 have hq2: ∀i,i<queue.length→0≤gi queue i∧gi queue i<((k+1:Nat):Int):=fun i hi=>by have :=h.qrg i hi;omega
 have hstay:(gb inn k&&gb goal k)=false→∀v,v<n→gb out v=(decide (v<k+1)&&(gb inn v&&gb goal v)):=fun hb v hv=>by
  rw [h.outs v hv]
  by_cases e:v=k
  ·rw [e,hb,Bool.and_false,Bool.and_false]
  ·have :decide (v<k)=decide (v<k+1):=decide_eq_decide.2 (by omega)
   rw [this]
 refine⟨fun h1=>⟨h.lo,h.ll,by have :=h.lq;omega,hq2,h.qnd,h.qout,hstay (by rw [h1];rfl),fun v hv hb=> ?_⟩,fun h1 h2=>⟨h.lo,by rw [List.length_set];exact h.ll,by have :=h.lq;omega,hq2,h.qnd,h.qout,hstay (by rw [h2,Bool.and_false]),hlef h1⟩,fun h1 h2=> ?_⟩
 ·refine h.lef v ?_ hb
  rcases Nat.lt_or_ge v k with h5|h5
  ·exact h5
  ·rw [show v=k by omega,h1]at hb;cases hb
 ·have hql:(queue++ [(k:Int)]).length=queue.length+1:=by simp
  have hqs: ∀j,j<queue.length+1→gi (queue++ [(k:Int)]) j=if j=queue.length then(k:Int)else gi queue j:=fun j hj=>by
   split
   ·rename_i e;rw [e];unfold gi;rw [List.getD_eq_getElem?_getD,List.getElem?_append_right (Nat.le_refl _)];simp
   ·unfold gi;rw [List.getD_eq_getElem?_getD,List.getElem?_append_left (by omega),List.getD_eq_getElem?_getD]
  refine⟨by rw [List.length_set];exact h.lo,by rw [List.length_set];exact h.ll,by rw [hql];have :=h.lq;omega,fun i hi=> ?_,fun i j hij hj=> ?_,fun v hv=> ?_,fun v hv=> ?_,hlef h1⟩
  ·rw [hql]at hi
   rw [hqs i hi]
   split
   ·omega
   ·exact hq2 i (by omega)
  ·rw [hql]at hj
   rw [hqs i (by omega),hqs j hj,if_neg (by omega)]
   split
   ·have :=h.qrg i (by omega);omega
   ·exact h.qnd i j hij (by omega)
  ·rw [Zz hlo,hql]
   constructor
   ·intro hb
    split at hb
    ·rename_i e;exact⟨queue.length,by omega,by rw [hqs _ (by omega),if_pos rfl,e]⟩
    ·obtain⟨i,hi,e⟩:=(h.qout v hv).1 hb
     exact⟨i,by omega,by rw [hqs i (by omega),if_neg (by omega)];exact e⟩
   ·rintro⟨i,hi,e⟩
    rw [hqs i hi]at e
    split at e
    ·rw [if_pos (by omega)]
    ·split
     ·rfl
     ·exact(h.qout v hv).2 ⟨i,by omega,e⟩
  ·rw [Zz hlo]
   split
   ·rename_i e;rw [e,h1,h2,decide_eq_true (by omega)];rfl
   ·rename_i e
    rw [h.outs v hv]
    have :decide (v<k)=decide (v<k+1):=decide_eq_decide.2 (by omega)
    rw [this]
end
set_option maxRecDepth 20000 in
set_option maxHeartbeats 8000000 in
theorem KT (x:L7)(inn:List Bool)(hx:x.Ok inn.length)(who:Int)(goal:List Bool)(hg9:goal.length=inn.length):Fn Tryz.prog tyT 155 [.agg (dL7 x), .c (.lst 4 (dB inn)), .c (.int .i64 who), .c (.lst 4 (dB goal))] [.c (.lst 4 (dB (yk x inn.length inn who goal)))]:=by
 have hn1:=hx.hn
 have hn2:=hx.ho
 have hn3:=hx.hp
 have hn4:=hx.hx
 have hn5:=hx.hv
 have hn6:=hx.hk
 have hDg:=fun v hv=>zEr x inn.length hx inn rfl v hv
 have hEd:=fun v u hv=>zBZ x inn.length hx v u hv
 have hatl:=wo x inn.length inn who goal
 generalize hR:yk x inn.length inn who goal=R at hatl⊢
 unfold dL7 at hDg hEd⊢
 refine θH (ts:= [8]) Tryz.func155 Tryz.ntmps155 ?_
 push_cast [↓zK,↓zJ]
 refine θA ?_
 refine θA ?_
 refine θA ?_
 refine θA ?_
 refine zL fun K1 hK1=> ?_
 refine θA ?_
 refine zV ?_
 refine zh [11,12,24,25,26,27,28,29,30,31,32,33,34,35,36,37,38,39,40,41,42,43,44,45,46,47,48,49,50,51,52,53,54,55,56,57] [144,160,176] (fun(p:Nat×List Bool×List Int×List Int)=> [(12, .int .i64 p.1),(9, .sl 144 [] 0 inn.length 4),(10, .sl 160 [] 0 inn.length 2),(11, .sl 176 [] 0 p.2.2.2.length 2)]) (fun p=> []) (fun p=> [(144,⟨.ex,4,dB p.2.1,none⟩),(160,⟨.ex,2,dI p.2.2.1,none⟩),(176,⟨.ex,2,dI p.2.2.2,none⟩)]) (fun p=>p.1≤inn.length∧At0 x inn.length inn goal p.1 p.2.1 p.2.2.1 p.2.2.2) (fun p=>inn.length - p.1) (0,List.replicate inn.length false,List.replicate inn.length 0,[]) ?_ ⟨by omega,At0.start inn.length inn goal⟩ ?_
 ·
  rw [show dI ([]:List Int)= []from rfl]
  skip
  exact θX
 ·rintro⟨v,out,left,queue⟩ ⟨hv,h0⟩ KL0 hL0
  dsimp only at hv h0
  push_cast [↓zK,↓zJ]
  refine zL fun K2 hK2=> ?_
  refine θA ?_
  refine θU (fun hc=> ?_) fun hc=> ?_
  ·
   refine zW (hK2 _ ?_)
   refine zL fun K3 hK3=> ?_
   refine zV ?_
   refine zL fun K4 hK4=> ?_
   have hl0:=h0.lo
   have hl1:=h0.ll
   have hl2:=h0.lq
   have hnx:=At0.next h0 (by omega)
   refine θA ?_
   refine θU (fun hc=> ?_) fun hc=> ?_
   ·
    refine zM zQ zN [] rfl ?_
    all_goals refine zj 6 fun K9 hK9=> ?_
    all_goals push_cast [↓zK,↓zJ]
    all_goals repeat'(first|(apply zO<;>(intro hg;(try push_cast at hg)))|(refine⟨_,hDg v (by omega),?_⟩;push_cast [↓zK,↓zJ])|apply And.intro|(intro hg;(try push_cast at hg)))
    all_goals first|exact gA|(exact zP (by omega))|skip
    all_goals(refine hK9 _ ?_;clear hK9 K9)
    all_goals push_cast [↓zK,↓zJ]
    all_goals repeat'(first|(apply zO<;>(intro hg;(try push_cast at hg)))|(refine⟨_,hDg v (by omega),?_⟩;push_cast [↓zK,↓zJ])|apply And.intro|(intro hg;(try push_cast at hg)))
    all_goals first|exact gA|(exact zP (by omega))|skip
    refine hK4 _ ?_
    refine zL fun K hK=> ?_
    refine zc false zQ zN ?_ rfl ?_
    ·kernel_rfl
    all_goals push_cast [↓zK,↓zJ]
    all_goals repeat'(first|(apply zO<;>(intro hg;(try simp only [push_cast]at hg)))|apply And.intro|(intro hg;(try simp only [push_cast]at hg)))
    all_goals first|exact gA|(exact zFV (b:=gb inn v) (by with_reducible assumption) (by with_reducible assumption))|(exact zP (by omega))|skip
    all_goals(refine hK _ ?_;clear hK K)
    all_goals refine zU rfl (fun hc=> ?_) (fun hc=> ?_)
    all_goals(first|(cases hc;done)|skip)
    all_goals(try simp only [push_cast]at hc)
    all_goals first
     |(
       refine zW (hK3 _ ?_)
       refine θB ?_
       refine hL0 _ ⟨(v+1,out,left.set v (wR x inn v),queue),⟨by dsimp only;omega,hnx.2.1 (by with_reducible assumption) (by with_reducible assumption)⟩,by dsimp only;omega,?_⟩
       skip
       exact θX
       done)
     |(
       refine θA ?_
       refine θB ?_
       refine hK3 _ ?_
       refine θB ?_
       refine hL0 _ ⟨(v+1,out.set v true,left.set v (wR x inn v),queue++ [(v:Int)]),⟨by dsimp only;omega,hnx.2.2 (by with_reducible assumption) (by with_reducible assumption)⟩,by dsimp only;omega,?_⟩
       (try rw [List.take_of_length_le (l:=queue) (by omega)])
       simp only [List.length_append,List.length_cons,List.length_nil,Nat.zero_add]
       exact θX
       done)
   ·
    refine zW (hK4 _ ?_)
    refine zL fun K hK=> ?_
    refine zc false zQ zN ?_ rfl ?_
    ·kernel_rfl
    all_goals push_cast [↓zK,↓zJ]
    all_goals repeat'(first|(apply zO<;>(intro hg;(try simp only [push_cast]at hg)))|apply And.intro|(intro hg;(try simp only [push_cast]at hg)))
    all_goals first|exact gA|(exact zFV (b:=gb inn v) (by with_reducible assumption) (by with_reducible assumption))|(exact zP (by omega))|skip
    all_goals(refine hK _ ?_;clear hK K)
    all_goals refine zU rfl (fun hc=> ?_) (fun hc=> ?_)
    all_goals(first|(cases hc;done)|skip)
    all_goals(try simp only [push_cast]at hc)
    all_goals first
     |(
       refine zW (hK3 _ ?_)
       refine θB ?_
       refine hL0 _ ⟨(v+1,out,left,queue),⟨by dsimp only;omega,hnx.1 (by with_reducible assumption)⟩,by dsimp only;omega,?_⟩
       skip
       exact θX
       done)
     |(
       refine θA ?_
       refine θB ?_
       refine hK3 _ ?_
       refine θB ?_
       refine hL0 _ ⟨(v+1,out,left,queue),⟨by dsimp only;omega,hnx.1 (by with_reducible assumption)⟩,by dsimp only;omega,?_⟩
       skip
       exact θX
       done)
  ·
   refine zi ?_
   have hkk:v=inn.length:=by omega
   subst hkk
   have hA0:=h0.inv (who:=who) hx
   refine hK1 _ ?_
   refine zL fun K5 hK5=> ?_
   refine θA ?_
   refine zV ?_
   refine zh [11,13,14,15,16,45,58,59,60,61,62,63,64,65,66,67,68,69,70,71,72,73,74,75,76,77,78,79,80,81,82,83,84,85,86,87,88,89,90,91,92,93,94,95,96,97,98,99,100,101,102,103,104,105,106,107,108,109,110,111,112,113,114,115,116,117,118,119,120,121,122,123,124,125,126,127,128,129,130] [144,160,176] (fun(p:Nat×List Bool×List Int×List Int)=> [(13, .int .i64 p.1),(9, .sl 144 [] 0 inn.length 4),(10, .sl 160 [] 0 inn.length 2),(11, .sl 176 [] 0 p.2.2.2.length 2)]) (fun p=> []) (fun p=> [(144,⟨.ex,4,dB p.2.1,none⟩),(160,⟨.ex,2,dI p.2.2.1,none⟩),(176,⟨.ex,2,dI p.2.2.2,none⟩)]) (fun p=>p.1≤p.2.2.2.length∧AtI x inn.length inn who goal p.2.1 p.2.2.1 p.2.2.2 (fun _ u=>zr (p.2.2.2.take p.1) u)) (fun p=>inn.length - p.1) (0,out,left,queue) ?_ ⟨by dsimp only;omega,hA0⟩ ?_
   ·
    exact θX
   ·rintro⟨i,out,left,queue⟩ ⟨hv,hA⟩ KL1 hL1
    dsimp only at hv hA
    push_cast [↓zK,↓zJ]
    refine zL fun K6 hK6=> ?_
    have hl0:=hA.lo
    have hl1:=hA.ll
    have hql:=hA.qle
    refine θA ?_
    refine θU (fun hc=> ?_) fun hc=> ?_
    ·
     refine zW (hK6 _ ?_)
     refine zL fun K7 hK7=> ?_
     refine zV ?_
     have hqi:=hA.qin (i:=i) (by omega)
     skip
     refine θA ?_
     refine θA ?_
     refine zV ?_
     obtain⟨qi,hqi0⟩: ∃qi,queue.take i=qi:=⟨_,rfl⟩
     obtain⟨u0,hu0⟩: ∃u0,gi queue i=u0:=⟨_,rfl⟩
     rw [hu0]
     rw [hu0]at hqi
     have hAb:=zCU hA
     rw [hu0,hqi0]at hAb
     refine zh [11,15,16,45,59,64,66,68,69,70,71,72,73,74,75,76,77,78,79,80,81,82,83,84,85,86,87,88,89,90,91,92,93,94,95,96,97,98,99,100,101,102,103,104,105,106,107,108,109,110,111,112,113,114,115,116,117,118,119,120,121,122,123,124,125,126,127,128,129,130] [144,160,176] (fun(p:Nat×List Bool×List Int×List Int)=> [(15, .int .i64 p.1),(9, .sl 144 [] 0 inn.length 4),(10, .sl 160 [] 0 inn.length 2),(11, .sl 176 [] 0 p.2.2.2.length 2)]) (fun p=> []) (fun p=> [(144,⟨.ex,4,dB p.2.1,none⟩),(160,⟨.ex,2,dI p.2.2.1,none⟩),(176,⟨.ex,2,dI p.2.2.2,none⟩)]) (fun p=>p.1≤(gl x.prev u0.toNat).length∧AtI x inn.length inn who goal p.2.1 p.2.2.1 p.2.2.2 (PK x qi u0 p.1)∧p.2.2.2.take i=qi∧gi p.2.2.2 i=u0∧i<p.2.2.2.length) (fun p=>(gl x.prev u0.toNat).length - p.1) (0,out,left,queue) ?_ ⟨by dsimp only;omega,hAb,hqi0,hu0,by dsimp only;omega⟩ ?_
     ·
      exact θX
     ·rintro⟨k,out,left,queue⟩ ⟨hk,hA2,hq2,hu2,hil⟩ KL2 hL2
      dsimp only at hk hA2 hq2 hu2 hil
      push_cast [↓zK,↓zJ]
      refine zL fun K8 hK8=> ?_
      have hl0:=hA2.lo
      have hl1:=hA2.ll
      have hql:=hA2.qle
      have hpl:=hx.dpv u0.toNat (by omega)
      refine θA ?_
      refine θU (fun hc=> ?_) fun hc=> ?_
      ·
       refine zW (hK8 _ ?_)
       refine zL fun K9 hK9=> ?_
       refine zV ?_
       refine θA ?_
       refine zL fun K10 hK10=> ?_
       have hp1:=hx.pin u0.toNat (by omega) k (by omega)
       have hqi2:=hA2.qin (i:=i) hil
       rw [hu2]at hqi2
       have hps:=fun v u=>PK_s (x:=x) (qi:=qi) (u0:=u0) (k:=k) (by omega) (by omega) v u
       refine zL fun K hK=> ?_
       refine zc false zQ zN ?_ rfl ?_
       ·kernel_rfl
       all_goals refine zm 16 fun K9 hK9=> ?_
       all_goals push_cast [↓zK,↓zJ]
       all_goals repeat'(first|(apply zO<;>(intro hg;(try push_cast at hg)))|(refine⟨_,hEd (gi (gl x.prev u0.toNat) k) u0 (by omega),?_⟩;push_cast [↓zK,↓zJ])|apply And.intro|(intro hg;(try push_cast at hg)))
       all_goals first|exact gA|(exact zP (by omega))|skip
       all_goals(refine hK9 _ ?_;clear hK9 K9)
       all_goals push_cast [↓zK,↓zJ]
       all_goals repeat'(first|(apply zO<;>(intro hg;(try push_cast at hg)))|(refine⟨_,hEd (gi (gl x.prev u0.toNat) k) u0 (by omega),?_⟩;push_cast [↓zK,↓zJ])|apply And.intro|(intro hg;(try push_cast at hg)))
       all_goals first|exact gA|(exact zP (by omega))|skip
       all_goals(refine hK _ ?_;clear hK K)
       all_goals refine zU rfl (fun hc=> ?_) (fun hc=> ?_)
       all_goals(first|(cases hc;done)|skip)
       all_goals(try simp only [push_cast]at hc)
       all_goals first
        |(
          refine zW (hK10 _ ?_)
          have hlb:0≤gi left (gi (gl x.prev u0.toNat) k).toNat∧gi left (gi (gl x.prev u0.toNat) k).toNat≤256:=by rw [hA2.cnt (gi (gl x.prev u0.toNat) k).toNat (by omega) (by with_reducible assumption) (by with_reducible assumption)];have h5:=jJ x inn (gi (gl x.prev u0.toNat) k).toNat (PK x qi u0 k (gi (gl x.prev u0.toNat) k).toNat) (gl x.next (gi (gl x.prev u0.toNat) k).toNat).length;have h6:=hx.deg (gi (gl x.prev u0.toNat) k).toNat (by omega);omega
          have hset:gi (left.set (gi (gl x.prev u0.toNat) k).toNat (gi left (gi (gl x.prev u0.toNat) k).toNat - 1)) (gi (gl x.prev u0.toNat) k).toNat=gi left (gi (gl x.prev u0.toNat) k).toNat - 1:=by rw [qp (by omega),if_pos rfl]
          have hst:=AtI.step hx hA2 (v0:=(gi (gl x.prev u0.toNat) k).toNat) (by omega) (u0:=u0) hqi2.1 hqi2.2.1 hqi2.2.2 (by with_reducible assumption) (by with_reducible assumption) (by rw [Int.toNat_of_nonneg hp1.1.1];with_reducible assumption) (by obtain⟨j9,a9,b9⟩:=hp1.2;exact⟨j9,a9,by rw [b9];omega⟩) (by have h8:=zHT hx hA2 hil (k:=k) (by rw [hu2];omega);rw [hu2,hq2]at h8;exact h8) hps
          have hta: ∀y:Int,(queue++ [y]).take i=qi:=fun y=>by rw [List.take_append_of_le_length (by omega)];exact hq2
          have htg: ∀y:Int,gi (queue++ [y]) i=u0:=fun y=>by rw [WH hil];exact hu2
          refine θA ?_
          refine zL fun K hK=> ?_
          refine zc false zQ zN ?_ rfl ?_
          ·kernel_rfl
          all_goals push_cast [↓zK,↓zJ]
          all_goals repeat'(first|(apply zO<;>(intro hg;(try simp only [push_cast]at hg)))|apply And.intro|(intro hg;(try simp only [push_cast]at hg)))
          all_goals first|exact gA|(rw [List.length_set];omega)|(exact zP (by omega))|skip
          all_goals(refine hK _ ?_;clear hK K)
          all_goals refine zU rfl (fun hc=> ?_) (fun hc=> ?_)
          all_goals(first|(cases hc;done)|skip)
          all_goals(try simp only [push_cast]at hc)
          all_goals first
           |(
             refine zW ?_
             refine hK9 _ ?_
             refine zM zQ zN [] rfl ?_
             all_goals push_cast [↓zK,↓zJ]
             all_goals repeat'(first|(apply zO<;>(intro hg;(try simp only [push_cast]at hg)))|apply And.intro|(intro hg;(try simp only [push_cast]at hg)))
             all_goals first|exact gA|(exact zP (by omega))|skip
             refine hL2 _ ⟨(k+1,out,left.set (gi (gl x.prev u0.toNat) k).toNat (gi left (gi (gl x.prev u0.toNat) k).toNat - 1),queue),⟨by dsimp only;omega,hst.1 (by omega),hq2,hu2,hil⟩,by dsimp only;omega,?_⟩
             skip
             refine zX rfl ?_ ?_ ?_<;>push_cast [zf,ze,↓zK,↓zJ]
             done)
           |(
             refine zL fun K hK=> ?_
             refine zM zQ zN [] rfl ?_
             all_goals push_cast [↓zK,↓zJ]
             all_goals repeat'(first|(apply zO<;>(intro hg;(try simp only [push_cast]at hg)))|apply And.intro|(intro hg;(try simp only [push_cast]at hg)))
             all_goals first|exact gA|(exact zP (by omega))|skip
             all_goals(refine hK _ ?_;clear hK K)
             refine zM zQ zN [] rfl ?_
             all_goals push_cast [↓zK,↓zJ]
             all_goals repeat'(first|(apply zO<;>(intro hg;(try simp only [push_cast]at hg)))|apply And.intro|(intro hg;(try simp only [push_cast]at hg)))
             all_goals first|exact gA|(exact zP (by omega))|skip
             refine hK9 _ ?_
             refine zM zQ zN [] rfl ?_
             all_goals push_cast [↓zK,↓zJ]
             all_goals repeat'(first|(apply zO<;>(intro hg;(try simp only [push_cast]at hg)))|apply And.intro|(intro hg;(try simp only [push_cast]at hg)))
             all_goals first|exact gA|(exact zP (by omega))|skip
             refine hL2 _ ⟨(k+1,out.set (gi (gl x.prev u0.toNat) k).toNat true,left.set (gi (gl x.prev u0.toNat) k).toNat (gi left (gi (gl x.prev u0.toNat) k).toNat - 1),queue++ [gi (gl x.prev u0.toNat) k]),⟨by dsimp only;omega,(by have h8:=hst.2 (by omega);rw [Int.toNat_of_nonneg hp1.1.1]at h8;exact h8),hta _,htg _,by simp only [List.length_append];omega⟩,by dsimp only;omega,?_⟩
             (try rw [List.take_of_length_le (l:=queue) (by omega)])
             simp only [List.length_append,List.length_cons,List.length_nil,Nat.zero_add]
             refine zX rfl ?_ ?_ ?_<;>push_cast [zf,ze,↓zK,↓zJ]
             done)
          done)
        |(
          refine zi ?_
          refine hK9 _ ?_
          refine θB ?_
          refine hL2 _ ⟨(k+1,out,left,queue),⟨by dsimp only;omega,hA2.skip (v0:=(gi (gl x.prev u0.toNat) k).toNat) (by omega) hqi2.2.1 (by first|exact .inl (by with_reducible assumption)|exact .inr (.inl (by with_reducible assumption))|exact .inr (.inr (by rw [Int.toNat_of_nonneg hp1.1.1];with_reducible assumption))) hps,hq2,hu2,hil⟩,by dsimp only;omega,?_⟩
          skip
          exact θX
          done)
      ·
       refine zi (hK7 _ ?_)
       refine θB ?_
       refine hL1 _ ⟨(i+1,out,left,queue),⟨by dsimp only;omega,zHS hx hil hq2 hu2 (by omega) hA2⟩,by dsimp only;omega,?_⟩
       exact θX
    ·
     refine zi ?_
     have hie:i=queue.length:=by omega
     subst hie
     have hfin:=AtI.end' hx hA
     rw [hR]at hfin
     refine hK5 _ ?_
     refine θA ?_
     refine zY ⟨Or.inl rfl,?_⟩
     push_cast [zd,↓zK,↓zJ]
     rw [hfin]
     all_goals first|rfl|exact⟨rfl,hatl⟩|exact⟨rfl,hatl.symm⟩|exact hatl.symm|(simp;done)
end Go.Proofs.YthepmdkpbjfdcaaGreat
