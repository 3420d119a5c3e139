/- the means, by long plays and rounding: both sides -/
import Derived.Test.YtdbecmmeifdafaaB15zbr
import Derived.Test.YtdbecmmeifdafaaGKzbr
import Derived.Test.YtdbecmmeifdafaaB11zbr
import Derived.Test.YtdbecmmeifdafaaB12zbr
import Derived.Test.YtdbecmmeifdafaaB6zbr
import Derived.Test.YtdbecmmeifdafaaB7zbr
import Derived.Test.YtdbecmmeifdafaaB14zbr
namespace Go.Proofs.Ytdbecmmeifdafaa
open Go.RowKit
set_option linter.unusedVariables false
set_option linter.unusedSimpArgs false
open MV (Gm)
def jA :Int→List Int→Int
 |m,[]=>m
 |m,c::r=>jA (if(c.natAbs:Int)>m then(c.natAbs:Int)else m) r
def Yo :Int→List (List Int)→Int
 |m,[]=>m
 |m,r::rs=>Yo (jA m r) rs
theorem km {B:Int}: ∀{r:List Int} {m:Int},jA m r≤B↔m≤B∧∀x∈r,(x.natAbs:Int)≤B
 | [],m=>by simp [jA]
 |c::r,m=>by
  unfold jA
  rw [km (r:=r)]
  simp only [List.mem_cons,forall_eq_or_imp]
  split<;>constructor<;>intro h<;>refine⟨by omega,?_⟩<;>first|exact⟨by omega,h.2⟩|exact h.2.2
theorem Xn {B:Int}: ∀{rs:List (List Int)} {m:Int},Yo m rs≤B↔m≤B∧∀r∈rs,∀x∈r,(x.natAbs:Int)≤B
 | [],m=>by simp [Yo]
 |c::r,m=>by
  unfold Yo
  rw [Xn (rs:=r),km]
  simp only [List.mem_cons,forall_eq_or_imp]
  constructor
  ·rintro⟨⟨h1,h2⟩,h3⟩;exact⟨h1,h2,h3⟩
  ·rintro⟨h1,h2,h3⟩;exact⟨⟨h1,h2⟩,h3⟩
def Xo (w:Wt):Int:=Yo 1 w.cost
def gmW (w:Wt):Gm:=⟨fun v=>decide (gi w.a.owner v=0),fun v=>(gl w.a.next v).length,fun v j=>(gi (gl w.a.next v) j).toNat,fun v j=>gi (gl w.cost v) j⟩
structure WMn (w:Wt):Prop where
 sh:WSh w
 n8:w.a.owner.length≤8
 c1: ∀v,v<w.a.owner.length→∀j,j<(gl w.a.next v).length→ -1000≤gi (gl w.cost v) j∧gi (gl w.cost v) j≤1000
theorem WMn.most {w:Wt}(h:WMn w)(k:Nat):1≤Yo 1 (w.cost.take k)∧Yo 1 (w.cost.take k)≤1000:=by
 constructor
 ·exact(Xn.1 (Int.le_refl (Yo 1 (w.cost.take k)))).1
 ·refine Xn.2 ⟨by omega,fun r hr x hx=> ?_⟩
  obtain⟨v,hv,rfl⟩:=zAg (List.mem_of_mem_take hr)
  obtain⟨j,hj,rfl⟩:=zFe hx
  have hv':v<w.a.owner.length:=by have :=h.sh.cl;omega
  have :=h.c1 v hv' j (by have :=(h.sh.row v hv').1;omega)
  omega
theorem WMn.game {w:Wt}(h:WMn w):(gmW w).Ok w.a.owner.length (Xo w):=by
 have key: ∀v,v<w.a.owner.length→∀j,j<(gl w.a.next v).length→((gi (gl w.cost v) j).natAbs:Int)≤Xo w:=fun v hv j hj=>by
  refine(Xn.1 (Int.le_refl (Yo 1 w.cost))).2 (gl w.cost v) (List.mem_of_getElem? (Wr (by have :=h.sh.cl;omega))) _ (List.mem_of_getElem? (vb (by have :=(h.sh.row v hv).1;omega)))
 refine⟨fun v hv=>(h.sh.row v hv).2.1,fun v hv j hj=> ?_,fun v hv j hj=> ?_,fun v hv j hj=> ?_⟩
 ·have :=h.sh.to v hv j hj
  show(gi (gl w.a.next v) j).toNat<_
  omega
 ·have :=key v hv j hj
  show -Xo w≤gi (gl w.cost v) j
  omega
 ·have :=key v hv j hj
  show gi (gl w.cost v) j≤Xo w
  omega
theorem zH0 {mx:Bool}{f:Nat→Int}{X:Int}: ∀{k:Nat},1≤k→(∀j,j<k→ -X≤f j∧f j≤X)→ -X≤MV.optB mx f k∧MV.optB mx f k≤X:=fun{k} hk h=>by
 obtain⟨j,hj,he⟩:=MV.optB_ex mx f k hk
 rw [he]
 exact h j hj
theorem WMn.pay {w:Wt}(h:WMn w): ∀(k v:Nat),v<w.a.owner.length→ -(k*Xo w)≤(gmW w).pay k v∧(gmW w).pay k v≤k*Xo w
 |0,v,hv=>by show -((0:Nat)*Xo w)≤0∧(0:Int)≤(0:Nat)*Xo w;simp
 |k+1,v,hv=>by
  have hg:=h.game
  refine zH0 (hg.deg v hv) fun j hj=> ?_
  have h1:=hg.lo v hv j hj
  have h2:=hg.hi v hv j hj
  have h3:=h.pay k _ (hg.to v hv j hj)
  simp only [Int.natCast_add,Int.natCast_one,Int.add_mul,Int.one_mul]
  omega
def qo (w:Wt)(v:Nat):Fr:=Uz ((gmW w).val w.a.owner.length v).1 ((gmW w).val w.a.owner.length v).2
structure NearM (x S n W p q:Int):Prop where
 n1:1≤n
 n8:n≤8
 w1:1≤W
 w2:W≤1000
 q1:1≤q
 q2:q≤n
 up:q*x≤S*p+2*((n - 1)*(q*W))
 lo:S*p - 2*((n - 1)*(q*W))≤q*x
def rndN (x S q:Int):Int:=(2*x*q+S) / (2*S)
def wt (x S q:Int):Int:=((x*q - rndN x S q*S).natAbs:Int)
structure Ws (x S q bn bd off:Int):Prop where
 first:q=1→bn=0∧bd=0∧off=0
 pos:q≠1→1≤bd∧bd<q∧bn=rndN x S bd∧off=wt x S bd∧∀k,1≤k→k<q→off*k≤wt x S k*bd
theorem Ws.take {x S q bn bd off:Int}(h:Ws x S q bn bd off)(hq:1≤q)(hc:bd=0∨wt x S q*bd<off*q):Ws x S (q+1) (rndN x S q) q (wt x S q):=by
 refine⟨fun h9=>by omega,fun _=>⟨hq,by omega,rfl,rfl,fun k h1 h2=> ?_⟩⟩
 rcases Int.lt_trichotomy k q with h3|h3|h3
 ·have hn1:q≠1:=by omega
  obtain⟨p1,p2,p3,p4,p5⟩:=h.pos hn1
  have hc':wt x S q*bd<off*q:=by
   rcases hc with h0|h0
   ·omega
   ·exact h0
  have h5:=p5 k h1 h3
  -- dst q / q<off / bd≤dst k / k
  have a1:(wt x S q*bd)*k≤(off*q)*k:=Int.mul_le_mul_of_nonneg_right (by omega) (by omega)
  have a2:(off*k)*q≤(wt x S k*bd)*q:=Int.mul_le_mul_of_nonneg_right h5 (by omega)
  have e1:(wt x S q*bd)*k=(wt x S q*k)*bd:=by ac_rfl
  have e2:(off*q)*k=(off*k)*q:=by ac_rfl
  have e3:(wt x S k*bd)*q=(wt x S k*q)*bd:=by ac_rfl
  rw [e1,e2]at a1
  rw [e3]at a2
  exact Int.le_of_mul_le_mul_right (Int.le_trans a1 a2) (by omega)
 ·subst h3;exact Int.le_refl _
 ·omega
theorem Ws.keep {x S q bn bd off:Int}(h:Ws x S q bn bd off)(hq:1≤q)(hc: ¬bd=0)(hc2: ¬wt x S q*bd<off*q):Ws x S (q+1) bn bd off:=by
 have hn1:q≠1:=fun e=>hc (h.first e).2.1
 obtain⟨p1,p2,p3,p4,p5⟩:=h.pos hn1
 refine⟨fun h9=>by omega,fun _=>⟨p1,by omega,p3,p4,fun k h1 h2=> ?_⟩⟩
 rcases Int.lt_or_le k q with h3|h3
 ·exact p5 k h1 h3
 ·have :k=q:=by omega
  subst this
  omega
namespace MV
open Go.RowKit
set_option linter.unusedVariables false
set_option linter.unusedSimpArgs false
def Gm.en (g:Gm):Nat→Nat→Int
 |0,_=>0
 |k+1,v=>optB (!g.mx v) (fun j=>max 0 (g.en k (g.to v j) - g.c v j)) (g.deg v)
theorem Gm.en_x {g:Gm}{v:Nat}(h:g.mx v=true)(hd:1≤g.deg v)(k:Nat):(∃j,j<g.deg v∧g.en (k+1) v=max 0 (g.en k (g.to v j) - g.c v j))∧∀j,j<g.deg v→g.en (k+1) v≤max 0 (g.en k (g.to v j) - g.c v j):=by
 have e:g.en (k+1) v=optB false (fun j=>max 0 (g.en k (g.to v j) - g.c v j)) (g.deg v):=by show optB (!g.mx v) _ _=_;rw [h];rfl
 rw [e]
 exact⟨optB_ex _ _ _ hd,fun j hj=>zBF _ _ j hj⟩
theorem Gm.en_n {g:Gm}{v:Nat}(h:g.mx v=false)(hd:1≤g.deg v)(k:Nat):(∃j,j<g.deg v∧g.en (k+1) v=max 0 (g.en k (g.to v j) - g.c v j))∧∀j,j<g.deg v→max 0 (g.en k (g.to v j) - g.c v j)≤g.en (k+1) v:=by
 have e:g.en (k+1) v=optB true (fun j=>max 0 (g.en k (g.to v j) - g.c v j)) (g.deg v):=by show optB (!g.mx v) _ _=_;rw [h];rfl
 rw [e]
 exact⟨optB_ex _ _ _ hd,fun j hj=>XE _ _ j hj⟩
theorem Gm.pay_x {g:Gm}{v:Nat}(h:g.mx v=true)(hd:1≤g.deg v)(k:Nat):(∃j,j<g.deg v∧g.pay (k+1) v=g.c v j+g.pay k (g.to v j))∧∀j,j<g.deg v→g.c v j+g.pay k (g.to v j)≤g.pay (k+1) v:=by
 have e:g.pay (k+1) v=optB true (fun j=>g.c v j+g.pay k (g.to v j)) (g.deg v):=by show optB (g.mx v) _ _=_;rw [h]
 rw [e]
 exact⟨optB_ex _ _ _ hd,fun j hj=>XE (fun j=>g.c v j+g.pay k (g.to v j)) _ j hj⟩
theorem Gm.pay_n {g:Gm}{v:Nat}(h:g.mx v=false)(hd:1≤g.deg v)(k:Nat):(∃j,j<g.deg v∧g.pay (k+1) v=g.c v j+g.pay k (g.to v j))∧∀j,j<g.deg v→g.pay (k+1) v≤g.c v j+g.pay k (g.to v j):=by
 have e:g.pay (k+1) v=optB false (fun j=>g.c v j+g.pay k (g.to v j)) (g.deg v):=by show optB (g.mx v) _ _=_;rw [h]
 rw [e]
 exact⟨optB_ex _ _ _ hd,fun j hj=>zBF (fun j=>g.c v j+g.pay k (g.to v j)) _ j hj⟩
theorem Gm.en_mono {g:Gm}{n:Nat}{W:Int}(hg:g.Ok n W): ∀k v,v<n→0≤g.en k v∧g.en k v≤g.en (k+1) v
 |0,v,hv=>by
  have hd:=hg.deg v hv
  refine⟨Int.le_refl _,?_⟩
  show(0:Int)≤_
  cases h:g.mx v
  ·obtain⟨j,hj,e⟩:=(Gm.en_n h hd 0).1;rw [e];omega
  ·obtain⟨j,hj,e⟩:=(Gm.en_x h hd 0).1;rw [e];omega
 |k+1,v,hv=>by
  have hd:=hg.deg v hv
  have ih:=Gm.en_mono hg k
  cases h:g.mx v
  ·obtain⟨j,hj,e⟩:=(Gm.en_n h hd k).1
   have h2:=(Gm.en_n h hd (k+1)).2 j hj
   have h3:=ih _ (hg.to v hv j hj)
   omega
  ·obtain⟨j,hj,e⟩:=(Gm.en_x h hd (k+1)).1
   have h2:=(Gm.en_x h hd k).2 j hj
   have h3:=ih _ (hg.to v hv j hj)
   obtain⟨i,hi,e'⟩:=(Gm.en_x h hd k).1
   omega
theorem Gm.en_le {g:Gm}{n:Nat}{W:Int}(hg:g.Ok n W){v:Nat}(hv:v<n){i:Nat}: ∀k,i≤k→g.en i v≤g.en k v
 |0,h=>by rw [show i=0 by omega];exact Int.le_refl _
 |k+1,h=>by
  rcases Nat.lt_or_ge i (k+1)with h1|h1
  ·exact Int.le_trans (Gm.en_le hg hv k (by omega)) (Gm.en_mono hg k v hv).2
  ·rw [show i=k+1 by omega];exact Int.le_refl _
theorem Gm.phase {g:Gm}{n:Nat}{W:Int}(hg:g.Ok n W)(hW:0≤W){M:Int}(hM:0≤M){U:Nat→Prop}(hU: ∀v,v<n→¬U v→∀j,g.en j v≤M){K:Nat}(hK: ∀v,v<n→U v→M+W+1<g.en K v):
  ∀k u,u<n→U u→∀m:Nat,m*K≤k→g.pay k u≤K*W - m:=by
 intro k
 induction k using Nat.strongRecOn with
 |ind k ih=>
  have Q: ∀j,j≤K→∀k',k'≤k→∀u x,u<n→M+W+1≤x→x≤M+W+1+((K - j:Nat):Int)*W→x<g.en j u→∀m:Nat,m*K≤k'+(K - j)→g.pay k' u≤K*W - m+(M+W+1 - x):=by
   intro j
   induction j with
   |zero=>intro _ k' _ u x _ h1 _ h2;exact absurd h2 (by show¬x<0;omega)
   |succ j ihj=>
    intro hjK k' hk' u x hu h1 h2 h3 m hm
    cases k' with
    |zero=>
     have hm0:m=0:=by
      rcases Nat.eq_zero_or_pos m with h|h
      ·exact h
      ·have :1*K≤m*K:=Nat.mul_le_mul_right K h
       omega
     subst hm0
     have :((K - (j+1):Nat):Int)*W≤(K:Int)*W:=Int.mul_le_mul_of_nonneg_right (by omega) hW
     show(0:Int)≤_
     omega
    |succ k'=>
     have hd:=hg.deg u hu
     have hedge: ∃i,i<g.deg u∧g.pay (k'+1) u≤g.c u i+g.pay k' (g.to u i)∧x+g.c u i<g.en j (g.to u i):=by
      cases hx:g.mx u
      ·obtain⟨i,hi,e⟩:=(Gm.en_n hx hd j).1
       exact⟨i,hi,(Gm.pay_n hx hd k').2 i hi,by omega⟩
      ·obtain⟨i,hi,e⟩:=(Gm.pay_x hx hd k').1
       have :=(Gm.en_x hx hd j).2 i hi
       exact⟨i,hi,by omega,by omega⟩
     obtain⟨i,hi,hp,hx⟩:=hedge
     have hlo:=hg.lo u hu i hi
     have hhi:=hg.hi u hu i hi
     have ht:=hg.to u hu i hi
     have hW1:((K - j:Nat):Int)*W=((K - (j+1):Nat):Int)*W+W:=by
      rw [show((K - j:Nat):Int)=((K - (j+1):Nat):Int)+1 by omega,Int.add_mul,Int.one_mul]
     rcases Int.lt_or_le (x+g.c u i) (M+W+1)with h4|h4
     ·have hUt:U (g.to u i):=Classical.byContradiction fun hn=>by
       have :=hU _ ht hn j
       omega
      cases m with
      |zero=>
       have :=ih k' (by omega) _ ht hUt 0 (by omega)
       omega
      |succ m=>
       have e:(m+1)*K=m*K+K:=Nat.succ_mul m K
       have :=ih k' (by omega) _ ht hUt m (by omega)
       omega
     ·have :=ihj (by omega) k' (by omega) (g.to u i) (x+g.c u i) ht h4 (by omega) hx m (by omega)
      omega
  intro u hu hUu m hm
  have :=Q K (Nat.le_refl _) k (Nat.le_refl _) u (M+W+1) hu (Int.le_refl _) (by rw [Nat.sub_self];simp) (hK u hu hUu) m (by omega)
  omega
theorem uw (E:Nat→Nat→Int): ∀n,∃M:Int,0≤M∧∀v,v<n→(∀j,E j v≤M)∨∀X,∃j,X<E j v
 |0=>⟨0,Int.le_refl _,fun v hv=>absurd hv (Nat.not_lt_zero v)⟩
 |n+1=>by
  obtain⟨M,h0,h⟩:=uw E n
  by_cases hb: ∃X,∀j,E j n≤X
  ·obtain⟨X,hX⟩:=hb
   refine⟨max M X,by omega,fun v hv=> ?_⟩
   rcases Nat.lt_or_ge v n with h1|h1
   ·rcases h v h1 with h2|h2
    ·exact .inl fun j=>by have :=h2 j;omega
    ·exact .inr h2
   ·left;intro j;rw [show v=n by omega];have :=hX j;omega
  ·refine⟨M,h0,fun v hv=> ?_⟩
   rcases Nat.lt_or_ge v n with h1|h1
   ·exact h v h1
   ·right
    intro X
    rw [show v=n by omega]
    exact Classical.byContradiction fun hn=>hb ⟨X,fun j=>by
     rcases Int.lt_or_le X (E j n)with h2|h2
     ·exact absurd ⟨j,h2⟩ hn
     ·exact h2⟩
theorem zA6 {E:Nat→Nat→Int}(X:Int): ∀n,(∀v,v<n→∀i k,i≤k→E i v≤E k v)→∃K,∀v,v<n→(∀X,∃j,X<E j v)→X<E K v
 |0,_=>⟨0,fun v hv=>absurd hv (Nat.not_lt_zero v)⟩
 |n+1,hm=>by
  obtain⟨K,h⟩:=zA6 X n fun v hv=>hm v (by omega)
  by_cases hb: ∀X,∃j,X<E j n
  ·obtain⟨j,hj⟩:=hb X
   refine⟨max K j,fun v hv hX=> ?_⟩
   rcases Nat.lt_or_ge v n with h1|h1
   ·exact Int.lt_of_lt_of_le (h v h1 hX) (hm v hv K _ (by omega))
   ·rw [show v=n by omega]
    exact Int.lt_of_lt_of_le hj (hm n (by omega) j _ (by omega))
  ·refine⟨K,fun v hv hX=> ?_⟩
   rcases Nat.lt_or_ge v n with h1|h1
   ·exact h v h1 hX
   ·exact absurd (by rw [show v=n by omega]at hX;exact hX) hb
theorem ur {E:Nat→Int}(hm: ∀i k,i≤k→E i≤E k){M:Int}(hM: ∀j,E j≤M): ∀(m J0:Nat),M - E J0≤m→∃J,J0≤J∧∀j,J≤j→E j=E J
 |0,J0,h=>⟨J0,Nat.le_refl _,fun j hj=>by have :=hm J0 j hj;have :=hM j;omega⟩
 |m+1,J0,h=>by
  by_cases hc: ∀j,J0≤j→E j=E J0
  ·exact⟨J0,Nat.le_refl _,hc⟩
  ·obtain⟨j,hj⟩:=Classical.not_forall.1 hc
   obtain⟨h1,h2⟩:=Classical.not_imp.1 hj
   have h3:=hm J0 j h1
   obtain⟨J,a,b⟩:=ur hm hM m j (by omega)
   exact⟨J,by omega,b⟩
theorem zAu {E:Nat→Nat→Int}{M:Int}: ∀n J0,(∀v,v<n→∀i k,i≤k→E i v≤E k v)→∃J,J0≤J∧∀v,v<n→(∀j,E j v≤M)→∀j,J≤j→E j v=E J v
 |0,J0,_=>⟨J0,Nat.le_refl _,fun v hv=>absurd hv (Nat.not_lt_zero v)⟩
 |n+1,J0,hm=>by
  obtain⟨J,a,b⟩:=zAu (M:=M) n J0 fun v hv=>hm v (by omega)
  by_cases hb: ∀j,E j n≤M
  ·obtain⟨J',a',b'⟩:=ur (hm n (by omega)) hb (M - E J n).toNat J (by omega)
   refine⟨J',by omega,fun v hv hM j hj=> ?_⟩
   rcases Nat.lt_or_ge v n with h1|h1
   ·rw [b v h1 hM j (by omega),b v h1 hM J' (by omega)]
   ·rw [show v=n by omega];exact b' j hj
  ·refine⟨J,a,fun v hv hM j hj=> ?_⟩
   rcases Nat.lt_or_ge v n with h1|h1
   ·exact b v h1 hM j hj
   ·exact absurd (by rw [show v=n by omega]at hM;exact hM) hb
end MV
open Go.RowKit MV
theorem YD {w:Wt}(hw:WSh w):(gmW w).Ok w.a.owner.length 20000:=
 ⟨fun v hv=>(hw.row v hv).2.1,fun v hv j hj=>by have :=hw.to v hv j hj;show(gi (gl w.a.next v) j).toNat<_;omega,fun v hv j hj=>(hw.bd v hv j hj).1,fun v hv j hj=>(hw.bd v hv j hj).2⟩
theorem zEr {w:Wt}{v:Nat}(h:gi w.a.owner v=0):(gmW w).mx v=true:=decide_eq_true h
theorem zEl {w:Wt}{v:Nat}(h:gi w.a.owner v=1):(gmW w).mx v=false:=decide_eq_false (by omega)
theorem kU {w:Wt}(hw:WSh w){b:Int}(hb:0≤b){c:List Int}(hL:xJ w b c): ∀k v,v<w.a.owner.length→gi c v≤b→ -gi c v≤(gmW w).pay k v
 |0,v,hv,h=>by have :=(hL.rg v hv).1;show _≤(0:Int);omega
 |k+1,v,hv,h=>by
  have hr:=hL.rg v hv
  have hd:=(YD hw).deg v hv
  have hs:=(wO hw hb hv hr.1 h).1 (hL.pre v hv)
  rcases hw.own v hv with e|e
  ·obtain⟨j,hj,e1,e2⟩:=hs.1 e
   have ih:=kU hw hb hL k _ ((YD hw).to v hv j hj) e1
   have h2:=(Gm.pay_x (zEr e) hd k).2 j hj
   have e3:gi c ((gmW w).to v j) - (gmW w).c v j≤gi c v:=e2
   omega
  ·obtain⟨j,hj,e3⟩:=(Gm.pay_n (zEl e) hd k).1
   obtain⟨e1,e2⟩:=hs.2 e j hj
   have ih:=kU hw hb hL k _ ((YD hw).to v hv j hj) e1
   have e4:gi c ((gmW w).to v j) - (gmW w).c v j≤gi c v:=e2
   omega
theorem zDS {w:Wt}(hw:WSh w){b:Int}(hb:zk w≤b){c:List Int}(hL:xJ w b c){v:Nat}(hv:v<w.a.owner.length){M0:Int}(h: ∀k,-M0≤(gmW w).pay k v):gi c v≤b:=by
 have hg:=YD hw
 have hb0:=hw.bound.1
 obtain⟨M,hM,hdi⟩:=uw (gmW w).en w.a.owner.length
 have hmono: ∀v,v<w.a.owner.length→∀i k,i≤k→(gmW w).en i v≤(gmW w).en k v:=fun v hv i k hik=>Gm.en_le hg hv k hik
 obtain⟨K,hK⟩:=zA6 (M+20000+1) w.a.owner.length hmono
 obtain⟨J,hJK,hJ⟩:=zAu (M:=M) w.a.owner.length K hmono
 have hvb: ∀j,(gmW w).en j v≤M:=by
  rcases hdi v hv with h1|h1
  ·exact h1
  ·exfalso
   have hp:=Gm.phase hg (by decide) hM (U:=fun v=> ∀X,∃j,X<(gmW w).en j v) (fun u hu hn=>(hdi u hu).resolve_right hn) hK
   have h2:=hp ((K*20000+M0+1).toNat*K) v hv h1 _ (Nat.le_refl _)
   have h3:=h ((K*20000+M0+1).toNat*K)
   omega
 have hfin: ∀u,u<w.a.owner.length→(gmW w).en J u≤M+20000→∀j,(gmW w).en j u≤M:=fun u hu h1=>by
  rcases hdi u hu with h2|h2
  ·exact h2
  ·have :=hK u hu h2
   have :=hmono u hu K J hJK
   omega
 have hbb:0≤max M (zk w):=by omega
 obtain⟨c2,L2⟩:=KC hw hbb
 generalize hB:max M (zk w)=B at hbb L2
 have hBM:M≤B:=by omega
 have hBb:zk w≤B:=by omega
 let d:=Ju w.a.owner.length fun u=>if(gmW w).en J u≤M then(gmW w).en J u else B+1
 have hd: ∀u,u<w.a.owner.length→gi d u=if(gmW w).en J u≤M then(gmW w).en J u else B+1:=fun u hu=>kP hu
 have hpre:PreC w B d:=by
  refine⟨KD _ _,fun u hu=> ?_,fun u hu=> ?_⟩
  ·have :=(Gm.en_mono hg J u hu).1
   rw [hd u hu]
   split<;>omega
  ·rw [hd u hu]
   split
   ·rename_i e
    have h0:=(Gm.en_mono hg J u hu).1
    have hs:(gmW w).en (J+1) u=(gmW w).en J u:=hJ u hu (hfin u hu (by omega)) (J+1) (by omega)
    have hdg:=hg.deg u hu
    have hed: ∀j,j<(gl w.a.next u).length→(gmW w).en J ((gmW w).to u j) - (gmW w).c u j≤(gmW w).en J u→Ed w B d u j ((gmW w).en J u):=fun j hj he=>by
     have ht:=hg.to u hu j hj
     have hc:=hg.hi u hu j hj
     have hf:=hfin _ ht (by omega) J
     have e5:gi d (toE w u j)=(gmW w).en J ((gmW w).to u j):=by
      show gi d ((gmW w).to u j)=_
      rw [hd _ ht,if_pos hf]
     unfold Ed
     rw [e5]
     exact⟨by omega,he⟩
    refine(wO hw hbb hu h0 (by omega)).2 ⟨fun e1=> ?_,fun e1 j hj=> ?_⟩
    ·obtain⟨j,hj,e2⟩:=(Gm.en_x (zEr e1) hdg J).1
     exact⟨j,hj,hed j hj (by omega)⟩
    ·have :=(Gm.en_n (zEl e1) hdg J).2 j hj
     exact hed j hj (by omega)
   ·exact(wE hw hbb hu).2
 have h4:=L2.low d hpre v hv
 rw [hd v hv,if_pos (hvb J)]at h4
 have h5:=zEc hw hb hBb hL L2 hv
 have h6:=hvb J
 have h7:=(L2.rg v hv).1
 unfold yL at h5
 split at h5<;>split at h5<;>omega
def VZ (f:Fr):Bool:=decide ((-1000000≤f.num∧f.num≤1000000)∧(1≤f.den∧f.den≤1000000)∧(Int.gcd f.num f.den:Int)=1)
theorem zJg {w:Wt}(h:vz w=true):WMn w:=by
 have hw:=zAK h
 obtain⟨h1,h2,h3,h4,h5,h6⟩:=yV hw
 have h8:w.cost.length≤8:=by unfold vz at h;rw [Bool.and_eq_true,decide_eq_true_eq]at h;exact h.2
 exact⟨vQ hw,by omega,fun v hv j hj=>(h6 v hv).2.2.2 j (by rw [(h6 v hv).1];exact hj)⟩
def JP (x y:Fr):Bool:=decide (x.num*y.den<y.num*x.den)
def atB (w:Wt)(v:Int)(f:Fr):Bool:=vz w&&(decide (0≤v∧v<w.a.owner.length)&&(VZ f&& !JP (qo w v.toNat) f))
theorem zCR {w:Wt}{v:Int}{f:Fr}(h1:vz w=true)(h2:0≤v∧v<w.a.owner.length)(h3:VZ f=true):atB w v f= !JP (qo w v.toNat) f:=by unfold atB;rw [h1,decide_eq_true h2,h3];rfl
def vG (f:Fr)(c:Int):Int:=c*f.den - f.num
def yo (w:Wt)(f:Fr):Wt:=⟨w.a,w.cost.map (List.map (vG f))⟩
theorem zFI {f:Fr}{c:Int}(h1: -1000≤c∧c≤1000)(h2: -8000≤f.num∧f.num≤8000)(h3:1≤f.den∧f.den≤8):(-8000≤c*f.den∧c*f.den≤8000)∧ -20000≤vG f c∧vG f c≤20000:=by
 have a1:c*f.den≤8000:=by
  have :c*f.den≤1000*f.den:=Int.mul_le_mul_of_nonneg_right h1.2 (by omega)
  omega
 have a2: -8000≤c*f.den:=by
  have : -1000*f.den≤c*f.den:=Int.mul_le_mul_of_nonneg_right h1.1 (by omega)
  omega
 unfold vG
 omega
theorem zJP {g:List Int→List Int}{xs:List (List Int)}{v:Nat}(h:v<xs.length):gl (xs.map g) v=g (gl xs v):=by
 unfold gl
 rw [List.getD_eq_getElem?_getD,List.getElem?_map,List.getD_eq_getElem?_getD,List.getElem?_eq_getElem h]
 rfl
theorem zFV {w:Wt}(h:yP w=true){f:Fr}(h2: -8000≤f.num∧f.num≤8000)(h3:1≤f.den∧f.den≤8):WSh (yo w f):=by
 obtain⟨k1,k2,k3,k4,k5,k6⟩:=yV h
 have hs:=vQ h
 have hg: ∀v,v<w.a.owner.length→gl (w.cost.map (List.map (vG f))) v=(gl w.cost v).map (vG f):=fun v hv=>zJP (by omega)
 refine⟨k1,k2,k3,k4,by show(w.cost.map _).length=_;rw [List.length_map];exact k5,fun v hv=> ?_,fun v hv j hj=> ?_,hs.to,hs.own⟩
 ·show(gl (w.cost.map (List.map (vG f))) v).length=_∧_
  rw [hg v hv,List.length_map]
  exact hs.row v hv
 ·show -20000≤gi (gl (w.cost.map (List.map (vG f))) v) j∧gi (gl (w.cost.map (List.map (vG f))) v) j≤20000
  have hj':j<(gl w.cost v).length:=by rw [(k6 v hv).1];exact hj
  rw [hg v hv,zEo hj']
  exact(zFI ((k6 v hv).2.2.2 j hj') h2 h3).2
def Qi (w:Wt)(f:Fr):Bool:=vz w&&VZ f&&decide ((-8000≤f.num∧f.num≤8000)∧f.den≤8)
def Ko (w:Wt)(f:Fr)(c:List Int):List Int:=if Qi w f then c.map (yL (zk (yo w f)))else []
theorem zIQ {w:Wt}{f:Fr}(h:Qi w f=true):yP w=true∧(-8000≤f.num∧f.num≤8000)∧1≤f.den∧f.den≤8:=by
 unfold Qi VZ at h
 simp only [Bool.and_eq_true,decide_eq_true_eq]at h
 exact⟨zAK h.1.1,h.2.1,by omega,h.2.2⟩
theorem zH9 {w:Wt}{f:Fr}(h1:vz w=true)(h2:VZ f=true)(h3: -8000≤f.num∧f.num≤8000)(h4:f.den≤8):Qi w f=true:=by
 unfold Qi;rw [h1,h2,decide_eq_true ⟨h3,h4⟩];rfl
theorem Kr {w:Wt}{f:Fr}{c:List Int}(h:Qi w f=true):Ko w f c=c.map (yL (zk (yo w f))):=by unfold Ko;rw [h];rfl
theorem zGK (w:Wt)(f:Fr)(v j:Nat):(gmW (yo w f)).to v j=(gmW w).to v j:=rfl
theorem zIL {w:Wt}(hw:WSh w)(f:Fr){v j:Nat}(hv:v<w.a.owner.length)(hj:j<(gmW w).deg v):(gmW (yo w f)).c v j=(gmW w).c v j*f.den - f.num:=by
 have h1:=(hw.row v hv).1
 have hj':j<(gl w.cost v).length:=by rw [h1];exact hj
 show gi (gl (w.cost.map (List.map (vG f))) v) j=gi (gl w.cost v) j*f.den - f.num
 have e1:gl (w.cost.map (List.map (vG f))) v=(gl w.cost v).map (vG f):=by
  unfold gl
  rw [List.getD_eq_getElem?_getD,List.getD_eq_getElem?_getD,List.getElem?_map]
  cases w.cost[v]? <;>rfl
 rw [e1]
 unfold gi
 rw [List.getD_eq_getElem?_getD,List.getD_eq_getElem?_getD,List.getElem?_map,List.getElem?_eq_getElem hj']
 rfl
theorem uK {w:Wt}(hw:WSh w)(f:Fr)(hf:0≤f.den): ∀k v,v<w.a.owner.length→(gmW (yo w f)).pay k v=(gmW w).pay k v*f.den - k*f.num
 |0,v,hv=>by show(0:Int)=0*f.den - ((0:Nat):Int)*f.num;simp
 |k+1,v,hv=>by
  have hg:=YD hw
  have hd:=hg.deg v hv
  have hd':1≤(gmW (yo w f)).deg v:=hd
  have ih:=uK hw f hf k
  have hk:((k+1:Nat):Int)*f.num=k*f.num+f.num:=by rw [show((k+1:Nat):Int)=(k:Int)+1 by omega,Int.add_mul,Int.one_mul]
  have he: ∀j,j<(gmW w).deg v→(gmW (yo w f)).c v j+(gmW (yo w f)).pay k ((gmW (yo w f)).to v j)=((gmW w).c v j+(gmW w).pay k ((gmW w).to v j))*f.den - ((k+1:Nat):Int)*f.num:=fun j hj=>by
   rw [zIL hw f hv hj,zGK,ih _ (hg.to v hv j hj),hk,Int.add_mul]
   omega
  cases h:(gmW w).mx v
  ·have h':(gmW (yo w f)).mx v=false:=h
   obtain⟨⟨i,hi,e1⟩,a1⟩:=Gm.pay_n h hd k
   obtain⟨⟨i',hi',e2⟩,a2⟩:=Gm.pay_n h' hd' k
   have b1:=a2 i hi
   rw [he i hi,←e1]at b1
   rw [he i' hi']at e2
   have b2:=Int.mul_le_mul_of_nonneg_right (a1 i' hi') hf
   omega
  ·have h':(gmW (yo w f)).mx v=true:=h
   obtain⟨⟨i,hi,e1⟩,a1⟩:=Gm.pay_x h hd k
   obtain⟨⟨i',hi',e2⟩,a2⟩:=Gm.pay_x h' hd' k
   have b1:=a2 i hi
   rw [he i hi,←e1]at b1
   rw [he i' hi']at e2
   have b2:=Int.mul_le_mul_of_nonneg_right (a1 i' hi') hf
   omega
theorem Kc {p q:Int}(hq:1≤q): ∃g:Int,1≤g∧p=(Uz p q).num*g∧q=(Uz p q).den*g:=by
 refine⟨Int.gcd p q,by have :=zGn p hq;omega,?_,?_⟩
 ·show p=p.tdiv (Int.gcd p q)*(Int.gcd p q)
  exact(Int.tdiv_mul_cancel (Int.gcd_dvd_left ..)).symm
 ·show q=q.tdiv (Int.gcd p q)*(Int.gcd p q)
  exact(Int.tdiv_mul_cancel (Int.gcd_dvd_right ..)).symm
theorem zIh {w:Wt}(hw:WMn w)(f:Fr)(hf:1≤f.den){v:Nat}(hv:v<w.a.owner.length):JP (qo w v) f=false↔∃M,∀k,-M≤(gmW (yo w f)).pay k v:=by
 have hg:=YD hw.sh
 have hok:=Gm.val_ok hg hv
 have hge:=fun k=>Gm.val_ge hg (by decide) hv k
 have hle:=fun k=>Gm.val_le hg (by decide) hv k
 have hpy:=fun k=>uK hw.sh f (by omega) k v hv
 obtain⟨g,g1,gN,gD⟩:=Kc (p:=((gmW w).val w.a.owner.length v).1) (q:=((gmW w).val w.a.owner.length v).2) hok.1
 have hD1:=hok.1
 have hC0:0≤2*(((w.a.owner.length:Int) - 1)*(((gmW w).val w.a.owner.length v).2*20000)):=Int.mul_nonneg (by decide) (Int.mul_nonneg (by omega) (Int.mul_nonneg (by omega) (by decide)))
 generalize 2*(((w.a.owner.length:Int) - 1)*(((gmW w).val w.a.owner.length v).2*20000))=C at hge hle hC0
 have hvf:qo w v=Uz ((gmW w).val w.a.owner.length v).1 ((gmW w).val w.a.owner.length v).2:=rfl
 rw [←hvf]at gN gD
 generalize ((gmW w).val w.a.owner.length v).1=N at*
 generalize ((gmW w).val w.a.owner.length v).2=D at*
 have hcross:JP (qo w v) f=false↔f.num*D≤N*f.den:=by
  unfold JP
  rw [decide_eq_false_iff_not,Int.not_lt]
  have e1:f.num*D=f.num*(qo w v).den*g:=by rw [gD,Int.mul_assoc]
  have e2:N*f.den=(qo w v).num*f.den*g:=by rw [gN,Int.mul_assoc,Int.mul_comm g,←Int.mul_assoc]
  rw [e1,e2]
  exact⟨fun h=>Int.mul_le_mul_of_nonneg_right h (by omega),fun h=>Int.le_of_mul_le_mul_right h (by omega)⟩
 rw [hcross]
 have hkey: ∀k:Nat,D*((gmW (yo w f)).pay k v)=(D*(gmW w).pay k v)*f.den - k*(f.num*D):=fun k=>by
  rw [hpy k,Int.mul_sub,Int.mul_assoc D,Int.mul_comm f.num D,←Int.mul_assoc (k:Int) D,Int.mul_comm (k:Int) D,Int.mul_assoc D]
 constructor
 ·intro h
  refine⟨C*f.den,fun k=> ?_⟩
  have h1:=Int.mul_le_mul_of_nonneg_right (hge k) (show 0≤f.den by omega)
  have h2:=hkey k
  have h3:(k:Int)*(f.num*D)≤k*(N*f.den):=Int.mul_le_mul_of_nonneg_left h (by omega)
  rw [Int.sub_mul,Int.mul_assoc (k:Int)]at h1
  have h4: -(C*f.den)≤D*((gmW (yo w f)).pay k v):=by omega
  rcases Int.lt_or_le ((gmW (yo w f)).pay k v) (-(C*f.den))with h5|h5
  ·exfalso
   have h6:0≤C*f.den:=Int.mul_nonneg hC0 (by omega)
   have h7:D*((gmW (yo w f)).pay k v)≤1*((gmW (yo w f)).pay k v):=Int.mul_le_mul_of_nonpos_right hD1 (by omega)
   omega
  ·exact h5
 ·rintro⟨M,hM⟩
  rcases Int.lt_or_le (N*f.den) (f.num*D)with h|h
  ·exfalso
   have hk:=hkey (C*f.den+D*M+1).toNat
   have hl:=Int.mul_le_mul_of_nonneg_right (hle (C*f.den+D*M+1).toNat) (show 0≤f.den by omega)
   have hm:=Int.mul_le_mul_of_nonneg_left (hM (C*f.den+D*M+1).toNat) (show 0≤D by omega)
   rw [Int.add_mul,Int.mul_assoc (((C*f.den+D*M+1).toNat:Nat):Int)]at hl
   have h3:((C*f.den+D*M+1).toNat:Int)*(N*f.den)≤((C*f.den+D*M+1).toNat:Int)*(f.num*D - 1):=Int.mul_le_mul_of_nonneg_left (by omega) (by omega)
   rw [Int.mul_sub,Int.mul_one]at h3
   rw [Int.mul_neg]at hm
   omega
  ·exact h
theorem zBi {w:Wt}{f:Fr}{c:List Int}(h:Qi w f=true)(hL:xJ (yo w f) (zk (yo w f)) c){v:Nat}(hv:v<w.a.owner.length):0≤gi (Ko w f c) v↔atB w v f=true:=by
 have hb:=zIQ h
 have hmb:vz w=true:=by unfold Qi at h;simp only [Bool.and_eq_true]at h;exact h.1.1
 have hfb:VZ f=true:=by unfold Qi at h;simp only [Bool.and_eq_true]at h;exact h.1.2
 have hs:=zFV hb.1 hb.2.1 hb.2.2
 have hvs:v<(yo w f).a.owner.length:=hv
 have hrg:=hL.rg v hvs
 have e1:gi (Ko w f c) v=yL (zk (yo w f)) (gi c v):=by
  rw [Kr h]
  unfold gi
  rw [List.getD_eq_getElem?_getD,List.getD_eq_getElem?_getD,List.getElem?_map,List.getElem?_eq_getElem (by rw [hL.len];exact hv)]
  rfl
 rw [e1,zCR hmb (by omega) hfb,Int.toNat_natCast,Bool.not_eq_true',zIh (zJg hmb) f hb.2.2.1 hv]
 have e2:0≤yL (zk (yo w f)) (gi c v)↔gi c v≤zk (yo w f):=by
  unfold yL
  split<;>constructor<;>intro h'<;>omega
 rw [e2]
 constructor
 ·intro h'
  exact⟨gi c v,fun k=>kU hs hs.bound.1 hL k v hvs h'⟩
 ·rintro⟨M,hM⟩
  exact zDS hs (Int.le_refl _) hL hvs hM
def qX (f:Nat→Int):List Nat→Int
 | []=>0
 |x::L=>f x+qX f L
theorem zB7 {f:Nat→Int}{P:Int}: ∀(L:List Nat),(∀x∈L,-P≤f x)→ -(L.length*P)≤qX f L
 | [],_=>by show -(((0:Nat):Int)*P)≤0;rw [Int.natCast_zero,Int.zero_mul];omega
 |x::L,h=>by
  have h1:=zB7 L fun y hy=>h y (List.mem_cons_of_mem _ hy)
  have h2:=h x List.mem_cons_self
  show -(((L.length+1:Nat):Int)*P)≤f x+qX f L
  rw [show((L.length+1:Nat):Int)=(L.length:Int)+1 by omega,Int.add_mul,Int.one_mul]
  omega
theorem Qt {f:Nat→Int}{P Q:Int}: ∀(L:List Nat),(∀x∈L,-P≤f x)→(∃x∈L,f x=Q)→Q - ((L.length:Int) - 1)*P≤qX f L
 | [],_,h=>by obtain⟨x,hx,-⟩:=h;cases hx
 |x::L,h,hq=>by
  have h2:=h x List.mem_cons_self
  have h3: ∀y∈L,-P≤f y:=fun y hy=>h y (List.mem_cons_of_mem _ hy)
  have e:(((L.length+1:Nat):Int) - 1)*P=L.length*P:=by rw [show((L.length+1:Nat):Int) - 1=L.length by omega]
  show Q - (((L.length+1:Nat):Int) - 1)*P≤f x+qX f L
  rw [e]
  obtain⟨y,hy,hf⟩:=hq
  rcases List.mem_cons.1 hy with e1|e1
  ·have :=zB7 L h3
   rw [e1]at hf
   omega
  ·have :=Qt L h3 ⟨y,e1,hf⟩
   rw [Int.sub_mul,Int.one_mul]at this
   omega
theorem zH2 (n:Int)(k:Nat):pw n (k+1)=pw n k*n:=rfl
theorem VK {n:Nat}(hn:1≤n){pr:Nat→Nat}{t:Nat}{L:List Nat}(hl:L.length≤n)(h: ∀x∈L,pr x≤t)(ht: ∃x∈L,pr x=t):
  (t%2=0→0<qX (fun x=>sg n (pr x)) L)∧(t%2=1→0<qX (fun x=> -sg n (pr x)) L):=by
 have hn1:(1:Int)≤n:=by omega
 cases t with
 |zero=>
  refine⟨fun _=> ?_,fun e=>by omega⟩
  have :=Qt (f:=fun x=>sg n (pr x)) (P:=0) (Q:=1) L (fun x hx=>by
   have :=h x hx
   show -0≤sg n (pr x)
   rw [show pr x=0 by omega]
   rw [show sg n 0=1 from rfl]
   decide) (by
   obtain⟨x,hx,e⟩:=ht
   exact⟨x,hx,by show sg n (pr x)=1;rw [e];rfl⟩)
  omega
 |succ k=>
  have hp:=ZO hn1 k
  have hlow: ∀x∈L,pr x≤k→ -pw n k≤sg n (pr x)∧sg n (pr x)≤pw n k:=fun x hx hx2=>by
   have h1:=zCB hn1 hx2
   have h2:=ZO hn1 (pr x)
   rcases jN hn1 (pr x)with e|e<;>rw [e]<;>omega
  have hk: ∀S:Int,pw n (k+1) - ((L.length:Int) - 1)*pw n k≤S→0<S:=fun S hS=>by
   have h1:((L.length:Int) - 1)*pw n k≤((n:Int) - 1)*pw n k:=Int.mul_le_mul_of_nonneg_right (by omega) (by omega)
   rw [zH2,Int.mul_comm (pw n k)]at hS
   rw [Int.sub_mul (n:Int),Int.one_mul]at h1
   omega
  have hp1:=ZO hn1 (k+1)
  constructor
  ·intro e
   have et:sg n (k+1)=pw n (k+1):=if_neg (by omega)
   refine hk _ (Qt L (fun x hx=> ?_) ?_)
   ·show -pw n k≤sg n (pr x)
    rcases Nat.lt_or_ge k (pr x)with h5|h5
    ·rw [show pr x=k+1 by have :=h x hx;omega,et];omega
    ·exact(hlow x hx h5).1
   ·obtain⟨x,hx,e2⟩:=ht
    exact⟨x,hx,by show sg n (pr x)=_;rw [e2,et]⟩
  ·intro e
   have et:sg n (k+1)= -pw n (k+1):=if_pos (by omega)
   refine hk _ (Qt L (fun x hx=> ?_) ?_)
   ·show -pw n k≤ -sg n (pr x)
    rcases Nat.lt_or_ge k (pr x)with h5|h5
    ·rw [show pr x=k+1 by have :=h x hx;omega,et];omega
    ·have :=(hlow x hx h5).2;omega
   ·obtain⟨x,hx,e2⟩:=ht
    exact⟨x,hx,by show -sg n (pr x)=_;rw [e2,et];omega⟩
inductive kK (R:Nat→Nat→Prop)(c:Nat→Int):List (Nat×Int)→Nat→Int→Prop
 |nil {v:Nat} {s:Int}:kK R c [] v s
 |cons {S:List (Nat×Int)} {u:Nat} {r:Int} {v:Nat}:kK R c S u r→R u v→kK R c ((u,r)::S) v (r+c u)
theorem kK.back {R:Nat→Nat→Prop}{c:Nat→Int}{pr:Nat→Nat}{S:List (Nat×Int)}{v:Nat}{s:Int}(h:kK R c S v s): ∀{j:Nat} {u:Nat} {r:Int},S[j]? =some (u,r)→
  s - r=qX c ((S.take (j+1)).map (·.1))∧∃t,Wk R pr u v t∧(∀x∈(S.take (j+1)).map (·.1),pr x≤t)∧∃x∈(S.take (j+1)).map (·.1),pr x=t:=by
 induction h with
 |nil=>intro j u r h;simp at h
 | @cons S u r v h1 h2 ih=>
  intro j u' r' h
  cases j with
  |zero=>
   simp at h
   obtain⟨rfl,rfl⟩:=h
   refine⟨by show _=c u+0;omega,_, .one h2,fun x hx=> ?_,u,by simp,rfl⟩
   have :x=u:=by simpa using hx
   rw [this];exact Nat.le_refl _
  |succ j=>
   simp at h
   obtain⟨e,t,w,a,x,hx,ex⟩:=ih h
   have hl:((u,r)::S).take (j+1+1)=(u,r)::S.take (j+1):=rfl
   rw [hl,List.map_cons]
   refine⟨?_,max t (pr u),w.app (.one h2),fun y hy=> ?_,?_⟩
   ·show _=c u+qX c _
    rw [←e];omega
   ·rcases List.mem_cons.1 hy with e1|e1
    ·rw [e1];exact Nat.le_max_right ..
    ·exact Nat.le_trans (a y e1) (Nat.le_max_left ..)
   ·rcases Nat.le_total t (pr u)with h5|h5
    ·exact⟨u,List.mem_cons_self,by rw [Nat.max_eq_right h5]⟩
    ·exact⟨x,List.mem_cons_of_mem _ hx,by rw [Nat.max_eq_left h5];exact ex⟩
theorem Wc {gm:Gm}{n:Nat}{W:Int}(hg:gm.Ok n W){pg:PG}{who:Int}{D U:Nat→Prop}{s:Nat→Nat}(hw:vZ pg who D U s)(hD: ∀v,v<n↔D v)
  (hmx: ∀v,v<n→(gm.mx v=true↔pg.own v=who)) (hE: ∀v u,v<n→(pg.E v u↔∃j,j<gm.deg v∧gm.to v j=u)) {c:Nat→Int} (hc: ∀v,v<n→∀j,j<gm.deg v→gm.c v j=c v)
  (hsg: ∀(L:List Nat) (t:Nat),L.length≤n→(∀x∈L,pg.pr x≤t)→(∃x∈L,pg.pr x=t)→(t:Int)%2=who→0<qX c L):
  ∀f S v r,MV.Way n W S v r→kK (SR pg who U s) c S v r→U v→n+1≤f+S.length→atL (1,n) (gm.first f S v r)
 |0,S,v,r,hW,hR,hU,hf=>by have :=hW.len;omega
 |f+1,S,v,r,hW,hR,hU,hf=>by
  have hv:=hW.lt
  have hn:(0:Int)<n:=by omega
  unfold Gm.first
  cases hfd:vC v S 0 with
  |some x=>
   obtain⟨i,s0⟩:=x
   obtain⟨j,hj,hS⟩:=Zg hfd
   have hj':i=j:=by omega
   obtain⟨e,t,w,a,hx⟩:=hR.back (pr:=pg.pr) hS
   have hll:((S.take (j+1)).map (·.1)).length≤n:=by
    rw [List.length_map,List.length_take]
    have :=hW.len
    omega
   have hp:=hsg _ t hll a hx (hw.good v t w)
   show(1:Int)*((i:Int)+1)≤(r - s0)*n
   rw [e,hj']
   have hjl:j<S.length:=(List.getElem?_eq_some_iff.1 hS).1
   have hSl:=hW.len
   have h1:(1:Int)*n≤qX c ((S.take (j+1)).map (·.1))*n:=Int.mul_le_mul_of_nonneg_right (by omega) (by omega)
   omega
  |none=>
   show atL (1,n) (vc (gm.mx v) (fun j=>gm.first f ((v,r)::S) (gm.to v j) (r+gm.c v j)) (gm.deg v))
   have hnot:=Yr hfd
   have hway: ∀j,j<gm.deg v→MV.Way n W ((v,r)::S) (gm.to v j) (r+gm.c v j):=fun j hj=> .cons hW hnot (hg.to v hv j hj) (by have :=hg.hi v hv j hj;omega) (by have :=hg.lo v hv j hj;omega)
   have hlen:n+1≤f+((v,r)::S).length:=by rw [List.length_cons];omega
   have hf1:1≤f:=by
    have :=hW.len' hnot
    omega
   have hpos: ∀j,j<gm.deg v→0<(gm.first f ((v,r)::S) (gm.to v j) (r+gm.c v j)).2:=fun j hj=>by
    have :=(Gm.first_ok hg f _ _ _ (hway j hj) hlen hf1).1
    omega
   have hgo: ∀j,j<gm.deg v→U (gm.to v j)→(pg.own v=who→gm.to v j=s v)→atL (1,n) (gm.first f ((v,r)::S) (gm.to v j) (r+gm.c v j)):=fun j hj hu ho=>by
    refine Wc hg hw hD hmx hE hc hsg f _ _ _ (hway j hj) ?_ hu hlen
    rw [hc v hv j hj]
    exact .cons hR ⟨hU,hu,(hE v _ hv).2 ⟨j,hj,rfl⟩,ho⟩
   by_cases ho:pg.own v=who
   ·rw [(hmx v hv).2 ho]
    obtain⟨a,b⟩:=hw.own v hU ho
    obtain⟨j,hj,e⟩:=(hE v _ hv).1 a
    exact Vn hn _ hpos j hj (hgo j hj (by rw [e];exact b) fun _=>e)
   ·obtain⟨j,hj,e⟩:=Yv (gm.mx v) (fun j=>gm.first f ((v,r)::S) (gm.to v j) (r+gm.c v j)) (gm.deg v) (hg.deg v hv)
    rw [e]
    exact hgo j hj (hw.opp v _ hU ho ((hE v _ hv).2 ⟨j,hj,rfl⟩) ((hD _).1 (hg.to v hv j hj))) fun h=>absurd h ho
def Jn (g:Pa):PG:=⟨fun v=>if v<g.a.owner.length then gi g.a.owner v else 0,fun v=>(gi g.prio v).toNat,fun v u=>v<g.a.owner.length∧∃j,j<(gl g.a.next v).length∧(gi (gl g.a.next v) j).toNat=u⟩
theorem zDT {g:Pa}(h:zu g=true){W0 W1:Nat→Prop}{s0 s1:Nat→Nat}(h0:vZ (Jn g) 0 (fun v=>v<g.a.owner.length) W0 s0)(h1:vZ (Jn g) 1 (fun v=>v<g.a.owner.length) W1 s1){v:Nat}(hv:v<g.a.owner.length):
  (W0 v→0<(qo (za g) v).num)∧(W1 v→(qo (za g) v).num<0):=by
 have hwb:=yI h
 have hw:=vQ hwb
 obtain⟨hpar,h24,hsc⟩:=vP h
 have hwe:=xZ h
 have hlen:(za g).a.owner.length=g.a.owner.length:=by rw [hwe]
 have hown:(za g).a=g.a:=by rw [hwe]
 have hcost: ∀v,v<g.a.owner.length→∀j,j<(gl g.a.next v).length→gi (gl (za g).cost v) j=sg g.a.owner.length (gi g.prio v).toNat:=fun v hv j hj=>by
  rw [hwe]
  show gi (gl (yk g g.a.owner.length) v) j=_
  rw [wT hv]
  unfold Vb
  rw [Kn hj]
  have :=hsc v hv
  unfold vL at this
  exact(VE (of_decide_eq_true this)).2
 have hok:(gmW (za g)).Ok g.a.owner.length 20000:=by rw [←hlen];exact YD hw
 have ho:=hw.own
 rw [hown]at ho
 have hE: ∀v u,v<g.a.owner.length→((Jn g).E v u↔∃j,j<(gmW (za g)).deg v∧(gmW (za g)).to v j=u):=fun v u hv=>by
  show(v<g.a.owner.length∧∃j,j<(gl g.a.next v).length∧(gi (gl g.a.next v) j).toNat=u)↔∃j,j<(gl (za g).a.next v).length∧(gi (gl (za g).a.next v) j).toNat=u
  rw [hown]
  exact⟨fun h=>h.2,fun h=>⟨hv,h⟩⟩
 have hn1:1≤g.a.owner.length:=by omega
 have hval: ∀v,v<g.a.owner.length→∃q:Int,1≤q∧((gmW (za g)).val g.a.owner.length v).1=(qo (za g) v).num*q:=fun v hv=>by
  have a:=(Gm.val_ok hok hv).1
  obtain⟨q,q1,e,-⟩:=Kc (p:=((gmW (za g)).val g.a.owner.length v).1) (q:=((gmW (za g)).val g.a.owner.length v).2) a
  refine⟨q,q1,?_⟩
  have e2:qo (za g) v=Uz ((gmW (za g)).val g.a.owner.length v).1 ((gmW (za g)).val g.a.owner.length v).2:=by unfold qo;rw [hlen]
  rw [e2];exact e
 obtain⟨q,q1,hq⟩:=hval v hv
 have hvok:=Gm.val_ok hok hv
 constructor
 ·intro hW
  have hp:=Wc hok h0 (fun v=>Iff.rfl) (fun v hv=>by
    show decide (gi (za g).a.owner v=0)=true↔(if v<g.a.owner.length then gi g.a.owner v else 0)=0
    rw [if_pos hv,hown,decide_eq_true_eq]) hE (c:=fun v=>sg g.a.owner.length (gi g.prio v).toNat) (fun v hv j hj=>hcost v hv j (by rw [←hown];exact hj))
   (fun L t hl a b e=>(VK hn1 hl a b).1 (by omega)) (g.a.owner.length+1) [] v 0 (.nil hv) .nil hW (by simp)
  have hp2:(1:Int)*((gmW (za g)).val g.a.owner.length v).2≤((gmW (za g)).val g.a.owner.length v).1*g.a.owner.length:=hp
  rcases Int.lt_or_le 0 (qo (za g) v).num with h5|h5
  ·exact h5
  ·exfalso
   have h6:(qo (za g) v).num*q≤0:=Int.mul_nonpos_of_nonpos_of_nonneg h5 (by omega)
   rw [←hq]at h6
   have h7:((gmW (za g)).val g.a.owner.length v).1*g.a.owner.length≤0:=Int.mul_nonpos_of_nonpos_of_nonneg h6 (by omega)
   omega
 ·intro hW
  have hp:=Wc hok.dual h1 (fun v=>Iff.rfl) (fun v hv=>by
    show(!decide (gi (za g).a.owner v=0))=true↔(if v<g.a.owner.length then gi g.a.owner v else 0)=1
    rw [if_pos hv,hown]
    rcases ho v hv with e|e<;>rw [e]<;>decide) hE (c:=fun v=> -sg g.a.owner.length (gi g.prio v).toNat) (fun v hv j hj=>by
     show -gi (gl (za g).cost v) j=_
     rw [hcost v hv j (by rw [←hown];exact hj)])
   (fun L t hl a b e=>(VK hn1 hl a b).2 (by omega)) (g.a.owner.length+1) [] v 0 (.nil hv) .nil hW (by simp)
  have hp2:(1:Int)*((gmW (za g)).dual.val g.a.owner.length v).2≤((gmW (za g)).dual.val g.a.owner.length v).1*g.a.owner.length:=hp
  rw [Gm.val_dual]at hp2
  have hp3:(1:Int)*((gmW (za g)).val g.a.owner.length v).2≤ -((gmW (za g)).val g.a.owner.length v).1*g.a.owner.length:=hp2
  rcases Int.lt_or_le (qo (za g) v).num 0 with h5|h5
  ·exact h5
  ·exfalso
   have h6:0≤(qo (za g) v).num*q:=Int.mul_nonneg h5 (by omega)
   rw [←hq]at h6
   have h7: -((gmW (za g)).val g.a.owner.length v).1*g.a.owner.length≤0:=Int.mul_nonpos_of_nonpos_of_nonneg (by omega) (by omega)
   omega
theorem zEm {xs:List Int}{n:Int}(h:qC xs n=true): ∀k,k<xs.length→∀j,j<k→gi xs j<gi xs k:=by
 intro k
 induction k with
 |zero=>intro _ j hj;omega
 |succ k ih=>
  intro hk j hj
  have h1:=xR h hk
  unfold qS at h1
  have h2:=(of_decide_eq_true h1).2.2
  have h3:gi xs k<gi xs (k+1):=by
   rcases h2 with h2|h2
   ·omega
   ·exact h2
  by_cases e:j=k
  ·subst e;exact h3
  ·have :=ih (by omega) j (by omega);omega
theorem zGb {w:Wt}(hw:yP w=true){v k:Nat}(hv:v<w.a.owner.length)(hk:k<(gl w.a.next v).length):qm w v (gi (gl w.a.next v) k)=gi (gl w.cost v) k:=by
 obtain⟨hok,hn1,hn2,hn3,hn4,hrow⟩:=yV hw
 have hs:=(yG hok hv).2.2.2.2
 have hf:ym (gl w.a.next v) (gi (gl w.a.next v) k)=k:=Ww hk (fun j hj e=>by have :=zEm hs k hk j hj;omega) rfl
 have hh:yE (gl w.a.next v) (gi (gl w.a.next v) k)=true:=by unfold yE;rw [hf];exact decide_eq_true hk
 unfold qm
 rw [Int.toNat_natCast,if_pos hh]
 unfold XH
 rw [hf]
open Nat renaming reduceMod → zA, reduceMul → zB, reduceDiv → zC, reduceAdd → zD, reduceSub → zE, reduceEqDiff → zF, reduceBEq → zG, reduceLT → zH, reduceLeDiff → zI
set_option maxRecDepth 20000 in
theorem zJ0 {g:Pa}{v:Nat}(hv:v<g.a.owner.length)(u:Int):edB (l7G g (noP g.a.owner.length)) v u=true:=by
 unfold edB
 refine decide_eq_true (.inl ?_)
 show gi (noP g.a.owner.length) (Int.toNat v)<0
 rw [Int.toNat_natCast,Wi _ _ hv]
 decide
theorem zEM (g:Pa):pgL (l7G g (noP g.a.owner.length))=Jn g:=by
 unfold pgL Jn
 congr 1
 funext v u
 refine propext ⟨?_,?_⟩
 ·rintro⟨h1,j,h2,h3,-⟩
  exact⟨h1,j,h2,h3⟩
 ·rintro⟨h1,j,h2,h3⟩
  exact⟨h1,j,h2,h3,zJ0 h1 _⟩
theorem zHa {g:Pa}(h:yD g=true):
  (∃s,vZ (Jn g) 0 (fun v=>v<g.a.owner.length) (fun v=>v<g.a.owner.length∧gb (Vz g) v=true) s)∧∃s,vZ (Jn g) 1 (fun v=>v<g.a.owner.length) (fun v=>v<g.a.owner.length∧gb (Vz g) v=false) s:=by
 obtain⟨ha,hpl,hpr⟩:=yS h
 have hD: ∀v,inD g.a.owner.length (ZY g.a.owner.length) v↔v<g.a.owner.length:=fun v=>⟨fun h=>h.1,fun h=>⟨h,kJ h⟩⟩
 have hlive:Jv (pgL (l7G g (noP g.a.owner.length))) (inD g.a.owner.length (ZY g.a.owner.length)):=fun v hv=>by
  have h1:=(yG ha hv.1).2.2
  have h2:=vK h1.2.2 (j:=0) (by omega)
  rw [zEM]
  exact⟨(gi (gl g.a.next v) 0).toNat,⟨hv.1,0,by omega,rfl⟩,(hD _).2 (by omega)⟩
 obtain⟨⟨s,h0⟩,⟨t,h1⟩⟩:=jx (Uv h (qw _)) (g.a.owner.length+1) (ZY g.a.owner.length) (VG _) (Nat.lt_succ_of_le (Zv _ _)) hlive
 rw [zEM]at h0 h1
 exact⟨⟨s,yp h0 hD fun v=>by rw [hD v];exact Iff.rfl⟩,⟨t,yp h1 hD fun v=>by rw [hD v];exact Iff.rfl⟩⟩
theorem zA0 {g:Pa}(h:zu g=true){v:Nat}(hv:v<g.a.owner.length):(gi (yn g) v=0∧0<(qo (za g) v).num)∨(gi (yn g) v=1∧(qo (za g) v).num<0):=by
 obtain⟨⟨s,h0⟩,⟨t,h1⟩⟩:=zHa (vP h).1
 have hb:=zDT h h0 h1 hv
 rw [zB8 hv]
 cases hw:gb (Vz g) v
 ·exact .inr ⟨rfl,hb.2 ⟨hv,hw⟩⟩
 ·exact .inl ⟨rfl,hb.1 ⟨hv,hw⟩⟩
structure FewerW (x w:Wt):Prop where
 own:x.a.owner=w.a.owner
 w0: ∀v,v<w.a.owner.length→gi w.a.owner v=0→∀i,i<(gl x.a.next v).length→∃j,j<(gl w.a.next v).length∧toE x v i=toE w v j∧coE x v i=coE w v j
 w1: ∀v,v<w.a.owner.length→gi w.a.owner v=1→∀j,j<(gl w.a.next v).length→∃i,i<(gl x.a.next v).length∧toE x v i=toE w v j∧coE x v i=coE w v j
def pf (w:Wt)(s:List Int)(v:Nat):Nat→Nat→Int
 |_,0=> -1
 |j,m+1=>if 0≤gi s (gi (gl w.a.next v) j).toNat∧gi s (gi (gl w.a.next v) j).toNat - gi (gl w.cost v) j≤gi s v then gi (gl w.a.next v) j else pf w s v (j+1) m
theorem zCS {w:Wt}{s:List Int}{v j d:Nat}(h:j<d):pf w s v j (d - j)=if 0≤gi s (gi (gl w.a.next v) j).toNat∧gi s (gi (gl w.a.next v) j).toNat - gi (gl w.cost v) j≤gi s v then gi (gl w.a.next v) j else pf w s v (j+1) (d - (j+1)):=by
 rw [show d - j=(d - (j+1))+1 from by omega]
 rfl
def wl (w:Wt)(s:List Int)(v:Nat):Int:=if gi w.a.owner v=0∧0≤gi s v then pf w s v 0 (gl w.a.next v).length else -1
theorem WX {w:Wt}{s:List Int}{v:Nat}(h: ¬(gi w.a.owner v=0∧0≤gi s v)):wl w s v= -1:=if_neg h
theorem VB {w:Wt}{s:List Int}{v:Nat}(h:gi w.a.owner v=0∧0≤gi s v):wl w s v=pf w s v 0 (gl w.a.next v).length:=if_pos h
def wP (w:Wt)(s:List Int)(k:Nat):List Int:=(List.range k).map (wl w s)
theorem vE (w:Wt)(s:List Int)(k:Nat):(wP w s k).length=k:=by simp [wP]
theorem zCC (w:Wt)(s:List Int)(k:Nat):wP w s (k+1)=wP w s k++ [wl w s k]:=by simp [wP,List.range_succ]
def wS (w:Wt)(s:List Int)(n k:Nat):List Int:=wP w s k++List.replicate (n - k) (-1)
theorem zFS {w:Wt}{s:List Int}{n k:Nat}(h:k≤n):(wS w s n k).length=n:=by unfold wS;rw [List.length_append,vE,List.length_replicate];omega
theorem zHW (w:Wt)(s:List Int)(n:Nat):wS w s n 0=List.replicate n (-1):=by simp [wS,wP]
theorem zIA (w:Wt)(s:List Int)(n:Nat):wS w s n n=wP w s n:=by simp [wS]
theorem zEa {w:Wt}{s:List Int}{n k:Nat}(h:k<n):(wS w s n k).set k (wl w s k)=wS w s n (k+1):=by
 unfold wS
 rw [List.set_append_right _ _ (by rw [vE];exact Nat.le_refl _),vE,Nat.sub_self,show n - k=(n - (k+1))+1 from by omega,List.replicate_succ,List.set_cons_zero,zCC,List.append_assoc]
 rfl
theorem Kl {w:Wt}{s:List Int}{n k:Nat}(h:k<n)(h2:wl w s k= -1):wS w s n (k+1)=wS w s n k:=by
 unfold wS
 rw [show n - k=(n - (k+1))+1 from by omega,List.replicate_succ,zCC,h2,List.append_assoc]
 rfl
theorem zIH {b:Int}(hb:0≤b){x:Int}(h:0≤x∧x≤b+1): -1≤yL b x∧yL b x≤b:=by unfold yL;omega
def Zu (w:Wt)(c:List Int):List Int:=if yP w then wP w (c.map (yL (zk w))) w.a.owner.length else []
theorem QN {w:Wt}{c:List Int}(h:yP w=true):Zu w c=wP w (c.map (yL (zk w))) w.a.owner.length:=by unfold Zu;rw [h];rfl
theorem zBe {w:Wt}{c:List Int}:LnI 1048576 (Zu w c):=by
 unfold Zu LnI
 split
 ·rename_i e
  rw [vE]
  have :=(yV e).2.2.1
  omega
 ·simp
theorem zIM (a:Int):a+1 - 1=a:=by omega
attribute [push_cast] zIM
set_option maxRecDepth 20000 in
set_option maxHeartbeats 4000000 in
theorem zFM (a:Ar)(ha:a.Ln 1048576):Fn Try.prog tyT 74 [.agg (dAr a)] [.c (DI (List.replicate a.owner.length (-1)))]:=by
 have h0:=ha.owner
 unfold LnI at h0
 have hrl:(List.replicate a.owner.length (0:Int)).length=a.owner.length:=List.length_replicate ..
 unfold dAr
 refine zt (fn:=Try.f74) (ts:= [2]) Try.func74 (by kernel_rfl) rfl rfl (by rw [Try.ntmps74];exact Nat.le_of_ble_eq_true rfl) rfl (by simp only [szA,List.mem_cons,List.not_mem_nil,or_false,forall_eq_or_imp,forall_eq,VT.cells,szL];try decide) ?_
 rw [Try.ntmps74]
 simp only [push_cast,↓zK,↓zJ,↓reduceIte,zA,zB,zC,zD,zE,zF,zG,zH,zI,reduceCtorEq]
 refine zL fun K hK=> ?_
 refine zM zP zN [] rfl ?_
 simp only [push_cast,↓zK,↓zJ,↓reduceIte,zA,zB,zC,zD,zE,zF,zG,zH,zI,reduceCtorEq]
 repeat' apply And.intro
 all_goals try exact gB
 all_goals first|(refine hK _ ?_;clear hK K)|(simp only [push_cast];done)
 refine zL fun K hK=> ?_
 refine zM zP zN [] rfl ?_
 simp only [push_cast,↓zK,↓zJ,↓reduceIte,zA,zB,zC,zD,zE,zF,zG,zH,zI,reduceCtorEq]
 repeat' apply And.intro
 all_goals try exact gB
 all_goals first|(refine hK _ ?_;clear hK K)|(simp only [push_cast];done)
 refine zL fun K1 hK1=> ?_
 refine zL fun K hK=> ?_
 refine zM zP zN [] rfl ?_
 simp only [push_cast,↓zK,↓zJ,↓reduceIte,zA,zB,zC,zD,zE,zF,zG,zH,zI,reduceCtorEq]
 repeat' apply And.intro
 all_goals try exact gB
 all_goals first|(refine hK _ ?_;clear hK K)|(simp only [push_cast];done)
 refine zT ?_
 refine zd [4,11,12,13,14,15,16,17] [48] (fun(k:Nat)=> [(11, .int .i64 k)]) (fun k=> []) (fun k=> [(48,⟨.ex,2,dI (QJ (fun _=> -1) (List.replicate a.owner.length 0) k),none⟩)]) (fun k=>k≤a.owner.length) (fun k=>a.owner.length - k) 0 ?_ (by omega) ?_
 ·
  rw [zJk]
  refine zW rfl ?_ ?_ ?_<;>simp only [zc,zb,push_cast,↓zK,↓zJ,↓reduceIte,zA,zB,zC,zD,zE,zF,zG,zH,zI,reduceCtorEq]
 ·rintro k hk KL0 hL0
  have hml:=zF4 (g:=fun _=> -1) (r:=List.replicate a.owner.length 0) (k:=k) (by omega)
  simp only [push_cast,↓zK,↓zJ,↓reduceIte,zA,zB,zC,zD,zE,zF,zG,zH,zI,reduceCtorEq]
  refine zL fun K hK=> ?_
  refine zM zP zN [] rfl ?_
  simp only [push_cast,↓zK,↓zJ,↓reduceIte,zA,zB,zC,zD,zE,zF,zG,zH,zI,reduceCtorEq]
  repeat' apply And.intro
  all_goals try exact gB
  all_goals first|(refine hK _ ?_;clear hK K)|(simp only [push_cast];done)
  refine zL fun K2 hK2=> ?_
  refine zU rfl (fun hc=> ?_) (fun hc=> ?_)<;>(try simp only [push_cast]at hc)
  ·
   refine zV ?_
   (try simp only [zR,zS,reduceIte,zF]);refine hK2 _ ?_
   refine zL fun K3 hK3=> ?_
   refine zT ?_
   refine zL fun K hK=> ?_
   refine zM zP zN [] rfl ?_
   simp only [push_cast,↓zK,↓zJ,↓reduceIte,zA,zB,zC,zD,zE,zF,zG,zH,zI,reduceCtorEq]
   repeat' apply And.intro
   all_goals try exact gB
   all_goals first|(refine hK _ ?_;clear hK K)|(simp only [push_cast];done)
   refine zM zP zN [] rfl ?_
   simp only [push_cast,↓zK,↓zJ,↓reduceIte,zA,zB,zC,zD,zE,zF,zG,zH,zI,reduceCtorEq]
   repeat' apply And.intro
   all_goals try exact gB
   (try simp only [zR,zS,reduceIte,zF]);refine hK3 _ ?_
   refine zM zP zN [] rfl ?_
   simp only [push_cast,↓zK,↓zJ,↓reduceIte,zA,zB,zC,zD,zE,zF,zG,zH,zI,reduceCtorEq]
   repeat' apply And.intro
   all_goals try exact gB
   rw [zFt (g:=fun _=> -1) (by omega)]
   refine hL0 _ ⟨k+1,by omega,by omega,?_⟩
   refine zW rfl ?_ ?_ ?_<;>simp only [zc,zb,push_cast,↓zK,↓zJ,↓reduceIte,zA,zB,zC,zD,zE,zF,zG,zH,zI,reduceCtorEq]
  ·
   refine ze ?_
   have hkk:k=(List.replicate a.owner.length (0:Int)).length:=by omega
   subst hkk
   rw [zFu,List.map_replicate]
   (try simp only [zR,zS,reduceIte,zF]);refine hK1 _ ?_
   refine zL fun K hK=> ?_
   refine zM zP zN [] rfl ?_
   simp only [push_cast,↓zK,↓zJ,↓reduceIte,zA,zB,zC,zD,zE,zF,zG,zH,zI,reduceCtorEq]
   repeat' apply And.intro
   all_goals try exact gB
   all_goals first|(refine hK _ ?_;clear hK K)|(simp only [push_cast];done)
   refine zX ?_
   (try simp only [zR,zS])
   refine⟨Or.inl rfl,?_⟩
   simp only [zg,push_cast,↓zK,↓zJ,↓reduceIte,zA,zB,zC,zD,zE,zF,zG,zH,zI,reduceCtorEq]
   all_goals first|rfl|(simp;done)
set_option maxRecDepth 20000 in
set_option maxHeartbeats 4000000 in
theorem jr (w:Wt)(ha:w.Ln 1048576)(hw:WSh w)(b:Int)(hbw:zk w=b)(c:List Int)(hL:xJ w b c):Fn Try.prog tyT 60 [.agg (dWt w)] [.c (DI (wP w (c.map (yL b)) w.a.owner.length))]:=by
 have hr: ∀v,(gl w.a.next v).length≤1048576:=fun v=>vH ha.a.next v
 have hcr: ∀v,(gl w.cost v).length≤1048576:=fun v=>vH ha.cost v
 have hcl:=hw.cl
 have hnl:=hw.nl
 have hn1:=hw.n1
 have hn2:=hw.n2
 have h0:=ha.a.owner
 unfold LnI at h0
 have hb:=hw.bound
 rw [hbw]at hb
 have hC:=Wj w ha hw b hbw c hL
 have hN:=zFM w.a ha.a
 have hcl2:=hL.len
 have hrl2:(List.replicate w.a.owner.length (-1:Int)).length=w.a.owner.length:=List.length_replicate ..
 have hsb: ∀u,u<w.a.owner.length→ -1≤gi (c.map (yL b)) u∧gi (c.map (yL b)) u≤460001:=fun u hu=>by rw [zEo (by omega)];have :=zIH hb.1 (hL.rg u hu);omega
 have hs:(c.map (yL b)).length=w.a.owner.length:=by rw [List.length_map];exact hcl2
 generalize c.map (yL b)=s at hC hs hsb⊢
 unfold dAr at hN
 unfold dWt at hC⊢
 refine zt (fn:=Try.f60) (ts:= [2]) Try.func60 (by kernel_rfl) rfl rfl (by rw [Try.ntmps60];exact Nat.le_of_ble_eq_true rfl) rfl (by simp only [szA,List.mem_cons,List.not_mem_nil,or_false,forall_eq_or_imp,forall_eq,VT.cells,szL];try decide) ?_
 rw [Try.ntmps60]
 simp only [push_cast,↓zK,↓zJ,↓reduceIte,zA,zB,zC,zD,zE,zF,zG,zH,zI,reduceCtorEq]
 refine zL fun K hK=> ?_
 refine zM zP zN [] rfl ?_
 all_goals simp only [push_cast,↓zK,↓zJ,↓reduceIte,zA,zB,zC,zD,zE,zF,zG,zH,zI,reduceCtorEq]
 all_goals repeat'(first|(apply zO<;>(intro hg;(try simp only [push_cast]at hg)))|apply And.intro|(intro hg;(try simp only [push_cast]at hg)))
 all_goals first|exact gA|(exact zQ (by omega))|skip
 all_goals first|(refine hK _ ?_;clear hK K)|(simp only [push_cast];done)
 refine zL fun K hK=> ?_
 refine zM zP zN [] rfl ?_
 all_goals refine zm 2 fun K9 hK9=> ?_
 all_goals simp only [push_cast,↓zK,↓zJ,↓reduceIte,zA,zB,zC,zD,zE,zF,zG,zH,zI,reduceCtorEq]
 all_goals repeat'(first|(apply zO<;>(intro hg;(try simp only [push_cast]at hg)))|(refine⟨_,hC,?_⟩;simp only [push_cast,↓zK,↓zJ,↓reduceIte,zA,zB,zC,zD,zE,zF,zG,zH,zI,reduceCtorEq])|apply And.intro|(intro hg;(try simp only [push_cast]at hg)))
 all_goals first|exact gA|(exact zQ (by omega))|skip
 all_goals first|(refine hK9 _ ?_;clear hK9 K9)|(simp only [push_cast];done)
 all_goals simp only [push_cast,↓zK,↓zJ,↓reduceIte,zA,zB,zC,zD,zE,zF,zG,zH,zI,reduceCtorEq]
 all_goals repeat'(first|(apply zO<;>(intro hg;(try simp only [push_cast]at hg)))|(refine⟨_,hC,?_⟩;simp only [push_cast,↓zK,↓zJ,↓reduceIte,zA,zB,zC,zD,zE,zF,zG,zH,zI,reduceCtorEq])|apply And.intro|(intro hg;(try simp only [push_cast]at hg)))
 all_goals first|exact gA|(exact zQ (by omega))|skip
 all_goals first|(refine hK _ ?_;clear hK K)|(simp only [push_cast];done)
 refine zL fun K hK=> ?_
 refine zM zP zN [] rfl ?_
 all_goals refine zm 3 fun K9 hK9=> ?_
 all_goals simp only [push_cast,↓zK,↓zJ,↓reduceIte,zA,zB,zC,zD,zE,zF,zG,zH,zI,reduceCtorEq]
 all_goals repeat'(first|(apply zO<;>(intro hg;(try simp only [push_cast]at hg)))|(refine⟨_,hN,?_⟩;simp only [push_cast,↓zK,↓zJ,↓reduceIte,zA,zB,zC,zD,zE,zF,zG,zH,zI,reduceCtorEq])|apply And.intro|(intro hg;(try simp only [push_cast]at hg)))
 all_goals first|exact gA|(exact zQ (by omega))|skip
 all_goals first|(refine hK9 _ ?_;clear hK9 K9)|(simp only [push_cast];done)
 all_goals simp only [push_cast,↓zK,↓zJ,↓reduceIte,zA,zB,zC,zD,zE,zF,zG,zH,zI,reduceCtorEq]
 all_goals repeat'(first|(apply zO<;>(intro hg;(try simp only [push_cast]at hg)))|(refine⟨_,hN,?_⟩;simp only [push_cast,↓zK,↓zJ,↓reduceIte,zA,zB,zC,zD,zE,zF,zG,zH,zI,reduceCtorEq])|apply And.intro|(intro hg;(try simp only [push_cast]at hg)))
 all_goals first|exact gA|(exact zQ (by omega))|skip
 all_goals first|(refine hK _ ?_;clear hK K)|(simp only [push_cast];done)
 refine zL fun K1 hK1=> ?_
 refine zL fun K hK=> ?_
 refine zM zP zN [] rfl ?_
 all_goals simp only [push_cast,↓zK,↓zJ,↓reduceIte,zA,zB,zC,zD,zE,zF,zG,zH,zI,reduceCtorEq]
 all_goals repeat'(first|(apply zO<;>(intro hg;(try simp only [push_cast]at hg)))|apply And.intro|(intro hg;(try simp only [push_cast]at hg)))
 all_goals first|exact gA|(exact zQ (by omega))|skip
 all_goals first|(refine hK _ ?_;clear hK K)|(simp only [push_cast];done)
 refine zT ?_
 refine zd [5,6,7,8,18,19,20,21,22,23,24,25,26,27,28,29,30,31,32,33,34,35,36,37,38,39,40,41,42,43,44,45,46,47,48,49,50,51,52,53,54,55,56,57,58,59,60,61,62,63,64,65,66,67,68,69,70,71,72,73,74] [64] (fun(v:Nat)=> [(18, .int .i64 v)]) (fun v=> []) (fun v=> [(64,⟨.ex,2,dI (wS w s w.a.owner.length v),none⟩)]) (fun v=>v≤w.a.owner.length) (fun v=>w.a.owner.length - v) 0 ?_ (by omega) ?_
 ·
  rw [zHW]
  refine zW rfl ?_ ?_ ?_<;>simp only [zc,zb,push_cast,↓zK,↓zJ,↓reduceIte,zA,zB,zC,zD,zE,zF,zG,zH,zI,reduceCtorEq]
 ·rintro v hv KL0 hL0
  have hpl:=zFS (w:=w) (s:=s) hv
  simp only [push_cast,↓zK,↓zJ,↓reduceIte,zA,zB,zC,zD,zE,zF,zG,zH,zI,reduceCtorEq]
  refine zL fun K hK=> ?_
  refine zM zP zN [] rfl ?_
  all_goals simp only [push_cast,↓zK,↓zJ,↓reduceIte,zA,zB,zC,zD,zE,zF,zG,zH,zI,reduceCtorEq]
  all_goals repeat'(first|(apply zO<;>(intro hg;(try simp only [push_cast]at hg)))|apply And.intro|(intro hg;(try simp only [push_cast]at hg)))
  all_goals first|exact gA|(exact zQ (by omega))|skip
  all_goals first|(refine hK _ ?_;clear hK K)|(simp only [push_cast];done)
  refine zL fun K2 hK2=> ?_
  refine zU rfl (fun hc=> ?_) (fun hc=> ?_)<;>(try simp only [push_cast]at hc)
  ·
   refine zV ?_
   (try simp only [zR,zS,reduceIte,zF]);refine hK2 _ ?_
   refine zL fun K3 hK3=> ?_
   refine zT ?_
   obtain⟨hr1,hr2,hr3⟩:=hw.row v (by omega)
   have hsv:=hsb v (by omega)
   have hrv:=hr v
   have hcv:=hcr v
   refine zL fun K hK=> ?_
   refine zM zP zN [] rfl ?_
   all_goals simp only [push_cast,↓zK,↓zJ,↓reduceIte,zA,zB,zC,zD,zE,zF,zG,zH,zI,reduceCtorEq]
   all_goals repeat'(first|(apply zO<;>(intro hg;(try simp only [push_cast]at hg)))|apply And.intro|(intro hg;(try simp only [push_cast]at hg)))
   all_goals first|exact gA|(exact zQ (by omega))|skip
   all_goals first|(refine hK _ ?_;clear hK K)|(simp only [push_cast];done)
   refine zL fun K4 hK4=> ?_
   refine zL fun K hK=> ?_
   refine zf false zP zN ?_ rfl ?_
   ·kernel_rfl
   all_goals simp only [push_cast,↓zK,↓zJ,↓reduceIte,zA,zB,zC,zD,zE,zF,zG,zH,zI,reduceCtorEq]
   all_goals repeat'(first|(apply zO<;>(intro hg;(try simp only [push_cast]at hg)))|apply And.intro|(intro hg;(try simp only [push_cast]at hg)))
   all_goals first|exact gA|(exact zQ (by omega))|skip
   all_goals first|(refine hK _ ?_;clear hK K)|(simp only [push_cast];done)
   all_goals refine zU rfl (fun hc=> ?_) (fun hc=> ?_)
   all_goals(first|(cases hc;done)|skip)
   all_goals(try simp only [push_cast]at hc)
   all_goals try(
     refine ze ?_
     (try simp only [zR,zS,reduceIte,zF]);refine hK3 _ ?_
     refine zM zP zN [] rfl ?_
     all_goals simp only [push_cast,↓zK,↓zJ,↓reduceIte,zA,zB,zC,zD,zE,zF,zG,zH,zI,reduceCtorEq]
     all_goals repeat'(first|(apply zO<;>(intro hg;(try simp only [push_cast]at hg)))|apply And.intro|(intro hg;(try simp only [push_cast]at hg)))
     all_goals first|exact gA|(exact zQ (by omega))|skip
     refine hL0 _ ⟨v+1,by omega,by omega,?_⟩
     rw [Kl (by omega) (WX (by omega))]
     refine zW rfl ?_ ?_ ?_<;>simp only [zc,zb,push_cast,↓zK,↓zJ,↓reduceIte,zA,zB,zC,zD,zE,zF,zG,zH,zI,reduceCtorEq]
     done)
   refine zV ?_
   (try simp only [zR,zS,reduceIte,zF]);refine hK4 _ ?_
   refine zL fun K hK=> ?_
   refine zM zP zN [] rfl ?_
   all_goals simp only [push_cast,↓zK,↓zJ,↓reduceIte,zA,zB,zC,zD,zE,zF,zG,zH,zI,reduceCtorEq]
   all_goals repeat'(first|(apply zO<;>(intro hg;(try simp only [push_cast]at hg)))|apply And.intro|(intro hg;(try simp only [push_cast]at hg)))
   all_goals first|exact gA|(exact zQ (by omega))|skip
   all_goals first|(refine hK _ ?_;clear hK K)|(simp only [push_cast];done)
   refine zT ?_
   refine zd [7,8,30,39,40,41,42,43,44,45,46,47,48,49,50,51,52,53,54,55,56,57,58,59,60,61,62,63,64,65,66,67,68,69,70,71,72,73] [] (fun(k:Nat)=> [(39, .int .i64 k)]) (fun k=> []) (fun k=> []) (fun k=>k≤(gl w.a.next v).length∧pf w s v 0 (gl w.a.next v).length=pf w s v k ((gl w.a.next v).length - k)) (fun k=>(gl w.a.next v).length - k) 0 ?_ ⟨by omega,by rw [Nat.sub_zero]⟩ ?_
   ·
    refine zW rfl ?_ ?_ ?_<;>simp only [zc,zb,push_cast,↓zK,↓zJ,↓reduceIte,zA,zB,zC,zD,zE,zF,zG,zH,zI,reduceCtorEq]
   ·rintro k ⟨hk,hpk⟩ KL1 hL1
    simp only [push_cast,↓zK,↓zJ,↓reduceIte,zA,zB,zC,zD,zE,zF,zG,zH,zI,reduceCtorEq]
    refine zL fun K hK=> ?_
    refine zM zP zN [] rfl ?_
    all_goals simp only [push_cast,↓zK,↓zJ,↓reduceIte,zA,zB,zC,zD,zE,zF,zG,zH,zI,reduceCtorEq]
    all_goals repeat'(first|(apply zO<;>(intro hg;(try simp only [push_cast]at hg)))|apply And.intro|(intro hg;(try simp only [push_cast]at hg)))
    all_goals first|exact gA|(exact zQ (by omega))|skip
    all_goals first|(refine hK _ ?_;clear hK K)|(simp only [push_cast];done)
    refine zL fun K5 hK5=> ?_
    refine zU rfl (fun hc=> ?_) (fun hc=> ?_)<;>(try simp only [push_cast]at hc)
    ·
     refine zV ?_
     (try simp only [zR,zS,reduceIte,zF]);refine hK5 _ ?_
     refine zL fun K6 hK6=> ?_
     refine zT ?_
     have hto:=hw.to v (by omega) k (by omega)
     have hbd:=hw.bd v (by omega) k (by omega)
     have hsu:=hsb (gi (gl w.a.next v) k).toNat (by omega)
     refine zL fun K hK=> ?_
     refine zM zP zN [] rfl ?_
     all_goals simp only [push_cast,↓zK,↓zJ,↓reduceIte,zA,zB,zC,zD,zE,zF,zG,zH,zI,reduceCtorEq]
     all_goals repeat'(first|(apply zO<;>(intro hg;(try simp only [push_cast]at hg)))|apply And.intro|(intro hg;(try simp only [push_cast]at hg)))
     all_goals first|exact gA|(exact zQ (by omega))|skip
     all_goals first|(refine hK _ ?_;clear hK K)|(simp only [push_cast];done)
     refine zL fun K hK=> ?_
     refine zv false zP zN yj ?_ rfl ?_
     ·kernel_rfl
     intro E hE
     all_goals simp only [push_cast,↓zK,↓zJ,↓reduceIte,zA,zB,zC,zD,zE,zF,zG,zH,zI,reduceCtorEq]
     all_goals repeat'(first|(apply zO<;>(intro hg;(try simp only [push_cast]at hg)))|apply And.intro|(intro hg;(try simp only [push_cast]at hg)))
     all_goals first|exact gA|(refine hE _ _ ?_ ?_;kernel_rfl)|(exact zQ (by omega))|skip
     all_goals clear hE E
     all_goals first|(refine hK _ ?_;clear hK K)|(simp only [push_cast];done)
     all_goals refine zU rfl (fun hc=> ?_) (fun hc=> ?_)
     all_goals(first|(cases hc;done)|skip)
     all_goals(try simp only [push_cast]at hc)
     all_goals first
      |(
        refine zV ?_
        (try simp only [zR,zS,reduceIte,zF]);refine hK6 _ ?_
        refine zM zP zN [] rfl ?_
        all_goals simp only [push_cast,↓zK,↓zJ,↓reduceIte,zA,zB,zC,zD,zE,zF,zG,zH,zI,reduceCtorEq]
        all_goals repeat'(first|(apply zO<;>(intro hg;(try simp only [push_cast]at hg)))|apply And.intro|(intro hg;(try simp only [push_cast]at hg)))
        all_goals first|exact gA|(exact zQ (by omega))|skip
        refine hL1 _ ⟨k+1,⟨by omega,by rw [hpk,zCS (by omega),if_neg (by omega)]⟩,by omega,?_⟩
        refine zW rfl ?_ ?_ ?_<;>simp only [zc,zb,push_cast,↓zK,↓zJ,↓reduceIte,zA,zB,zC,zD,zE,zF,zG,zH,zI,reduceCtorEq]
        done)
      |(
        refine zL fun K hK=> ?_
        refine zM zP zN [] rfl ?_
        all_goals simp only [push_cast,↓zK,↓zJ,↓reduceIte,zA,zB,zC,zD,zE,zF,zG,zH,zI,reduceCtorEq]
        all_goals repeat'(first|(apply zO<;>(intro hg;(try simp only [push_cast]at hg)))|apply And.intro|(intro hg;(try simp only [push_cast]at hg)))
        all_goals first|exact gA|(exact zQ (by omega))|skip
        all_goals first|(refine hK _ ?_;clear hK K)|(simp only [push_cast];done)
        refine ze ?_
        (try simp only [zR,zS,reduceIte,zF]);refine hK3 _ ?_
        refine zM zP zN [] rfl ?_
        all_goals simp only [push_cast,↓zK,↓zJ,↓reduceIte,zA,zB,zC,zD,zE,zF,zG,zH,zI,reduceCtorEq]
        all_goals repeat'(first|(apply zO<;>(intro hg;(try simp only [push_cast]at hg)))|apply And.intro|(intro hg;(try simp only [push_cast]at hg)))
        all_goals first|exact gA|(exact zQ (by omega))|skip
        refine hL0 _ ⟨v+1,by omega,by omega,?_⟩
        rw [show gi (gl w.a.next v) k=wl w s v from by rw [VB (by omega),hpk,zCS (by omega),if_pos (by omega)],zEa (by omega)]
        refine zW rfl ?_ ?_ ?_<;>simp only [zc,zb,push_cast,↓zK,↓zJ,↓reduceIte,zA,zB,zC,zD,zE,zF,zG,zH,zI,reduceCtorEq]
        done)
    ·
     refine ze ?_
     (try simp only [zR,zS,reduceIte,zF]);refine hK3 _ ?_
     refine zM zP zN [] rfl ?_
     all_goals simp only [push_cast,↓zK,↓zJ,↓reduceIte,zA,zB,zC,zD,zE,zF,zG,zH,zI,reduceCtorEq]
     all_goals repeat'(first|(apply zO<;>(intro hg;(try simp only [push_cast]at hg)))|apply And.intro|(intro hg;(try simp only [push_cast]at hg)))
     all_goals first|exact gA|(exact zQ (by omega))|skip
     refine hL0 _ ⟨v+1,by omega,by omega,?_⟩
     rw [Kl (by omega) (by rw [VB (by omega),hpk,show(gl w.a.next v).length - k=0 from by omega];rfl)]
     refine zW rfl ?_ ?_ ?_<;>simp only [zc,zb,push_cast,↓zK,↓zJ,↓reduceIte,zA,zB,zC,zD,zE,zF,zG,zH,zI,reduceCtorEq]
  ·
   refine ze ?_
   have hkv:v=w.a.owner.length:=by omega
   subst hkv
   rw [zIA]
   (try simp only [zR,zS,reduceIte,zF]);refine hK1 _ ?_
   refine zL fun K hK=> ?_
   refine zM zP zN [] rfl ?_
   all_goals simp only [push_cast,↓zK,↓zJ,↓reduceIte,zA,zB,zC,zD,zE,zF,zG,zH,zI,reduceCtorEq]
   all_goals repeat'(first|(apply zO<;>(intro hg;(try simp only [push_cast]at hg)))|apply And.intro|(intro hg;(try simp only [push_cast]at hg)))
   all_goals first|exact gA|(exact zQ (by omega))|skip
   all_goals first|(refine hK _ ?_;clear hK K)|(simp only [push_cast];done)
   refine zX ?_
   (try simp only [zR,zS])
   refine⟨Or.inl rfl,?_⟩
   simp only [zg,push_cast,↓zK,↓zJ,↓reduceIte,zA,zB,zC,zD,zE,zF,zG,zH,zI,reduceCtorEq]
   all_goals first|rfl|exact(vE _ _ _).symm|(rw [vE];simp;done)|exact⟨rfl,(vE _ _ _).symm⟩
theorem zHH {w:Wt}{s:List Int}{v:Nat}: ∀(m j:Nat),(∃i,j≤i∧i<j+m∧0≤gi s (toE w v i)∧gi s (toE w v i) - coE w v i≤gi s v)→∃i,j≤i∧i<j+m∧(0≤gi s (toE w v i)∧gi s (toE w v i) - coE w v i≤gi s v)∧pf w s v j m=gi (gl w.a.next v) i
 |0,j,⟨i,h1,h2,_⟩=>by omega
 |m+1,j,⟨i,h1,h2,h3⟩=>by
  by_cases hc:0≤gi s (toE w v j)∧gi s (toE w v j) - coE w v j≤gi s v
  ·exact⟨j,Nat.le_refl _,by omega,hc,if_pos hc⟩
  ·have hne:j≠i:=fun e=>hc (by rw [e];exact h3)
   obtain⟨k,a,b,c,d⟩:=zHH m (j+1) ⟨i,by omega,by omega,h3⟩
   exact⟨k,by omega,by omega,c,(if_neg hc).trans d⟩
theorem zFw {xs:List Int}{n:Int}(h:qC xs n=true){k:Nat}(hk:k<xs.length):ym xs (gi xs k)=k:=
 Ww hk (fun j hj e=>by have :=zEm h k hk j hj;omega) rfl
theorem Uc {w:Wt}{s:List Int}{n v:Nat}(h:v<n):gi (wP w s n) v=wl w s v:=by
 unfold gi wP
 rw [List.getD_eq_getElem?_getD,List.getElem?_map,List.getElem?_range h]
 rfl
theorem KV {b:Int}{c:List Int}{v:Nat}(h:v<c.length):gi (c.map (yL b)) v=yL b (gi c v):=by
 unfold gi
 rw [List.getD_eq_getElem?_getD,List.getD_eq_getElem?_getD,List.getElem?_map,List.getElem?_eq_getElem h]
 rfl
theorem uZ {w:Wt}(hw:WSh w){c:List Int}(hL:xJ w (zk w) c){v:Nat}(hv:v<w.a.owner.length)(e:gi w.a.owner v=0)(hf:gi c v≤zk w):
  ∃j,j<(gl w.a.next v).length∧Ed w (zk w) c v j (gi c v)∧wl w (c.map (yL (zk w))) v=gi (gl w.a.next v) j:=by
 have hr:=hL.rg v hv
 have hb:=hw.bound.1
 obtain⟨j,hj,e1,e2⟩:=((wO hw hb hv hr.1 hf).1 (hL.pre v hv)).1 e
 have hto: ∀i,i<(gl w.a.next v).length→toE w v i<w.a.owner.length:=fun i hi=>by have :=hw.to v hv i hi;unfold toE;omega
 have hs: ∀u,u<w.a.owner.length→gi (c.map (yL (zk w))) u=yL (zk w) (gi c u):=fun u hu=>KV (by rw [hL.len];exact hu)
 have hsv:gi (c.map (yL (zk w))) v=gi c v:=by rw [hs v hv];unfold yL;rw [if_neg (by omega)]
 have hrt:=hL.rg _ (hto j hj)
 have hst:gi (c.map (yL (zk w))) (toE w v j)=gi c (toE w v j):=(hs _ (hto j hj)).trans (if_neg (by omega))
 obtain⟨i,-,hi,⟨a1,a2⟩,hp⟩:=zHH (w:=w) (s:=c.map (yL (zk w))) (v:=v) (gl w.a.next v).length 0 ⟨j,by omega,by omega,by omega,by omega⟩
 have hi':i<(gl w.a.next v).length:=by omega
 have hsi:=hs _ (hto i hi')
 have hfi:gi c (toE w v i)≤zk w:=by
  rw [hsi]at a1
  unfold yL at a1
  split at a1<;>omega
 have hsj:gi (c.map (yL (zk w))) (toE w v i)=gi c (toE w v i):=hsi.trans (if_neg (by omega))
 exact⟨i,hi',⟨hfi,by omega⟩,by rw [VB ⟨e,by omega⟩];exact hp⟩
end Go.Proofs.Ytdbecmmeifdafaa
