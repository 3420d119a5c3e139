/- parity games and scores: both sides -/
import Derived.Test.YthepmdkpbjfdcaaB6zpw
import Derived.Test.YthepmdkpbjfdcaaB7zpw
import Derived.Test.YthepmdkpbjfdcaaGDzpw
import Derived.Test.YthepmdkpbjfdcaaB8zpw
namespace Go.Proofs.Ythepmdkpbjfdcaa
open Go.RowKit
set_option linter.unusedVariables false
set_option linter.unusedSimpArgs false
def qk (g:Pa):Bool:=yc g.a&&(decide (g.prio.length=g.a.owner.length)&&YO g.prio.length (fun k=>decide (0≤gi g.prio k∧gi g.prio k≤40)))
theorem zBg {g:Pa}(h1:yc g.a=true)(h2:g.prio.length=g.a.owner.length)(h3: ∀k,k<g.prio.length→0≤gi g.prio k∧gi g.prio k≤40):qk g=true:=by
 unfold qk;rw [h1,decide_eq_true h2,vp fun k hk=>decide_eq_true (h3 k hk)];rfl
theorem jA {n k:Nat}{x:Int}(h:k<n):gi (List.replicate n x) k=x:=by
 unfold gi
 rw [List.getD_eq_getElem?_getD,List.getElem?_replicate,if_pos h]
 rfl
theorem Zr {xs:List Int}{n:Int}(h:yx xs n=true){j:Nat}(hj:j<xs.length):0≤gi xs j∧gi xs j<n:=by
 have :=vI h hj
 unfold qH at this
 have :=of_decide_eq_true this
 exact⟨this.1,this.2.1⟩
def prv (a:Ar)(u v:Nat):List Int:=((List.range v).filter fun(w:Nat)=>yD (gl a.next w) (u:Int)).map fun(w:Nat)=>(w:Int)
def YR (a:Ar)(v i u:Nat):List Int:=prv a u v++if yD ((gl a.next v).take i) (u:Int)then [(v:Int)]else []
def xj (a:Ar)(n v i:Nat):List (List Int):=(List.range n).map (YR a v i)
theorem vE (a:Ar)(n v i:Nat):(xj a n v i).length=n:=by simp [xj]
theorem JO {a:Ar}{n v i u:Nat}(h:u<n):gl (xj a n v i) u=YR a v i u:=by
 unfold gl xj
 rw [List.getD_eq_getElem?_getD,List.getElem?_map,List.getElem?_range h]
 rfl
theorem zGD (a:Ar)(u:Nat):prv a u 0= []:=rfl
theorem uT (a:Ar)(n:Nat):xj a n 0 0=List.replicate n []:=by
 refine List.ext_getElem (by simp [xj]) fun j h1 h2=> ?_
 simp [xj,YR,zGD,yD,qJ]
theorem zCN (a:Ar)(u v:Nat):(prv a u v).length≤v:=by
 unfold prv
 rw [List.length_map]
 exact Nat.le_trans (List.length_filter_le _ _) (by simp)
theorem zAn (a:Ar)(v i u:Nat):(YR a v i u).length≤v+1:=by
 unfold YR
 rw [List.length_append]
 have :=zCN a u v
 split<;>simp<;>omega
theorem uR {a:Ar}{n v:Nat}:xj a n v (gl a.next v).length=xj a n (v+1) 0:=by
 unfold xj
 refine List.map_congr_left fun u _=> ?_
 unfold YR
 rw [List.take_length,show(gl a.next (v+1)).take 0= []from rfl,show yD [] (u:Int)=false from rfl]
 unfold prv
 rw [List.range_succ,List.filter_append,List.map_append]
 by_cases h:yD (gl a.next v) (u:Int)=true<;>simp [h]
theorem uS {a:Ar}(hok:yc a=true){n v i:Nat}(hv:v<a.owner.length)(hn:n=a.owner.length)(hi:i<(gl a.next v).length):
  (xj a n v i).set (gi (gl a.next v) i).toNat (gl (xj a n v i) (gi (gl a.next v) i).toNat++ [(v:Int)])=xj a n v (i+1):=by
 have hs:=(xR hok hv).2.2.2.2
 have hb:=Zr hs hi
 have hu:(gi (gl a.next v) i).toNat<n:=by omega
 have hrise: ∀k j,j<k→k<(gl a.next v).length→gi (gl a.next v) j<gi (gl a.next v) k:=by
  intro k
  induction k with
  |zero=>intro j h;omega
  |succ k ih=>
   intro j hj hk
   have :=vI hs hk
   unfold qH at this
   have :=of_decide_eq_true this
   have h1:gi (gl a.next v) k<gi (gl a.next v) (k+1):=by have :=this.2.2.resolve_left (by omega);simpa using this
   rcases Nat.lt_or_ge j k with h|h
   ·have :=ih j h (by omega);omega
   ·rw [show j=k by omega];exact h1
 refine List.ext_getElem (by simp [xj]) fun j h1 h2=> ?_
 rw [List.getElem_set]
 have hj:j<n:=by rw [vE]at h2;exact h2
 have e1:(xj a n v i)[j]'(by rw [vE];exact hj)=YR a v i j:=by simp [xj]
 have e2:(xj a n v (i+1))[j]=YR a v (i+1) j:=by simp [xj]
 rw [e2]
 have hno:yD ((gl a.next v).take i) (gi (gl a.next v) i)=false:=by
  refine Bool.eq_false_iff.2 fun h=> ?_
  obtain⟨k,hk,e⟩:=vM.1 h
  rw [List.length_take]at hk
  rw [wT (by omega)]at e
  have :=hrise i k (by omega) hi
  omega
 split
 ·rename_i e
  subst e
  rw [JO hu]
  unfold YR
  rw [ZG hi,Int.toNat_of_nonneg hb.1,hno]
  simp
 ·rename_i e
  rw [e1]
  unfold YR
  rw [ZG hi]
  have :decide ((j:Int)=gi (gl a.next v) i)=false:=decide_eq_false (by omega)
  rw [this,Bool.or_false]
theorem zGC (a:Ar)(n u:Nat)(h:n=a.next.length):YR a n 0 u=prv a u n:=by
 unfold YR
 rw [show(gl a.next n).take 0= []from rfl,show yD [] (u:Int)=false from rfl]
 simp
theorem zCO {a:Ar}{u v:Nat}{w:Int}:w∈prv a u v↔0≤w∧w<v∧yD (gl a.next w.toNat) (u:Int)=true:=by
 unfold prv
 rw [List.mem_map]
 constructor
 ·rintro⟨k,hk,rfl⟩
  obtain⟨h1,h2⟩:=List.mem_filter.1 hk
  have :=List.mem_range.1 h1
  exact⟨by omega,by omega,by simpa using h2⟩
 ·rintro⟨h1,h2,h3⟩
  exact⟨w.toNat,List.mem_filter.2 ⟨List.mem_range.2 (by omega),h3⟩,by omega⟩
theorem zJg (a:Ar)(u v:Nat):(prv a u v).Pairwise (· < ·):=by
 unfold prv
 rw [List.pairwise_map]
 refine List.Pairwise.imp (fun h=> ?_) (List.Pairwise.filter _ List.pairwise_lt_range)
 omega
theorem zAL {xs:List Int}{i:Nat}(h:i<xs.length):gi xs i∈xs:=List.mem_of_getElem? (vW h)
def l7G (g:Pa)(pick:List Int):L7:=⟨g.a.owner,g.prio,g.a.next,xj g.a g.a.owner.length g.a.owner.length 0,pick⟩
theorem zFh {g:Pa}(hl:g.a.next.length=g.a.owner.length){pick:List Int}{u:Nat}(hu:u<g.a.owner.length):gl (l7G g pick).prev u=prv g.a u g.a.owner.length:=by
 show gl (xj g.a _ _ 0) u=_
 rw [JO hu,zGC _ _ _ hl.symm]
theorem xg {g:Pa}(h:qk g=true):yc g.a=true∧g.prio.length=g.a.owner.length∧∀v,v<g.a.owner.length→0≤gi g.prio v∧gi g.prio v≤40:=by
 unfold qk at h
 rw [Bool.and_eq_true,Bool.and_eq_true]at h
 have h2:=of_decide_eq_true h.2.1
 exact⟨h.1,h2,fun v hv=>by have :=vI h.2.2 (k:=v) (by omega);exact of_decide_eq_true this⟩
theorem zEL {g:Pa}(h:qk g=true){pick:List Int}(hp:pick.length=g.a.owner.length):(l7G g pick).Ok g.a.owner.length:=by
 obtain⟨ha,hpl,hpr⟩:=xg h
 have hal:=yv ha
 have hpv:=fun u (hu:u<g.a.owner.length)=>zFh (g:=g) hal.2.2 (pick:=pick) hu
 refine⟨hal.2.1,rfl,hpl,hal.2.2,vE _ _ _ _,hp,fun v hv=> ?_,fun v hv j hj=> ?_,hpr,fun v hv=> ?_,fun v hv i j hij hj=> ?_,fun u hu=> ?_,fun u hu m hm=> ?_,fun v hv j hj=> ?_,fun u hu i j hij hj=> ?_⟩
 ·have :=(xR ha hv).2.2.2.1
  show(gl g.a.next v).length≤256
  omega
 ·exact Zr (xR ha hv).2.2.2.2 hj
 ·have :=xR ha hv
  show gi g.a.owner v=0∨gi g.a.owner v=1
  omega
 ·have hs:=(xR ha hv).2.2.2.2
  have key: ∀k j,j<k→k<(gl g.a.next v).length→gi (gl g.a.next v) j<gi (gl g.a.next v) k:=by
   intro k
   induction k with
   |zero=>intro j h;omega
   |succ k ih=>
    intro j hj hk
    have :=vI hs hk
    unfold qH at this
    have :=of_decide_eq_true this
    have h1:gi (gl g.a.next v) k<gi (gl g.a.next v) (k+1):=by have :=this.2.2.resolve_left (by omega);simpa using this
    rcases Nat.lt_or_ge j k with h|h
    ·have :=ih j h (by omega);omega
    ·rw [show j=k by omega];exact h1
  have :=key j i hij hj
  show gi (gl g.a.next v) i≠gi (gl g.a.next v) j
  omega
 ·rw [hpv u hu]
  have :=zCN g.a u g.a.owner.length
  omega
 ·rw [hpv u hu]at hm⊢
  obtain⟨h1,h2,h3⟩:=zCO.1 (zAL hm)
  refine⟨⟨h1,h2⟩,?_⟩
  obtain⟨i,hi,e⟩:=vM.1 h3
  exact⟨i,hi,e⟩
 ·have hb:=Zr (xR ha hv).2.2.2.2 hj
  have hu:(gi (gl g.a.next v) j).toNat<g.a.owner.length:=by omega
  show∃m,m<(gl (l7G g pick).prev (gi (gl g.a.next v) j).toNat).length∧gi (gl (l7G g pick).prev (gi (gl g.a.next v) j).toNat) m=v
  rw [hpv _ hu]
  have hm:(v:Int)∈prv g.a (gi (gl g.a.next v) j).toNat g.a.owner.length:=zCO.2 ⟨by omega,by omega,by
   rw [Int.toNat_natCast,Int.toNat_of_nonneg hb.1]
   exact vM.2 ⟨j,hj,rfl⟩⟩
  obtain⟨m,hm1,hm2⟩:=vM.1 ((vX _ _).2 hm)
  exact⟨m,hm1,hm2⟩
 ·rw [hpv u hu]at hj⊢
  have :=List.pairwise_iff_getElem.1 (zJg g.a u g.a.owner.length) i j (by omega) hj hij
  unfold gi
  rw [List.getD_eq_getElem?_getD,List.getD_eq_getElem?_getD,List.getElem?_eq_getElem (by omega),List.getElem?_eq_getElem hj]
  simp only [Option.getD_some]
  omega
def noP (n:Nat):List Int:=List.replicate n (-1)
theorem kJ (n:Nat):(noP n).length=n:=List.length_replicate ..
theorem zJZ (n v:Nat)(h:v<n):gi (noP n) v= -1:=jA h
def qc (n:Nat):List Bool:=List.replicate n true
theorem Qt (n:Nat):(qc n).length=n:=List.length_replicate ..
theorem QP {n v:Nat}(h:v<n):gb (qc n) v=true:=by
 unfold gb qc
 rw [List.getD_eq_getElem?_getD,List.getElem?_replicate,if_pos h]
 rfl
noncomputable def Wl (g:Pa):List Bool:=yU (l7G g (noP g.a.owner.length)) g.a.owner.length (g.a.owner.length+1) (qc g.a.owner.length)
def Zw (b:Bool):Int:=if b then 0 else 1
noncomputable def QF (g:Pa):List Int:=(Wl g).map Zw
theorem KY (g:Pa):(Wl g).length=g.a.owner.length:=KX _ _ _ _
theorem XK (g:Pa):(QF g).length=g.a.owner.length:=by unfold QF;rw [List.length_map,KY]
theorem zIW {g:Pa}{v:Nat}(hv:v<g.a.owner.length):gi (QF g) v=Zw (gb (Wl g) v):=by
 unfold gi QF gb
 rw [List.getD_eq_getElem?_getD,List.getElem?_map,List.getD_eq_getElem?_getD,List.getElem?_eq_getElem (by rw [KY];exact hv)]
 rfl
def pgOf (g:Pa):PG:=⟨fun v=>if v<g.a.owner.length then gi g.a.owner v else 0,fun v=>(gi g.prio v).toNat,fun v u=>v<g.a.owner.length∧∃j,j<(gl g.a.next v).length∧(gi (gl g.a.next v) j).toNat=u⟩
theorem zD0 {g:Pa}{v:Nat}(hv:v<g.a.owner.length)(u:Int):edB (l7G g (noP g.a.owner.length)) v u=true:=by
 unfold edB
 refine decide_eq_true (.inl ?_)
 show gi (noP g.a.owner.length) (Int.toNat v)<0
 rw [Int.toNat_natCast,zJZ _ _ hv]
 decide
theorem zJc (g:Pa):pgL (l7G g (noP g.a.owner.length))=pgOf g:=by
 unfold pgL pgOf
 congr 1
 funext v u
 refine propext ⟨?_,?_⟩
 ·rintro⟨h1,j,h2,h3,-⟩
  exact⟨h1,j,h2,h3⟩
 ·rintro⟨h1,j,h2,h3⟩
  exact⟨h1,j,h2,h3,zD0 h1 _⟩
noncomputable def wiB (x:L7)(n:Nat)(M:List Bool)(who:Int)(v:Nat):Bool:=gb M v&&(gb (yU x n (n+1) M) v==(who==0))
noncomputable def wiM (x:L7)(n:Nat)(M:List Bool)(who:Int):List Bool:=yX n (wiB x n M who)
theorem Qm (x:L7)(n:Nat)(M:List Bool)(who:Int):(wiM x n M who).length=n:=qW _ _
structure WnI (x:L7)(n:Nat)(M:List Bool)(who:Int)(now:List Bool):Prop where
 len:now.length=n
 sub: ∀v,inD n now v→inD n M v
 live:vR (pgL x) (inD n now)
 whoW: ∀U m,xi (pgL x) who (inD n now) U m→xi (pgL x) who (inD n M) U m
 oppW: ∀U m,xi (pgL x) (1 - who) (inD n now) U m→∃s,xi (pgL x) (1 - who) (inD n M) (fun v=>U v∨(inD n M v∧¬inD n now v)) s
section
variable {x:L7} {n:Nat}
theorem WnI.start {M:List Bool}{who:Int}(hM:M.length=n)(hl:vR (pgL x) (inD n M)):WnI x n M who M:=
 ⟨hM,fun v h=>h,hl,fun U m h=>h,fun U m h=>⟨m,yN h (fun v=>Iff.rfl) fun v=>⟨fun h=> .inl h,fun h=>h.resolve_right fun h2=>h2.2 h2.1⟩⟩⟩
theorem kX (hx:x.Ok n){M:List Bool}(hM:M.length=n)(hl:vR (pgL x) (inD n M)){who:Int}(hw:who=0∨who=1):
  (∃s,xi (pgL x) who (inD n M) (fun v=>inD n M v∧gb (yU x n (n+1) M) v=(who==0)) s)∧∃s,xi (pgL x) (1 - who) (inD n M) (fun v=>inD n M v∧gb (yU x n (n+1) M) v= !(who==0)) s:=by
 obtain⟨h0,h1⟩:=kW hx (n+1) M hM (Nat.lt_succ_of_le (VB _ _)) hl
 rcases hw with rfl|rfl
 ·exact⟨h0,h1⟩
 ·exact⟨h1,h0⟩
theorem zCc (hx:x.Ok n){M:List Bool}(hM:M.length=n)(hl:vR (pgL x) (inD n M)){who:Int}(hw:who=0∨who=1){U:Nat→Prop}{s t:Nat→Nat}
  (h1:xi (pgL x) who (inD n M) U s) (h2:xi (pgL x) (1 - who) (inD n M) (fun v=>inD n M v∧¬U v) t) {v:Nat} (hv:inD n M v):wiB x n M who v=true↔U v:=by
 obtain⟨⟨a,ha⟩,⟨b,hb⟩⟩:=kX hx hM hl hw
 have key: ∀{A B:Nat→Prop} {c d:Nat→Nat},xi (pgL x) who (inD n M) A c→xi (pgL x) (1 - who) (inD n M) B d→A v→B v→False:=fun{A B c d} p q e f=>by
  rcases hw with rfl|rfl
  ·exact Vo (fun v h=>h.1) (VW hx) p q v e f
  ·exact Vo (fun v h=>h.1) (VW hx) q p v f e
 unfold wiB
 rw [hv.2,Bool.true_and,beq_iff_eq]
 constructor
 ·intro h
  exact Classical.byContradiction fun hn=>key ha h2 ⟨hv,h⟩ ⟨hv,hn⟩
 ·intro h
  cases hc:gb (yU x n (n+1) M) v==(who==0)
  ·exfalso
   refine key h1 hb h ⟨hv,?_⟩
   have h9: ¬gb (yU x n (n+1) M) v=(who==0):=fun e=>by rw [beq_iff_eq.2 e]at hc;cases hc
   cases hq:gb (yU x n (n+1) M) v<;>cases hq2:(who==0)<;>first|rfl|(exfalso;rw [hq,hq2]at h9;exact h9 rfl)
  ·exact beq_iff_eq.1 hc
theorem zGy (hx:x.Ok n){M:List Bool}(hM:M.length=n)(hl:vR (pgL x) (inD n M)){who:Int}(hw:who=0∨who=1){now:List Bool}(hn:now.length=n)(hsub: ∀v,inD n now v→inD n M v){s t:Nat→Nat}
  (h1:xi (pgL x) who (inD n M) (inD n now) s) (h2:xi (pgL x) (1 - who) (inD n M) (fun v=>inD n M v∧¬inD n now v) t):now=wiM x n M who:=by
 refine wS (by rw [Qm];exact hn) fun v hv=> ?_
 rw [hn]at hv
 unfold wiM
 rw [yS hv,Bool.eq_iff_iff]
 constructor
 ·intro h
  exact(zCc hx hM hl hw h1 h2 (hsub v ⟨hv,h⟩)).2 ⟨hv,h⟩
 ·intro h
  have h5:=h
  unfold wiB at h5
  rw [Bool.and_eq_true]at h5
  exact((zCc hx hM hl hw h1 h2 ⟨hv,h5.1⟩).1 h).2
theorem WnI.rest {M:List Bool}{who:Int}{now goal:List Bool}(hx:x.Ok n)(h:WnI x n M who now):(yI now (yW x n now who goal)).length=n∧vR (pgL x) (inD n (yI now (yW x n now who goal))):=by
 refine⟨by rw [xS];exact h.len,?_⟩
 have :=XZ (who:=who) (goal:=fun v=>gb goal v=true) (JN hx) h.live
 rw [show inD n (yI now (yW x n now who goal))=_ from funext fun v=>propext (Qj h.len v)]
 exact this
theorem WnI.all {M:List Bool}{who:Int}{now goal lost:List Bool}{top:Int}(hx:x.Ok n)(hM:M.length=n)(hl:vR (pgL x) (inD n M))(h:WnI x n M who now)(ht:0≤top)(hwho:top%2=who)(htop: ∀v,inD n M v→gi x.prio v≤top)
  (hgoal:goal=yX n (yw x now top)) {rest:List Bool} (hrest:rest=yI now (yW x n now who goal)) (hlost: ∀v,v<n→gb lost v=yP rest (yU x n (n+1) rest) who v) (hno: ∀v,v<n→gb lost v=false):now=wiM x n M who:=by
 have hw:who=0∨who=1:=by omega
 obtain⟨hrl,hrv⟩:=h.rest (goal:=goal) hx
 rw [←hrest]at hrl hrv
 obtain⟨⟨s,hs⟩,-⟩:=kX hx hrl hrv hw
 have hD: ∀v,inD n rest v↔inD n now v∧¬Att (pgL x) who (inD n now) (fun v=>(pgL x).pr v=top.toNat) v:=fun v=>by
  rw [hrest,Qj h.len v]
  have :Att (pgL x) who (inD n now) (fun v=>gb goal v=true) v↔Att (pgL x) who (inD n now) (fun v=>(pgL x).pr v=top.toNat) v:=Yz (fun u hu=>by
   rw [hgoal,yS hu.1]
   unfold yw
   rw [hu.2,Bool.true_and,beq_iff_eq]
   have :=hx.pr u hu.1
   show _↔(gi x.prio u).toNat=top.toNat
   omega) v
  rw [this]
 have hall: ∀v,inD n rest v→gb (yU x n (n+1) rest) v=(who==0):=fun v hv=>by
  have h1:=hno v hv.1
  rw [hlost v hv.1]at h1
  unfold yP at h1
  rw [hv.2,Bool.true_and]at h1
  cases hq:gb (yU x n (n+1) rest) v<;>cases hq2:(who==0)<;>first|rfl|(exfalso;rw [hq,hq2]at h1;cases h1)
 obtain⟨s',hs'⟩:=zCe (g:=pgL x) (who:=who) (D:=inD n now) (top:=top.toNat) (JN hx) h.live (fun v hv=>by
  have :=htop v (h.sub v hv)
  show(gi x.prio v).toNat≤top.toNat
  omega) (by omega) (s:=s) (yN hs hD fun v=>⟨fun h5=>(hD v).1 h5.1,fun h5=>⟨(hD v).2 h5,hall v ((hD v).2 h5)⟩⟩)
 obtain⟨t0,ht0⟩:=wG (pgL x) (1 - who) (inD n now) (fun _=>False) (fun v h=>h)
 obtain⟨t,ht1⟩:=h.oppW _ _ ht0
 exact zGy hx hM hl hw h.len h.sub (h.whoW _ _ hs') (yN ht1 (fun v=>Iff.rfl) fun v=>⟨fun h5=>h5.resolve_left id,fun h5=> .inr h5⟩)
theorem WnI.none {M:List Bool}{who:Int}{now:List Bool}(hx:x.Ok n)(hM:M.length=n)(hl:vR (pgL x) (inD n M))(hw:who=0∨who=1)(h:WnI x n M who now)(hno: ∀v,v<n→gb now v=false):now=wiM x n M who:=by
 have hn: ∀v,¬inD n now v:=fun v hv=>by rw [inD,hno v hv.1]at hv;cases hv.2
 obtain⟨t0,ht0⟩:=wG (pgL x) (1 - who) (inD n now) (fun _=>False) (fun v h=>h)
 obtain⟨t,ht1⟩:=h.oppW _ _ ht0
 obtain⟨s,hs⟩:=wG (pgL x) who (inD n M) (inD n now) hn
 exact zGy hx hM hl hw h.len h.sub hs (yN ht1 (fun v=>Iff.rfl) fun v=>⟨fun h5=>h5.resolve_left id,fun h5=> .inr h5⟩)
theorem WnI.next {M:List Bool}{who:Int}{now goal lost:List Bool}(hx:x.Ok n)(hw:who=0∨who=1)(h:WnI x n M who now){rest:List Bool}(hrest:rest=yI now (yW x n now who goal))(hlost: ∀v,v<n→gb lost v=yP rest (yU x n (n+1) rest) who v):WnI x n M who (yI now (yW x n now (1 - who) lost)):=by
 obtain⟨hrl,hrv⟩:=h.rest (goal:=goal) hx
 rw [←hrest]at hrl hrv
 obtain⟨-,⟨s,hs⟩⟩:=kX hx hrl hrv hw
 have ho2: ∀v,(pgL x).own v=who∨(pgL x).own v=1 - who:=fun v=>by have :=VW hx v;omega
 have hL: ∀v,inD n rest v∧gb (yU x n (n+1) rest) v=(!(who==0))↔v<n∧gb lost v=true:=fun v=>by
  constructor
  ·rintro⟨⟨a,b⟩,c⟩
   refine⟨a,?_⟩
   rw [hlost v a]
   unfold yP
   rw [b,c]
   cases(who==0)<;>rfl
  ·rintro⟨a,b⟩
   rw [hlost v a]at b
   unfold yP at b
   rw [Bool.and_eq_true]at b
   refine⟨⟨a,b.1⟩,?_⟩
   have :=b.2
   cases hq:gb (yU x n (n+1) rest) v<;>cases hq2:(who==0)<;>first|rfl|(rw [hq,hq2]at this;cases this)
 have hcg: ∀v,Att (pgL x) (1 - who) (inD n now) (fun v=>gb lost v=true) v↔Att (pgL x) (1 - who) (inD n now) (fun v=>v<n∧gb lost v=true) v:=Yz fun v hv=>⟨fun e=>⟨hv.1,e⟩,fun e=>e.2⟩
 have hD: ∀v,inD n (yI now (yW x n now (1 - who) lost)) v↔inD n now v∧¬Att (pgL x) (1 - who) (inD n now) (fun v=>v<n∧gb lost v=true) v:=fun v=>by rw [Qj h.len v,hcg v]
 refine⟨by rw [xS];exact h.len,fun v hv=>h.sub v ((hD v).1 hv).1,?_,fun U m hU=> ?_,fun U m hU=> ?_⟩
 ·have :=XZ (who:=1 - who) (goal:=fun v=>v<n∧gb lost v=true) (JN hx) h.live
  rw [show inD n (yI now (yW x n now (1 - who) lost))=_ from funext fun v=>propext (hD v)]
  exact this
 ·exact h.whoW U m (kZ ho2 (yN hU hD fun v=>Iff.rfl))
 ·obtain⟨s',hs'⟩:=kY (g:=pgL x) (who:=who) (opp:=1 - who) (D:=inD n now) (goal:=fun v=>gb goal v=true) ho2 (by omega) (L:=fun v=>v<n∧gb lost v=true) (M:=U) (s:=s) (m:=m) (yN hs (fun v=>by rw [hrest];exact Qj h.len v) hL) (yN hU hD fun v=>Iff.rfl)
  obtain⟨t,ht⟩:=h.oppW _ _ hs'
  refine⟨t,yN ht (fun v=>Iff.rfl) fun v=> ?_⟩
  constructor
  ·rintro((h5|h5)|⟨h5,h6⟩)
   ·exact .inl h5
   ·exact .inr ⟨h.sub v h5.inD,fun h7=>((hD v).1 h7).2 h5⟩
   ·exact .inr ⟨h5,fun h7=>h6 ((hD v).1 h7).1⟩
  ·rintro(h5|⟨h5,h6⟩)
   ·exact .inl (.inl h5)
   ·by_cases h7:inD n now v
    ·exact .inl (.inr (Classical.byContradiction fun h8=>h6 ((hD v).2 ⟨h7,h8⟩)))
    ·exact .inr ⟨h5,h7⟩
theorem zEO {rest:List Bool}{who:Int}{v:Nat}(hl:rest.length=n)(hv:v<n):gb (yI rest (wiM x n rest who)) v=yP rest (yU x n (n+1) rest) who v:=by
 rw [qB (by omega)]
 unfold wiM yP
 rw [yS hv]
 unfold wiB
 cases gb rest v<;>cases gb (yU x n (n+1) rest) v<;>cases(who==0)<;>rfl
theorem zDE {rest:List Bool}{who:Int}{v:Nat}(hw:who=0∨who=1)(hv:v<n):gb (wiM x n rest (1 - who)) v=yP rest (yU x n (n+1) rest) who v:=by
 unfold wiM yP
 rw [yS hv]
 unfold wiB
 rcases hw with rfl|rfl<;>cases gb rest v<;>cases gb (yU x n (n+1) rest) v<;>rfl
theorem WnI.lt {M:List Bool}{who:Int}{now lost goal rest:List Bool}(h:WnI x n M who now)(hrest:rest=yI now (yW x n now who goal))(hlost: ∀v,v<n→gb lost v=yP rest (yU x n (n+1) rest) who v)(hsome: ∃v,v<n∧gb lost v=true):ye (yI now (yW x n now (1 - who) lost)) n<ye now n:=by
 obtain⟨v,hv,h1⟩:=hsome
 refine Yu h.len hv ?_ h1
 rw [hlost v hv]at h1
 unfold yP at h1
 rw [Bool.and_eq_true,hrest,qB (by rw [h.len];exact hv),Bool.and_eq_true]at h1
 exact h1.1.1
end
def yb (l:List Bool):Nat→List Int
 |0=> []
 |k+1=>if gb l k then yb l k++ [(k:Int)]else yb l k
theorem VF {l:List Bool}{k:Nat}(h:gb l k=true):yb l (k+1)=yb l k++ [(k:Int)]:=by
 show(if _ then _ else _)=_;rw [if_pos h]
theorem QV {l:List Bool}{k:Nat}(h:gb l k=false):yb l (k+1)=yb l k:=by
 show(if _ then _ else _)=_;rw [if_neg (by rw [h];exact Bool.false_ne_true)]
theorem vy {l:List Bool}{y:Int}: ∀{k:Nat},y∈yb l k↔∃v:Nat,v<k∧gb l v=true∧y=v
 |0=>⟨fun h=>(by cases h),fun⟨v,h,_⟩=>absurd h (Nat.not_lt_zero _)⟩
 |k+1=>by
  cases hk:gb l k
  ·rw [QV hk,vy]
   constructor
   ·rintro⟨v,a,b,c⟩;exact⟨v,by omega,b,c⟩
   ·rintro⟨v,a,b,c⟩
    by_cases e:v=k
    ·rw [e,hk]at b;cases b
    ·exact⟨v,by omega,b,c⟩
  ·rw [VF hk,List.mem_append,vy]
   constructor
   ·rintro(⟨v,a,b,c⟩|h)
    ·exact⟨v,by omega,b,c⟩
    ·exact⟨k,by omega,hk,by simpa using h⟩
   ·rintro⟨v,a,b,c⟩
    by_cases e:v=k
    ·right;rw [c,e];simp
    ·exact .inl ⟨v,by omega,b,c⟩
theorem vx (l:List Bool): ∀k,(yb l k).length≤k
 |0=>Nat.le_refl _
 |k+1=>by
  have :=vx l k
  cases hk:gb l k
  ·rw [QV hk];omega
  ·rw [VF hk,List.length_append];simp;omega
theorem jw (l:List Bool): ∀k,(yb l k).Pairwise (· < ·)
 |0=>List.Pairwise.nil
 |k+1=>by
  cases hk:gb l k
  ·rw [QV hk];exact jw l k
  ·rw [VF hk,List.pairwise_append]
   refine⟨jw l k,List.pairwise_singleton _ _,fun a ha b hb=> ?_⟩
   obtain⟨v,h1,-,h3⟩:=vy.1 ha
   rw [List.mem_singleton.1 hb,h3];omega
theorem Yn {l:List Bool}{k i:Nat}(h:i<(yb l k).length):0≤gi (yb l k) i∧gi (yb l k) i<k∧gb l (gi (yb l k) i).toNat=true:=by
 obtain⟨v,a,b,c⟩:=vy.1 (zAL h)
 rw [c]
 exact⟨by omega,by omega,by rw [Int.toNat_natCast];exact b⟩
section
variable {x:L7} {n:Nat} {inn goal out:List Bool} {who:Int} {lc Lf Q:List Int} {P P':Nat→Int→Bool}
theorem zAA {v:Nat}{p:Int→Bool}: ∀{k:Nat},(∃j,j<k∧gb inn (gi (gl x.next v) j).toNat=true∧edB x v (gi (gl x.next v) j)=true∧p (gi (gl x.next v) j)=false)→1≤xt x inn v p k
 |0,⟨j,h,_⟩=>absurd h (Nat.not_lt_zero _)
 |k+1,⟨j,hj,h1,h2,h3⟩=>by
  have hn:=Ww x inn v p k
  unfold xt
  by_cases e:j=k
  ·subst e
   rw [h1,h2,h3]
   simp
   omega
  ·have :=zAA ⟨j,by omega,h1,h2,h3⟩ (k:=k)
   split<;>omega
theorem jp (hx:x.Ok n){v:Nat}(hv:v<n):0≤vU x inn v∧vU x inn v≤256:=by
 have :=Wv x inn v (gl x.next v).length
 have :=hx.deg v hv
 unfold vU
 omega
structure PuI (x:L7)(n:Nat)(inn:List Bool)(who:Int)(goal out:List Bool)(lc Lf Q:List Int)(P:Nat→Int→Bool):Prop where
 at_:AtI x n inn who goal out Lf Q P
 len:lc.length=n
 rg: ∀v,v<n→0≤gi lc v∧gi lc v≤256
 lcv: ∀v,v<n→gb inn v=true→gb out v=false→¬gi x.owner v=who→(gi lc v=0∧gi Lf v=vU x inn v)∨(¬gi lc v=0∧gi Lf v=gi lc v)
theorem PuI.start (hx:x.Ok n)(hg:goal.length=n)(hsub: ∀v,v<n→gb goal v=true→gb inn v=true):
  PuI x n inn who goal goal (List.replicate n 0) ((List.range n).map fun v=>vU x inn v) (yb goal n) (fun _ _=>false):=by
 have hgiL: ∀v,v<n→gi ((List.range n).map fun v=>vU x inn v) v=vU x inn v:=fun v hv=>by
  unfold gi
  rw [List.getD_eq_getElem?_getD,List.getElem?_map,List.getElem?_range hv]
  rfl
 refine⟨⟨hg,by simp,fun i hi=> ?_,fun i j hij hj=> ?_,fun v hv=> ?_,fun v hv hb=> .base ⟨hv,hsub v hv hb⟩ hb,fun v hv _ hb=>hb,fun v hv _ _ _ j _ _ _=>rfl,fun v hv _ _ _ ⟨j,_,_,_,hf⟩=>(by cases hf),fun v hv a b=> ?_,fun v hv j hj hf=>(by cases hf)⟩,by simp,fun v hv=> ?_,fun v hv a b c=> ?_⟩
 ·have :=Yn hi;omega
 ·have h1:=List.pairwise_iff_getElem.1 (jw goal n) i j (by omega) hj hij
  unfold gi
  rw [List.getD_eq_getElem?_getD,List.getD_eq_getElem?_getD,List.getElem?_eq_getElem (by omega),List.getElem?_eq_getElem hj]
  simp only [Option.getD_some]
  omega
 ·constructor
  ·intro hb
   obtain⟨i,hi⟩:=List.getElem?_of_mem (vy.2 ⟨v,hv,hb,rfl⟩:(v:Int)∈yb goal n)
   have hl:=(List.getElem?_eq_some_iff.1 hi).1
   refine⟨i,hl,?_⟩
   have :=vW hl
   rw [hi]at this
   exact(Option.some.inj this).symm
  ·rintro⟨i,hi,e⟩
   have :=(Yn hi).2.2
   rw [e,Int.toNat_natCast]at this
   exact this
 ·rw [hgiL v hv]
  exact(WG x inn v _ fun _ _=>rfl).symm
 ·have :gi (List.replicate n 0) v=0:=jA hv
  omega
 ·exact .inl ⟨jA hv,hgiL v hv⟩
theorem PuI.cong (h:PuI x n inn who goal out lc Lf Q P)(h2:AtI x n inn who goal out Lf Q P'):PuI x n inn who goal out lc Lf Q P':=⟨h2,h.len,h.rg,h.lcv⟩
theorem PuI.skip (h:PuI x n inn who goal out lc Lf Q P){v0:Nat}(hv0:v0<n){u0:Int}(hu0:gb out u0.toNat=true)(hs:gb inn v0=false∨gb out v0=true∨edB x v0 u0=false)
  (hQ: ∀v u,P' v u=(P v u||(decide (v=v0)&&decide (u=u0)))):PuI x n inn who goal out lc Lf Q P':=h.cong (h.at_.skip hv0 hu0 hs hQ)
def vA (x:L7)(inn:List Bool)(lc:List Int)(v:Nat):Int:=if gi lc v=0 then vU x inn v else gi lc v
theorem PuI.step (hx:x.Ok n)(h:PuI x n inn who goal out lc Lf Q P){v0:Nat}(hv0:v0<n){u0:Int}(hu:0≤u0∧u0<n)(hu0:gb out u0.toNat=true)(hui:gb inn u0.toNat=true)(h1:gb inn v0=true)(h2:gb out v0=false)(h3:edB x v0 u0=true)
  (hj: ∃j,j<(gl x.next v0).length∧gi (gl x.next v0) j=u0) (hP:P v0 u0=false) (hQ: ∀v u,P' v u=(P v u||(decide (v=v0)&&decide (u=u0)))):
  (gi x.owner v0=who→PuI x n inn who goal (out.set v0 true) lc (Lf.set v0 (gi Lf v0 - 1)) (Q++ [(v0:Int)]) P')∧
  (¬gi x.owner v0=who→(1≤vA x inn lc v0∧vA x inn lc v0≤256)∧
   (0<vA x inn lc v0 - 1→PuI x n inn who goal out (lc.set v0 (vA x inn lc v0 - 1)) (Lf.set v0 (gi Lf v0 - 1)) Q P')∧
   (¬0<vA x inn lc v0 - 1→PuI x n inn who goal (out.set v0 true) (lc.set v0 (vA x inn lc v0 - 1)) (Lf.set v0 (gi Lf v0 - 1)) (Q++ [(v0:Int)]) P')):=by
 have hst:=AtI.step hx h.at_ hv0 hu hu0 hui h1 h2 h3 hj hP hQ
 have hlo:v0<out.length:=by rw [h.at_.lo];exact hv0
 have hll:v0<Lf.length:=by rw [h.at_.ll];exact hv0
 have hlc:v0<lc.length:=by rw [h.len];exact hv0
 have hdown: ∀v,gb (out.set v0 true) v=false→v≠v0∧gb out v=false:=fun v hv=>by
  rw [ZF hlo]at hv
  split at hv
  ·cases hv
  ·rename_i e;exact⟨e,hv⟩
 refine⟨fun ho=>⟨hst.2 (.inl ho),h.len,h.rg,fun v hv a b c=> ?_⟩,fun ho=> ?_⟩
 ·obtain⟨b1,b2⟩:=hdown v b
  rw [xw hll,if_neg b1]
  exact h.lcv v hv a b2 c
 ·have hm:gi Lf v0=vA x inn lc v0:=by
   unfold vA
   rcases h.lcv v0 hv0 h1 h2 ho with⟨a,b⟩|⟨a,b⟩
   ·rw [if_pos a];exact b
   ·rw [if_neg a];exact b
  have hpos:1≤gi Lf v0:=by
   rw [h.at_.cnt v0 hv0 h1 h2]
   obtain⟨j,a,b⟩:=hj
   exact zAA ⟨j,a,by rw [b];exact hui,by rw [b];exact h3,by rw [b];exact hP⟩
  have hle:vA x inn lc v0≤256:=by
   unfold vA
   split
   ·exact(jp hx hv0).2
   ·exact(h.rg v0 hv0).2
  rw [hm]at hpos hst⊢
  have hrg: ∀v,v<n→0≤gi (lc.set v0 (vA x inn lc v0 - 1)) v∧gi (lc.set v0 (vA x inn lc v0 - 1)) v≤256:=fun v hv=>by
   rw [xw hlc]
   split
   ·omega
   ·exact h.rg v hv
  refine⟨⟨hpos,hle⟩,fun hp=>⟨hst.1 (fun e=> ?_),by rw [List.length_set];exact h.len,hrg,fun v hv a b c=> ?_⟩,fun hp=>⟨hst.2 (.inr (by omega)),by rw [List.length_set];exact h.len,hrg,fun v hv a b c=> ?_⟩⟩
  ·rcases e with e|e
   ·exact ho e
   ·omega
  ·rw [xw hll,xw hlc]
   by_cases ev:v=v0
   ·rw [if_pos ev,if_pos ev]
    exact .inr ⟨by omega,rfl⟩
   ·rw [if_neg ev,if_neg ev]
    exact h.lcv v hv a b c
  ·obtain⟨b1,b2⟩:=hdown v b
   rw [xw hll,xw hlc,if_neg b1,if_neg b1]
   exact h.lcv v hv a b2 c
end
structure QdI (Q:List Int)(i:Nat)(qd:List Int)(o:Nat):Prop where
 drop:qd.drop o=Q.drop i
 lo:o≤i
 li:i≤Q.length
 oq:o≤qd.length
theorem QdI.start (Q:List Int):QdI Q 0 Q 0:=⟨rfl,by omega,by omega,by omega⟩
theorem QdI.len {Q qd:List Int}{i o:Nat}(h:QdI Q i qd o):o+(Q.length - i)=qd.length:=by
 have h1:=congrArg List.length h.drop
 rw [List.length_drop,List.length_drop]at h1
 have :=h.oq;have :=h.li
 omega
theorem QdI.head {Q qd:List Int}{i o:Nat}(h:QdI Q i qd o)(hi:i<Q.length):gi qd o=gi Q i:=by
 have h1:=congrArg (fun l=>l[0]?) h.drop
 simp only [List.getElem?_drop,Nat.add_zero]at h1
 unfold gi
 rw [List.getD_eq_getElem?_getD,List.getD_eq_getElem?_getD,h1]
theorem QdI.pop {Q qd:List Int}{i o:Nat}(h:QdI Q i qd o)(hi:i<Q.length):QdI Q (i+1) qd (o+1):=by
 have hl:=h.len
 refine⟨?_,by have :=h.lo;omega,by omega,by omega⟩
 have h1:=congrArg (List.drop 1) h.drop
 rwa [List.drop_drop,List.drop_drop]at h1
theorem QdI.push {Q qd ps:List Int}{i o:Nat}(h:QdI Q i qd o)(v:Int)(hp:ps= []∨ps=qd.take o):QdI (Q++ [v]) i (ps++(qd.drop o++ [v])) ps.length:=by
 have hle:ps.length≤o:=by
  rcases hp with rfl|rfl
  ·simp
  ·rw [List.length_take];omega
 refine⟨?_,by have :=h.lo;omega,by rw [List.length_append];have :=h.li;omega,by rw [List.length_append];omega⟩
 rw [List.drop_append_of_le_length (Nat.le_refl _),List.drop_length,List.nil_append,h.drop,List.drop_append_of_le_length h.li]
open Go Go.RowKit
def St.settleBA (al:List Nat)(ks:List CK)(b:Nat)(st:St):St:=
 match lk st.b b with
 |none=>st
 |some cells=>
  match lk (qA al ks st (zZ b 0) [] cells).1.b b with
  |none=>st
  |some cells'=>if cells'.length=(qA al ks st (zZ b 0) [] cells).2.length then(qA al ks st (zZ b 0) [] cells).1.setB b (qA al ks st (zZ b 0) [] cells).2 else st
theorem Vx {P:Program}{τ:Ty}(al:List Nat)(ks:List CK)(b:Nat){c:Code}{Q:Exit→St→Prop}{st:St}(h:awp P τ c Q (st.settleBA al ks b)):awp P τ c Q st:=by
 unfold St.settleBA at h
 split at h
 ·exact h
 ·rename_i cells hl
  split at h
  ·exact h
  ·rename_i cells' hl'
   split at h
   ·rename_i hlen
    intro lo w0 a w hr
    obtain⟨ow,hd,bk,hrr⟩:=hr
    obtain⟨cs,ty,g1,g2,g3⟩:=hrr.box b cells hl
    obtain⟨ow1,hd1,r1,r2⟩:=Yc al ks st ow hd (zZ b 0) [] cells [] cs hrr (by simp [za]) g3
    obtain⟨cs0,ty0,k1,k2,k3⟩:=r1.box b cells' hl'
    rw [List.nil_append]at r2
    have e0:cs0=cs:=by
     rw [g1]at k1
     simp only [Option.some.injEq,Obj.cells.injEq]at k1
     have :=k1.1
     simpa using this.symm
    subst e0
    have hrel:=XN r1 hl' k1 (i:=0) (by omega) k3 r2
    rw [JE rfl,JE hlen.symm,setRow_self w _ _ _ _ k1]at hrel
    exact h lo w0 a w ⟨ow1,hd1,bk,hrel⟩
   ·exact h
attribute [push_cast] St.settleBA
open Nat renaming reduceMod → zA, reduceMul → zB, reduceDiv → zC, reduceAdd → zD, reduceSub → zE, reduceEqDiff → zF, reduceBEq → zG, reduceLT → zH, reduceLeDiff → zI
def mkS (n:Nat)(xs:List Int)(k:Nat):List Bool:=(List.range n).map fun(v:Nat)=>yD (xs.take k) (v:Int)
theorem vj (n:Nat)(xs:List Int)(k:Nat):(mkS n xs k).length=n:=by simp [mkS]
theorem zAc {n:Nat}{xs:List Int}{k v:Nat}(h:v<n):gb (mkS n xs k) v=yD (xs.take k) (v:Int):=jJ h
theorem mkS_0 (n:Nat)(xs:List Int):mkS n xs 0=List.replicate n false:=by
 refine List.ext_getElem (by simp [mkS]) fun j h1 h2=> ?_
 simp [mkS,yD,qJ]
theorem zHv {n:Nat}{xs:List Int}{k:Nat}(hk:k<xs.length)(h:0≤gi xs k∧gi xs k<n):(mkS n xs k).set (gi xs k).toNat true=mkS n xs (k+1):=by
 refine wS (by rw [List.length_set,vj,vj]) fun v hv=> ?_
 rw [List.length_set,vj]at hv
 rw [ZF (by rw [vj];omega),zAc (k:=k+1) hv,ZG hk]
 split
 ·rename_i e
  rw [decide_eq_true (by omega),Bool.or_true]
 ·rename_i e
  rw [zAc hv,decide_eq_false (by omega),Bool.or_false]
theorem zGI {P:List (List Int)}{u m:Nat}{r:List Int}(hu:u<P.length)(hm:r.length≤m):List.take u ((dII P).set u D.hole)++ [D.lst 2 (dI (List.take m r))]++List.drop (u+1) ((dII P).set u D.hole)=dII (P.set u r):=by
 have e:dII (P.set u r)=(dII P).set u (D.lst 2 (dI r)):=by unfold dII;rw [List.map_set]
 have hl:u<(dII P).length:=by rw [QY];exact hu
 rw [e,List.take_of_length_le hm,List.take_set,List.set_eq_of_length_le (by simp;omega),List.drop_set_of_lt (by omega),List.set_eq_take_append_cons_drop,if_pos hl]
 simp
def wv (k:Nat):List Int:=(List.range k).map fun(v:Nat)=>(v:Int)
theorem XE (k:Nat):(wv k).length=k:=by simp [wv]
theorem zJN (k:Nat):wv (k+1)=wv k++ [(k:Int)]:=by unfold wv;rw [List.range_succ,List.map_append];rfl
set_option maxRecDepth 20000 in
set_option maxHeartbeats 4000000 in
theorem YJ (l:List Bool)(hl:l.length≤1048576):Fn Try.prog tyT 150 [.c (.lst 4 (dB l))] [.c (DI (yb l l.length))]:=by
 refine zw (fn:=Try.f150) (ts:= [2]) Try.func150 (by kernel_rfl) rfl rfl (by rw [Try.ntmps150];exact Nat.le_of_ble_eq_true rfl) rfl (by simp only [szA,List.mem_cons,List.not_mem_nil,or_false,forall_eq_or_imp,forall_eq,VT.cells,szL];try decide) ?_
 rw [Try.ntmps150]
 simp only [push_cast,↓zK,↓zJ,↓reduceIte,zA,zB,zC,zD,zE,zF,zG,zH,zI,reduceCtorEq]
 refine zL fun K hK=> ?_
 refine zM zO zN [] rfl ?_
 simp only [push_cast,↓zK,↓zJ,↓reduceIte,zA,zB,zC,zD,zE,zF,zG,zH,zI,reduceCtorEq]
 repeat' apply And.intro
 all_goals try exact gB
 all_goals first|(refine hK _ ?_;clear hK K)|(simp only [push_cast];done)
 refine zL fun K hK=> ?_
 refine zM zO zN [] rfl ?_
 simp only [push_cast,↓zK,↓zJ,↓reduceIte,zA,zB,zC,zD,zE,zF,zG,zH,zI,reduceCtorEq]
 repeat' apply And.intro
 all_goals try exact gB
 all_goals first|(refine hK _ ?_;clear hK K)|(simp only [push_cast];done)
 refine zL fun K1 hK1=> ?_
 refine zL fun K hK=> ?_
 refine zM zO zN [] rfl ?_
 simp only [push_cast,↓zK,↓zJ,↓reduceIte,zA,zB,zC,zD,zE,zF,zG,zH,zI,reduceCtorEq]
 repeat' apply And.intro
 all_goals try exact gB
 all_goals first|(refine hK _ ?_;clear hK K)|(simp only [push_cast];done)
 refine zW ?_
 refine zi [3,4,5,9,10,11,12,13,14,15,16,17,18,19] [48] (fun(k:Nat)=> [(9, .int .i64 k),(3, .sl 48 [] 0 (yb l k).length 2)]) (fun k=> []) (fun k=> [(48,⟨.ex,2,dI (yb l k),none⟩)]) (fun k=>k≤l.length) (fun k=>l.length - k) 0 ?_ (by omega) ?_
 ·
  rw [show yb l 0= []from rfl,show dI ([]:List Int)= []from rfl]
  refine zY rfl ?_ ?_ ?_<;>simp only [zf,ze,push_cast,↓zK,↓zJ,↓reduceIte,zA,zB,zC,zD,zE,zF,zG,zH,zI,reduceCtorEq]
 ·rintro k hk KL0 hL0
  have hil:=vx l k
  simp only [push_cast,↓zK,↓zJ,↓reduceIte,zA,zB,zC,zD,zE,zF,zG,zH,zI,reduceCtorEq]
  refine zL fun K hK=> ?_
  refine zM zO zN [] rfl ?_
  simp only [push_cast,↓zK,↓zJ,↓reduceIte,zA,zB,zC,zD,zE,zF,zG,zH,zI,reduceCtorEq]
  repeat' apply And.intro
  all_goals try exact gB
  all_goals first|(refine hK _ ?_;clear hK K)|(simp only [push_cast];done)
  refine zL fun K2 hK2=> ?_
  refine zU rfl (fun hc=> ?_) (fun hc=> ?_)<;>(try simp only [push_cast]at hc)
  ·
   refine zV ?_
   (try simp only [zR,zS,reduceIte,zF]);refine hK2 _ ?_
   refine zL fun K3 hK3=> ?_
   refine zW ?_
   refine zL fun K hK=> ?_
   refine zM zO zN [] rfl ?_
   simp only [push_cast,↓zK,↓zJ,↓reduceIte,zA,zB,zC,zD,zE,zF,zG,zH,zI,reduceCtorEq]
   repeat' apply And.intro
   all_goals try exact gB
   all_goals first|(refine hK _ ?_;clear hK K)|(simp only [push_cast];done)
   refine zL fun K hK=> ?_
   refine zM zO zN [] rfl ?_
   simp only [push_cast,↓zK,↓zJ,↓reduceIte,zA,zB,zC,zD,zE,zF,zG,zH,zI,reduceCtorEq]
   repeat' apply And.intro
   all_goals try exact gB
   all_goals first|(refine hK _ ?_;clear hK K)|(simp only [push_cast];done)
   all_goals refine zU rfl (fun hc=> ?_) (fun hc=> ?_)
   all_goals(first|(cases hc;done)|skip)
   all_goals(try simp only [push_cast]at hc)
   all_goals first
    |(
      refine zV ?_
      (try simp only [zR,zS,reduceIte,zF]);refine hK3 _ ?_
      refine zM zO zN [] rfl ?_
      simp only [push_cast,↓zK,↓zJ,↓reduceIte,zA,zB,zC,zD,zE,zF,zG,zH,zI,reduceCtorEq]
      repeat' apply And.intro
      all_goals try exact gB
      refine hL0 _ ⟨k+1,by omega,by omega,?_⟩
      rw [QV (by with_reducible assumption)]
      refine zY rfl ?_ ?_ ?_<;>simp only [zf,ze,push_cast,↓zK,↓zJ,↓reduceIte,zA,zB,zC,zD,zE,zF,zG,zH,zI,reduceCtorEq]
      done)
    |(
      refine zM zO zN [] rfl ?_
      simp only [push_cast,↓zK,↓zJ,↓reduceIte,zA,zB,zC,zD,zE,zF,zG,zH,zI,reduceCtorEq]
      repeat' apply And.intro
      all_goals try exact gB
      (try simp only [zR,zS,reduceIte,zF]);refine hK3 _ ?_
      refine zM zO zN [] rfl ?_
      simp only [push_cast,↓zK,↓zJ,↓reduceIte,zA,zB,zC,zD,zE,zF,zG,zH,zI,reduceCtorEq]
      repeat' apply And.intro
      all_goals try exact gB
      refine hL0 _ ⟨k+1,by omega,by omega,?_⟩
      (try rw [List.take_of_length_le (l:=yb l k) (by omega)])
      rw [VF (by with_reducible assumption)]
      simp only [List.length_append,List.length_cons,List.length_nil,Nat.zero_add]
      refine zY rfl ?_ ?_ ?_<;>simp only [zf,ze,push_cast,↓zK,↓zJ,↓reduceIte,zA,zB,zC,zD,zE,zF,zG,zH,zI,reduceCtorEq]
      done)
  ·
   refine zk ?_
   have hkk:k=l.length:=by omega
   subst hkk
   (try simp only [zR,zS,reduceIte,zF]);refine hK1 _ ?_
   refine zL fun K hK=> ?_
   refine zM zO zN [] rfl ?_
   simp only [push_cast,↓zK,↓zJ,↓reduceIte,zA,zB,zC,zD,zE,zF,zG,zH,zI,reduceCtorEq]
   repeat' apply And.intro
   all_goals try exact gB
   all_goals first|(refine hK _ ?_;clear hK K)|(simp only [push_cast];done)
   refine zX ?_
   (try simp only [zR,zS])
   refine⟨Or.inl rfl,?_⟩
   simp only [zd,push_cast,↓zK,↓zJ,↓reduceIte,zA,zB,zC,zD,zE,zF,zG,zH,zI,reduceCtorEq]
   all_goals first|rfl|exact⟨rfl,rfl⟩|(simp;done)
set_option maxRecDepth 20000 in
set_option maxHeartbeats 4000000 in
theorem zER (a:Ar)(ha:a.Ln 1048576)(xs:List Int)(hx:xs.length≤1048576)(hr: ∀j,j<xs.length→0≤gi xs j∧gi xs j<a.owner.length):Fn Try.prog tyT 148 [.agg (dAr a), .c (DI xs)] [.c (.lst 4 (dB (mkS a.owner.length xs xs.length)))]:=by
 have h0:=ha.owner
 unfold LnI at h0
 unfold dAr
 refine zw (fn:=Try.f148) (ts:= [4]) Try.func148 (by kernel_rfl) rfl rfl (by rw [Try.ntmps148];exact Nat.le_of_ble_eq_true rfl) rfl (by simp only [szA,List.mem_cons,List.not_mem_nil,or_false,forall_eq_or_imp,forall_eq,VT.cells,szL];try decide) ?_
 rw [Try.ntmps148]
 simp only [push_cast,↓zK,↓zJ,↓reduceIte,zA,zB,zC,zD,zE,zF,zG,zH,zI,reduceCtorEq]
 refine zL fun K hK=> ?_
 refine zM zO zN [] rfl ?_
 simp only [push_cast,↓zK,↓zJ,↓reduceIte,zA,zB,zC,zD,zE,zF,zG,zH,zI,reduceCtorEq]
 repeat' apply And.intro
 all_goals try exact gB
 all_goals first|(refine hK _ ?_;clear hK K)|(simp only [push_cast];done)
 refine zL fun K hK=> ?_
 refine zM zO zN [] rfl ?_
 simp only [push_cast,↓zK,↓zJ,↓reduceIte,zA,zB,zC,zD,zE,zF,zG,zH,zI,reduceCtorEq]
 repeat' apply And.intro
 all_goals try exact gB
 all_goals first|(refine hK _ ?_;clear hK K)|(simp only [push_cast];done)
 refine zL fun K1 hK1=> ?_
 refine zL fun K hK=> ?_
 refine zM zO zN [] rfl ?_
 simp only [push_cast,↓zK,↓zJ,↓reduceIte,zA,zB,zC,zD,zE,zF,zG,zH,zI,reduceCtorEq]
 repeat' apply And.intro
 all_goals try exact gB
 all_goals first|(refine hK _ ?_;clear hK K)|(simp only [push_cast];done)
 refine zW ?_
 refine zi [7,14,15,16,17,18,19,20,21] [80] (fun(k:Nat)=> [(14, .int .i64 k),(5, .sl 80 [] 0 a.owner.length 4)]) (fun k=> []) (fun k=> [(80,⟨.ex,4,dB (mkS a.owner.length xs k),none⟩)]) (fun k=>k≤xs.length) (fun k=>xs.length - k) 0 ?_ (by omega) ?_
 ·
  rw [mkS_0]
  refine zY rfl ?_ ?_ ?_<;>simp only [zf,ze,push_cast,↓zK,↓zJ,↓reduceIte,zA,zB,zC,zD,zE,zF,zG,zH,zI,reduceCtorEq]
 ·rintro k hk KL0 hL0
  have hml:=vj a.owner.length xs k
  simp only [push_cast,↓zK,↓zJ,↓reduceIte,zA,zB,zC,zD,zE,zF,zG,zH,zI,reduceCtorEq]
  refine zL fun K hK=> ?_
  refine zM zO zN [] rfl ?_
  simp only [push_cast,↓zK,↓zJ,↓reduceIte,zA,zB,zC,zD,zE,zF,zG,zH,zI,reduceCtorEq]
  repeat' apply And.intro
  all_goals try exact gB
  all_goals first|(refine hK _ ?_;clear hK K)|(simp only [push_cast];done)
  refine zL fun K2 hK2=> ?_
  refine zU rfl (fun hc=> ?_) (fun hc=> ?_)<;>(try simp only [push_cast]at hc)
  ·
   refine zV ?_
   (try simp only [zR,zS,reduceIte,zF]);refine hK2 _ ?_
   refine zL fun K3 hK3=> ?_
   refine zW ?_
   have hrk:=hr k (by omega)
   have hst:=zHv (n:=a.owner.length) (xs:=xs) (k:=k) (by omega) hrk
   refine zL fun K hK=> ?_
   refine zM zO zN [] rfl ?_
   simp only [push_cast,↓zK,↓zJ,↓reduceIte,zA,zB,zC,zD,zE,zF,zG,zH,zI,reduceCtorEq]
   repeat' apply And.intro
   all_goals try exact gB
   all_goals first|(refine hK _ ?_;clear hK K)|(simp only [push_cast];done)
   refine zM zO zN [] rfl ?_
   simp only [push_cast,↓zK,↓zJ,↓reduceIte,zA,zB,zC,zD,zE,zF,zG,zH,zI,reduceCtorEq]
   repeat' apply And.intro
   all_goals try exact gB
   (try simp only [zR,zS,reduceIte,zF]);refine hK3 _ ?_
   refine zM zO zN [] rfl ?_
   simp only [push_cast,↓zK,↓zJ,↓reduceIte,zA,zB,zC,zD,zE,zF,zG,zH,zI,reduceCtorEq]
   repeat' apply And.intro
   all_goals try exact gB
   refine hL0 _ ⟨k+1,by omega,by omega,?_⟩
   (try rw [hst])
   refine zY rfl ?_ ?_ ?_<;>simp only [zf,ze,push_cast,↓zK,↓zJ,↓reduceIte,zA,zB,zC,zD,zE,zF,zG,zH,zI,reduceCtorEq]
   all_goals first|rfl|(rw [hst];done)|skip
  ·
   refine zk ?_
   have hkk:k=xs.length:=by omega
   subst hkk
   (try simp only [zR,zS,reduceIte,zF]);refine hK1 _ ?_
   refine zL fun K hK=> ?_
   refine zM zO zN [] rfl ?_
   simp only [push_cast,↓zK,↓zJ,↓reduceIte,zA,zB,zC,zD,zE,zF,zG,zH,zI,reduceCtorEq]
   repeat' apply And.intro
   all_goals try exact gB
   all_goals first|(refine hK _ ?_;clear hK K)|(simp only [push_cast];done)
   refine zX ?_
   (try simp only [zR,zS])
   refine⟨Or.inl rfl,?_⟩
   simp only [zd,push_cast,↓zK,↓zJ,↓reduceIte,zA,zB,zC,zD,zE,zF,zG,zH,zI,reduceCtorEq]
   all_goals first|rfl|exact⟨rfl,(vj _ _ _).symm⟩|(simp [vj];done)
set_option maxRecDepth 20000 in
set_option maxHeartbeats 4000000 in
theorem wY (a b:List Bool)(ha:a.length≤1048576)(hb:b.length=a.length):Fn Try.prog tyT 151 [.c (.lst 4 (dB a)), .c (.lst 4 (dB b))] [.c (.lst 4 (dB (yI a b)))]:=by
 refine zw (fn:=Try.f151) (ts:= [4]) Try.func151 (by kernel_rfl) rfl rfl (by rw [Try.ntmps151];exact Nat.le_of_ble_eq_true rfl) rfl (by simp only [szA,List.mem_cons,List.not_mem_nil,or_false,forall_eq_or_imp,forall_eq,VT.cells,szL];try decide) ?_
 rw [Try.ntmps151]
 simp only [push_cast,↓zK,↓zJ,↓reduceIte,zA,zB,zC,zD,zE,zF,zG,zH,zI,reduceCtorEq]
 refine zL fun K hK=> ?_
 refine zM zO zN [] rfl ?_
 simp only [push_cast,↓zK,↓zJ,↓reduceIte,zA,zB,zC,zD,zE,zF,zG,zH,zI,reduceCtorEq]
 repeat' apply And.intro
 all_goals try exact gB
 all_goals first|(refine hK _ ?_;clear hK K)|(simp only [push_cast];done)
 refine zL fun K hK=> ?_
 refine zM zO zN [] rfl ?_
 simp only [push_cast,↓zK,↓zJ,↓reduceIte,zA,zB,zC,zD,zE,zF,zG,zH,zI,reduceCtorEq]
 repeat' apply And.intro
 all_goals try exact gB
 all_goals first|(refine hK _ ?_;clear hK K)|(simp only [push_cast];done)
 refine zL fun K1 hK1=> ?_
 refine zL fun K hK=> ?_
 refine zM zO zN [] rfl ?_
 simp only [push_cast,↓zK,↓zJ,↓reduceIte,zA,zB,zC,zD,zE,zF,zG,zH,zI,reduceCtorEq]
 repeat' apply And.intro
 all_goals try exact gB
 all_goals first|(refine hK _ ?_;clear hK K)|(simp only [push_cast];done)
 refine zW ?_
 refine zi [6,12,13,14,15,16,17,18,19,20,21,22,23,24,25,26,27,28,29] [80] (fun(k:Nat)=> [(12, .int .i64 k),(5, .sl 80 [] 0 a.length 4)]) (fun k=> []) (fun k=> [(80,⟨.ex,4,dB (mkB a.length (qq a b) k),none⟩)]) (fun k=>k≤a.length) (fun k=>a.length - k) 0 ?_ (by omega) ?_
 ·
  rw [Xa]
  refine zY rfl ?_ ?_ ?_<;>simp only [zf,ze,push_cast,↓zK,↓zJ,↓reduceIte,zA,zB,zC,zD,zE,zF,zG,zH,zI,reduceCtorEq]
 ·rintro k hk KL0 hL0
  have hml:=wU (f:=qq a b) hk
  simp only [push_cast,↓zK,↓zJ,↓reduceIte,zA,zB,zC,zD,zE,zF,zG,zH,zI,reduceCtorEq]
  refine zL fun K hK=> ?_
  refine zM zO zN [] rfl ?_
  simp only [push_cast,↓zK,↓zJ,↓reduceIte,zA,zB,zC,zD,zE,zF,zG,zH,zI,reduceCtorEq]
  repeat' apply And.intro
  all_goals try exact gB
  all_goals first|(refine hK _ ?_;clear hK K)|(simp only [push_cast];done)
  refine zL fun K2 hK2=> ?_
  refine zU rfl (fun hc=> ?_) (fun hc=> ?_)<;>(try simp only [push_cast]at hc)
  ·
   refine zV ?_
   (try simp only [zR,zS,reduceIte,zF]);refine hK2 _ ?_
   refine zL fun K3 hK3=> ?_
   refine zW ?_
   refine zL fun K hK=> ?_
   refine zM zO zN [] rfl ?_
   simp only [push_cast,↓zK,↓zJ,↓reduceIte,zA,zB,zC,zD,zE,zF,zG,zH,zI,reduceCtorEq]
   repeat' apply And.intro
   all_goals try exact gB
   all_goals first|(refine hK _ ?_;clear hK K)|(simp only [push_cast];done)
   refine zj false zO zN ?_ rfl ?_
   ·kernel_rfl
   all_goals simp only [push_cast,↓zK,↓zJ,↓reduceIte,zA,zB,zC,zD,zE,zF,zG,zH,zI,reduceCtorEq]
   all_goals repeat'(first|(apply zP<;>(intro hg;(try simp only [push_cast]at hg)))|apply And.intro|(intro hg;(try simp only [push_cast]at hg)))
   all_goals try exact gA
   all_goals(
     (try simp only [zR,zS,reduceIte,zF]);refine hK3 _ ?_
     refine zM zO zN [] rfl ?_
     simp only [push_cast,↓zK,↓zJ,↓reduceIte,zA,zB,zC,zD,zE,zF,zG,zH,zI,reduceCtorEq]
     repeat' apply And.intro
     all_goals try exact gB
     refine hL0 _ ⟨k+1,by omega,by omega,?_⟩
     first|rw [show(mkB a.length (qq a b) k).set k (!gb b k)=mkB a.length (qq a b) (k+1)from by rw [←xy (by omega)];unfold qq;rw [show gb a k=true from by with_reducible assumption];rfl]|rw [show(mkB a.length (qq a b) k).set k false=mkB a.length (qq a b) (k+1)from by rw [←xy (by omega)];unfold qq;rw [show gb a k=false from by with_reducible assumption];rfl]
     refine zY rfl ?_ ?_ ?_<;>simp only [zf,ze,push_cast,↓zK,↓zJ,↓reduceIte,zA,zB,zC,zD,zE,zF,zG,zH,zI,reduceCtorEq])
  ·
   refine zk ?_
   have hkk:k=a.length:=by omega
   subst hkk
   (try simp only [zR,zS,reduceIte,zF]);refine hK1 _ ?_
   refine zL fun K hK=> ?_
   refine zM zO zN [] rfl ?_
   simp only [push_cast,↓zK,↓zJ,↓reduceIte,zA,zB,zC,zD,zE,zF,zG,zH,zI,reduceCtorEq]
   repeat' apply And.intro
   all_goals try exact gB
   all_goals first|(refine hK _ ?_;clear hK K)|(simp only [push_cast];done)
   refine zX ?_
   (try simp only [zR,zS])
   refine⟨Or.inl rfl,?_⟩
   simp only [zd,push_cast,↓zK,↓zJ,↓reduceIte,zA,zB,zC,zD,zE,zF,zG,zH,zI,reduceCtorEq]
   try rw [UB]
   unfold yI
   all_goals first|rfl|exact⟨rfl,by simp⟩|exact⟨by simp,rfl⟩|(simp;done)
set_option maxRecDepth 20000 in
set_option maxHeartbeats 4000000 in
theorem zE2 (n:Nat)(hn:n≤256):Fn Try.prog tyT 152 [.c (.int .i64 n)] [.c (DI (wv n))]:=by
 refine zw (fn:=Try.f152) (ts:= [2]) Try.func152 (by kernel_rfl) rfl rfl (by rw [Try.ntmps152];exact Nat.le_of_ble_eq_true rfl) rfl (by simp only [szA,List.mem_cons,List.not_mem_nil,or_false,forall_eq_or_imp,forall_eq,VT.cells,szL];try decide) ?_
 rw [Try.ntmps152]
 simp only [push_cast,↓zK,↓zJ,↓reduceIte,zA,zB,zC,zD,zE,zF,zG,zH,zI,reduceCtorEq]
 refine zL fun K hK=> ?_
 refine zM zO zN [] rfl ?_
 simp only [push_cast,↓zK,↓zJ,↓reduceIte,zA,zB,zC,zD,zE,zF,zG,zH,zI,reduceCtorEq]
 repeat' apply And.intro
 all_goals try exact gB
 all_goals first|(refine hK _ ?_;clear hK K)|(simp only [push_cast];done)
 refine zL fun K1 hK1=> ?_
 refine zL fun K hK=> ?_
 refine zj false zO zN ?_ rfl ?_
 ·kernel_rfl
 all_goals simp only [push_cast,↓zK,↓zJ,↓reduceIte,zA,zB,zC,zD,zE,zF,zG,zH,zI,reduceCtorEq]
 all_goals repeat'(first|(apply zP<;>(intro hg;(try simp only [push_cast]at hg)))|apply And.intro|(intro hg;(try simp only [push_cast]at hg)))
 all_goals try exact gA
 all_goals first|(refine hK _ ?_;clear hK K)|(simp only [push_cast];done)
 all_goals(
   refine zU rfl (fun hc=> ?_) (fun hc=> ?_)
   skip
   ·exfalso;first|(cases hc;done)|(simp only [push_cast]at hc;done)|(simp only [push_cast]at hc;omega)|omega
   refine zV ?_
   (try simp only [zR,zS,reduceIte,zF]);refine hK1 _ ?_
   refine zL fun K hK=> ?_
   refine zM zO zN [] rfl ?_
   simp only [push_cast,↓zK,↓zJ,↓reduceIte,zA,zB,zC,zD,zE,zF,zG,zH,zI,reduceCtorEq]
   repeat' apply And.intro
   all_goals try exact gB
   all_goals first|(refine hK _ ?_;clear hK K)|(simp only [push_cast];done)
   refine zL fun K2 hK2=> ?_
   refine zL fun K hK=> ?_
   refine zM zO zN [] rfl ?_
   simp only [push_cast,↓zK,↓zJ,↓reduceIte,zA,zB,zC,zD,zE,zF,zG,zH,zI,reduceCtorEq]
   repeat' apply And.intro
   all_goals try exact gB
   all_goals first|(refine hK _ ?_;clear hK K)|(simp only [push_cast];done)
   refine zW ?_
   refine zi [3,4,7,12,13,14,15,16,17,18,19,20] [48] (fun(k:Nat)=> [(4, .int .i64 k),(3, .sl 48 [] 0 k 2)]) (fun k=> []) (fun k=> [(48,⟨.ex,2,dI (wv k),none⟩)]) (fun k=>k≤n) (fun k=>n - k) 0 ?_ (by omega) ?_
   ·
    rw [show dI (wv 0)= []from rfl]
    refine zY rfl ?_ ?_ ?_<;>simp only [zf,ze,push_cast,↓zK,↓zJ,↓reduceIte,zA,zB,zC,zD,zE,zF,zG,zH,zI,reduceCtorEq]
   ·rintro k hk KL0 hL0
    have hfl:=XE k
    simp only [push_cast,↓zK,↓zJ,↓reduceIte,zA,zB,zC,zD,zE,zF,zG,zH,zI,reduceCtorEq]
    refine zL fun K3 hK3=> ?_
    refine zL fun K hK=> ?_
    refine zM zO zN [] rfl ?_
    simp only [push_cast,↓zK,↓zJ,↓reduceIte,zA,zB,zC,zD,zE,zF,zG,zH,zI,reduceCtorEq]
    repeat' apply And.intro
    all_goals try exact gB
    all_goals first|(refine hK _ ?_;clear hK K)|(simp only [push_cast];done)
    refine zU rfl (fun hc=> ?_) (fun hc=> ?_)<;>(try simp only [push_cast]at hc)
    ·
     refine zV ?_
     (try simp only [zR,zS,reduceIte,zF]);refine hK3 _ ?_
     refine zL fun K4 hK4=> ?_
     refine zW ?_
     refine zM zO zN [] rfl ?_
     simp only [push_cast,↓zK,↓zJ,↓reduceIte,zA,zB,zC,zD,zE,zF,zG,zH,zI,reduceCtorEq]
     repeat' apply And.intro
     all_goals try exact gB
     (try simp only [zR,zS,reduceIte,zF]);refine hK4 _ ?_
     refine zM zO zN [] rfl ?_
     simp only [push_cast,↓zK,↓zJ,↓reduceIte,zA,zB,zC,zD,zE,zF,zG,zH,zI,reduceCtorEq]
     repeat' apply And.intro
     all_goals try exact gB
     refine hL0 _ ⟨k+1,by omega,by omega,?_⟩
     (try rw [List.take_of_length_le (l:=wv k) (by omega)])
     rw [zJN]
     refine zY rfl ?_ ?_ ?_<;>simp only [zf,ze,push_cast,↓zK,↓zJ,↓reduceIte,zA,zB,zC,zD,zE,zF,zG,zH,zI,reduceCtorEq]
    ·
     refine zk ?_
     have hkk:k=n:=by omega
     subst hkk
     (try simp only [zR,zS,reduceIte,zF]);refine hK2 _ ?_
     refine zL fun K hK=> ?_
     refine zM zO zN [] rfl ?_
     simp only [push_cast,↓zK,↓zJ,↓reduceIte,zA,zB,zC,zD,zE,zF,zG,zH,zI,reduceCtorEq]
     repeat' apply And.intro
     all_goals try exact gB
     all_goals first|(refine hK _ ?_;clear hK K)|(simp only [push_cast];done)
     refine zX ?_
     (try simp only [zR,zS])
     refine⟨Or.inl rfl,?_⟩
     simp only [zd,push_cast,↓zK,↓zJ,↓reduceIte,zA,zB,zC,zD,zE,zF,zG,zH,zI,reduceCtorEq]
     all_goals first|rfl|exact⟨rfl,by simp [XE]⟩|(simp [XE];done))
set_option maxRecDepth 20000 in
set_option maxHeartbeats 4000000 in
theorem zFD (a:Ar)(hn:a.owner.length≤256):Fn Try.prog tyT 113 [.agg (dAr a)] [.c (DI (wv a.owner.length))]:=by
 have hS:=kQ a
 have hA:=zE2 a.owner.length hn
 unfold dAr at hS⊢
 refine zw (fn:=Try.f113) (ts:= [2]) Try.func113 (by kernel_rfl) rfl rfl (by rw [Try.ntmps113];exact Nat.le_of_ble_eq_true rfl) rfl (by simp only [szA,List.mem_cons,List.not_mem_nil,or_false,forall_eq_or_imp,forall_eq,VT.cells,szL];try decide) ?_
 rw [Try.ntmps113]
 simp only [push_cast,↓zK,↓zJ,↓reduceIte,zA,zB,zC,zD,zE,zF,zG,zH,zI,reduceCtorEq]
 refine zL fun K hK=> ?_
 refine zM zO zN [] rfl ?_
 simp only [push_cast,↓zK,↓zJ,↓reduceIte,zA,zB,zC,zD,zE,zF,zG,zH,zI,reduceCtorEq]
 repeat' apply And.intro
 all_goals try exact gB
 all_goals first|(refine hK _ ?_;clear hK K)|(simp only [push_cast];done)
 refine zL fun K hK=> ?_
 refine zM zO zN [] rfl ?_
 all_goals refine zo 2 fun K9 hK9=> ?_
 all_goals simp only [push_cast,↓zK,↓zJ,↓reduceIte,zA,zB,zC,zD,zE,zF,zG,zH,zI,reduceCtorEq]
 all_goals repeat'(first|(apply zP<;>(intro hg;(try simp only [push_cast]at hg)))|(refine⟨_,hS,?_⟩;simp only [push_cast,↓zK,↓zJ,↓reduceIte,zA,zB,zC,zD,zE,zF,zG,zH,zI,reduceCtorEq])|(refine⟨_,hA,?_⟩;simp only [push_cast,↓zK,↓zJ,↓reduceIte,zA,zB,zC,zD,zE,zF,zG,zH,zI,reduceCtorEq])|apply And.intro|(intro hg;(try simp only [push_cast]at hg)))
 all_goals try exact gA
 all_goals first|(refine hK9 _ ?_;clear hK9 K9)|(simp only [push_cast];done)
 all_goals refine zo 1 fun K9 hK9=> ?_
 all_goals simp only [push_cast,↓zK,↓zJ,↓reduceIte,zA,zB,zC,zD,zE,zF,zG,zH,zI,reduceCtorEq]
 all_goals repeat'(first|(apply zP<;>(intro hg;(try simp only [push_cast]at hg)))|(refine⟨_,hS,?_⟩;simp only [push_cast,↓zK,↓zJ,↓reduceIte,zA,zB,zC,zD,zE,zF,zG,zH,zI,reduceCtorEq])|(refine⟨_,hA,?_⟩;simp only [push_cast,↓zK,↓zJ,↓reduceIte,zA,zB,zC,zD,zE,zF,zG,zH,zI,reduceCtorEq])|apply And.intro|(intro hg;(try simp only [push_cast]at hg)))
 all_goals try exact gA
 all_goals first|(refine hK9 _ ?_;clear hK9 K9)|(simp only [push_cast];done)
 all_goals simp only [push_cast,↓zK,↓zJ,↓reduceIte,zA,zB,zC,zD,zE,zF,zG,zH,zI,reduceCtorEq]
 all_goals repeat'(first|(apply zP<;>(intro hg;(try simp only [push_cast]at hg)))|(refine⟨_,hS,?_⟩;simp only [push_cast,↓zK,↓zJ,↓reduceIte,zA,zB,zC,zD,zE,zF,zG,zH,zI,reduceCtorEq])|(refine⟨_,hA,?_⟩;simp only [push_cast,↓zK,↓zJ,↓reduceIte,zA,zB,zC,zD,zE,zF,zG,zH,zI,reduceCtorEq])|apply And.intro|(intro hg;(try simp only [push_cast]at hg)))
 all_goals try exact gA
 all_goals first|(refine hK _ ?_;clear hK K)|(simp only [push_cast];done)
 refine zX ?_
 (try simp only [zR,zS])
 refine⟨Or.inl rfl,?_⟩
 simp only [zd,push_cast,↓zK,↓zJ,↓reduceIte,zA,zB,zC,zD,zE,zF,zG,zH,zI,reduceCtorEq]
set_option maxRecDepth 20000 in
set_option maxHeartbeats 4000000 in
theorem zDN (a:Ar)(hao:yc a=true):Fn Try.prog tyT 147 [.agg (dAr a)] [.c (DII (xj a a.owner.length a.owner.length 0))]:=by
 have hal:=yv hao
 have hrow:=fun v hv=>(xR hao (v:=v) hv).2.2
 have hset:=fun v j hv hj=>Zr (xR hao (v:=v) hv).2.2.2.2 (j:=j) hj
 obtain⟨n,hn⟩: ∃n,a.owner.length=n:=⟨_,rfl⟩
 rw [hn]at hal hrow hset
 rw [hn]
 unfold dAr
 (try rw [hn])
 (try rw [hal.2.2])
 refine zw (fn:=Try.f147) (ts:= [2]) Try.func147 (by kernel_rfl) rfl rfl (by rw [Try.ntmps147];exact Nat.le_of_ble_eq_true rfl) rfl (by simp only [szA,List.mem_cons,List.not_mem_nil,or_false,forall_eq_or_imp,forall_eq,VT.cells,szL];try decide) ?_
 rw [Try.ntmps147]
 simp only [push_cast,↓zK,↓zJ,↓reduceIte,zA,zB,zC,zD,zE,zF,zG,zH,zI,reduceCtorEq]
 refine zL fun K hK=> ?_
 refine zM zO zN [] rfl ?_
 all_goals simp only [push_cast,↓zK,↓zJ,↓reduceIte,zA,zB,zC,zD,zE,zF,zG,zH,zI,reduceCtorEq]
 all_goals repeat'(first|(apply zP<;>(intro hg;(try simp only [push_cast]at hg)))|apply And.intro|(intro hg;(try simp only [push_cast]at hg)))
 all_goals first|exact gA|(exact zQ (by omega))|skip
 all_goals first|(refine hK _ ?_;clear hK K)|(simp only [push_cast];done)
 refine zL fun K hK=> ?_
 refine zM zO zN [] rfl ?_
 all_goals simp only [push_cast,↓zK,↓zJ,↓reduceIte,zA,zB,zC,zD,zE,zF,zG,zH,zI,reduceCtorEq]
 all_goals repeat'(first|(apply zP<;>(intro hg;(try simp only [push_cast]at hg)))|apply And.intro|(intro hg;(try simp only [push_cast]at hg)))
 all_goals first|exact gA|(exact zQ (by omega))|skip
 all_goals first|(refine hK _ ?_;clear hK K)|(simp only [push_cast];done)
 refine zL fun K1 hK1=> ?_
 refine zL fun K hK=> ?_
 refine zM zO zN [] rfl ?_
 all_goals simp only [push_cast,↓zK,↓zJ,↓reduceIte,zA,zB,zC,zD,zE,zF,zG,zH,zI,reduceCtorEq]
 all_goals repeat'(first|(apply zP<;>(intro hg;(try simp only [push_cast]at hg)))|apply And.intro|(intro hg;(try simp only [push_cast]at hg)))
 all_goals first|exact gA|(exact zQ (by omega))|skip
 all_goals first|(refine hK _ ?_;clear hK K)|(simp only [push_cast];done)
 refine zW ?_
 refine zi [4,5,7,15,16,17,18,19,20,21,22,23,24,25,26,27,28,29,30,31,32,33,34,35,36,37] [48] (fun(v:Nat)=> [(15, .int .i64 v),(3, .sl 48 [] 0 a.owner.length 22)]) (fun v=> []) (fun v=> [(48,⟨.ex,22,dII (xj a n v 0),none⟩)]) (fun v=>v≤n) (fun v=>n - v) 0 ?_ (by omega) ?_
 ·
  rw [uT]
  refine zY rfl ?_ ?_ ?_<;>simp only [zf,ze,push_cast,↓zK,↓zJ,↓reduceIte,zA,zB,zC,zD,zE,zF,zG,zH,zI,reduceCtorEq]
  all_goals first|(simp [dII,dI];done)|(simp [dII,dI];exact hn)|exact hn
 ·rintro v hv KL0 hL0
  have hpv:=vE a n v 0
  simp only [push_cast,↓zK,↓zJ,↓reduceIte,zA,zB,zC,zD,zE,zF,zG,zH,zI,reduceCtorEq]
  refine zL fun K hK=> ?_
  refine zM zO zN [] rfl ?_
  all_goals simp only [push_cast,↓zK,↓zJ,↓reduceIte,zA,zB,zC,zD,zE,zF,zG,zH,zI,reduceCtorEq]
  all_goals repeat'(first|(apply zP<;>(intro hg;(try simp only [push_cast]at hg)))|apply And.intro|(intro hg;(try simp only [push_cast]at hg)))
  all_goals first|exact gA|(exact zQ (by omega))|skip
  all_goals first|(refine hK _ ?_;clear hK K)|(simp only [push_cast];done)
  refine zL fun K2 hK2=> ?_
  refine zU rfl (fun hc=> ?_) (fun hc=> ?_)<;>(try simp only [push_cast]at hc)
  ·
   refine zV ?_
   (try simp only [zR,zS,reduceIte,zF]);refine hK2 _ ?_
   refine zL fun K3 hK3=> ?_
   refine zW ?_
   refine zL fun K hK=> ?_
   refine zM zO zN [] rfl ?_
   all_goals simp only [push_cast,↓zK,↓zJ,↓reduceIte,zA,zB,zC,zD,zE,zF,zG,zH,zI,reduceCtorEq]
   all_goals repeat'(first|(apply zP<;>(intro hg;(try simp only [push_cast]at hg)))|apply And.intro|(intro hg;(try simp only [push_cast]at hg)))
   all_goals first|exact gA|(exact zQ (by omega))|skip
   all_goals first|(refine hK _ ?_;clear hK K)|(simp only [push_cast];done)
   refine zL fun K hK=> ?_
   refine zM zO zN [] rfl ?_
   all_goals simp only [push_cast,↓zK,↓zJ,↓reduceIte,zA,zB,zC,zD,zE,zF,zG,zH,zI,reduceCtorEq]
   all_goals repeat'(first|(apply zP<;>(intro hg;(try simp only [push_cast]at hg)))|apply And.intro|(intro hg;(try simp only [push_cast]at hg)))
   all_goals first|exact gA|(exact zQ (by omega))|skip
   all_goals first|(refine hK _ ?_;clear hK K)|(simp only [push_cast];done)
   refine zW ?_
   refine zi [7,22,23,24,25,26,27,28,29,30,31,32,33,34,35,36] [48] (fun(i:Nat)=> [(22, .int .i64 i),(3, .sl 48 [] 0 a.owner.length 22)]) (fun i=> []) (fun i=> [(48,⟨.ex,22,dII (xj a n v i),none⟩)]) (fun i=>i≤(gl a.next v).length) (fun i=>(gl a.next v).length - i) 0 ?_ (by omega) ?_
   ·
    refine zY rfl ?_ ?_ ?_<;>simp only [zf,ze,push_cast,↓zK,↓zJ,↓reduceIte,zA,zB,zC,zD,zE,zF,zG,zH,zI,reduceCtorEq]
   ·rintro i hi KL1 hL1
    have hpv:=vE a n v i
    simp only [push_cast,↓zK,↓zJ,↓reduceIte,zA,zB,zC,zD,zE,zF,zG,zH,zI,reduceCtorEq]
    refine zL fun K hK=> ?_
    refine zM zO zN [] rfl ?_
    all_goals simp only [push_cast,↓zK,↓zJ,↓reduceIte,zA,zB,zC,zD,zE,zF,zG,zH,zI,reduceCtorEq]
    all_goals repeat'(first|(apply zP<;>(intro hg;(try simp only [push_cast]at hg)))|apply And.intro|(intro hg;(try simp only [push_cast]at hg)))
    all_goals first|exact gA|(exact zQ (by omega))|skip
    all_goals first|(refine hK _ ?_;clear hK K)|(simp only [push_cast];done)
    refine zL fun K4 hK4=> ?_
    refine zU rfl (fun hc=> ?_) (fun hc=> ?_)<;>(try simp only [push_cast]at hc)
    ·
     refine zV ?_
     (try simp only [zR,zS,reduceIte,zF]);refine hK4 _ ?_
     refine zL fun K5 hK5=> ?_
     refine zW ?_
     refine zL fun K hK=> ?_
     refine zM zO zN [] rfl ?_
     all_goals simp only [push_cast,↓zK,↓zJ,↓reduceIte,zA,zB,zC,zD,zE,zF,zG,zH,zI,reduceCtorEq]
     all_goals repeat'(first|(apply zP<;>(intro hg;(try simp only [push_cast]at hg)))|apply And.intro|(intro hg;(try simp only [push_cast]at hg)))
     all_goals first|exact gA|(exact zQ (by omega))|skip
     all_goals first|(refine hK _ ?_;clear hK K)|(simp only [push_cast];done)
     have hrv:=(hrow v (by omega)).2.1
     have hst:=hset v i (by omega) (by omega)
     have hps:=uS hao (n:=n) (v:=v) (i:=i) (by omega) (by omega) (by omega)
     have hpe:(gl (xj a n v i) (gi (gl a.next v) i).toNat).length≤v+1:=by rw [JO (by omega)];exact zAn _ _ _ _
     refine zj true zO zN ?_ rfl ?_
     ·kernel_rfl
     simp only [push_cast,↓zK,↓zJ,↓reduceIte,zA,zB,zC,zD,zE,zF,zG,zH,zI,reduceCtorEq]
     all_goals repeat'(first|(apply zP<;>(intro hg;(try simp only [push_cast]at hg)))|apply And.intro|(intro hg;(try simp only [push_cast]at hg)))
     all_goals first|exact gA|(rw [List.length_set,QY];omega)|(exact zQ (by omega))|skip
     (try simp only [zR,zS,reduceIte,zF]);refine hK5 _ ?_
     refine zM zO zN [] rfl ?_
     all_goals simp only [push_cast,↓zK,↓zJ,↓reduceIte,zA,zB,zC,zD,zE,zF,zG,zH,zI,reduceCtorEq]
     all_goals repeat'(first|(apply zP<;>(intro hg;(try simp only [push_cast]at hg)))|apply And.intro|(intro hg;(try simp only [push_cast]at hg)))
     all_goals first|exact gA|(exact zQ (by omega))|skip
     refine hL1 _ ⟨i+1,by omega,by omega,?_⟩
     refine zY rfl ?_ ?_ ?_<;>simp only [zf,ze,push_cast,↓zK,↓zJ,↓reduceIte,zA,zB,zC,zD,zE,zF,zG,zH,zI,reduceCtorEq]
     all_goals(rw [zGI (by omega) (by rw [List.length_append];exact Nat.le_refl _),hps])
    ·
     refine zk ?_
     have hii:i=(gl a.next v).length:=by omega
     subst hii
     rw [uR]
     (try simp only [zR,zS,reduceIte,zF]);refine hK3 _ ?_
     refine zM zO zN [] rfl ?_
     all_goals simp only [push_cast,↓zK,↓zJ,↓reduceIte,zA,zB,zC,zD,zE,zF,zG,zH,zI,reduceCtorEq]
     all_goals repeat'(first|(apply zP<;>(intro hg;(try simp only [push_cast]at hg)))|apply And.intro|(intro hg;(try simp only [push_cast]at hg)))
     all_goals first|exact gA|(exact zQ (by omega))|skip
     refine hL0 _ ⟨v+1,by omega,by omega,?_⟩
     refine zY rfl ?_ ?_ ?_<;>simp only [zf,ze,push_cast,↓zK,↓zJ,↓reduceIte,zA,zB,zC,zD,zE,zF,zG,zH,zI,reduceCtorEq]
  ·
   refine zk ?_
   have hvv:v=n:=by omega
   subst hvv
   (try simp only [zR,zS,reduceIte,zF]);refine hK1 _ ?_
   refine zL fun K hK=> ?_
   refine zM zO zN [] rfl ?_
   all_goals simp only [push_cast,↓zK,↓zJ,↓reduceIte,zA,zB,zC,zD,zE,zF,zG,zH,zI,reduceCtorEq]
   all_goals repeat'(first|(apply zP<;>(intro hg;(try simp only [push_cast]at hg)))|apply And.intro|(intro hg;(try simp only [push_cast]at hg)))
   all_goals first|exact gA|(exact zQ (by omega))|skip
   all_goals first|(refine hK _ ?_;clear hK K)|(simp only [push_cast];done)
   refine zX ?_
   (try simp only [zR,zS])
   refine⟨Or.inl rfl,?_⟩
   simp only [zd,push_cast,↓zK,↓zJ,↓reduceIte,zA,zB,zC,zD,zE,zF,zG,zH,zI,reduceCtorEq]
   all_goals first|rfl|exact hn|exact hn.symm|(simp [vE];exact hn)|exact⟨rfl,by simp only [vE];omega⟩|(simp [vE];done)
end Go.Proofs.Ythepmdkpbjfdcaa
