/- The reference's game with who goes to whom both ways: plain -/
import Derived.Test.YthepmdkpbjfdcaaGreatB13zff
import Derived.Test.YthepmdkpbjfdcaaGreatB7zff
import Derived.Test.YthepmdkpbjfdcaaGreatB12zff
namespace Go.Proofs.YthepmdkpbjfdcaaGreat
open Go.RowKit
set_option linter.unusedVariables false
set_option linter.unusedSimpArgs false
theorem Zv {xs:List Int}{n:Int}(h:zv xs n=true){j:Nat}(hj:j<xs.length):0≤gi xs j∧gi xs j<n:=by
 have :=xl h hj
 unfold xp at this
 have :=of_decide_eq_true this
 exact⟨this.1,this.2.1⟩
def prv (a:Ar)(u v:Nat):List Int:=((List.range v).filter fun(w:Nat)=>zr (gl a.next w) (u:Int)).map fun(w:Nat)=>(w:Int)
def Xn (a:Ar)(v i u:Nat):List Int:=prv a u v++if zr ((gl a.next v).take i) (u:Int)then [(v:Int)]else []
def qW (a:Ar)(n v i:Nat):List (List Int):=(List.range n).map (Xn a v i)
theorem vz (a:Ar)(n v i:Nat):(qW a n v i).length=n:=by simp [qW]
theorem jd {a:Ar}{n v i u:Nat}(h:u<n):gl (qW a n v i) u=Xn a v i u:=by
 unfold gl qW
 rw [List.getD_eq_getElem?_getD,List.getElem?_map,List.getElem?_range h]
 rfl
theorem zKG (a:Ar)(u:Nat):prv a u 0= []:=rfl
theorem zBk (a:Ar)(n:Nat):qW a n 0 0=List.replicate n []:=by
 refine List.ext_getElem (by simp [qW]) fun j h1 h2=> ?_
 simp [qW,Xn,zKG,zr,qA]
theorem zFv (a:Ar)(u v:Nat):(prv a u v).length≤v:=by
 unfold prv
 rw [List.length_map]
 exact Nat.le_trans (List.length_filter_le _ _) (by simp)
theorem zD2 (a:Ar)(v i u:Nat):(Xn a v i u).length≤v+1:=by
 unfold Xn
 rw [List.length_append]
 have :=zFv a u v
 split<;>simp<;>omega
theorem zBi {a:Ar}{n v:Nat}:qW a n v (gl a.next v).length=qW a n (v+1) 0:=by
 unfold qW
 refine List.map_congr_left fun u _=> ?_
 unfold Xn
 rw [List.take_length,show(gl a.next (v+1)).take 0= []from rfl,show zr [] (u:Int)=false from rfl]
 unfold prv
 rw [List.range_succ,List.filter_append,List.map_append]
 by_cases h:zr (gl a.next v) (u:Int)=true<;>simp [h]
theorem zBj {a:Ar}(hok:yK a=true){n v i:Nat}(hv:v<a.owner.length)(hn:n=a.owner.length)(hi:i<(gl a.next v).length):
  (qW a n v i).set (gi (gl a.next v) i).toNat (gl (qW a n v i) (gi (gl a.next v) i).toNat++ [(v:Int)])=qW a n v (i+1):=by
 have hs:=(xD hok hv).2.2.2.2
 have hb:=Zv hs hi
 have hu:(gi (gl a.next v) i).toNat<n:=by omega
 have hrise: ∀k j,j<k→k<(gl a.next v).length→gi (gl a.next v) j<gi (gl a.next v) k:=by
  intro k
  induction k with
  |zero=>intro j h;omega
  |succ k ih=>
   intro j hj hk
   have :=xl hs hk
   unfold xp at this
   have :=of_decide_eq_true this
   have h1:gi (gl a.next v) k<gi (gl a.next v) (k+1):=by have :=this.2.2.resolve_left (by omega);simpa using this
   rcases Nat.lt_or_ge j k with h|h
   ·have :=ih j h (by omega);omega
   ·rw [show j=k by omega];exact h1
 refine List.ext_getElem (by simp [qW]) fun j h1 h2=> ?_
 rw [List.getElem_set]
 have hj:j<n:=by rw [vz]at h2;exact h2
 have e1:(qW a n v i)[j]'(by rw [vz];exact hj)=Xn a v i j:=by simp [qW]
 have e2:(qW a n v (i+1))[j]=Xn a v (i+1) j:=by simp [qW]
 rw [e2]
 have hno:zr ((gl a.next v).take i) (gi (gl a.next v) i)=false:=by
  refine Bool.eq_false_iff.2 fun h=> ?_
  obtain⟨k,hk,e⟩:=wH.1 h
  rw [List.length_take]at hk
  rw [ZO (by omega)]at e
  have :=hrise i k (by omega) hi
  omega
 split
 ·rename_i e
  subst e
  rw [jd hu]
  unfold Xn
  rw [YA hi,Int.toNat_of_nonneg hb.1,hno]
  simp
 ·rename_i e
  rw [e1]
  unfold Xn
  rw [YA hi]
  have :decide ((j:Int)=gi (gl a.next v) i)=false:=decide_eq_false (by omega)
  rw [this,Bool.or_false]
theorem zKF (a:Ar)(n u:Nat)(h:n=a.next.length):Xn a n 0 u=prv a u n:=by
 unfold Xn
 rw [show(gl a.next n).take 0= []from rfl,show zr [] (u:Int)=false from rfl]
 simp
theorem zFw {a:Ar}{u v:Nat}{w:Int}:w∈prv a u v↔0≤w∧w<v∧zr (gl a.next w.toNat) (u:Int)=true:=by
 unfold prv
 rw [List.mem_map]
 constructor
 ·rintro⟨k,hk,rfl⟩
  obtain⟨h1,h2⟩:=List.mem_filter.1 hk
  have :=List.mem_range.1 h1
  exact⟨by omega,by omega,by simpa using h2⟩
 ·rintro⟨h1,h2,h3⟩
  exact⟨w.toNat,List.mem_filter.2 ⟨List.mem_range.2 (by omega),h3⟩,by omega⟩
theorem zNx (a:Ar)(u v:Nat):(prv a u v).Pairwise (· < ·):=by
 unfold prv
 rw [List.pairwise_map]
 refine List.Pairwise.imp (fun h=> ?_) (List.Pairwise.filter _ List.pairwise_lt_range)
 omega
def l7G (g:Pa)(pick:List Int):L7:=⟨g.a.owner,g.prio,g.a.next,qW g.a g.a.owner.length g.a.owner.length 0,pick⟩
theorem zJl {g:Pa}(hl:g.a.next.length=g.a.owner.length){pick:List Int}{u:Nat}(hu:u<g.a.owner.length):gl (l7G g pick).prev u=prv g.a u g.a.owner.length:=by
 show gl (qW g.a _ _ 0) u=_
 rw [jd hu,zKF _ _ _ hl.symm]
theorem xj {g:Pa}(h:qI g=true):yK g.a=true∧g.prio.length=g.a.owner.length∧∀v,v<g.a.owner.length→0≤gi g.prio v∧gi g.prio v≤40:=by
 unfold qI at h
 rw [Bool.and_eq_true,Bool.and_eq_true]at h
 have h2:=of_decide_eq_true h.2.1
 exact⟨h.1,h2,fun v hv=>by have :=xl h.2.2 (k:=v) (by omega);exact of_decide_eq_true this⟩
theorem zDZ {g:Pa}(h:qI g=true){pick:List Int}(hp:pick.length=g.a.owner.length):(l7G g pick).Ok g.a.owner.length:=by
 obtain⟨ha,hpl,hpr⟩:=xj h
 have hal:=yO ha
 have hpv:=fun u (hu:u<g.a.owner.length)=>zJl (g:=g) hal.2.2 (pick:=pick) hu
 refine⟨hal.2.1,rfl,hpl,hal.2.2,vz _ _ _ _,hp,fun v hv=> ?_,fun v hv j hj=> ?_,hpr,fun v hv=> ?_,fun v hv i j hij hj=> ?_,fun u hu=> ?_,fun u hu m hm=> ?_,fun v hv j hj=> ?_,fun u hu i j hij hj=> ?_⟩
 ·have :=(xD ha hv).2.2.2.1
  show(gl g.a.next v).length≤256
  omega
 ·exact Zv (xD ha hv).2.2.2.2 hj
 ·have :=xD ha hv
  show gi g.a.owner v=0∨gi g.a.owner v=1
  omega
 ·have hs:=(xD ha hv).2.2.2.2
  have key: ∀k j,j<k→k<(gl g.a.next v).length→gi (gl g.a.next v) j<gi (gl g.a.next v) k:=by
   intro k
   induction k with
   |zero=>intro j h;omega
   |succ k ih=>
    intro j hj hk
    have :=xl hs hk
    unfold xp at this
    have :=of_decide_eq_true this
    have h1:gi (gl g.a.next v) k<gi (gl g.a.next v) (k+1):=by have :=this.2.2.resolve_left (by omega);simpa using this
    rcases Nat.lt_or_ge j k with h|h
    ·have :=ih j h (by omega);omega
    ·rw [show j=k by omega];exact h1
  have :=key j i hij hj
  show gi (gl g.a.next v) i≠gi (gl g.a.next v) j
  omega
 ·rw [hpv u hu]
  have :=zFv g.a u g.a.owner.length
  omega
 ·rw [hpv u hu]at hm⊢
  obtain⟨h1,h2,h3⟩:=zFw.1 (WI hm)
  refine⟨⟨h1,h2⟩,?_⟩
  obtain⟨i,hi,e⟩:=wH.1 h3
  exact⟨i,hi,e⟩
 ·have hb:=Zv (xD ha hv).2.2.2.2 hj
  have hu:(gi (gl g.a.next v) j).toNat<g.a.owner.length:=by omega
  show∃m,m<(gl (l7G g pick).prev (gi (gl g.a.next v) j).toNat).length∧gi (gl (l7G g pick).prev (gi (gl g.a.next v) j).toNat) m=v
  rw [hpv _ hu]
  have hm:(v:Int)∈prv g.a (gi (gl g.a.next v) j).toNat g.a.owner.length:=zFw.2 ⟨by omega,by omega,by
   rw [Int.toNat_natCast,Int.toNat_of_nonneg hb.1]
   exact wH.2 ⟨j,hj,rfl⟩⟩
  obtain⟨m,hm1,hm2⟩:=wH.1 ((yD _ _).2 hm)
  exact⟨m,hm1,hm2⟩
 ·rw [hpv u hu]at hj⊢
  have :=List.pairwise_iff_getElem.1 (zNx g.a u g.a.owner.length) i j (by omega) hj hij
  unfold gi
  rw [List.getD_eq_getElem?_getD,List.getD_eq_getElem?_getD,List.getElem?_eq_getElem (by omega),List.getElem?_eq_getElem hj]
  simp only [Option.getD_some]
  omega
def noP (n:Nat):List Int:=List.replicate n (-1)
theorem jZ (n:Nat):(noP n).length=n:=List.length_replicate ..
theorem zNt (n v:Nat)(h:v<n):gi (noP n) v= -1:=UF h
def qu (n:Nat):List Bool:=List.replicate n true
theorem Qd (n:Nat):(qu n).length=n:=List.length_replicate ..
theorem QM {n v:Nat}(h:v<n):gb (qu n) v=true:=by
 unfold gb qu
 rw [List.getD_eq_getElem?_getD,List.getElem?_replicate,if_pos h]
 rfl
noncomputable def Xp (g:Pa):List Bool:=yh (l7G g (noP g.a.owner.length)) g.a.owner.length (g.a.owner.length+1) (qu g.a.owner.length)
def YZ (b:Bool):Int:=if b then 0 else 1
noncomputable def wB (g:Pa):List Int:=(Xp g).map YZ
theorem uU (g:Pa):(Xp g).length=g.a.owner.length:=uT _ _ _ _
theorem XF (g:Pa):(wB g).length=g.a.owner.length:=by unfold wB;rw [List.length_map,uU]
theorem zAo {g:Pa}{v:Nat}(hv:v<g.a.owner.length):gi (wB g) v=YZ (gb (Xp g) v):=by
 unfold gi wB gb
 rw [List.getD_eq_getElem?_getD,List.getElem?_map,List.getD_eq_getElem?_getD,List.getElem?_eq_getElem (by rw [uU];exact hv)]
 rfl
def qm (g:Pa):PG:=⟨fun v=>if v<g.a.owner.length then gi g.a.owner v else 0,fun v=>(gi g.prio v).toNat,fun v u=>v<g.a.owner.length∧∃j,j<(gl g.a.next v).length∧(gi (gl g.a.next v) j).toNat=u⟩
theorem zHv {g:Pa}{v:Nat}(hv:v<g.a.owner.length)(u:Int):edB (l7G g (noP g.a.owner.length)) v u=true:=by
 unfold edB
 refine decide_eq_true (.inl ?_)
 show gi (noP g.a.owner.length) (Int.toNat v)<0
 rw [Int.toNat_natCast,zNt _ _ hv]
 decide
theorem zDw (g:Pa):pgL (l7G g (noP g.a.owner.length))=qm g:=by
 unfold pgL qm
 congr 1
 funext v u
 refine propext ⟨?_,?_⟩
 ·rintro⟨h1,j,h2,h3,-⟩
  exact⟨h1,j,h2,h3⟩
 ·rintro⟨h1,j,h2,h3⟩
  exact⟨h1,j,h2,h3,zHv h1 _⟩
theorem zMc {g:Pa}(h:qI g=true):
  (∃s,xt (qm g) 0 (fun v=>v<g.a.owner.length) (fun v=>v<g.a.owner.length∧gb (Xp g) v=true) s)∧∃s,xt (qm g) 1 (fun v=>v<g.a.owner.length) (fun v=>v<g.a.owner.length∧gb (Xp g) v=false) s:=by
 obtain⟨ha,hpl,hpr⟩:=xj h
 have hD: ∀v,inD g.a.owner.length (qu g.a.owner.length) v↔v<g.a.owner.length:=fun v=>⟨fun h=>h.1,fun h=>⟨h,QM h⟩⟩
 have hlive:wE (pgL (l7G g (noP g.a.owner.length))) (inD g.a.owner.length (qu g.a.owner.length)):=fun v hv=>by
  have h1:=(xD ha hv.1).2.2
  have h2:=Zv h1.2.2 (j:=0) (by omega)
  rw [zDw]
  exact⟨(gi (gl g.a.next v) 0).toNat,⟨hv.1,0,by omega,rfl⟩,(hD _).2 (by omega)⟩
 obtain⟨⟨s,h0⟩,⟨t,h1⟩⟩:=jl (zDZ h (jZ _)) (g.a.owner.length+1) (qu g.a.owner.length) (Qd _) (Nat.lt_succ_of_le (Qi _ _)) hlive
 rw [zDw]at h0 h1
 exact⟨⟨s,yU h0 hD fun v=>by rw [hD v];exact Iff.rfl⟩,⟨t,yU h1 hD fun v=>by rw [hD v];exact Iff.rfl⟩⟩
theorem uL {R:Nat→Nat→Prop}{pr:Nat→Nat}{f:Nat→Nat}(h: ∀t,R (f t) (f (t+1))): ∀d i,∃p,Wk R pr (f i) (f (i+d+1)) p∧(∃T,i≤T∧T≤i+d∧pr (f T)=p)∧∀T,i≤T→T≤i+d→pr (f T)≤p
 |0,i=>⟨pr (f i), .one (h i),⟨i,by omega,by omega,rfl⟩,fun T h1 h2=>by rw [show T=i by omega];exact Nat.le_refl _⟩
 |d+1,i=>by
  obtain⟨p,a,⟨T,b1,b2,b3⟩,c⟩:=uL h d (i+1)
  rw [show i+1+d+1=i+(d+1)+1 by omega]at a
  refine⟨max (pr (f i)) p, .cons (h i) a,?_,fun T' h1 h2=> ?_⟩
  ·rcases Nat.le_total (pr (f i)) p with hp|hp
   ·exact⟨T,by omega,by omega,by omega⟩
   ·exact⟨i,by omega,by omega,by omega⟩
  ·by_cases e:T'=i
   ·rw [e];omega
   ·have :=c T' (by omega) (by omega);omega
theorem zKO {α:Type}{it:Nat→α}{c:α→Nat}{N:Nat}(hc: ∀k,c (it k)<N)(hi: ∀i j,c (it i)=c (it j)→it i=it j): ∃i d,it (i+d+1)=it i:=by
 refine Classical.byContradiction fun hno=> ?_
 have hnd:((List.range (N+1)).map fun k=>c (it k)).Nodup:=by
  rw [List.nodup_iff_pairwise_ne,List.pairwise_map]
  refine List.Pairwise.imp_of_mem ?_ (List.pairwise_lt_range)
  intro a b ha hb hab e
  exact hno ⟨a,b - a - 1,by rw [show a+(b - a - 1)+1=b by omega];exact(hi _ _ e).symm⟩
 have :=List.Nodup.length_le_of_subset (l₂:=List.range N) hnd (fun x hx=>by
  obtain⟨k,-,rfl⟩:=List.mem_map.1 hx
  exact List.mem_range.2 (hc k))
 simp at this
 omega
section
variable {a:Ar} {rc:Plc→List Int} {pr:Plc→Int} {p0:Plc} {V:List Int→Prop} {B:Nat}
theorem zAc (hok:okQ (usA a) rc p0=true){v:Nat}(hv:v<(plA a rc p0).length):plQ (usA a) rc p0 v=gq (plA a rc p0) v:=by
 obtain⟨h1,h2,h3,h4⟩:=wL (n:=(plA a rc p0).length) hok rfl
 exact(Ks (i:=v) (by omega) (h4 v hv)).symm
theorem jQ (hok:okQ (usA a) rc p0=true){v u:Nat}(h:(qm (gmA a rc pr p0 (plA a rc p0).length)).E v u):
  v<(plA a rc p0).length∧u<(plA a rc p0).length∧(gq (plA a rc p0) u).record=rc (gq (plA a rc p0) v)∧zr (gl a.next (gq (plA a rc p0) v).at_.toNat) (gq (plA a rc p0) u).at_=true:=by
 obtain⟨h1,j,hj,e⟩:=h
 rw [Zh]at h1
 rw [zGj h1]at hj e
 have hx:zr (nxQ (usA a) rc p0 v) (gi (nxQ (usA a) rc p0 v) j)=true:=(yD _ _).2 (by rw [Xx hj];exact List.getElem_mem hj)
 obtain⟨k1,k2,k3⟩:=UZ hok h1 hx
 rw [e]at k2 k3
 exact⟨h1,by omega,k2,k3⟩
theorem zIF (hok:okQ (usA a) rc p0=true){v:Nat}(hv:v<(plA a rc p0).length){w:Int}(hw:zr (gl a.next (gq (plA a rc p0) v).at_.toNat) w=true):
  ∃u,(qm (gmA a rc pr p0 (plA a rc p0).length)).E v u∧(gq (plA a rc p0) u).at_=w:=by
 obtain⟨h1,h2,h3,h4⟩:=wL (n:=(plA a rc p0).length) hok rfl
 have hv2:=h4 v hv
 have hpv:=zAc hok hv
 rw [←hpv]at hw
 obtain⟨j,hj,e⟩:=jP ((yD _ _).1 hw)
 have h5:=WX (r:=rc (plQ (usA a) rc p0 v)) (us:=usA a (plQ (usA a) rc p0 v)) (ps:=stQ (usA a) rc p0 v) (Nat.le_refl _) j hj
 have hlen:=(xw (r:=rc (plQ (usA a) rc p0 v)) (us:=usA a (plQ (usA a) rc p0 v)) (ps:=stQ (usA a) rc p0 v) (Nat.le_refl _)).1
 obtain⟨x,hxe⟩: ∃x,gi (zn (rc (plQ (usA a) rc p0 v)) (usA a (plQ (usA a) rc p0 v)) (stQ (usA a) rc p0 v) (usA a (plQ (usA a) rc p0 v)).length).2 j=x:=⟨_,rfl⟩
 have hj2:j<(zn (rc (plQ (usA a) rc p0 v)) (usA a (plQ (usA a) rc p0 v)) (stQ (usA a) rc p0 v) (usA a (plQ (usA a) rc p0 v)).length).2.length:=by rw [hlen];exact hj
 have hmem:x∈nxQ (usA a) rc p0 v:=by
  refine(xE _).mem_iff.2 ?_
  rw [←hxe,Xx hj2]
  exact List.getElem_mem hj2
 have hx:=UZ hok hv ((yD _ _).2 hmem)
 rw [hxe]at h5
 have h7:stQ (usA a) rc p0 (v+1)=(zn (rc (plQ (usA a) rc p0 v)) (usA a (plQ (usA a) rc p0 v)) (stQ (usA a) rc p0 v) (usA a (plQ (usA a) rc p0 v)).length).1:=ZV hv2
 rw [←h7]at h5
 have h9:gq (plA a rc p0) x.toNat=⟨gi (usA a (plQ (usA a) rc p0 v)) j,rc (plQ (usA a) rc p0 v)⟩:=by
  rw [←h5.2]
  exact Ks (i:=v+1) (by omega) (by omega)
 obtain⟨m,hm,em⟩:=jP hmem
 refine⟨x.toNat,⟨by rw [Zh];exact hv,m,by rw [zGj hv];exact hm,by rw [zGj hv,em]⟩,?_⟩
 rw [h9]
 exact e
theorem zJe {n v:Nat}(hv:v<n):(qm (gmA a rc pr p0 n)).own v=gi a.owner (plQ (usA a) rc p0 v).at_.toNat:=by
 show(if v<(xT a rc p0 n).length then gi (xT a rc p0 n) v else 0)=_
 rw [if_pos (by rw [qO];exact hv)]
 unfold xT
 rw [ZN (by simp;exact hv)]
 simp
theorem zFe (hok:okQ (usA a) rc p0=true){v:Nat}(hv:v<(plA a rc p0).length):(qm (gmA a rc pr p0 (plA a rc p0).length)).own v=gi a.owner (gq (plA a rc p0) v).at_.toNat:=by
 rw [zJe hv,zAc hok hv]
theorem zLl {n v:Nat}(hv:v<n):(qm (gmA a rc pr p0 n)).pr v=(pr (plQ (usA a) rc p0 v)).toNat:=by
 show(gi (gmA a rc pr p0 n).prio v).toNat=_
 rw [gm_pr hv]
theorem zIE (hok:okQ (usA a) rc p0=true){v:Nat}(hv:v<(plA a rc p0).length):(qm (gmA a rc pr p0 (plA a rc p0).length)).pr v=(pr (gq (plA a rc p0) v)).toNat:=by
 rw [zLl hv,zAc hok hv]
theorem zFu :gq (plA a rc p0) 0=p0:=by
 have :=Ks (a:=a) (rc:=rc) (p0:=p0) (i:=0) (j:=257) (by omega) (k:=0) (by show 0< [p0].length;simp)
 rw [this]
 rfl
end
structure Joint (a1 a2:Ar)(rc1 rc2:Plc→List Int)(pr1 pr2:Plc→Int)(p1 p2:Plc)(w1 w2:Int)(L:Nat)(q1 q2:Nat→Plc):Prop where
 pos:0<L
 in1: ∀t,q1 t∈plA a1 rc1 p1
 in2: ∀t,q2 t∈plA a2 rc2 p2
 at_: ∀t,(q1 t).at_=(q2 t).at_
 nx1: ∀t,(q1 (t+1)).record=rc1 (q1 t)
 nx2: ∀t,(q2 (t+1)).record=rc2 (q2 t)
 per1: ∀t,q1 (t+L)=q1 t
 per2: ∀t,q2 (t+L)=q2 t
 top1: ∃M:Int,M%2=w1∧(∃T,T<L∧pr1 (q1 T)=M)∧∀t,t<L→pr1 (q1 t)≤M
 top2: ∃M:Int,M%2=w2∧(∃T,T<L∧pr2 (q2 T)=M)∧∀t,t<L→pr2 (q2 t)≤M
theorem joint {a1 a2:Ar}{rc1 rc2:Plc→List Int}{pr1 pr2:Plc→Int}{p1 p2:Plc}{w1 w2:Int}(hnx:a2.next=a1.next)(hok1:okQ (usA a1) rc1 p1=true)(hok2:okQ (usA a2) rc2 p2=true)(hat:p1.at_=p2.at_)
  (hpr1: ∀v,v<(plA a1 rc1 p1).length→0≤pr1 (gq (plA a1 rc1 p1) v)) (hpr2: ∀v,v<(plA a2 rc2 p2).length→0≤pr2 (gq (plA a2 rc2 p2) v))
  (hin: ∀p∈plA a1 rc1 p1,p.at_.toNat<a1.owner.length) (hsplit: ∀v,v<a1.owner.length→(gi a2.owner v=w2↔¬gi a1.owner v=w1))
  {U1 U2:Nat→Prop} {s1 s2:Nat→Nat} (h1:xt (qm (gmA a1 rc1 pr1 p1 (plA a1 rc1 p1).length)) w1 (fun v=>v<(plA a1 rc1 p1).length) U1 s1) (h2:xt (qm (gmA a2 rc2 pr2 p2 (plA a2 rc2 p2).length)) w2 (fun v=>v<(plA a2 rc2 p2).length) U2 s2) (hU1:U1 0) (hU2:U2 0):
  ∃L q1 q2,Joint a1 a2 rc1 rc2 pr1 pr2 p1 p2 w1 w2 L q1 q2:=by
 have step: ∀x:Nat×Nat,∃y:Nat×Nat,(U1 x.1∧U2 x.2∧(gq (plA a1 rc1 p1) x.1).at_=(gq (plA a2 rc2 p2) x.2).at_)→
   (U1 y.1∧U2 y.2∧(gq (plA a1 rc1 p1) y.1).at_=(gq (plA a2 rc2 p2) y.2).at_)∧SR (qm (gmA a1 rc1 pr1 p1 (plA a1 rc1 p1).length)) w1 U1 s1 x.1 y.1∧SR (qm (gmA a2 rc2 pr2 p2 (plA a2 rc2 p2).length)) w2 U2 s2 x.2 y.2:=fun⟨i,j⟩=>by
  by_cases hJ:U1 i∧U2 j∧(gq (plA a1 rc1 p1) i).at_=(gq (plA a2 rc2 p2) j).at_
  ·obtain⟨u1,u2,e⟩:=hJ
   have hi:=h1.sub i u1
   have hj:=h2.sub j u2
   have o1:=zFe (pr:=pr1) hok1 hi
   have o2:=zFe (pr:=pr2) hok2 hj
   rw [←e]at o2
   have hs:=hsplit (gq (plA a1 rc1 p1) i).at_.toNat (hin _ (vC hi))
   rw [←o1,←o2]at hs
   by_cases ho:(qm (gmA a1 rc1 pr1 p1 (plA a1 rc1 p1).length)).own i=w1
   ·have ho2: ¬(qm (gmA a2 rc2 pr2 p2 (plA a2 rc2 p2).length)).own j=w2:=fun h=>hs.1 h ho
    obtain⟨b1,b2⟩:=h1.own i u1 ho
    obtain⟨-,c2,c3,c4⟩:=jQ hok1 b1
    rw [e,←hnx]at c4
    obtain⟨j',d1,d2⟩:=zIF (pr:=pr2) hok2 hj c4
    have d3:=(jQ hok2 d1).2.1
    have d4:=h2.opp j j' u2 ho2 d1 d3
    exact⟨(s1 i,j'),fun _=>⟨⟨b2,d4,d2.symm⟩,⟨u1,b2,b1,fun _=>rfl⟩,⟨u2,d4,d1,fun h=>absurd h ho2⟩⟩⟩
   ·have ho2:(qm (gmA a2 rc2 pr2 p2 (plA a2 rc2 p2).length)).own j=w2:=hs.2 ho
    obtain⟨b1,b2⟩:=h2.own j u2 ho2
    obtain⟨-,c2,c3,c4⟩:=jQ hok2 b1
    rw [←e,hnx]at c4
    obtain⟨i',d1,d2⟩:=zIF (pr:=pr1) hok1 hi c4
    have d3:=(jQ hok1 d1).2.1
    have d4:=h1.opp i i' u1 ho d1 d3
    exact⟨(i',s2 j),fun _=>⟨⟨d4,b2,d2⟩,⟨u1,d4,d1,fun h=>absurd h ho⟩,⟨u2,b2,b1,fun _=>rfl⟩⟩⟩
  ·exact⟨(0,0),fun h=>absurd h hJ⟩
 obtain⟨f,hf⟩:=Classical.axiomOfChoice step
 obtain⟨it,hit0,hits⟩: ∃it:Nat→Nat×Nat,it 0=(0,0)∧∀k,it (k+1)=f (it k):=⟨fun k=>Nat.rec (0,0) (fun _ x=>f x) k,rfl,fun k=>rfl⟩
 have hJ: ∀k,U1 (it k).1∧U2 (it k).2∧(gq (plA a1 rc1 p1) (it k).1).at_=(gq (plA a2 rc2 p2) (it k).2).at_:=fun k=>by
  induction k with
  |zero=>rw [hit0];exact⟨hU1,hU2,by rw [zFu,zFu];exact hat⟩
  |succ k ih=>rw [hits];exact(hf _ ih).1
 have hS1: ∀k,SR (qm (gmA a1 rc1 pr1 p1 (plA a1 rc1 p1).length)) w1 U1 s1 (it k).1 (it (k+1)).1:=fun k=>by rw [hits];exact(hf _ (hJ k)).2.1
 have hS2: ∀k,SR (qm (gmA a2 rc2 pr2 p2 (plA a2 rc2 p2).length)) w2 U2 s2 (it k).2 (it (k+1)).2:=fun k=>by rw [hits];exact(hf _ (hJ k)).2.2
 have hl1: ∀k,(it k).1<(plA a1 rc1 p1).length:=fun k=>h1.sub _ (hJ k).1
 have hl2: ∀k,(it k).2<(plA a2 rc2 p2).length:=fun k=>h2.sub _ (hJ k).2.1
 obtain⟨n1,hn1⟩: ∃n,(plA a1 rc1 p1).length=n:=⟨_,rfl⟩
 obtain⟨n2,hn2⟩: ∃n,(plA a2 rc2 p2).length=n:=⟨_,rfl⟩
 have hl1': ∀k,(it k).1<n1:=fun k=>by rw [←hn1];exact hl1 k
 have hl2': ∀k,(it k).2<n2:=fun k=>by rw [←hn2];exact hl2 k
 obtain⟨i,d,hrep⟩:=zKO (it:=it) (c:=fun x=>x.1*n2+x.2) (N:=n1*n2) (fun k=>by
  have h5:=Nat.mul_le_mul_right n2 (show(it k).1+1≤n1 from hl1' k)
  rw [Nat.add_mul,Nat.one_mul]at h5
  have :=hl2' k
  show(it k).1*n2+(it k).2<n1*n2
  omega) (fun i j e=>by
  have e:(it i).1*n2+(it i).2=(it j).1*n2+(it j).2:=e
  have a1:=hl2' i
  have a2:=hl2' j
  have b1:((it i).1*n2+(it i).2) / n2=(it i).1:=by rw [Nat.add_comm,Nat.add_mul_div_right _ _ (by omega),Nat.div_eq_of_lt a1,Nat.zero_add]
  have b2:((it j).1*n2+(it j).2) / n2=(it j).1:=by rw [Nat.add_comm,Nat.add_mul_div_right _ _ (by omega),Nat.div_eq_of_lt a2,Nat.zero_add]
  have c1:(it i).1=(it j).1:=by rw [←b1,←b2,e]
  rw [c1]at e
  exact Prod.ext c1 (by omega))
 have hper: ∀t,it (i+(t+(d+1)))=it (i+t):=fun t=>by
  induction t with
  |zero=>rw [Nat.zero_add,←Nat.add_assoc];exact hrep
  |succ t ih=>rw [show i+(t+1+(d+1))=(i+(t+(d+1)))+1 by omega,hits,ih,show i+(t+1)=i+t+1 by omega,hits]
 refine⟨d+1,fun t=>gq (plA a1 rc1 p1) (it (i+t)).1,fun t=>gq (plA a2 rc2 p2) (it (i+t)).2,by omega,fun t=>vC (hl1 _),fun t=>vC (hl2 _),fun t=>(hJ _).2.2,fun t=>(jQ hok1 (hS1 (i+t)).2.2.1).2.2.1,fun t=>(jQ hok2 (hS2 (i+t)).2.2.1).2.2.1,fun t=>by rw [hper],fun t=>by rw [hper],?_,?_⟩
 ·obtain⟨p,a,⟨T,b1,b2,b3⟩,c⟩:=uL (R:=SR (qm (gmA a1 rc1 pr1 p1 (plA a1 rc1 p1).length)) w1 U1 s1) (pr:=(qm (gmA a1 rc1 pr1 p1 (plA a1 rc1 p1).length)).pr) (f:=fun k=>(it k).1) hS1 d i
  rw [hrep]at a
  have hg:=h1.good _ _ a
  have hq: ∀T,pr1 (gq (plA a1 rc1 p1) (it T).1)=((qm (gmA a1 rc1 pr1 p1 (plA a1 rc1 p1).length)).pr (it T).1:Int):=fun T=>by
   rw [zIE hok1 (hl1 T)]
   have :=hpr1 _ (hl1 T)
   omega
  refine⟨p,hg,⟨T - i,by omega,by rw [show i+(T - i)=T by omega,hq,b3]⟩,fun t ht=> ?_⟩
  have :=c (i+t) (by omega) (by omega)
  rw [hq]
  omega
 ·obtain⟨p,a,⟨T,b1,b2,b3⟩,c⟩:=uL (R:=SR (qm (gmA a2 rc2 pr2 p2 (plA a2 rc2 p2).length)) w2 U2 s2) (pr:=(qm (gmA a2 rc2 pr2 p2 (plA a2 rc2 p2).length)).pr) (f:=fun k=>(it k).2) hS2 d i
  rw [hrep]at a
  have hg:=h2.good _ _ a
  have hq: ∀T,pr2 (gq (plA a2 rc2 p2) (it T).2)=((qm (gmA a2 rc2 pr2 p2 (plA a2 rc2 p2).length)).pr (it T).2:Int):=fun T=>by
   rw [zIE hok2 (hl2 T)]
   have :=hpr2 _ (hl2 T)
   omega
  refine⟨p,hg,⟨T - i,by omega,by rw [show i+(T - i)=T by omega,hq,b3]⟩,fun t ht=> ?_⟩
  have :=c (i+t) (by omega) (by omega)
  rw [hq]
  omega
open Nat renaming reduceMod → zA, reduceMul → zB, reduceDiv → zC, reduceAdd → zD, reduceSub → zE, reduceEqDiff → zF, reduceBEq → zG, reduceLT → zH, reduceLeDiff → zI
def gvB (ps:List Pr)(r:List Int)(v:Int)(i:Nat):Bool:=zr (gp ps (gi r i).toNat).give v
def nrF (ps:List Pr)(r:List Int)(v:Int):Nat→List Int
 |0=> []
 |i+1=>if gvB ps r v i=true then nrF ps r v i++ [gi r i]else nrF ps r v i
def nrR (ps:List Pr)(r:List Int)(v:Int):Nat→List Int
 |0=> []
 |i+1=>if gvB ps r v i=true then nrR ps r v i else nrR ps r v i++ [gi r i]
theorem ja {ps:List Pr}{r:List Int}{v:Int}{i:Nat}(h:gvB ps r v i=true):nrF ps r v (i+1)=nrF ps r v i++ [gi r i]:=if_pos h
theorem UR {ps:List Pr}{r:List Int}{v:Int}{i:Nat}(h:gvB ps r v i=false):nrF ps r v (i+1)=nrF ps r v i:=if_neg (by rw [h];decide)
theorem jb {ps:List Pr}{r:List Int}{v:Int}{i:Nat}(h:gvB ps r v i=true):nrR ps r v (i+1)=nrR ps r v i:=if_pos h
theorem US {ps:List Pr}{r:List Int}{v:Int}{i:Nat}(h:gvB ps r v i=false):nrR ps r v (i+1)=nrR ps r v i++ [gi r i]:=if_neg (by rw [h];decide)
theorem zDo (ps:List Pr)(r:List Int)(v:Int): ∀i,(nrF ps r v i).length+(nrR ps r v i).length=i
 |0=>rfl
 |i+1=>by
  have h:=zDo ps r v i
  cases hb:gvB ps r v i with
  |true=>rw [ja hb,jb hb,List.length_append,List.length_singleton];omega
  |false=>rw [UR hb,US hb,List.length_append,List.length_singleton];omega
set_option maxRecDepth 20000 in
set_option maxHeartbeats 4000000 in
theorem zEu (ps:List Pr)(ha:PLn 1048576 ps)(r:List Int)(hr:r.length≤1048576)(hrr: ∀i,i<r.length→0≤gi r i∧gi r i<(ps.length:Int))(v:Int):Fn Tryz.prog tyT 122 [.c (.lst 93 (dII (ilv ps))), .c (DI r), .c (.int .i64 v)] [.c (DI (nrF ps r v r.length++nrR ps r v r.length))]:=by
 have hl:=ha.1
 have hg:=fun k=>Xy ha k
 have hgg: ∀k,(gp ps k).give.length≤1048576:=fun k=>(hg k).give
 have hli:=xV ps
 have hnl:=zDo ps r v
 refine θH (ts:= [6]) Tryz.func122 Tryz.ntmps122 ?_
 push_cast
 refine θA ?_
 refine θA ?_
 refine zL fun K1 hK1=> ?_
 refine θA ?_
 refine zV ?_
 refine zh [7,8,10,15,16,17,18,19,20,21,22,23,24,25,26,27,28,29,30,31,32,33,34] [112,128] (fun(k:Nat)=> [(15, .int .i64 k),(7, .sl 112 [] 0 (nrF ps r v k).length 2),(8, .sl 128 [] 0 (nrR ps r v k).length 2)]) (fun k=> []) (fun k=> [(112,⟨.ex,2,dI (nrF ps r v k),none⟩),(128,⟨.ex,2,dI (nrR ps r v k),none⟩)]) (fun k=>k≤r.length) (fun k=>r.length - k) 0 ?_ (by omega) ?_
 ·
  rw [show nrF ps r v 0= []from rfl,show nrR ps r v 0= []from rfl,show dI ([]:List Int)= []from rfl]
  exact θX
 ·rintro k hk KL0 hL0
  push_cast
  refine θA ?_
  refine zL fun K2 hK2=> ?_
  refine θU (fun hc=> ?_) fun hc=> ?_
  ·
   refine zW (hK2 _ ?_)
   refine zL fun K3 hK3=> ?_
   refine zV ?_
   have hrk:=hrr k (by omega)
   have hnk:=hnl k
   refine θA ?_
   refine θL fun K hK=> ?_
   all_goals refine zj 7 fun K9 hK9=> ?_
   all_goals push_cast
   all_goals repeat'(first|(apply zO<;>(intro hg;push_cast at hg))|(refine⟨_,xz (gp ps (gi r k).toNat).give v (hgg _),?_⟩;push_cast)|apply And.intro|(intro hg;push_cast at hg))
   all_goals first|exact gA|(exact zP (by simp only [push_cast];omega))|(exact zP (by omega))|skip
   refine hK9 _ ?_;clear hK9 K9
   all_goals push_cast
   all_goals repeat'(first|(apply zO<;>(intro hg;push_cast at hg))|(refine⟨_,xz (gp ps (gi r k).toNat).give v (hgg _),?_⟩;push_cast)|apply And.intro|(intro hg;push_cast at hg))
   all_goals first|exact gA|(exact zP (by simp only [push_cast];omega))|(exact zP (by omega))|skip
   refine hK _ ?_;clear hK K
   refine θU (fun hc=> ?_) fun hc=> ?_
   ·
    refine θB ?_
    refine hK3 _ ?_
    refine θB ?_
    refine hL0 _ ⟨k+1,by omega,by omega,?_⟩
    rw [ja (by unfold gvB;with_reducible assumption),jb (by unfold gvB;with_reducible assumption)]
    refine zX rfl ?_ ?_ ?_<;>push_cast [zf,ze]
    all_goals(try(rw [List.length_append];rfl))
   ·
    refine θB ?_
    refine hK3 _ ?_
    refine θB ?_
    refine hL0 _ ⟨k+1,by omega,by omega,?_⟩
    rw [UR (by unfold gvB;with_reducible assumption),US (by unfold gvB;with_reducible assumption)]
    refine zX rfl ?_ ?_ ?_<;>push_cast [zf,ze]
    all_goals(try(rw [List.length_append];rfl))
  ·
   refine zi ?_
   have hkk:k=r.length:=by omega
   subst hkk
   have hnk9:=hnl r.length
   refine hK1 _ ?_
   refine θA ?_
   refine zY ⟨Or.inl rfl,?_⟩
   push_cast [zd]
   first|exact List.length_append.symm|exact⟨rfl,List.length_append.symm⟩|skip
def akB (ps:List Pr)(r:List Int)(v:Int)(i:Nat):Bool:=zr (gp ps (gi r i).toNat).ask v
def akI (ps:List Pr)(r:List Int)(v:Int):Nat→Int
 |0=> -1
 |i+1=>if akB ps r v i=true then(i:Int)else akI ps r v i
def gvI (ps:List Pr)(r:List Int)(v:Int):Nat→Int
 |0=> -1
 |i+1=>if gvB ps r v i=true then(i:Int)else gvI ps r v i
theorem Yl {ps:List Pr}{r:List Int}{v:Int}{i:Nat}(h:akB ps r v i=true):akI ps r v (i+1)=i:=if_pos h
theorem Qc {ps:List Pr}{r:List Int}{v:Int}{i:Nat}(h:akB ps r v i=false):akI ps r v (i+1)=akI ps r v i:=if_neg (by rw [h];decide)
theorem Yu {ps:List Pr}{r:List Int}{v:Int}{i:Nat}(h:gvB ps r v i=true):gvI ps r v (i+1)=i:=if_pos h
theorem Qm {ps:List Pr}{r:List Int}{v:Int}{i:Nat}(h:gvB ps r v i=false):gvI ps r v (i+1)=gvI ps r v i:=if_neg (by rw [h];decide)
theorem uk (ps:List Pr)(r:List Int)(v:Int): ∀i,-1≤akI ps r v i∧akI ps r v i<i
 |0=>by show(-1:Int)≤ -1∧(-1:Int)<0;omega
 |i+1=>by
  have h:=uk ps r v i
  cases hb:akB ps r v i with
  |true=>rw [Yl hb];omega
  |false=>rw [Qc hb];omega
theorem KP (ps:List Pr)(r:List Int)(v:Int): ∀i,-1≤gvI ps r v i∧gvI ps r v i<i
 |0=>by show(-1:Int)≤ -1∧(-1:Int)<0;omega
 |i+1=>by
  have h:=KP ps r v i
  cases hb:gvB ps r v i with
  |true=>rw [Yu hb];omega
  |false=>rw [Qm hb];omega
def prV (a g:Int):Int:=if a<0∧g<0 then 0 else if g<a then 2*a+1 else 2*g+2
set_option maxRecDepth 20000 in
set_option maxHeartbeats 4000000 in
theorem zE9 (ps:List Pr)(ha:PLn 1048576 ps)(r:List Int)(hr:r.length≤1048576)(hrr: ∀i,i<r.length→0≤gi r i∧gi r i<(ps.length:Int))(v:Int):Fn Tryz.prog tyT 124 [.c (.lst 93 (dII (ilv ps))), .c (DI r), .c (.int .i64 v)] [.c (.int .i64 (prV (akI ps r v r.length) (gvI ps r v r.length)))]:=by
 have hl:=ha.1
 have hg:=fun k=>Xy ha k
 have hga: ∀k,(gp ps k).ask.length≤1048576:=fun k=>(hg k).ask
 have hgg: ∀k,(gp ps k).give.length≤1048576:=fun k=>(hg k).give
 have hli:=xV ps
 have har:=uk ps r v
 have hgr:=KP ps r v
 refine θH (ts:= [6]) Tryz.func124 Tryz.ntmps124 ?_
 push_cast [↓zK,↓zJ]
 refine θA ?_
 refine θA ?_
 refine zL fun K1 hK1=> ?_
 refine θA ?_
 refine zV ?_
 refine zh [7,8,9,10,13,14,15,16,17,18,19,20,21,22,23,24,25,26,27,28,29,30,31,32,33,34] [] (fun(k:Nat)=> [(13, .int .i64 k),(7, .int .i64 (akI ps r v k)),(8, .int .i64 (gvI ps r v k))]) (fun k=> []) (fun k=> []) (fun k=>k≤r.length) (fun k=>r.length - k) 0 ?_ (by omega) ?_
 ·
  rw [show akI ps r v 0= -1 from rfl,show gvI ps r v 0= -1 from rfl]
  exact θX
 ·rintro k hk KL0 hL0
  push_cast [↓zK,↓zJ]
  refine θA ?_
  refine zL fun K2 hK2=> ?_
  refine θU (fun hc=> ?_) fun hc=> ?_
  ·
   refine zW (hK2 _ ?_)
   refine zL fun K3 hK3=> ?_
   refine zV ?_
   have hrk:=hrr k (by omega)
   refine θA ?_
   refine zL fun K4 hK4=> ?_
   refine θL fun K hK=> ?_
   all_goals refine zj 7 fun K9 hK9=> ?_
   all_goals push_cast [↓zK,↓zJ]
   all_goals repeat'(first|(apply zO<;>(intro hg;(try simp only [push_cast]at hg)))|(refine⟨_,xz (gp ps (gi r k).toNat).ask v (hga _),?_⟩;push_cast [↓zK,↓zJ])|apply And.intro|(intro hg;(try simp only [push_cast]at hg)))
   all_goals first|exact gA|(exact zP (by simp only [push_cast];omega))|(exact zP (by omega))|skip
   all_goals(refine hK9 _ ?_;clear hK9 K9)
   all_goals push_cast [↓zK,↓zJ]
   all_goals repeat'(first|(apply zO<;>(intro hg;(try simp only [push_cast]at hg)))|(refine⟨_,xz (gp ps (gi r k).toNat).ask v (hga _),?_⟩;push_cast [↓zK,↓zJ])|apply And.intro|(intro hg;(try simp only [push_cast]at hg)))
   all_goals first|exact gA|(exact zP (by simp only [push_cast];omega))|(exact zP (by omega))|skip
   all_goals(refine hK _ ?_;clear hK K)
   refine θU (fun hc=> ?_) fun hc=> ?_
   ·
    refine θB ?_
    refine hK4 _ ?_
    refine θL fun K hK=> ?_
    all_goals refine zj 7 fun K9 hK9=> ?_
    all_goals push_cast [↓zK,↓zJ]
    all_goals repeat'(first|(apply zO<;>(intro hg;(try simp only [push_cast]at hg)))|(refine⟨_,xz (gp ps (gi r k).toNat).give v (hgg _),?_⟩;push_cast [↓zK,↓zJ])|apply And.intro|(intro hg;(try simp only [push_cast]at hg)))
    all_goals first|exact gA|(exact zP (by simp only [push_cast];omega))|(exact zP (by omega))|skip
    all_goals(refine hK9 _ ?_;clear hK9 K9)
    all_goals push_cast [↓zK,↓zJ]
    all_goals repeat'(first|(apply zO<;>(intro hg;(try simp only [push_cast]at hg)))|(refine⟨_,xz (gp ps (gi r k).toNat).give v (hgg _),?_⟩;push_cast [↓zK,↓zJ])|apply And.intro|(intro hg;(try simp only [push_cast]at hg)))
    all_goals first|exact gA|(exact zP (by simp only [push_cast];omega))|(exact zP (by omega))|skip
    all_goals(refine hK _ ?_;clear hK K)
    refine θU (fun hc=> ?_) fun hc=> ?_
    ·
     refine θB ?_
     refine hK3 _ ?_
     refine θB ?_
     refine hL0 _ ⟨k+1,by omega,by omega,?_⟩
     rw [Yl (by unfold akB;with_reducible assumption),Yu (by unfold gvB;with_reducible assumption)]
     exact θX
    ·
     refine zW (hK3 _ ?_)
     refine θB ?_
     refine hL0 _ ⟨k+1,by omega,by omega,?_⟩
     rw [Yl (by unfold akB;with_reducible assumption),Qm (by unfold gvB;with_reducible assumption)]
     exact θX
   ·
    refine zW (hK4 _ ?_)
    refine θL fun K hK=> ?_
    all_goals refine zj 7 fun K9 hK9=> ?_
    all_goals push_cast [↓zK,↓zJ]
    all_goals repeat'(first|(apply zO<;>(intro hg;(try simp only [push_cast]at hg)))|(refine⟨_,xz (gp ps (gi r k).toNat).give v (hgg _),?_⟩;push_cast [↓zK,↓zJ])|apply And.intro|(intro hg;(try simp only [push_cast]at hg)))
    all_goals first|exact gA|(exact zP (by simp only [push_cast];omega))|(exact zP (by omega))|skip
    all_goals(refine hK9 _ ?_;clear hK9 K9)
    all_goals push_cast [↓zK,↓zJ]
    all_goals repeat'(first|(apply zO<;>(intro hg;(try simp only [push_cast]at hg)))|(refine⟨_,xz (gp ps (gi r k).toNat).give v (hgg _),?_⟩;push_cast [↓zK,↓zJ])|apply And.intro|(intro hg;(try simp only [push_cast]at hg)))
    all_goals first|exact gA|(exact zP (by simp only [push_cast];omega))|(exact zP (by omega))|skip
    all_goals(refine hK _ ?_;clear hK K)
    refine θU (fun hc=> ?_) fun hc=> ?_
    ·
     refine θB ?_
     refine hK3 _ ?_
     refine θB ?_
     refine hL0 _ ⟨k+1,by omega,by omega,?_⟩
     rw [Qc (by unfold akB;with_reducible assumption),Yu (by unfold gvB;with_reducible assumption)]
     exact θX
    ·
     refine zW (hK3 _ ?_)
     refine θB ?_
     refine hL0 _ ⟨k+1,by omega,by omega,?_⟩
     rw [Qc (by unfold akB;with_reducible assumption),Qm (by unfold gvB;with_reducible assumption)]
     exact θX
  ·
   refine zi ?_
   have hkk:k=r.length:=by omega
   subst hkk
   have har9:=har r.length
   have hgr9:=hgr r.length
   refine hK1 _ ?_
   refine zL fun K5 hK5=> ?_
   refine zV ?_
   refine zL fun K hK=> ?_
   refine zc false zQ zN ?_ rfl ?_
   ·kernel_rfl
   all_goals push_cast [↓zK,↓zJ]
   all_goals repeat'(first|(apply zO<;>(intro hg;(try simp only [push_cast]at hg)))|apply And.intro|(intro hg;(try simp only [push_cast]at hg)))
   all_goals first|exact gA|(exact zP (by simp only [push_cast];omega))|(exact zP (by omega))|skip
   all_goals(refine hK _ ?_;clear hK K)
   all_goals refine zU rfl (fun hc=> ?_) (fun hc=> ?_)
   all_goals(first|(cases hc;done)|skip)
   all_goals(try simp only [push_cast]at hc)
   all_goals first
    |(
      refine θA ?_
      all_goals refine zU rfl (fun hc=> ?_) (fun hc=> ?_)
      all_goals(first|(cases hc;done)|skip)
      all_goals(try simp only [push_cast]at hc)
      all_goals(first|(exfalso;omega)|skip)
      all_goals first
       |(
         refine zW (hK5 _ ?_)
         refine θA ?_
         refine zY ⟨Or.inl rfl,?_⟩
         push_cast [zd,↓zK,↓zJ]
         all_goals(unfold prV;split<;>(try split)<;>omega)
         done)
       |(
         refine θA ?_
         refine zY ⟨Or.inl rfl,?_⟩
         push_cast [zd,↓zK,↓zJ]
         all_goals(unfold prV;split<;>(try split)<;>omega)
         done)
      done)
    |(
      refine θA ?_
      refine zY ⟨Or.inl rfl,?_⟩
      push_cast [zd,↓zK,↓zJ]
      all_goals(unfold prV;split<;>(try split)<;>omega)
      done)
set_option maxRecDepth 20000 in
set_option maxHeartbeats 4000000 in
theorem zGp (ps:List Pr)(ha:PLn 1048576 ps)(r:List Int)(hr:r.length≤1048576)(hrr: ∀i,i<r.length→0≤gi r i∧gi r i<(ps.length:Int))(v:Int):Fn Tryz.prog tyT 129 [.c (.lst 93 (dII (ilv ps))), .c (DI r), .c (.int .i64 v)] [.c (.int .i64 (prV (akI ps r v r.length) (gvI ps r v r.length)))]:=by
 have hl:=ha.1
 have hg:=fun k=>Xy ha k
 have hga: ∀k,(gp ps k).ask.length≤1048576:=fun k=>(hg k).ask
 have hgg: ∀k,(gp ps k).give.length≤1048576:=fun k=>(hg k).give
 have hli:=xV ps
 have har:=uk ps r v
 have hgr:=KP ps r v
 refine θH (ts:= [6]) Tryz.func129 Tryz.ntmps129 ?_
 push_cast [↓zK,↓zJ]
 refine θA ?_
 refine θA ?_
 refine θA ?_
 refine zL fun K1 hK1=> ?_
 refine θA ?_
 refine zV ?_
 refine zh [7,8,9,10,11,12,13,14,15,16,17,18,19,20,21,22,23,24,25,26,27,28,29,30,31,32,33,34,35,36,37] [] (fun(k:Nat)=> [(9, .int .i64 k),(7, .int .i64 (akI ps r v k)),(8, .int .i64 (gvI ps r v k))]) (fun k=> []) (fun k=> []) (fun k=>k≤r.length) (fun k=>r.length - k) 0 ?_ (by omega) ?_
 ·
  rw [show akI ps r v 0= -1 from rfl,show gvI ps r v 0= -1 from rfl]
  exact θX
 ·rintro k hk KL0 hL0
  push_cast [↓zK,↓zJ]
  refine zL fun K2 hK2=> ?_
  refine θA ?_
  refine θU (fun hc=> ?_) fun hc=> ?_
  ·
   refine zW (hK2 _ ?_)
   refine zL fun K3 hK3=> ?_
   refine zV ?_
   refine zL fun K4 hK4=> ?_
   have hrk:=hrr k (by omega)
   refine θL fun K hK=> ?_
   all_goals refine zj 10 fun K9 hK9=> ?_
   all_goals push_cast [↓zK,↓zJ]
   all_goals repeat'(first|(apply zO<;>(intro hg;(try simp only [push_cast]at hg)))|(refine⟨_,vM (gp ps (gi r k).toNat).ask v (hga _),?_⟩;push_cast [↓zK,↓zJ])|apply And.intro|(intro hg;(try simp only [push_cast]at hg)))
   all_goals first|exact gA|(exact zP (by simp only [push_cast];omega))|(exact zP (by omega))|skip
   all_goals(refine hK9 _ ?_;clear hK9 K9)
   all_goals push_cast [↓zK,↓zJ]
   all_goals repeat'(first|(apply zO<;>(intro hg;(try simp only [push_cast]at hg)))|(refine⟨_,vM (gp ps (gi r k).toNat).ask v (hga _),?_⟩;push_cast [↓zK,↓zJ])|apply And.intro|(intro hg;(try simp only [push_cast]at hg)))
   all_goals first|exact gA|(exact zP (by simp only [push_cast];omega))|(exact zP (by omega))|skip
   all_goals(refine hK _ ?_;clear hK K)
   refine θU (fun hc=> ?_) fun hc=> ?_
   ·
    refine θB ?_
    refine hK4 _ ?_
    refine θL fun K hK=> ?_
    all_goals refine zj 10 fun K9 hK9=> ?_
    all_goals push_cast [↓zK,↓zJ]
    all_goals repeat'(first|(apply zO<;>(intro hg;(try simp only [push_cast]at hg)))|(refine⟨_,vM (gp ps (gi r k).toNat).give v (hgg _),?_⟩;push_cast [↓zK,↓zJ])|apply And.intro|(intro hg;(try simp only [push_cast]at hg)))
    all_goals first|exact gA|(exact zP (by simp only [push_cast];omega))|(exact zP (by omega))|skip
    all_goals(refine hK9 _ ?_;clear hK9 K9)
    all_goals push_cast [↓zK,↓zJ]
    all_goals repeat'(first|(apply zO<;>(intro hg;(try simp only [push_cast]at hg)))|(refine⟨_,vM (gp ps (gi r k).toNat).give v (hgg _),?_⟩;push_cast [↓zK,↓zJ])|apply And.intro|(intro hg;(try simp only [push_cast]at hg)))
    all_goals first|exact gA|(exact zP (by simp only [push_cast];omega))|(exact zP (by omega))|skip
    all_goals(refine hK _ ?_;clear hK K)
    refine θU (fun hc=> ?_) fun hc=> ?_
    ·
     refine θB ?_
     refine hK3 _ ?_
     refine θB ?_
     refine hL0 _ ⟨k+1,by omega,by omega,?_⟩
     rw [Yl (by unfold akB;with_reducible assumption),Yu (by unfold gvB;with_reducible assumption)]
     exact θX
    ·
     refine zW (hK3 _ ?_)
     refine θB ?_
     refine hL0 _ ⟨k+1,by omega,by omega,?_⟩
     rw [Yl (by unfold akB;with_reducible assumption),Qm (by unfold gvB;with_reducible assumption)]
     exact θX
   ·
    refine zW (hK4 _ ?_)
    refine θL fun K hK=> ?_
    all_goals refine zj 10 fun K9 hK9=> ?_
    all_goals push_cast [↓zK,↓zJ]
    all_goals repeat'(first|(apply zO<;>(intro hg;(try simp only [push_cast]at hg)))|(refine⟨_,vM (gp ps (gi r k).toNat).give v (hgg _),?_⟩;push_cast [↓zK,↓zJ])|apply And.intro|(intro hg;(try simp only [push_cast]at hg)))
    all_goals first|exact gA|(exact zP (by simp only [push_cast];omega))|(exact zP (by omega))|skip
    all_goals(refine hK9 _ ?_;clear hK9 K9)
    all_goals push_cast [↓zK,↓zJ]
    all_goals repeat'(first|(apply zO<;>(intro hg;(try simp only [push_cast]at hg)))|(refine⟨_,vM (gp ps (gi r k).toNat).give v (hgg _),?_⟩;push_cast [↓zK,↓zJ])|apply And.intro|(intro hg;(try simp only [push_cast]at hg)))
    all_goals first|exact gA|(exact zP (by simp only [push_cast];omega))|(exact zP (by omega))|skip
    all_goals(refine hK _ ?_;clear hK K)
    refine θU (fun hc=> ?_) fun hc=> ?_
    ·
     refine θB ?_
     refine hK3 _ ?_
     refine θB ?_
     refine hL0 _ ⟨k+1,by omega,by omega,?_⟩
     rw [Qc (by unfold akB;with_reducible assumption),Yu (by unfold gvB;with_reducible assumption)]
     exact θX
    ·
     refine zW (hK3 _ ?_)
     refine θB ?_
     refine hL0 _ ⟨k+1,by omega,by omega,?_⟩
     rw [Qc (by unfold akB;with_reducible assumption),Qm (by unfold gvB;with_reducible assumption)]
     exact θX
  ·
   refine zi ?_
   have hkk:k=r.length:=by omega
   subst hkk
   have har9:=har r.length
   have hgr9:=hgr r.length
   refine hK1 _ ?_
   refine zL fun K5 hK5=> ?_
   refine zV ?_
   refine zL fun K hK=> ?_
   refine zc false zQ zN ?_ rfl ?_
   ·kernel_rfl
   all_goals push_cast [↓zK,↓zJ]
   all_goals repeat'(first|(apply zO<;>(intro hg;(try simp only [push_cast]at hg)))|apply And.intro|(intro hg;(try simp only [push_cast]at hg)))
   all_goals first|exact gA|(exact zP (by simp only [push_cast];omega))|(exact zP (by omega))|skip
   all_goals(refine hK _ ?_;clear hK K)
   all_goals refine zU rfl (fun hc=> ?_) (fun hc=> ?_)
   all_goals(first|(cases hc;done)|skip)
   all_goals(try simp only [push_cast]at hc)
   all_goals first
    |(
      refine θA ?_
      all_goals refine zU rfl (fun hc=> ?_) (fun hc=> ?_)
      all_goals(first|(cases hc;done)|skip)
      all_goals(try simp only [push_cast]at hc)
      all_goals(first|(exfalso;omega)|skip)
      all_goals first
       |(
         refine zW (hK5 _ ?_)
         refine θA ?_
         refine zY ⟨Or.inl rfl,?_⟩
         push_cast [zd,↓zK,↓zJ]
         all_goals(unfold prV;split<;>(try split)<;>omega)
         done)
       |(
         refine θA ?_
         refine zY ⟨Or.inl rfl,?_⟩
         push_cast [zd,↓zK,↓zJ]
         all_goals(unfold prV;split<;>(try split)<;>omega)
         done)
      done)
    |(
      refine θA ?_
      refine zY ⟨Or.inl rfl,?_⟩
      push_cast [zd,↓zK,↓zJ]
      all_goals(unfold prV;split<;>(try split)<;>omega)
      done)
theorem zFh {s:List Int}{x:Int}:zr s x=true↔∃j,j<s.length∧gi s j=x:=by
 unfold zr
 rw [decide_eq_true_eq]
 constructor
 ·intro h;exact⟨_,h,zH0 h⟩
 ·rintro⟨j,hj,e⟩
  rcases Nat.lt_or_ge (qA s x) s.length with h|h
  ·exact h
  ·exact absurd e (zEo (by have :=zAG s x;omega))
theorem zKp {s:List Int}{j k:Nat}(h:j<k):gi (s.take k) j=gi s j:=by
 unfold gi
 rw [List.getD_eq_getElem?_getD,List.getD_eq_getElem?_getD,List.getElem?_take_of_lt h]
def jf (r:List Int)(n:Int)(i:Nat):Bool:=decide (0≤gi r i∧gi r i<n)&& !zr (r.take i) (gi r i)
def vh (r:List Int)(n:Int):Bool:=decide ((0≤n∧n≤4)∧(r.length:Int)=n)&&Ym r.length (jf r n)
theorem zIi {r:List Int}{n:Int}{i:Nat}(h:0≤gi r i∧gi r i<n)(h2:zr (r.take i) (gi r i)=false):jf r n i=true:=by unfold jf;rw [decide_eq_true h,h2];rfl
theorem zKH {r:List Int}{n:Int}{i:Nat}(h:jf r n i=true):(0≤gi r i∧gi r i<n)∧zr (r.take i) (gi r i)=false:=by
 unfold jf at h
 rw [Bool.and_eq_true,decide_eq_true_eq,Bool.not_eq_true']at h
 exact h
theorem zKI {r:List Int}{n:Int}(h:(0≤n∧n≤4)∧(r.length:Int)=n)(h2: ∀i,i<r.length→jf r n i=true):vh r n=true:=by unfold vh;rw [decide_eq_true h,qG h2];rfl
theorem qU {r:List Int}{n:Int}(h:vh r n=true):((0≤n∧n≤4)∧(r.length:Int)=n)∧∀i,i<r.length→(0≤gi r i∧gi r i<n)∧∀j,j<i→gi r j≠gi r i:=by
 unfold vh at h
 rw [Bool.and_eq_true,decide_eq_true_eq]at h
 refine⟨h.1,fun i hi=> ?_⟩
 have h1:=zKH (xl h.2 hi)
 refine⟨h1.1,fun j hj e=> ?_⟩
 have h2:zr (r.take i) (gi r i)=true:=zFh.2 ⟨j,by rw [List.length_take];omega,by rw [zKp hj];exact e⟩
 rw [h1.2]at h2
 cases h2
def gvP (ps:List Pr)(v x:Int):Bool:=zr (gp ps x.toNat).give v
def nxL (ps:List Pr)(r:List Int)(v:Int):List Int:=nrF ps r v r.length++nrR ps r v r.length
theorem zK0 {r:List Int}{k:Nat}(h:k<r.length):r.take (k+1)=r.take k++ [gi r k]:=by
 rw [List.take_succ_eq_append_getElem h]
 unfold gi
 rw [List.getD_eq_getElem?_getD,List.getElem?_eq_getElem h]
 rfl
theorem zDm (ps:List Pr)(r:List Int)(v:Int): ∀k,k≤r.length→nrF ps r v k=(r.take k).filter (gvP ps v)
 |0,_=>by rw [List.take_zero];rfl
 |k+1,h=>by
  have ih:=zDm ps r v k (by omega)
  rw [zK0 (by omega),List.filter_append]
  cases hb:gvB ps r v k with
  |true=>rw [ja hb,ih,List.filter_cons,if_pos (show gvP ps v (gi r k)=true from hb)];rfl
  |false=>rw [UR hb,ih,List.filter_cons,if_neg (show ¬gvP ps v (gi r k)=true from (by rw [show gvP ps v (gi r k)=false from hb];decide))];simp
theorem zDn (ps:List Pr)(r:List Int)(v:Int): ∀k,k≤r.length→nrR ps r v k=(r.take k).filter (fun x=> !gvP ps v x)
 |0,_=>by rw [List.take_zero];rfl
 |k+1,h=>by
  have ih:=zDn ps r v k (by omega)
  rw [zK0 (by omega),List.filter_append]
  cases hb:gvB ps r v k with
  |true=>rw [jb hb,ih,List.filter_cons,if_neg (show ¬(!gvP ps v (gi r k))=true from (by rw [show gvP ps v (gi r k)=true from hb];decide))];simp
  |false=>rw [US hb,ih,List.filter_cons,if_pos (show(!gvP ps v (gi r k))=true from (by rw [show gvP ps v (gi r k)=false from hb];rfl))];rfl
theorem zDp (ps:List Pr)(r:List Int)(v:Int):nxL ps r v=r.filter (gvP ps v)++r.filter (fun x=> !gvP ps v x):=by
 unfold nxL
 rw [zDm ps r v _ (Nat.le_refl _),zDn ps r v _ (Nat.le_refl _),List.take_length]
theorem zJ7 (ps:List Pr)(r:List Int)(v:Int):(nxL ps r v).Perm r:=by
 rw [zDp]
 exact List.filter_append_perm _ _
theorem zLi {r:List Int}{i:Nat}(h:i<r.length):gi r i∈r:=by
 unfold gi
 rw [List.getD_eq_getElem?_getD,List.getElem?_eq_getElem h]
 exact List.getElem_mem h
theorem zFo {r:List Int}{x:Int}(h:x∈r): ∃i,i<r.length∧gi r i=x:=by
 obtain⟨i,hi,e⟩:=List.mem_iff_getElem.1 h
 refine⟨i,hi,?_⟩
 unfold gi
 rw [List.getD_eq_getElem?_getD,List.getElem?_eq_getElem hi]
 exact e
theorem QP {r:List Int}{i:Nat}(h:i<r.length):gi r i=r[i]:=by
 unfold gi
 rw [List.getD_eq_getElem?_getD,List.getElem?_eq_getElem h]
 rfl
theorem Xd {r:List Int}{n:Int}(h:vh r n=true):((0≤n∧n≤4)∧(r.length:Int)=n)∧(∀x∈r,0≤x∧x<n)∧r.Nodup:=by
 have hf:=qU h
 refine⟨hf.1,fun x hx=> ?_,?_⟩
 ·obtain⟨i,hi,rfl⟩:=zFo hx
  exact(hf.2 i hi).1
 ·rw [List.Nodup,List.pairwise_iff_getElem]
  intro i j hi hj hij
  rw [←QP hi,←QP hj]
  exact(hf.2 j hj).2 i hij
theorem zIj {r:List Int}{n:Int}(h1:(0≤n∧n≤4)∧(r.length:Int)=n)(h2: ∀x∈r,0≤x∧x<n)(h3:r.Nodup):vh r n=true:=by
 refine zKI h1 fun i hi=>zIi (h2 _ (zLi hi)) ?_
 cases hb:zr (r.take i) (gi r i)with
 |false=>rfl
 |true=>
  obtain⟨j,hj,e⟩:=zFh.1 hb
  rw [List.length_take]at hj
  rw [zKp (by omega),QP (by omega),QP hi]at e
  have :=(List.pairwise_iff_getElem.1 h3) j i (by omega) hi (by omega)
  exact absurd e this
theorem zKJ {ps:List Pr}{r:List Int}{n v:Int}(h:vh r n=true):vh (nxL ps r v) n=true:=by
 have hf:=Xd h
 have hp:=zJ7 ps r v
 refine zIj ⟨hf.1.1,?_⟩ (fun x hx=>hf.2.1 x (hp.mem_iff.1 hx)) (hp.nodup_iff.2 hf.2.2)
 rw [hp.length_eq]
 exact hf.1.2
theorem zId : ∀(n:Nat) (r:List Int),r.Nodup→(∀x∈r,0≤x∧x<(n:Int))→r.length≤n
 |0,r,_,h=>by
  cases r with
  |nil=>exact Nat.le_refl _
  |cons x r=>have :=h x (List.mem_cons_self ..);omega
 |n+1,r,hd,h=>by
  have h1:=zId n (r.erase (n:Int)) (hd.erase _) (fun x hx=>by
   have h2:=(hd.mem_erase_iff).1 hx
   have h3:=h x h2.2
   have h4:=h2.1
   omega)
  have h2:=List.length_erase (a:=(n:Int)) (l:=r)
  split at h2<;>omega
theorem zDx : ∀(n:Nat) (r:List Int),r.Nodup→(∀x∈r,0≤x∧x<(n:Int))→r.length=n→r.Perm ((List.range n).map Int.ofNat)
 |0,r,_,_,hl=>by rw [List.eq_nil_of_length_eq_zero hl];exact List.Perm.refl _
 |n+1,r,hd,h,hl=>by
  have hm:(n:Int)∈r:=by
   rcases Classical.em ((n:Int)∈r)with hm|hm
   ·exact hm
   ·have :=zId n r hd (fun x hx=>by
     have h3:=h x hx
     have h4:x≠(n:Int):=fun e=>hm (e ▸ hx)
     omega)
    omega
  have h1:=zDx n (r.erase (n:Int)) (hd.erase _) (fun x hx=>by
   have h2:=(hd.mem_erase_iff).1 hx
   have h3:=h x h2.2
   have h4:=h2.1
   omega) (by rw [List.length_erase_of_mem hm];omega)
  rw [List.range_succ,List.map_append]
  exact((List.perm_cons_erase hm).trans (h1.cons _)).trans (List.perm_append_singleton _ _).symm
def qD (ps:List Pr)(r:List Int)(v:Int):Int:=prV (akI ps r v r.length) (gvI ps r v r.length)
theorem zKC (ps:List Pr)(r:List Int)(v:Int): -1<qD ps r v∧qD ps r v≤2*r.length:=by
 have h1:=uk ps r v r.length
 have h2:=KP ps r v r.length
 unfold qD prV
 split
 ·omega
 ·split<;>omega
attribute [irreducible] nxL qD
end Go.Proofs.YthepmdkpbjfdcaaGreat
