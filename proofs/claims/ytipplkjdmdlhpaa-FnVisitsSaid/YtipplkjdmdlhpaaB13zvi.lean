/- the game of places over an arena, as data: the game so far, its bounds -/
import Derived.Test.YtipplkjdmdlhpaaB12zvi
import Derived.Test.YtipplkjdmdlhpaaB8zvi
import Derived.Test.YtipplkjdmdlhpaaVazvi
import Derived.Test.YtipplkjdmdlhpaaB7zvi
import Derived.Test.YtipplkjdmdlhpaaB11zvi
namespace Go.Proofs.Ytipplkjdmdlhpaa
open Go.RowKit
set_option linter.unusedVariables false
set_option linter.unusedSimpArgs false
def usA (a:Ar)(p:Plc):List Int:=gl a.next p.at_.toNat
section
variable (a:Ar) (rc:Plc→List Int) (pr:Plc→Int) (p0:Plc)
def qK (n:Nat):List Int:=(List.range n).map fun j=>gi a.owner (plQ (usA a) rc p0 j).at_.toNat
def nxG (n:Nat):List (List Int):=(List.range n).map fun j=>nxQ (usA a) rc p0 j
def prG (n:Nat):List Int:=(List.range n).map fun j=>pr (plQ (usA a) rc p0 j)
def gmA (n:Nat):Pa:=⟨⟨qK a rc p0 n,nxG a rc p0 n⟩,prG a rc pr p0 n⟩
def gmR (c:Bool):Pa:=if c&&okQ (usA a) rc p0 then gmA a rc pr p0 (stQ (usA a) rc p0 257).length else⟨⟨[],[]⟩,[]⟩
def plR (c:Bool):List Plc:=if c&&okQ (usA a) rc p0 then stQ (usA a) rc p0 257 else []
end
variable {a:Ar} {rc:Plc→List Int} {pr:Plc→Int} {p0:Plc}
theorem qp (n:Nat):(qK a rc p0 n).length=n:=by simp [qK]
theorem QO (n:Nat):(nxG a rc p0 n).length=n:=by simp [nxG]
theorem Yg (n:Nat):(prG a rc pr p0 n).length=n:=by simp [prG]
theorem zEf (n:Nat):qK a rc p0 (n+1)=qK a rc p0 n++ [gi a.owner (plQ (usA a) rc p0 n).at_.toNat]:=by simp [qK,List.range_succ]
theorem zGb (n:Nat):nxG a rc p0 (n+1)=nxG a rc p0 n++ [nxQ (usA a) rc p0 n]:=by simp [nxG,List.range_succ]
theorem zGg (n:Nat):prG a rc pr p0 (n+1)=prG a rc pr p0 n++ [pr (plQ (usA a) rc p0 n)]:=by simp [prG,List.range_succ]
theorem zEe :qK a rc p0 0= []:=rfl
theorem zGa :nxG a rc p0 0= []:=rfl
theorem zGf :prG a rc pr p0 0= []:=rfl
theorem zAJ {c:Bool}(h:(c&&okQ (usA a) rc p0)=false):gmR a rc pr p0 c=⟨⟨[],[]⟩,[]⟩:=by unfold gmR;rw [h];rfl
theorem zEh {c:Bool}(h:(c&&okQ (usA a) rc p0)=false):plR a rc p0 c= []:=by unfold plR;rw [h];rfl
theorem zB3 {c:Bool}{i:Nat}(hc:c=true)(hi:i≤256)(h: ¬i<(stQ (usA a) rc p0 i).length)(h2:i≤(stQ (usA a) rc p0 i).length):(c&&okQ (usA a) rc p0)=true∧gmR a rc pr p0 c=gmA a rc pr p0 i∧plR a rc p0 c=stQ (usA a) rc p0 i:=by
 obtain⟨h3,h4⟩:=zHX hi h
 have h5:(c&&okQ (usA a) rc p0)=true:=by rw [hc,h3];rfl
 have h6:(stQ (usA a) rc p0 i).length=i:=by omega
 refine⟨h5,?_,?_⟩
 ·unfold gmR;rw [h5,if_pos rfl,h4,h6]
 ·unfold plR;rw [h5,if_pos rfl,h4]
theorem JC (ha:yC a=true){p:Plc}(h:0≤p.at_∧p.at_<a.owner.length):1≤(usA a p).length∧(usA a p).length≤16∧∀u∈usA a p,0≤u∧u<a.owner.length:=by
 have hv:p.at_.toNat<a.owner.length:=by omega
 obtain⟨h1,h2,h3,h4,h5⟩:=vp ha hv
 refine⟨h3,h4,fun u hu=> ?_⟩
 have hu:u∈gl a.next p.at_.toNat:=hu
 obtain⟨j,hj,rfl⟩:=List.mem_iff_getElem.1 hu
 have :=xz h5 hj
 unfold xx at this
 have :=of_decide_eq_true this
 have e:gi (gl a.next p.at_.toNat) j=(gl a.next p.at_.toNat)[j]:=by
  unfold gi
  rw [List.getD_eq_getElem?_getD,List.getElem?_eq_getElem hj]
  rfl
 rw [e]at this
 exact⟨this.1,this.2.1⟩
theorem zEK {ps qs:List Plc}{i:Nat}(h:i<ps.length):gq (ps++qs) i=gq ps i:=by
 unfold gq
 rw [List.getD_eq_getElem?_getD,List.getElem?_append_left h,List.getD_eq_getElem?_getD]
theorem Wy {r us:List Int}{ps:List Plc}{i:Nat}(hi:i<ps.length): ∀{k:Nat},k≤us.length→gq (zr r us ps k).1 i=gq ps i
 |0,_=>rfl
 |k+1,h=>by
  have h1:=Wy (r:=r) (us:=us) hi (k:=k) (by omega)
  have h3:=(qL (r:=r) (us:=us) (ps:=ps) (k:=k) (by omega)).2.1
  by_cases h2:ixQ (yq (gi us k) r) (zr r us ps k).1<0
  ·rw [vX (by omega) h2]
   show gq ((zr r us ps k).1++ [_]) i=_
   rw [zEK (by omega)];exact h1
  ·rw [wC (by omega) h2];exact h1
structure QZ (a:Ar)(rc:Plc→List Int)(p0:Plc)(V:List Int→Prop)(B:Nat):Prop where
 first:0≤p0.at_∧p0.at_<(a.owner.length:Int)∧V p0.record
 next: ∀p:Plc,0≤p.at_→p.at_<(a.owner.length:Int)→V p.record→V (rc p)
 small: ∀r,V r→r.length≤B
theorem wd {V:List Int→Prop}{B:Nat}(ha:yC a=true)(h:QZ a rc p0 V B)(i:Nat): ∀p∈stQ (usA a) rc p0 i,0≤p.at_∧p.at_<a.owner.length∧V p.record:=
 Wz (O:=fun p=>0≤p.at_∧p.at_<a.owner.length∧V p.record) h.first (fun p hp u hu=>by
  have :=(JC ha ⟨hp.1,hp.2.1⟩).2.2 u hu
  exact⟨this.1,this.2,h.next p hp.1 hp.2.1 hp.2.2⟩) i
theorem zEi {V:List Int→Prop}{B:Nat}(ha:yC a=true)(h:QZ a rc p0 V B){i k:Nat}(hi:i<(stQ (usA a) rc p0 i).length)(hk:k≤(usA a (gq (stQ (usA a) rc p0 i) i)).length): ∀p∈(zr (rc (gq (stQ (usA a) rc p0 i) i)) (usA a (gq (stQ (usA a) rc p0 i) i)) (stQ (usA a) rc p0 i) k).1,0≤p.at_∧p.at_<a.owner.length∧V p.record:=by
 have hp:=wd ha h i _ (vx hi)
 exact VG (O:=fun p=>0≤p.at_∧p.at_<a.owner.length∧V p.record) (wd ha h i) (fun u hu=>by
  have :=(JC ha ⟨hp.1,hp.2.1⟩).2.2 u hu
  exact⟨this.1,this.2,h.next _ hp.1 hp.2.1 hp.2.2⟩) hk
theorem zI0 {V:List Int→Prop}{B:Nat}(ha:yC a=true)(h:QZ a rc p0 V B){n:Nat}(hn:n≤1048576)(hall: ∀j,j<n→j<(stQ (usA a) rc p0 j).length):ZD 1048576 (nxG a rc p0 n):=by
 refine⟨by rw [QO];exact hn,fun r hr=> ?_⟩
 unfold nxG at hr
 obtain⟨j,hj,rfl⟩:=List.mem_map.1 hr
 have hj:=hall j (List.mem_range.1 hj)
 have hp:=wd ha h j _ (vx hj)
 have h2:=(JC ha ⟨hp.1,hp.2.1⟩).2.1
 unfold nxQ
 rw [xZ]
 have h3:=(qL (r:=rc (gq (stQ (usA a) rc p0 j) j)) (us:=usA a (gq (stQ (usA a) rc p0 j) j)) (ps:=stQ (usA a) rc p0 j) (Nat.le_refl _)).1
 show(zr _ _ _ _).2.length≤_
 rw [h3]
 omega
theorem zCI {n:Nat}(h:n≤(stQ (usA a) rc p0 257).length)(hn:n≤257): ∀j,j<n→j<(stQ (usA a) rc p0 j).length:=fun j hj=>by
 rcases Nat.lt_or_ge j (stQ (usA a) rc p0 j).length with h1|h1
 ·exact h1
 ·have :=VN (us:=usA a) (rc:=rc) (p0:=p0) (i:=j) (by omega) (j:=257) (by omega)
  rw [this]at h
  omega
theorem zIj {V:List Int→Prop}{B:Nat}{c:Bool}(ha:c=true→yC a=true∧QZ a rc p0 V B):(gmR a rc pr p0 c).Ln 1048576:=by
 cases hc:(c&&okQ (usA a) rc p0)with
 |false=>
  rw [zAJ hc]
  exact⟨⟨by unfold LnI;simp,⟨by simp,by simp⟩⟩,by unfold LnI;simp⟩
 |true=>
  have h1:=hc
  rw [Bool.and_eq_true]at h1
  obtain⟨h2,h3⟩:=ha h1.1
  have h4:(stQ (usA a) rc p0 257).length≤256:=by have :=h1.2;unfold okQ at this;exact of_decide_eq_true this
  unfold gmR
  rw [hc,if_pos rfl]
  have h5:=zCI (a:=a) (rc:=rc) (p0:=p0) (n:=(stQ (usA a) rc p0 257).length) (Nat.le_refl _) (by omega)
  obtain⟨n9,hn9⟩: ∃n9,n9=(stQ (usA a) rc p0 257).length:=⟨_,rfl⟩
  rw [←hn9]at h4 h5⊢
  refine⟨⟨?_,zI0 h2 h3 (by omega) h5⟩,?_⟩
  ·show(qK a rc p0 _).length≤_;rw [qp];omega
  ·show(prG a rc pr p0 _).length≤_;rw [Yg];omega
theorem zAp {xs:List Int}{n m:Int}(h:zz xs n=true)(hm:n≤m):zz xs m=true:=by
 refine xW fun k hk=> ?_
 have :=xz h hk
 unfold xx at this⊢
 have :=of_decide_eq_true this
 exact decide_eq_true (by omega)
theorem zDz {f:Fm}{n m:Int}(h:xg f n=true)(hm:n≤m):xg f m=true:=by
 unfold xg at h⊢
 rw [Bool.and_eq_true,Bool.and_eq_true]at h⊢
 refine⟨zAp h.1 hm,h.2.1,xW fun i hi=> ?_⟩
 have :=xz h.2.2 hi
 unfold vj at this⊢
 rw [Bool.and_eq_true]at this⊢
 exact⟨zAp this.1 hm,this.2⟩
theorem zC7 {r:List Int}(hn:r.Nodup)(v:Int):(zv r v).Perm r:=by
 cases h:zq r v with
 |false=>rw [Qw h]
 |true=>
  rw [XW h]
  have h1:=List.perm_cons_erase ((yR _ _).1 h)
  rw [List.Nodup.erase_eq_filter hn]at h1
  have e:(fun x=> !decide (x=v))=(fun x=>x !=v):=funext fun x=>by
   by_cases h:x=v<;>simp [h]
  rw [e]
  exact h1.symm
theorem zEb {f:Fm}{r:List Int}{v:Int}(h:vh f r=true):vh f (zv r v)=true:=by
 obtain⟨h1,h2,h3,h4,h5⟩:=qj h
 rw [zCL h1]
 refine decide_eq_true ?_
 rw [←h2]
 exact wP ((xj _).trans ((zC7 h4 v).trans (xj _).symm)) (qr _) (qr _)
theorem zE3 {f:Fm}(h:xg f 256=true):vh f f.names=true:=by
 rw [zCL h]
 exact decide_eq_true (wP (xj _) (qr _) (pw_le (QS (qO h).1)))
def rcF (p:Plc):List Int:=zv p.record p.at_
def prF (f:Fm)(p:Plc):Int:=yp f p.record p.at_
def fgC (a:Ar)(f:Fm)(s:Int):Bool:=yC a&&(Xm f a.owner.length&&decide (0≤s∧s≤(a.owner.length:Int) - 1))
def fgB (a:Ar)(f:Fm)(s:Int):Bool:=fgC a f s&&okQ (usA a) rcF ⟨s,f.names⟩
def fgG (a:Ar)(f:Fm)(s:Int):Pa:=gmR a rcF (prF f) ⟨s,f.names⟩ (fgC a f s)
def fgP (a:Ar)(f:Fm)(s:Int):List Plc:=plR a rcF ⟨s,f.names⟩ (fgC a f s)
theorem vw {a:Ar}{f:Fm}{s:Int}(h:fgC a f s=true):yC a=true∧xg f 256=true∧QZ a rcF ⟨s,f.names⟩ (fun r=>vh f r=true) 4:=by
 unfold fgC at h
 rw [Bool.and_eq_true,Bool.and_eq_true,decide_eq_true_eq]at h
 obtain⟨h1,h2,h3⟩:=h
 have hl:=yT h1
 have h4:xg f 256=true:=zDz (by rw [wv (by omega)]at h2;exact h2) (by omega)
 exact⟨h1,h4,⟨⟨h3.1,by show s<_;omega,zE3 h4⟩,fun p _ _ h=>zEb h,fun r hr=>(qj hr).2.2.1⟩⟩
theorem zG7 {a:Ar}{f:Fm}{s:Int}:(fgG a f s).Ln 1048576:=zIj (V:=fun r=>vh f r=true) (B:=4) fun h=>⟨(vw h).1,(vw h).2.2⟩
theorem zD4 {a:Ar}{f:Fm}{s:Int}(h:fgC a f s=false):fgB a f s=false∧fgG a f s=⟨⟨[],[]⟩,[]⟩∧fgP a f s= []:=by
 have :(fgC a f s&&okQ (usA a) rcF ⟨s,f.names⟩)=false:=by rw [h];rfl
 exact⟨this,zAJ this,zEh this⟩
theorem zD5 {a:Ar}{f:Fm}{s:Int}(h:okQ (usA a) rcF ⟨s,f.names⟩=false):fgB a f s=false∧fgG a f s=⟨⟨[],[]⟩,[]⟩∧fgP a f s= []:=by
 have :(fgC a f s&&okQ (usA a) rcF ⟨s,f.names⟩)=false:=by rw [h,Bool.and_false]
 exact⟨this,zAJ this,zEh this⟩
theorem zBz {a:Ar}{f:Fm}{s:Int}(h:yC a=false):fgC a f s=false:=by unfold fgC;rw [h];rfl
theorem zB0 {a:Ar}{f:Fm}{s:Int}(h:Xm f a.owner.length=false):fgC a f s=false:=by unfold fgC;rw [h,Bool.false_and,Bool.and_false]
theorem zB1 {a:Ar}{f:Fm}{s:Int}(h: ¬(0≤s∧s≤(a.owner.length:Int) - 1)):fgC a f s=false:=by unfold fgC;rw [decide_eq_false h,Bool.and_false,Bool.and_false]
theorem zB2 {a:Ar}{f:Fm}{s:Int}(h1:yC a=true)(h2:Xm f a.owner.length=true)(h3:0≤s∧s≤(a.owner.length:Int) - 1):fgC a f s=true:=by unfold fgC;rw [h1,h2,decide_eq_true h3];rfl
theorem zEG {xs:List Int}{x:Int}{j:Nat}(h:j<xs.length):gi (xs++ [x]) j=gi xs j:=by
 unfold gi
 rw [List.getD_eq_getElem?_getD,List.getD_eq_getElem?_getD,List.getElem?_append_left h]
theorem zEH (xs:List Int)(x:Int):gi (xs++ [x]) xs.length=x:=by
 unfold gi
 rw [List.getD_eq_getElem?_getD,List.getElem?_append_right (Nat.le_refl _)]
 simp
theorem zIk (ps:List Plc)(p:Plc):gq (ps++ [p]) ps.length=p:=by
 unfold gq
 rw [List.getD_eq_getElem?_getD,List.getElem?_append_right (Nat.le_refl _)]
 simp
theorem zIq {p:Plc→Bool}{ps:List Plc}(h: ¬ixQ p ps<0):(ixQ p ps).toNat<ps.length∧p (gq ps (ixQ p ps).toNat)=true:=by
 unfold ixQ at h⊢
 split
 ·rename_i h1
  rw [Int.toNat_natCast]
  refine⟨h1,?_⟩
  rw [←Ks h1]
  exact List.findIdx_getElem (w:=h1)
 ·rename_i h1
  rw [if_neg h1]at h
  omega
theorem zF9 {u:Int}{r:List Int}{p:Plc}(h:yq u r p=true):p=⟨u,r⟩:=by
 unfold yq at h
 rw [Bool.and_eq_true,decide_eq_true_eq,decide_eq_true_eq]at h
 obtain⟨a,b⟩:=p
 obtain⟨h1,h2⟩:=h
 simp only at h1 h2
 rw [h1,h2]
theorem WT {r us:List Int}{ps:List Plc}: ∀{k:Nat},k≤us.length→∀j,j<k→(0≤gi (zr r us ps k).2 j∧gi (zr r us ps k).2 j<(zr r us ps k).1.length)∧gq (zr r us ps k).1 (gi (zr r us ps k).2 j).toNat=⟨gi us j,r⟩
 |0,_,j,hj=>absurd hj (Nat.not_lt_zero j)
 |k+1,hk,j,hj=>by
  have ih:=WT (r:=r) (us:=us) (ps:=ps) (k:=k) (by omega)
  have hl:=qL (r:=r) (us:=us) (ps:=ps) (k:=k) (by omega)
  by_cases h2:ixQ (yq (gi us k) r) (zr r us ps k).1<0
  ·rw [vX (by omega) h2]
   simp only
   by_cases e:j=k
   ·subst e
    rw [show gi ((zr r us ps j).2++ [((zr r us ps j).1.length:Int)]) j=((zr r us ps j).1.length:Int)from by
     have :=zEH (zr r us ps j).2 ((zr r us ps j).1.length:Int)
     rw [hl.1]at this
     exact this]
    rw [List.length_append,List.length_singleton,Int.toNat_natCast,zIk]
    exact⟨by omega,rfl⟩
   ·have h3:=ih j (by omega)
    rw [zEG (by omega),List.length_append,List.length_singleton,zEK (by omega)]
    exact⟨by omega,h3.2⟩
  ·rw [wC (by omega) h2]
   simp only
   by_cases e:j=k
   ·subst e
    have h4:=zIq h2
    rw [show gi ((zr r us ps j).2++ [ixQ (yq (gi us j) r) (zr r us ps j).1]) j=ixQ (yq (gi us j) r) (zr r us ps j).1 from by
     have :=zEH (zr r us ps j).2 (ixQ (yq (gi us j) r) (zr r us ps j).1)
     rw [hl.1]at this
     exact this]
    exact⟨by omega,zF9 h4.2⟩
   ·have h3:=ih j (by omega)
    rw [zEG (by omega)]
    exact h3
theorem wj {r:List Int}{i:Nat}(h:i<r.length):gi r i=r[i]:=by
 unfold gi
 rw [List.getD_eq_getElem?_getD,List.getElem?_eq_getElem h]
 rfl
theorem zEq {r us:List Int}{ps:List Plc}(hu:us.Pairwise (· < ·)):(zr r us ps us.length).2.Nodup:=by
 have hl:=(qL (r:=r) (us:=us) (ps:=ps) (Nat.le_refl _)).1
 rw [List.Nodup,List.pairwise_iff_getElem]
 intro i j hi hj hij e
 rw [hl]at hi hj
 have h1:=(WT (r:=r) (us:=us) (ps:=ps) (Nat.le_refl _) i hi).2
 have h2:=(WT (r:=r) (us:=us) (ps:=ps) (Nat.le_refl _) j hj).2
 rw [wj (by omega),e,←wj (by omega),h2]at h1
 have h3:gi us j=gi us i:=congrArg Plc.at_ h1
 rw [wj hi,wj hj]at h3
 have :=(List.pairwise_iff_getElem.1 hu) i j hi hj hij
 omega
theorem WW {xs:List Int}{n:Int}(h:xs.Pairwise (· < ·))(h2: ∀x∈xs,0≤x∧x<n):zz xs n=true:=by
 refine xW fun k hk=> ?_
 unfold xx
 have h3:=h2 (gi xs k) (by rw [wj hk];exact List.getElem_mem hk)
 refine decide_eq_true ⟨h3.1,h3.2,?_⟩
 rcases Nat.eq_zero_or_pos k with e|e
 ·exact .inl e
 ·right
  rw [wj hk,wj (by omega)]
  exact(List.pairwise_iff_getElem.1 h) (k - 1) k (by omega) hk (by omega)
theorem zHj {xs:List Int}(h:xs.Nodup):(yF xs).Pairwise (· < ·):=by
 have h1:=qr xs
 have h2:(yF xs).Nodup:=(xj xs).nodup_iff.2 h
 exact(h1.and h2).imp fun{a b} hab=>by
  have h3:=hab.1
  have h4:=hab.2
  omega
section
variable {a:Ar} {rc:Plc→List Int} {pr:Plc→Int} {p0:Plc} {V:List Int→Prop} {B:Nat}
theorem JA (hok:okQ (usA a) rc p0=true){n:Nat}(hn:n=(stQ (usA a) rc p0 257).length):n≤256∧stQ (usA a) rc p0 n=stQ (usA a) rc p0 257∧1≤n∧∀j,j<n→j<(stQ (usA a) rc p0 j).length:=by
 have h1:n≤256:=by unfold okQ at hok;rw [decide_eq_true_eq]at hok;omega
 have h2:=zCI (a:=a) (rc:=rc) (p0:=p0) (n:=n) (by omega) (by omega)
 have h3:1≤(stQ (usA a) rc p0 257).length:=by
  have :=Zm (us:=usA a) (rc:=rc) (p0:=p0) (i:=0) (j:=257) (by omega)
  exact this
 have h4:=Zm (us:=usA a) (rc:=rc) (p0:=p0) (i:=n) (j:=257) (by omega)
 have h5:=VN (us:=usA a) (rc:=rc) (p0:=p0) (i:=n) (by omega) (j:=257) (by omega)
 exact⟨h1,h5.symm,by omega,h2⟩
theorem zEI (ha:yC a=true)(h:QZ a rc p0 V B)(hok:okQ (usA a) rc p0=true)(hpr: ∀p:Plc,0≤p.at_→p.at_<(a.owner.length:Int)→V p.record→0≤pr p∧pr p≤40):qB (gmA a rc pr p0 (stQ (usA a) rc p0 257).length)=true:=by
 obtain⟨n,hn⟩: ∃n,n=(stQ (usA a) rc p0 257).length:=⟨_,rfl⟩
 rw [←hn]
 obtain⟨h1,h2,h3,h4⟩:=JA hok hn
 have hl:=yT ha
 have hplq: ∀v,v<n→0≤(plQ (usA a) rc p0 v).at_∧(plQ (usA a) rc p0 v).at_<a.owner.length∧V (plQ (usA a) rc p0 v).record:=fun v hv=>wd ha h v _ (vx (h4 v hv))
 refine Xv (Zq ⟨?_,?_,?_⟩ fun v hv=> ?_) ?_ fun k hk=> ?_
 ·show 1≤(qK a rc p0 n).length;rw [qp];exact h3
 ·show(qK a rc p0 n).length≤256;rw [qp];exact h1
 ·show(nxG a rc p0 n).length=(qK a rc p0 n).length;rw [qp,QO]
 ·have hv:v<n:=by have :v<(qK a rc p0 n).length:=hv;rwa [qp]at this
  have hp:=hplq v hv
  have ho:gi (qK a rc p0 n) v=gi a.owner (plQ (usA a) rc p0 v).at_.toNat:=by
   unfold qK
   rw [wj (by simp;exact hv)]
   simp
  have hx:gl (nxG a rc p0 n) v=nxQ (usA a) rc p0 v:=by
   unfold nxG gl
   rw [List.getD_eq_getElem?_getD,List.getElem?_map,List.getElem?_range hv]
   rfl
  have hat:=vp ha (v:=(plQ (usA a) rc p0 v).at_.toNat) (by omega)
  have hnl:(nxQ (usA a) rc p0 v).length=(usA a (plQ (usA a) rc p0 v)).length:=by
   unfold nxQ
   rw [xZ]
   exact(qL (Nat.le_refl _)).1
  unfold qx XY
  rw [Bool.and_eq_true,decide_eq_true_eq]
  show(0≤gi (qK a rc p0 n) v∧gi (qK a rc p0 n) v≤1∧1≤(gl (nxG a rc p0 n) v).length∧(gl (nxG a rc p0 n) v).length≤16)∧zz (gl (nxG a rc p0 n) v) (qK a rc p0 n).length=true
  rw [ho,hx,hnl,qp]
  refine⟨⟨hat.1,hat.2.1,hat.2.2.1,hat.2.2.2.1⟩,?_⟩
  refine WW (zHj (zEq (QS hat.2.2.2.2))) fun x hx=> ?_
  have hx2:=(xj _).mem_iff.1 hx
  obtain⟨j,hj,rfl⟩:=List.mem_iff_getElem.1 hx2
  have hlen:=(qL (r:=rc (plQ (usA a) rc p0 v)) (us:=usA a (plQ (usA a) rc p0 v)) (ps:=stQ (usA a) rc p0 v) (Nat.le_refl _)).1
  have hj2:j<(usA a (plQ (usA a) rc p0 v)).length:=Nat.lt_of_lt_of_eq hj hlen
  have h5:=(WT (r:=rc (plQ (usA a) rc p0 v)) (us:=usA a (plQ (usA a) rc p0 v)) (ps:=stQ (usA a) rc p0 v) (Nat.le_refl _) j hj2).1
  rw [wj (by omega)]at h5
  have h6:(stQ (usA a) rc p0 (v+1)).length≤n:=by
   have :=Zm (us:=usA a) (rc:=rc) (p0:=p0) (i:=v+1) (j:=n) (by omega)
   rw [h2]at this
   omega
  rw [Ya (h4 v hv)]at h6
  have h7:(zr (rc (plQ (usA a) rc p0 v)) (usA a (plQ (usA a) rc p0 v)) (stQ (usA a) rc p0 v) (usA a (plQ (usA a) rc p0 v)).length).1.length≤n:=h6
  exact⟨h5.1,Int.lt_of_lt_of_le h5.2 (by omega)⟩
 ·show(prG a rc pr p0 n).length=(qK a rc p0 n).length;rw [qp,Yg]
 ·have hk:k<n:=by have :k<(prG a rc pr p0 n).length:=hk;rwa [Yg]at this
  have hp:=hplq k hk
  have :gi (prG a rc pr p0 n) k=pr (plQ (usA a) rc p0 k):=by
   unfold prG
   rw [wj (by simp;exact hk)]
   simp
  show 0≤gi (prG a rc pr p0 n) k∧gi (prG a rc pr p0 n) k≤40
  rw [this]
  exact hpr _ hp.1 hp.2.1 hp.2.2
end
theorem Zu {r:List Int}{i:Nat}(h:i<r.length):gi r i=r[i]:=by
 unfold gi
 rw [List.getD_eq_getElem?_getD,List.getElem?_eq_getElem h]
 rfl
theorem Kq {r:List Int}{x:Int}(h:x∈r): ∃i,i<r.length∧gi r i=x:=by
 obtain⟨i,hi,e⟩:=List.mem_iff_getElem.1 h
 exact⟨i,hi,by rw [Zu hi];exact e⟩
theorem zGV {r:List Int}(h:r.Nodup){i j:Nat}(hi:i<r.length)(hj:j<r.length)(e:gi r i=gi r j):i=j:=by
 rw [Zu hi,Zu hj]at e
 have h2:=List.pairwise_iff_getElem.1 h
 rcases Nat.lt_trichotomy i j with h1|h1|h1
 ·exact absurd e (h2 i j hi hj h1)
 ·exact h1
 ·exact absurd e.symm (h2 j i hj hi h1)
theorem zHZ {q:Int→Bool}{r:List Int}{i:Nat}(hi:i<r.length)(hx:q (gi r i)=false): ∃j,i≤j∧j<(r.filter q++r.filter (fun x=> !q x)).length∧gi (r.filter q++r.filter (fun x=> !q x)) j=gi r i∧((∃m,i<m∧m<r.length∧q (gi r m)=true)→i<j):=by
 have hr:r=r.take i++gi r i::r.drop (i+1):=by
  rw [Zu hi]
  rw [List.getElem_cons_drop,List.take_append_drop]
 have hsplit: ∀l:List Int,l.length=(l.filter q).length+(l.filter (fun x=> !q x)).length:=fun l=>by
  induction l with
  |nil=>rfl
  |cons y l ih=>
   cases hy:q y<;>simp only [List.filter_cons,hy,List.length_cons,ih]<;>simp<;>omega
 have hti:(r.take i).length=i:=by rw [List.length_take];omega
 have h1:=hsplit (r.take i)
 rw [hti]at h1
 have hp:(r.filter q).length=((r.take i).filter q).length+((r.drop (i+1)).filter q).length:=by
  conv=>lhs;rw [hr]
  rw [List.filter_append,List.filter_cons,if_neg (by rw [hx];decide),List.length_append]
 have hq:r.filter (fun x=> !q x)=(r.take i).filter (fun x=> !q x)++gi r i::(r.drop (i+1)).filter (fun x=> !q x):=by
  conv=>lhs;rw [hr]
  rw [List.filter_append,List.filter_cons,if_pos (by rw [hx];rfl)]
 refine⟨(r.filter q).length+((r.take i).filter (fun x=> !q x)).length,by omega,?_,?_,?_⟩
 ·rw [List.length_append,hq,List.length_append,List.length_cons]
  omega
 ·unfold gi
  rw [List.getD_eq_getElem?_getD,List.getElem?_append_right (by omega),Nat.add_sub_cancel_left,hq,List.getElem?_append_right (Nat.le_refl _),Nat.sub_self]
  rfl
 ·rintro⟨m,h2,h3,h4⟩
  have h5:gi r m∈(r.drop (i+1)).filter q:=by
   refine List.mem_filter.2 ⟨?_,h4⟩
   rw [Zu h3]
   refine List.mem_iff_getElem.2 ⟨m - (i+1),by rw [List.length_drop];omega,?_⟩
   rw [List.getElem_drop]
   congr 1
   omega
  have h6:0<((r.drop (i+1)).filter q).length:=List.length_pos_of_mem h5
  omega
theorem zFa {r:List Int}(hn:r.Nodup){v:Int}(h:v∈r):r.filter (fun x=>decide (x=v))= [v]:=by
 induction r with
 |nil=>cases h
 |cons y r ih=>
  rw [List.nodup_cons]at hn
  by_cases e:y=v
  ·subst e
   rw [List.filter_cons,if_pos (decide_eq_true rfl)]
   congr 1
   rw [List.filter_eq_nil_iff]
   intro x hx h9
   rw [decide_eq_true_eq]at h9
   subst h9
   exact hn.1 hx
  ·rw [List.filter_cons,if_neg (by rw [decide_eq_true_eq];exact e)]
   rcases List.mem_cons.1 h with h9|h9
   ·exact absurd h9.symm e
   ·exact ih hn.2 h9
theorem zC6 {r:List Int}(hn:r.Nodup)(v:Int):zv r v=r.filter (fun x=>decide (x=v))++r.filter (fun x=> !decide (x=v)):=by
 cases hb:zq r v with
 |true=>
  rw [XW hb,zFa hn ((yR _ _).1 hb)]
  rfl
 |false=>
  have hnv: ¬v∈r:=fun h=>by rw [(yR _ _).2 h]at hb;cases hb
  rw [Qw hb,List.filter_eq_nil_iff.2 fun x hx h9=>by rw [decide_eq_true_eq]at h9;subst h9;exact hnv hx,List.nil_append]
  symm
  rw [List.filter_eq_self]
  intro x hx
  rw [Bool.not_eq_true',decide_eq_false_iff_not]
  rintro rfl
  exact hnv hx
structure qN (f:Fm)(L:Nat)(rec:Nat→List Int)(v:Nat→Int):Prop where
 pos:0<L
 ok: ∀t,vh f (rec t)=true
 next: ∀t,rec (t+1)=zv (rec t) (v t)
 perR: ∀t,rec (t+L)=rec t
 perV: ∀t,v (t+L)=v t
section
variable {f:Fm} {L:Nat} {rec:Nat→List Int} {v:Nat→Int}
theorem qN.nd (h:qN f L rec v)(t:Nat):(rec t).Nodup:=(qj (h.ok t)).2.2.2.1
theorem qN.mem (h:qN f L rec v)(t:Nat)(x:Int):x∈rec t↔x∈f.names:=(qj (h.ok t)).2.2.2.2 x
theorem qN.len (h:qN f L rec v)(t:Nat):(rec t).length=f.names.length:=by
 have :=(qj (h.ok t)).2.1
 rw [←this,xZ]
theorem qN.up (h:qN f L rec v){t i:Nat}(hi:i<f.names.length)(hx: ¬gi (rec t) i=v t): ∃j,i≤j∧j<f.names.length∧gi (rec (t+1)) j=gi (rec t) i∧((∃m,i<m∧m<f.names.length∧gi (rec t) m=v t)→i<j):=by
 obtain⟨j,h1,h2,h3,h4⟩:=zHZ (q:=fun x=>decide (x=v t)) (r:=rec t) (i:=i) (by rw [h.len];exact hi) (decide_eq_false hx)
 rw [←zC6 (h.nd t),←h.next]at h2 h3
 rw [h.len]at h2
 exact⟨j,h1,h2,h3,fun⟨m,m1,m2,m3⟩=>h4 ⟨m,m1,by rw [h.len];exact m2,decide_eq_true m3⟩⟩
theorem qN.mono (h:qN f L rec v){T i:Nat}(hi:i<f.names.length): ∀d,(∀s,s<d→¬gi (rec T) i=v (T+s))→∃j,i≤j∧j<f.names.length∧gi (rec (T+d)) j=gi (rec T) i
 |0,_=>⟨i,Nat.le_refl _,hi,rfl⟩
 |d+1,hg=>by
  obtain⟨j,h1,h2,h3⟩:=qN.mono h hi d fun s hs=>hg s (by omega)
  have hgd:=hg d (by omega)
  rw [←h3]at hgd
  obtain⟨m,k1,k2,k3,-⟩:=h.up h2 hgd
  exact⟨m,by omega,k2,k3.trans h3⟩
theorem qN.per (h:qN f L rec v)(t:Nat): ∀m,rec (t+m*L)=rec t∧v (t+m*L)=v t
 |0=>by simp
 |m+1=>by
  have ih:=qN.per h t m
  rw [show t+(m+1)*L=(t+m*L)+L from by rw [Nat.succ_mul];omega,h.perR,h.perV]
  exact ih
theorem qN.mod (h:qN f L rec v)(t:Nat):rec t=rec (t%L)∧v t=v (t%L):=by
 have :=h.per (t%L) (t / L)
 rw [show t%L+t / L*L=t from by rw [Nat.mul_comm];exact Nat.mod_add_div t L]at this
 exact this
theorem qN.never (h:qN f L rec v){t i:Nat}(hi:i<f.names.length)(hn: ∀s,¬gi (rec t) i=v s){m:Nat}(hm:m<f.names.length)(hg:gi (rec t) m=v t):m<i:=by
 rcases Nat.lt_trichotomy m i with h1|h1|h1
 ·exact h1
 ·subst h1;exact absurd hg (hn t)
 ·exfalso
  obtain⟨j,k1,k2,k3,k4⟩:=h.up (t:=t) hi (hn t)
  have k5:=k4 ⟨m,h1,hm,hg⟩
  obtain⟨q,q1,q2,q3⟩:=h.mono (T:=t+1) k2 (L - 1) fun s _=>by rw [k3];exact hn _
  rw [show t+1+(L - 1)=t+L from by have :=h.pos;omega,h.perR,k3]at q3
  have hl:=h.len t
  have :=zGV (h.nd t) (by omega) (by omega) q3
  omega
theorem WR {r:List Int}{x:Int}(hn:r.Nodup){i:Nat}(hi:i<r.length)(e:gi r i=x):yp f r x=2*i+(if xU f.sets (yn f.names (r.take (i+1)))then 2 else 1):=
 KE hi (fun j hj e9=>by have :=zGV hn (i:=j) (j:=i) (by omega) hi (e9.trans e.symm);omega) e
theorem qN.law (h:qN f L rec v){M:Int}(h1: ∃T,T<L∧yp f (rec T) (v T)=M)(h2: ∀t,t<L→yp f (rec t) (v t)≤M){met:List Int}(hm: ∀x,x∈f.names→(zq met x=true↔∃t,t<L∧v t=x)):
  M%2=0↔xU f.sets (yn f.names met)=true:=by
 have hmax: ∀t,yp f (rec t) (v t)≤M:=fun t=>by
  have :=h.mod t
  rw [this.1,this.2]
  exact h2 _ (Nat.mod_lt _ h.pos)
 obtain⟨T,hT,hM⟩:=h1
 have hnone: ∀t,zq (rec t) (v t)=false→yp f (rec t) (v t)=if xU f.sets []then 0 else 1:=fun t e=>by unfold yp;rw [e];rfl
 rcases Classical.em (∃t,zq (rec t) (v t)=true)with hex|hno
 ·-- a time at which a name is met,with the greatest priority
  have key: ∃T1,zq (rec T1) (v T1)=true∧yp f (rec T1) (v T1)=M:=by
   cases hb:zq (rec T) (v T)with
   |true=>exact⟨T,hb,hM⟩
   |false=>
    obtain⟨t0,ht0⟩:=hex
    refine⟨t0,ht0,?_⟩
    obtain⟨i,hi,e⟩:=Kq ((yR _ _).1 ht0)
    have e1:=WR (f:=f) (h.nd t0) hi e
    have e2:=hnone T hb
    have e3:=hmax t0
    have e4:M≤1:=by rw [←hM,e2];split<;>omega
    have e5:(1:Int)≤(if xU f.sets (yn f.names ((rec t0).take (i+1)))then 2 else 1):=by split<;>omega
    rw [e1]at e3⊢
    omega
  obtain⟨T1,ht1,hM1⟩:=key
  obtain⟨c,hc,hce⟩:=Kq ((yR _ _).1 ht1)
  have hlc:=h.len T1
  have e1:=WR (f:=f) (h.nd T1) hc hce
  have hset:yn f.names ((rec T1).take (c+1))=yn f.names met:=by
   unfold yn
   refine List.filter_congr fun x hx=> ?_
   rw [Bool.eq_iff_iff,hm x hx,yR]
   constructor
   ·intro hxm
    obtain⟨p,hp,hpe⟩:=Kq hxm
    rw [List.length_take]at hp
    have hpe2:gi (rec T1) p=x:=by
     rw [←hpe]
     unfold gi
     rw [List.getD_eq_getElem?_getD,List.getD_eq_getElem?_getD,List.getElem?_take,if_pos (by omega)]
    rcases Classical.em (∃s,v s=x)with⟨s,hs⟩|hv
    ·exact⟨s%L,Nat.mod_lt _ h.pos,by rw [←(h.mod s).2];exact hs⟩
    ·exfalso
     have :=h.never (t:=T1) (i:=p) (by omega) (fun s e=>hv ⟨s,by rw [←e];exact hpe2⟩) (m:=c) (by omega) hce
     omega
   ·rintro⟨s,hs,hse⟩
    obtain⟨p,hp,hpe⟩:=Kq ((h.mem T1 x).2 hx)
    rcases Nat.lt_or_ge c p with hcp|hcp
    ·exfalso
     -- its first visit from T1 on
     have hexd: ∃d,v (T1+d)=x:=by
      have h9:=h.per s (T1+1)
      have h10:T1+1≤(T1+1)*L:=Nat.le_mul_of_pos_right _ h.pos
      refine⟨s+(T1+1)*L - T1,?_⟩
      rw [show T1+(s+(T1+1)*L - T1)=s+(T1+1)*L from by omega,h9.2]
      exact hse
     have hfst9: ∀n,(∃d,d<n∧v (T1+d)=x∧∀q,q<d→¬v (T1+q)=x)∨∀q,q<n→¬v (T1+q)=x:=by
      intro n
      induction n with
      |zero=>exact .inr fun q hq=>absurd hq (Nat.not_lt_zero q)
      |succ n ih=>
       rcases ih with⟨d,d1,d2,d3⟩|ih
       ·exact .inl ⟨d,by omega,d2,d3⟩
       ·by_cases hb:v (T1+n)=x
        ·exact .inl ⟨n,by omega,hb,ih⟩
        ·refine .inr fun q hq=> ?_
         rcases Nat.lt_or_ge q n with h9|h9
         ·exact ih q h9
         ·rw [show q=n by omega];exact hb
     obtain⟨d0,hd0⟩:=hexd
     rcases hfst9 (d0+1)with⟨d,-,d2,d3⟩|hk
     ·obtain⟨j,j1,j2,j3⟩:=h.mono (T:=T1) (i:=p) (by omega) d fun q hq=>by rw [hpe];exact fun e=>d3 q hq e.symm
      have hlj:=h.len (T1+d)
      have e5:=WR (f:=f) (h.nd (T1+d)) (i:=j) (x:=v (T1+d)) (by omega) (by rw [j3,hpe,d2])
      have e6:=hmax (T1+d)
      rw [e5]at e6
      rw [←hM1,e1]at e6
      split at e6<;>split at e6<;>omega
     ·exact absurd hd0 (hk d0 (by omega))
    ·refine List.mem_iff_getElem.2 ⟨p,by rw [List.length_take];omega,?_⟩
     rw [List.getElem_take,←Zu hp]
     exact hpe
  rw [←hset,←hM1,e1]
  cases xU f.sets (yn f.names ((rec T1).take (c+1)))with
  |true=>simp only [if_true,iff_true];omega
  |false=>simp only [Bool.false_eq_true,if_false,iff_false];omega
 ·have hb: ∀t,zq (rec t) (v t)=false:=fun t=>by
   cases hb:zq (rec t) (v t)with
   |false=>rfl
   |true=>exact absurd ⟨t,hb⟩ hno
  have hset:yn f.names met= []:=by
   unfold yn
   rw [List.filter_eq_nil_iff]
   intro x hx hxm
   obtain⟨t,ht,e⟩:=(hm x hx).1 hxm
   have :=hb t
   rw [e,(yR _ _).2 ((h.mem t x).2 hx)]at this
   cases this
  rw [hset,←hM,hnone T (hb T)]
  cases xU f.sets []<;>simp
end
theorem Qu (xs:List Int): ∀n x,zq (vV xs n) x=true↔(0≤x∧x<(n:Int))∧zq xs x=true
 |0,x=>by
  constructor
  ·intro h;rw [yR]at h;cases h
  ·rintro⟨h,-⟩;omega
 |n+1,x=>by
  have ih:=Qu xs n x
  by_cases hb:zq xs (n:Int)=true
  ·rw [KA hb,yR,List.mem_append,List.mem_singleton,←yR,ih]
   constructor
   ·rintro(⟨h1,h2⟩|rfl)
    ·exact⟨⟨h1.1,by omega⟩,h2⟩
    ·exact⟨⟨by omega,by omega⟩,hb⟩
   ·rintro⟨h1,h2⟩
    by_cases e:x=n
    ·exact .inr e
    ·exact .inl ⟨⟨h1.1,by omega⟩,h2⟩
  ·rw [jy hb,ih]
   constructor
   ·rintro⟨h1,h2⟩;exact⟨⟨h1.1,by omega⟩,h2⟩
   ·rintro⟨h1,h2⟩
    refine⟨⟨h1.1,?_⟩,h2⟩
    by_cases e:x=n
    ·subst e;exact absurd h2 hb
    ·omega
theorem jz (xs:List Int): ∀n,(vV xs n).Pairwise (· < ·)
 |0=>List.Pairwise.nil
 |n+1=>by
  by_cases hb:zq xs (n:Int)=true
  ·rw [KA hb,List.pairwise_append]
   refine⟨jz xs n,List.pairwise_singleton _ _,fun x hx y hy=> ?_⟩
   have :=((Qu xs n x).1 ((yR _ _).2 hx)).1
   have hy2:y=n:=by simpa using hy
   omega
  ·rw [jy hb];exact jz xs n
theorem zFp (xs:List Int){n:Nat}{m:Int}(h:(n:Int)≤m):zz (vV xs n) m=true:=WW (jz xs n) fun x hx=>by
 have :=((Qu xs n x).1 ((yR _ _).2 hx)).1
 omega
section
variable {a:Ar} {rc:Plc→List Int} {pr:Plc→Int} {p0:Plc} {V:List Int→Prop} {B:Nat}
theorem zGi {i:Nat}{k:Nat}(hk:k<(stQ (usA a) rc p0 i).length): ∀d,gq (stQ (usA a) rc p0 (i+d)) k=gq (stQ (usA a) rc p0 i) k
 |0=>rfl
 |d+1=>by
  have ih:=zGi hk d
  have hm:=Zm (us:=usA a) (rc:=rc) (p0:=p0) (i:=i) (j:=i+d) (by omega)
  by_cases h:i+d<(stQ (usA a) rc p0 (i+d)).length
  ·rw [show i+(d+1)=i+d+1 from rfl,Ya h]
   rw [show KG (usA a) rc p0 (i+d) (usA a (plQ (usA a) rc p0 (i+d))).length=zr (rc (gq (stQ (usA a) rc p0 (i+d)) (i+d))) (usA a (gq (stQ (usA a) rc p0 (i+d)) (i+d))) (stQ (usA a) rc p0 (i+d)) (usA a (gq (stQ (usA a) rc p0 (i+d)) (i+d))).length from rfl]
   rw [Wy (by omega) (Nat.le_refl _)]
   exact ih
  ·rw [show i+(d+1)=i+d+1 from rfl,VM h]
   exact ih
theorem zAt {i j:Nat}(hij:i≤j){k:Nat}(hk:k<(stQ (usA a) rc p0 i).length):gq (stQ (usA a) rc p0 j) k=gq (stQ (usA a) rc p0 i) k:=by
 have :=zGi hk (j - i)
 rwa [show i+(j - i)=j by omega]at this
abbrev plA (a:Ar)(rc:Plc→List Int)(p0:Plc):List Plc:=stQ (usA a) rc p0 257
theorem jK (hok:okQ (usA a) rc p0=true){v:Nat}(hv:v<(plA a rc p0).length){x:Int}(hx:zq (nxQ (usA a) rc p0 v) x=true):
  (0≤x∧x<(plA a rc p0).length)∧(gq (plA a rc p0) x.toNat).record=rc (gq (plA a rc p0) v)∧zq (gl a.next (gq (plA a rc p0) v).at_.toNat) (gq (plA a rc p0) x.toNat).at_=true:=by
 obtain⟨h1,h2,h3,h4⟩:=JA (n:=(plA a rc p0).length) hok rfl
 have hv2:=h4 v hv
 have hpv:gq (plA a rc p0) v=plQ (usA a) rc p0 v:=zAt (i:=v) (by omega) hv2
 have hx2:=(xj _).mem_iff.1 ((yR _ _).1 hx)
 obtain⟨j,hj,e⟩:=List.mem_iff_getElem.1 hx2
 have hlen:=(qL (r:=rc (plQ (usA a) rc p0 v)) (us:=usA a (plQ (usA a) rc p0 v)) (ps:=stQ (usA a) rc p0 v) (Nat.le_refl _)).1
 have hj2:j<(usA a (plQ (usA a) rc p0 v)).length:=Nat.lt_of_lt_of_eq hj hlen
 have h5:=WT (r:=rc (plQ (usA a) rc p0 v)) (us:=usA a (plQ (usA a) rc p0 v)) (ps:=stQ (usA a) rc p0 v) (Nat.le_refl _) j hj2
 have e2:gi (zr (rc (plQ (usA a) rc p0 v)) (usA a (plQ (usA a) rc p0 v)) (stQ (usA a) rc p0 v) (usA a (plQ (usA a) rc p0 v)).length).2 j=x:=by
  rw [wj (by omega)];exact e
 rw [e2]at h5
 have h6:=Ya hv2
 have h7:stQ (usA a) rc p0 (v+1)=(zr (rc (plQ (usA a) rc p0 v)) (usA a (plQ (usA a) rc p0 v)) (stQ (usA a) rc p0 v) (usA a (plQ (usA a) rc p0 v)).length).1:=h6
 rw [←h7]at h5
 have h8:=Zm (us:=usA a) (rc:=rc) (p0:=p0) (i:=v+1) (j:=257) (by omega)
 have h9:gq (plA a rc p0) x.toNat=⟨gi (usA a (plQ (usA a) rc p0 v)) j,rc (plQ (usA a) rc p0 v)⟩:=by
  rw [←h5.2]
  exact zAt (i:=v+1) (by omega) (by omega)
 refine⟨⟨h5.1.1,by show x<((stQ (usA a) rc p0 257).length:Int);omega⟩,?_,?_⟩
 ·rw [h9,hpv]
 ·rw [h9,hpv,yR]
  show gi (gl a.next (plQ (usA a) rc p0 v).at_.toNat) j∈_
  have :j<(gl a.next (plQ (usA a) rc p0 v).at_.toNat).length:=hj2
  rw [Zu this]
  exact List.getElem_mem this
theorem Vz (n:Nat):(gmA a rc pr p0 n).a.owner.length=n:=qp n
theorem zGW {n v:Nat}(h:v<n):gl (gmA a rc pr p0 n).a.next v=nxQ (usA a) rc p0 v:=by
 show gl (nxG a rc p0 n) v=_
 unfold nxG gl
 rw [List.getD_eq_getElem?_getD,List.getElem?_map,List.getElem?_range h]
 rfl
theorem gm_pr {n v:Nat}(h:v<n):gi (gmA a rc pr p0 n).prio v=pr (plQ (usA a) rc p0 v):=by
 show gi (prG a rc pr p0 n) v=_
 unfold prG
 rw [wj (by simp;exact h)]
 simp
theorem QI {ps:List Plc}{xs:List Int}{k:Nat}(h:k<xs.length):gi (atL ps xs) k=(gq ps (gi xs k).toNat).at_:=by
 unfold atL
 rw [Zu (by rw [List.length_map];exact h),List.getElem_map,←Zu h]
theorem zBs (ps:List Plc)(xs ys:List Int):atL ps (xs++ys)=atL ps xs++atL ps ys:=by unfold atL;rw [List.map_append]
theorem zBt (ps:List Plc){l:Ls}(h:1≤l.loop.length):yQ ⟨atL ps l.stem,atL ps l.loop⟩=atL ps (yQ l):=by
 unfold yQ
 rw [zBs,zBs,QI (by omega)]
 rfl
theorem zBF (ha:yC a=true)(h:QZ a rc p0 V B)(hok:okQ (usA a) rc p0=true){l:Ls}(hl:qG (gmA a rc pr p0 (plA a rc p0).length).a l=true):
  qG a ⟨atL (plA a rc p0) l.stem,atL (plA a rc p0) l.loop⟩=true:=by
 obtain⟨h1,h2,h3⟩:=xP.1 hl
 rw [Vz]at h2
 have hall:=wd ha h 257
 refine xP.2 ⟨⟨by rw [qk];exact h1.1,by rw [qk];exact h1.2.1,by rw [qk];exact h1.2.2⟩,?_,?_⟩
 ·rw [zBt _ h1.2.1]
  intro j hj
  rw [qk]at hj
  rw [QI hj]
  have h4:=h2 j hj
  have h5:=hall _ (vx (ps:=plA a rc p0) (k:=(gi (yQ l) j).toNat) (by omega))
  exact⟨h5.1,h5.2.1⟩
 ·rw [zBt _ h1.2.1]
  intro j h0 hj
  rw [qk]at hj
  rw [QI hj,QI (by omega)]
  have h4:=h2 (j - 1) (by omega)
  have h5:=h3 j h0 hj
  rw [zGW (by omega)]at h5
  exact(jK hok (by omega) h5).2.2
def plT (ps:List Plc)(l:Ls)(t:Nat):Plc:=gq ps (gi l.loop (t%l.loop.length)).toNat
theorem zCC (ps:List Plc)(l:Ls)(t:Nat):plT ps l (t+l.loop.length)=plT ps l t:=by unfold plT;rw [Nat.add_mod_right]
theorem zEZ (hok:okQ (usA a) rc p0=true){l:Ls}(hl:qG (gmA a rc pr p0 (plA a rc p0).length).a l=true)(t:Nat):(plT (plA a rc p0) l (t+1)).record=rc (plT (plA a rc p0) l t):=by
 have hpos:=(wa hl).2.1
 have hm:=Nat.mod_lt t (show l.loop.length>0 by omega)
 have h1:=Ws hl hm
 rw [Vz]at h1
 have h2:=h1.2
 rw [zGW (by omega)]at h2
 have h3:=(jK hok (by omega) h2).2.1
 have h4:WM l.loop (gi l.loop 0) (t%l.loop.length)=gi l.loop ((t+1)%l.loop.length):=by
  unfold WM
  split
  ·rename_i e
   rw [Nat.add_mod,Nat.mod_eq_of_lt (a:=t%l.loop.length+1%l.loop.length) (by
    rcases Nat.lt_or_ge 1 l.loop.length with h9|h9
    ·rw [Nat.mod_eq_of_lt h9];exact e
    ·omega)]
   rw [Nat.mod_eq_of_lt (a:=1) (by omega)]
  ·rename_i e
   have e2:t%l.loop.length+1=l.loop.length:=by omega
   refine congrArg (gi l.loop) ?_
   have h9:=Nat.mod_add_div t l.loop.length
   rw [show t+1=l.loop.length*(t / l.loop.length+1)from by rw [Nat.mul_add];omega,Nat.mul_mod_right]
 rw [h4]at h3
 exact h3
theorem zFo (hok:okQ (usA a) rc p0=true)(hpr: ∀v,v<(plA a rc p0).length→0≤pr (gq (plA a rc p0) v)){l:Ls}(hl:qG (gmA a rc pr p0 (plA a rc p0).length).a l=true):
  0≤wD (gmA a rc pr p0 (plA a rc p0).length) l.loop l.loop.length∧(∃T,T<l.loop.length∧pr (plT (plA a rc p0) l T)=wD (gmA a rc pr p0 (plA a rc p0).length) l.loop l.loop.length)∧∀t,t<l.loop.length→pr (plT (plA a rc p0) l t)≤wD (gmA a rc pr p0 (plA a rc p0).length) l.loop l.loop.length:=by
 have hpos:=(wa hl).2.1
 have e: ∀t,t<l.loop.length→gi (gmA a rc pr p0 (plA a rc p0).length).prio (gi l.loop t).toNat=pr (plT (plA a rc p0) l t)∧0≤pr (plT (plA a rc p0) l t):=fun t ht=>by
  have h1:=(Ws hl ht).1
  rw [Vz]at h1
  rw [gm_pr (by omega)]
  unfold plT
  rw [Nat.mod_eq_of_lt ht]
  obtain⟨k1,k2,k3,k4⟩:=JA (n:=(plA a rc p0).length) hok rfl
  have h9:gq (plA a rc p0) (gi l.loop t).toNat=plQ (usA a) rc p0 (gi l.loop t).toNat:=by
   have h10:(gi l.loop t).toNat<(plA a rc p0).length:=by omega
   exact zAt (i:=(gi l.loop t).toNat) (by omega) (k4 _ h10)
  rw [←h9]
  exact⟨rfl,hpr _ (by omega)⟩
 have hmax:=zAv (gmA a rc pr p0 (plA a rc p0).length) l.loop l.loop.length
 have h0:=hmax 0 (by omega)
 have e0:=e 0 (by omega)
 rw [e0.1]at h0
 refine⟨by omega,?_,fun t ht=>by rw [←(e t ht).1];exact hmax t ht⟩
 rcases zCK (gmA a rc pr p0 (plA a rc p0).length) l.loop l.loop.length with h9|⟨j,hj,h9⟩
 ·omega
 ·exact⟨j,hj,by rw [←(e j hj).1];exact h9⟩
end
open Nat renaming reduceMod → zA, reduceMul → zB, reduceDiv → zC, reduceAdd → zD, reduceSub → zE, reduceEqDiff → zF, reduceBEq → zG, reduceLT → zH, reduceLeDiff → zI
def Yw (a b:List Int):Bool:=a.any fun x=>zq b x
theorem zIz {a b:List Int}(h: ∀j,j<a.length→zq b (gi a j)=false):Yw a b=false:=by
 unfold Yw
 rw [List.any_eq_false]
 intro x hx
 obtain⟨k,hk,rfl⟩:=jD hx
 rw [h k hk];simp
theorem zHT {a b:List Int}{j:Nat}(hj:j<a.length)(h:zq b (gi a j)=true):Yw a b=true:=by
 unfold Yw
 rw [List.any_eq_true]
 exact⟨_,Vy hj,h⟩
def bkB (ps:List Pr)(met:List Int)(i:Nat):Bool:=Yw (gp ps i).ask met&& !Yw (gp ps i).give met
theorem zIE {ps:List Pr}{met:List Int}{i:Nat}(h:Yw (gp ps i).ask met=false):bkB ps met i=false:=by unfold bkB;rw [h];rfl
theorem zIF {ps:List Pr}{met:List Int}{i:Nat}(h:Yw (gp ps i).give met=true):bkB ps met i=false:=by unfold bkB;rw [h];simp
theorem zIG {ps:List Pr}{met:List Int}{i:Nat}(h:Yw (gp ps i).ask met=true)(h2:Yw (gp ps i).give met=false):bkB ps met i=true:=by unfold bkB;rw [h,h2];rfl
def bkN (ps:List Pr)(met:List Int)(k:Nat):List Int:=((List.range k).filter (bkB ps met)).map fun(i:Nat)=>(i:Int)
theorem zG0 {ps:List Pr}{met:List Int}{k:Nat}(h:bkB ps met k=true):bkN ps met (k+1)=bkN ps met k++ [(k:Int)]:=by unfold bkN;rw [List.range_succ,List.filter_append,List.map_append];simp [h]
theorem zID {ps:List Pr}{met:List Int}{k:Nat}(h:bkB ps met k=false):bkN ps met (k+1)=bkN ps met k:=by unfold bkN;rw [List.range_succ,List.filter_append];simp [h]
theorem zIC (ps:List Pr)(met:List Int)(k:Nat):(bkN ps met k).length≤k:=by unfold bkN;rw [List.length_map];exact Nat.le_trans (List.length_filter_le _ _) (by simp)
set_option maxRecDepth 20000 in
set_option maxHeartbeats 4000000 in
theorem ve (a b:List Int)(ha:a.length≤1048576)(hb:b.length≤1048576):Fn Try.prog tyT 81 [.c (DI a), .c (DI b)] [.c (.bool (Yw a b))]:=by
 refine yB (fn:=Try.f81) (ts:= [4]) Try.func81 (by kernel_rfl) rfl rfl (by rw [Try.ntmps81];exact Nat.le_of_ble_eq_true rfl) rfl (by simp only [szA,List.mem_cons,List.not_mem_nil,or_false,forall_eq_or_imp,forall_eq,VT.cells,szL];try decide) ?_
 rw [Try.ntmps81]
 simp only [push_cast,↓zK,↓zJ,↓reduceIte,zA,zB,zC,zD,zE,zF,zG,zH,zI,reduceCtorEq]
 refine zL fun K hK=> ?_
 refine zM zP zN [] rfl ?_
 simp only [push_cast,↓zK,↓zJ,↓reduceIte,zA,zB,zC,zD,zE,zF,zG,zH,zI,reduceCtorEq]
 repeat' apply And.intro
 all_goals try exact gB
 all_goals first|(refine hK _ ?_;clear hK K)|(simp only [push_cast];done)
 refine zL fun K1 hK1=> ?_
 refine zL fun K hK=> ?_
 refine zM zP zN [] rfl ?_
 simp only [push_cast,↓zK,↓zJ,↓reduceIte,zA,zB,zC,zD,zE,zF,zG,zH,zI,reduceCtorEq]
 repeat' apply And.intro
 all_goals try exact gB
 all_goals first|(refine hK _ ?_;clear hK K)|(simp only [push_cast];done)
 refine zV ?_
 refine zh [4,5,6,7,8,9,10,11,12,13,14,15,16,17] [] (fun(k:Nat)=> [(5, .int .i64 k)]) (fun k=> []) (fun k=> []) (fun k=>k≤a.length∧∀j,j<k→zq b (gi a j)=false) (fun k=>a.length - k) 0 ?_ ⟨by omega,fun j hj=>by omega⟩ ?_
 ·
  refine zY rfl ?_ ?_ ?_<;>simp only [zf,ze,push_cast,↓zK,↓zJ,↓reduceIte,zA,zB,zC,zD,zE,zF,zG,zH,zI,reduceCtorEq]
 ·rintro k ⟨hk,hall⟩ KL0 hL0
  simp only [push_cast,↓zK,↓zJ,↓reduceIte,zA,zB,zC,zD,zE,zF,zG,zH,zI,reduceCtorEq]
  refine zL fun K2 hK2=> ?_
  refine zL fun K hK=> ?_
  refine zM zP zN [] rfl ?_
  simp only [push_cast,↓zK,↓zJ,↓reduceIte,zA,zB,zC,zD,zE,zF,zG,zH,zI,reduceCtorEq]
  repeat' apply And.intro
  all_goals try exact gB
  all_goals first|(refine hK _ ?_;clear hK K)|(simp only [push_cast];done)
  refine zT rfl (fun hc=> ?_) (fun hc=> ?_)<;>(try simp only [push_cast]at hc)
  ·
   refine zU ?_
   (try simp only [zR,zS,reduceIte,zF]);refine hK2 _ ?_
   refine zL fun K3 hK3=> ?_
   refine zV ?_
   refine zL fun K hK=> ?_
   refine zM zP zN [] rfl ?_
   all_goals refine zx 6 fun K9 hK9=> ?_
   all_goals simp only [push_cast,↓zK,↓zJ,↓reduceIte,zA,zB,zC,zD,zE,zF,zG,zH,zI,reduceCtorEq]
   all_goals repeat'(first|(apply zO<;>(intro hg;(try simp only [push_cast]at hg)))|(refine⟨_,xY b _ hb,?_⟩;simp only [push_cast,↓zK,↓zJ,↓reduceIte,zA,zB,zC,zD,zE,zF,zG,zH,zI,reduceCtorEq])|apply And.intro|(intro hg;(try simp only [push_cast]at hg)))
   all_goals try exact gA
   all_goals first|(refine hK9 _ ?_;clear hK9 K9)|(simp only [push_cast];done)
   all_goals simp only [push_cast,↓zK,↓zJ,↓reduceIte,zA,zB,zC,zD,zE,zF,zG,zH,zI,reduceCtorEq]
   all_goals repeat'(first|(apply zO<;>(intro hg;(try simp only [push_cast]at hg)))|(refine⟨_,xY b _ hb,?_⟩;simp only [push_cast,↓zK,↓zJ,↓reduceIte,zA,zB,zC,zD,zE,zF,zG,zH,zI,reduceCtorEq])|apply And.intro|(intro hg;(try simp only [push_cast]at hg)))
   all_goals try exact gA
   all_goals first|(refine hK _ ?_;clear hK K)|(simp only [push_cast];done)
   refine zT rfl (fun hc=> ?_) (fun hc=> ?_)<;>(try simp only [push_cast]at hc)
   ·
    refine zL fun K hK=> ?_
    refine zM zP zN [] rfl ?_
    simp only [push_cast,↓zK,↓zJ,↓reduceIte,zA,zB,zC,zD,zE,zF,zG,zH,zI,reduceCtorEq]
    repeat' apply And.intro
    all_goals try exact gB
    all_goals first|(refine hK _ ?_;clear hK K)|(simp only [push_cast];done)
    refine zX ?_
    (try simp only [zR,zS])
    refine⟨Or.inl rfl,?_⟩
    simp only [zb,push_cast,↓zK,↓zJ,↓reduceIte,zA,zB,zC,zD,zE,zF,zG,zH,zI,reduceCtorEq]
    exact(zHT (j:=k) (by omega) (by with_reducible assumption)).symm
   ·
    refine zU ?_
    (try simp only [zR,zS,reduceIte,zF]);refine hK3 _ ?_
    refine zM zP zN [] rfl ?_
    simp only [push_cast,↓zK,↓zJ,↓reduceIte,zA,zB,zC,zD,zE,zF,zG,zH,zI,reduceCtorEq]
    repeat' apply And.intro
    all_goals try exact gB
    refine hL0 _ ⟨k+1,⟨by omega,fun j hj=>(by
      by_cases hjk:j=k
      ·subst hjk;with_reducible assumption
      ·exact hall j (by omega))⟩,by omega,?_⟩
    refine zY rfl ?_ ?_ ?_<;>simp only [zf,ze,push_cast,↓zK,↓zJ,↓reduceIte,zA,zB,zC,zD,zE,zF,zG,zH,zI,reduceCtorEq]
  ·
   refine zk ?_
   (try simp only [zR,zS,reduceIte,zF]);refine hK1 _ ?_
   refine zL fun K hK=> ?_
   refine zM zP zN [] rfl ?_
   simp only [push_cast,↓zK,↓zJ,↓reduceIte,zA,zB,zC,zD,zE,zF,zG,zH,zI,reduceCtorEq]
   repeat' apply And.intro
   all_goals try exact gB
   all_goals first|(refine hK _ ?_;clear hK K)|(simp only [push_cast];done)
   refine zX ?_
   (try simp only [zR,zS])
   refine⟨Or.inl rfl,?_⟩
   simp only [zb,push_cast,↓zK,↓zJ,↓reduceIte,zA,zB,zC,zD,zE,zF,zG,zH,zI,reduceCtorEq]
   exact(zIz fun j hj=>hall j (by omega)).symm
set_option maxRecDepth 20000 in
set_option maxHeartbeats 4000000 in
theorem WD (ps:List Pr)(ha:PLn 1048576 ps)(met:List Int)(hm:met.length≤1048576):Fn Try.prog tyT 54 [.c (.lst 64 (dII (ilv ps))), .c (DI met)] [.c (DI (bkN ps met ps.length))]:=by
 have hl:=ha.1
 have hg:=fun k=>zCr ha k
 have hga: ∀k,(gp ps k).ask.length≤1048576:=fun k=>(hg k).ask
 have hgg: ∀k,(gp ps k).give.length≤1048576:=fun k=>(hg k).give
 have hli:=Zh ps
 refine yB (fn:=Try.f54) (ts:= [4]) Try.func54 (by kernel_rfl) rfl rfl (by rw [Try.ntmps54];exact Nat.le_of_ble_eq_true rfl) rfl (by simp only [szA,List.mem_cons,List.not_mem_nil,or_false,forall_eq_or_imp,forall_eq,VT.cells,szL];try decide) ?_
 rw [Try.ntmps54]
 simp only [push_cast,↓zK,↓zJ,↓reduceIte,zA,zB,zC,zD,zE,zF,zG,zH,zI,reduceCtorEq]
 refine zL fun K hK=> ?_
 refine zM zP zN [] rfl ?_
 all_goals simp only [push_cast,↓zK,↓zJ,↓reduceIte,zA,zB,zC,zD,zE,zF,zG,zH,zI,reduceCtorEq]
 all_goals repeat'(first|(apply zO<;>(intro hg;(try simp only [push_cast]at hg)))|apply And.intro|(intro hg;(try simp only [push_cast]at hg)))
 all_goals first|exact gA|(exact zQ (by simp only [push_cast];omega))|(exact zQ (by omega))|skip
 all_goals first|(refine hK _ ?_;clear hK K)|(simp only [push_cast];done)
 refine zL fun K hK=> ?_
 refine zM zP zN [] rfl ?_
 all_goals simp only [push_cast,↓zK,↓zJ,↓reduceIte,zA,zB,zC,zD,zE,zF,zG,zH,zI,reduceCtorEq]
 all_goals repeat'(first|(apply zO<;>(intro hg;(try simp only [push_cast]at hg)))|apply And.intro|(intro hg;(try simp only [push_cast]at hg)))
 all_goals first|exact gA|(exact zQ (by simp only [push_cast];omega))|(exact zQ (by omega))|skip
 all_goals first|(refine hK _ ?_;clear hK K)|(simp only [push_cast];done)
 refine zL fun K1 hK1=> ?_
 refine zL fun K hK=> ?_
 refine zM zP zN [] rfl ?_
 all_goals simp only [push_cast,↓zK,↓zJ,↓reduceIte,zA,zB,zC,zD,zE,zF,zG,zH,zI,reduceCtorEq]
 all_goals repeat'(first|(apply zO<;>(intro hg;(try simp only [push_cast]at hg)))|apply And.intro|(intro hg;(try simp only [push_cast]at hg)))
 all_goals first|exact gA|(exact zQ (by simp only [push_cast];omega))|(exact zQ (by omega))|skip
 all_goals first|(refine hK _ ?_;clear hK K)|(simp only [push_cast];done)
 refine zV ?_
 refine zh [5,6,8,9,10,11,12,13,14,15,16,17,18,19,20,21,22,23,24,25,26,27,28,29,30,31,32,33,34] [80] (fun(k:Nat)=> [(6, .int .i64 k),(5, .sl 80 [] 0 (bkN ps met k).length 2)]) (fun k=> []) (fun k=> [(80,⟨.ex,2,dI (bkN ps met k),none⟩)]) (fun k=>k≤ps.length) (fun k=>ps.length - k) 0 ?_ (by omega) ?_
 ·
  rw [show bkN ps met 0= []from rfl,show dI ([]:List Int)= []from rfl]
  refine zY rfl ?_ ?_ ?_<;>simp only [zf,ze,push_cast,↓zK,↓zJ,↓reduceIte,zA,zB,zC,zD,zE,zF,zG,zH,zI,reduceCtorEq]
 ·rintro k hk KL0 hL0
  have hbl:=zIC ps met k
  simp only [push_cast,↓zK,↓zJ,↓reduceIte,zA,zB,zC,zD,zE,zF,zG,zH,zI,reduceCtorEq]
  refine zL fun K2 hK2=> ?_
  refine zL fun K hK=> ?_
  refine zM zP zN [] rfl ?_
  all_goals simp only [push_cast,↓zK,↓zJ,↓reduceIte,zA,zB,zC,zD,zE,zF,zG,zH,zI,reduceCtorEq]
  all_goals repeat'(first|(apply zO<;>(intro hg;(try simp only [push_cast]at hg)))|apply And.intro|(intro hg;(try simp only [push_cast]at hg)))
  all_goals first|exact gA|(exact zQ (by simp only [push_cast];omega))|(exact zQ (by omega))|skip
  all_goals first|(refine hK _ ?_;clear hK K)|(simp only [push_cast];done)
  refine zT rfl (fun hc=> ?_) (fun hc=> ?_)<;>(try simp only [push_cast]at hc)
  ·
   refine zU ?_
   (try simp only [zR,zS,reduceIte,zF]);refine hK2 _ ?_
   refine zL fun K3 hK3=> ?_
   refine zV ?_
   refine zL fun K hK=> ?_
   refine zd false zP zN ?_ rfl ?_
   ·kernel_rfl
   all_goals refine zj 7 fun K9 hK9=> ?_
   all_goals simp only [push_cast,↓zK,↓zJ,↓reduceIte,zA,zB,zC,zD,zE,zF,zG,zH,zI,reduceCtorEq]
   all_goals repeat'(first|(apply zO<;>(intro hg;(try simp only [push_cast]at hg)))|(refine⟨_,ve (gp ps k).ask met (hga k) hm,?_⟩;simp only [push_cast,↓zK,↓zJ,↓reduceIte,zA,zB,zC,zD,zE,zF,zG,zH,zI,reduceCtorEq])|(refine⟨_,ve (gp ps k).give met (hgg k) hm,?_⟩;simp only [push_cast,↓zK,↓zJ,↓reduceIte,zA,zB,zC,zD,zE,zF,zG,zH,zI,reduceCtorEq])|apply And.intro|(intro hg;(try simp only [push_cast]at hg)))
   all_goals first|exact gA|(exact zQ (by simp only [push_cast];omega))|(exact zQ (by omega))|skip
   all_goals first|(refine hK9 _ ?_;clear hK9 K9)|(simp only [push_cast];done)
   all_goals refine zj 8 fun K9 hK9=> ?_
   all_goals simp only [push_cast,↓zK,↓zJ,↓reduceIte,zA,zB,zC,zD,zE,zF,zG,zH,zI,reduceCtorEq]
   all_goals repeat'(first|(apply zO<;>(intro hg;(try simp only [push_cast]at hg)))|(refine⟨_,ve (gp ps k).ask met (hga k) hm,?_⟩;simp only [push_cast,↓zK,↓zJ,↓reduceIte,zA,zB,zC,zD,zE,zF,zG,zH,zI,reduceCtorEq])|(refine⟨_,ve (gp ps k).give met (hgg k) hm,?_⟩;simp only [push_cast,↓zK,↓zJ,↓reduceIte,zA,zB,zC,zD,zE,zF,zG,zH,zI,reduceCtorEq])|apply And.intro|(intro hg;(try simp only [push_cast]at hg)))
   all_goals first|exact gA|(exact zQ (by simp only [push_cast];omega))|(exact zQ (by omega))|skip
   all_goals first|(refine hK9 _ ?_;clear hK9 K9)|(simp only [push_cast];done)
   all_goals simp only [push_cast,↓zK,↓zJ,↓reduceIte,zA,zB,zC,zD,zE,zF,zG,zH,zI,reduceCtorEq]
   all_goals repeat'(first|(apply zO<;>(intro hg;(try simp only [push_cast]at hg)))|(refine⟨_,ve (gp ps k).ask met (hga k) hm,?_⟩;simp only [push_cast,↓zK,↓zJ,↓reduceIte,zA,zB,zC,zD,zE,zF,zG,zH,zI,reduceCtorEq])|(refine⟨_,ve (gp ps k).give met (hgg k) hm,?_⟩;simp only [push_cast,↓zK,↓zJ,↓reduceIte,zA,zB,zC,zD,zE,zF,zG,zH,zI,reduceCtorEq])|apply And.intro|(intro hg;(try simp only [push_cast]at hg)))
   all_goals first|exact gA|(exact zQ (by simp only [push_cast];omega))|(exact zQ (by omega))|skip
   all_goals first|(refine hK _ ?_;clear hK K)|(simp only [push_cast];done)
   all_goals refine zT rfl (fun hc=> ?_) (fun hc=> ?_)
   all_goals(first|(cases hc;done)|skip)
   all_goals(try simp only [push_cast]at hc)
   all_goals first
    |(
      refine zU ?_
      (try simp only [zR,zS,reduceIte,zF]);refine hK3 _ ?_
      refine zM zP zN [] rfl ?_
      all_goals simp only [push_cast,↓zK,↓zJ,↓reduceIte,zA,zB,zC,zD,zE,zF,zG,zH,zI,reduceCtorEq]
      all_goals repeat'(first|(apply zO<;>(intro hg;(try simp only [push_cast]at hg)))|apply And.intro|(intro hg;(try simp only [push_cast]at hg)))
      all_goals first|exact gA|(exact zQ (by simp only [push_cast];omega))|(exact zQ (by omega))|skip
      refine hL0 _ ⟨k+1,by omega,by omega,?_⟩
      rw [zID (by first|exact zIE (by with_reducible assumption)|exact zIF (by with_reducible assumption))]
      refine zY rfl ?_ ?_ ?_<;>simp only [zf,ze,push_cast,↓zK,↓zJ,↓reduceIte,zA,zB,zC,zD,zE,zF,zG,zH,zI,reduceCtorEq]
      all_goals(try(rw [List.length_append];rfl))
      done)
    |(
      refine zM zP zN [] rfl ?_
      all_goals simp only [push_cast,↓zK,↓zJ,↓reduceIte,zA,zB,zC,zD,zE,zF,zG,zH,zI,reduceCtorEq]
      all_goals repeat'(first|(apply zO<;>(intro hg;(try simp only [push_cast]at hg)))|apply And.intro|(intro hg;(try simp only [push_cast]at hg)))
      all_goals first|exact gA|(exact zQ (by simp only [push_cast];omega))|(exact zQ (by omega))|skip
      (try simp only [zR,zS,reduceIte,zF]);refine hK3 _ ?_
      refine zM zP zN [] rfl ?_
      all_goals simp only [push_cast,↓zK,↓zJ,↓reduceIte,zA,zB,zC,zD,zE,zF,zG,zH,zI,reduceCtorEq]
      all_goals repeat'(first|(apply zO<;>(intro hg;(try simp only [push_cast]at hg)))|apply And.intro|(intro hg;(try simp only [push_cast]at hg)))
      all_goals first|exact gA|(exact zQ (by simp only [push_cast];omega))|(exact zQ (by omega))|skip
      refine hL0 _ ⟨k+1,by omega,by omega,?_⟩
      (try rw [List.take_of_length_le (l:=bkN ps met k) (by omega)])
      rw [zG0 (zIG (by with_reducible assumption) (by with_reducible assumption))]
      refine zY rfl ?_ ?_ ?_<;>simp only [zf,ze,push_cast,↓zK,↓zJ,↓reduceIte,zA,zB,zC,zD,zE,zF,zG,zH,zI,reduceCtorEq]
      all_goals(try(rw [List.length_append];rfl))
      done)
  ·
   refine zk ?_
   have hkk:k=ps.length:=by omega
   subst hkk
   (try simp only [zR,zS,reduceIte,zF]);refine hK1 _ ?_
   refine zL fun K hK=> ?_
   refine zM zP zN [] rfl ?_
   all_goals simp only [push_cast,↓zK,↓zJ,↓reduceIte,zA,zB,zC,zD,zE,zF,zG,zH,zI,reduceCtorEq]
   all_goals repeat'(first|(apply zO<;>(intro hg;(try simp only [push_cast]at hg)))|apply And.intro|(intro hg;(try simp only [push_cast]at hg)))
   all_goals first|exact gA|(exact zQ (by simp only [push_cast];omega))|(exact zQ (by omega))|skip
   all_goals first|(refine hK _ ?_;clear hK K)|(simp only [push_cast];done)
   refine zX ?_
   (try simp only [zR,zS])
   refine⟨Or.inl rfl,?_⟩
   simp only [zb,push_cast,↓zK,↓zJ,↓reduceIte,zA,zB,zC,zD,zE,zF,zG,zH,zI,reduceCtorEq]
   all_goals first|rfl|exact⟨rfl,rfl⟩
end Go.Proofs.Ytipplkjdmdlhpaa
