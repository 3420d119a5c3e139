/- the game of places, as data: what both sides compute, step by step -/
import Derived.Test.YtipplkjdmdlhpaaB10zrc
import Derived.Test.YtipplkjdmdlhpaaB8zrc
import Derived.Test.YtipplkjdmdlhpaaVazrc
import Derived.Test.YtipplkjdmdlhpaaB7zrc
namespace Go.Proofs.Ytipplkjdmdlhpaa
open Go.RowKit
set_option linter.unusedVariables false
set_option linter.unusedSimpArgs false
def uN (r:List Int)(s:List Plc×List Int)(u:Int):List Plc×List Int:=if ixQ (yj u r) s.1<0 then(s.1++ [⟨u,r⟩],s.2++ [(s.1.length:Int)])else(s.1,s.2++ [ixQ (yj u r) s.1])
def zp (r us:List Int)(ps:List Plc)(k:Nat):List Plc×List Int:=(us.take k).foldl (uN r) (ps,[])
theorem zAB (r us:List Int)(ps:List Plc):zp r us ps 0=(ps,[]):=rfl
theorem zEL {r us:List Int}{ps:List Plc}{k:Nat}(h:k<us.length):zp r us ps (k+1)=uN r (zp r us ps k) (gi us k):=by
 unfold zp
 rw [Qy h,List.foldl_append]
 rfl
theorem qy {r us:List Int}{ps:List Plc}{k:Nat}(h:k<us.length)(h2:ixQ (yj (gi us k) r) (zp r us ps k).1<0):zp r us ps (k+1)=((zp r us ps k).1++ [⟨gi us k,r⟩],(zp r us ps k).2++ [((zp r us ps k).1.length:Int)]):=by
 rw [zEL h];unfold uN;rw [if_pos h2]
theorem vN {r us:List Int}{ps:List Plc}{k:Nat}(h:k<us.length)(h2: ¬ixQ (yj (gi us k) r) (zp r us ps k).1<0):zp r us ps (k+1)=((zp r us ps k).1,(zp r us ps k).2++ [ixQ (yj (gi us k) r) (zp r us ps k).1]):=by
 rw [zEL h];unfold uN;rw [if_neg h2]
theorem xy {r us:List Int}{ps:List Plc}: ∀{k:Nat},k≤us.length→(zp r us ps k).2.length=k∧ps.length≤(zp r us ps k).1.length∧(zp r us ps k).1.length≤ps.length+k
 |0,_=>by rw [zAB];exact⟨rfl,Nat.le_refl _,Nat.le_refl _⟩
 |k+1,h=>by
  have h1:=xy (r:=r) (us:=us) (ps:=ps) (k:=k) (by omega)
  by_cases h2:ixQ (yj (gi us k) r) (zp r us ps k).1<0
  ·rw [qy (by omega) h2];simp only [List.length_append,List.length_cons,List.length_nil];omega
  ·rw [vN (by omega) h2];simp only [List.length_append,List.length_cons,List.length_nil];omega
theorem zEK {r us:List Int}{ps:List Plc}{k j:Nat}(hkj:k≤j)(hj:j≤us.length):(zp r us ps k).1.length≤(zp r us ps j).1.length:=by
 induction j with
 |zero=>
      have :k=0:=by omega
      subst this;exact Nat.le_refl _
 |succ j ih=>
  rcases Nat.lt_or_ge j k with h|h
  ·have :k=j+1:=by omega
   subst this;exact Nat.le_refl _
  ·have h1:=ih h (by omega)
   by_cases h2:ixQ (yj (gi us j) r) (zp r us ps j).1<0
   ·rw [qy (by omega) h2];simp only [List.length_append,List.length_cons,List.length_nil];omega
   ·rw [vN (by omega) h2];exact h1
theorem zDs (p:Plc→Bool)(ps:List Plc): -1≤ixQ p ps∧ixQ p ps<ps.length:=by unfold ixQ;split<;>omega
theorem Qs {r us:List Int}{ps:List Plc}{O:Plc→Prop}(h0: ∀p∈ps,O p)(h1: ∀u∈us,O ⟨u,r⟩): ∀{k:Nat},k≤us.length→∀p∈(zp r us ps k).1,O p
 |0,_,p,hp=>h0 p hp
 |k+1,h,p,hp=>by
  by_cases h2:ixQ (yj (gi us k) r) (zp r us ps k).1<0
  ·rw [qy (by omega) h2,List.mem_append]at hp
   rcases hp with hp|hp
   ·exact Qs h0 h1 (by omega) p hp
   ·rw [List.mem_singleton]at hp;subst hp;exact h1 _ (UX (by omega))
  ·rw [vN (by omega) h2]at hp
   exact Qs h0 h1 (by omega) p hp
section
variable (us rc:Plc→List Int) (p0:Plc)
def stQ :Nat→List Plc
 |0=> [p0]
 |i+1=>if i<(stQ i).length then(zp (rc (gq (stQ i) i)) (us (gq (stQ i) i)) (stQ i) (us (gq (stQ i) i)).length).1 else stQ i
def Jj (i k:Nat):List Plc×List Int:=zp (rc (gq (stQ us rc p0 i) i)) (us (gq (stQ us rc p0 i) i)) (stQ us rc p0 i) k
def nxQ (i:Nat):List Int:=yH (Jj us rc p0 i (us (gq (stQ us rc p0 i) i)).length).2
def plQ (i:Nat):Plc:=gq (stQ us rc p0 i) i
def okQ :Bool:=decide ((stQ us rc p0 257).length≤256)
end
variable {us rc:Plc→List Int} {p0:Plc}
theorem Zb {i:Nat}(h:i<(stQ us rc p0 i).length):stQ us rc p0 (i+1)=(Jj us rc p0 i (us (plQ us rc p0 i)).length).1:=by
 show(if i<(stQ us rc p0 i).length then _ else _)=_
 rw [if_pos h];rfl
theorem Yi {i:Nat}(h: ¬i<(stQ us rc p0 i).length):stQ us rc p0 (i+1)=stQ us rc p0 i:=by
 show(if i<(stQ us rc p0 i).length then _ else _)=_
 rw [if_neg h]
theorem ZP {i j:Nat}(h:i≤j):(stQ us rc p0 i).length≤(stQ us rc p0 j).length:=by
 induction j with
 |zero=>
      have :i=0:=by omega
      subst this;exact Nat.le_refl _
 |succ j ih=>
  rcases Nat.lt_or_ge j i with h1|h1
  ·have :i=j+1:=by omega
   subst this;exact Nat.le_refl _
  ·have h2:=ih h1
   by_cases h3:j<(stQ us rc p0 j).length
   ·rw [Zb h3]
    have :=(xy (r:=rc (gq (stQ us rc p0 j) j)) (us:=us (gq (stQ us rc p0 j) j)) (ps:=stQ us rc p0 j) (Nat.le_refl _)).2.1
    exact Nat.le_trans h2 this
   ·rw [Yi h3];exact h2
theorem Qw {i:Nat}(h: ¬i<(stQ us rc p0 i).length){j:Nat}(hj:i≤j):stQ us rc p0 j=stQ us rc p0 i:=by
 induction j with
 |zero=>
      have :i=0:=by omega
      subst this;rfl
 |succ j ih=>
  rcases Nat.lt_or_ge j i with h1|h1
  ·have :i=j+1:=by omega
   subst this;rfl
  ·have h2:=ih h1
   rw [Yi (by rw [h2];omega),h2]
theorem zGy {i:Nat}(hi:i≤256)(h: ¬i<(stQ us rc p0 i).length):okQ us rc p0=true∧stQ us rc p0 257=stQ us rc p0 i:=by
 have h1:=Qw h (j:=257) (by omega)
 unfold okQ
 rw [h1]
 exact⟨decide_eq_true (by omega),rfl⟩
theorem zD3 {i:Nat}(hi:i≤256)(h:256<(stQ us rc p0 (i+1)).length):okQ us rc p0=false:=by
 have h1:=ZP (us:=us) (rc:=rc) (p0:=p0) (i:=i+1) (j:=257) (by omega)
 unfold okQ
 exact decide_eq_false (by omega)
theorem zGz {i k:Nat}(hi:i≤256)(hl:i<(stQ us rc p0 i).length)(hk:k<(us (plQ us rc p0 i)).length)(h2:ixQ (yj (gi (us (plQ us rc p0 i)) k) (rc (plQ us rc p0 i))) (Jj us rc p0 i k).1<0)(h:256≤(Jj us rc p0 i k).1.length):okQ us rc p0=false:=by
 refine zD3 hi ?_
 rw [Zb hl]
 have h1:=zEK (r:=rc (plQ us rc p0 i)) (us:=us (plQ us rc p0 i)) (ps:=stQ us rc p0 i) (k:=k+1) (j:=(us (plQ us rc p0 i)).length) (by omega) (Nat.le_refl _)
 have h3:=qy (r:=rc (plQ us rc p0 i)) (us:=us (plQ us rc p0 i)) (ps:=stQ us rc p0 i) hk h2
 rw [h3]at h1
 simp only [List.length_append,List.length_cons,List.length_nil]at h1
 have h4:(zp (rc (plQ us rc p0 i)) (us (plQ us rc p0 i)) (stQ us rc p0 i) k).1.length=(Jj us rc p0 i k).1.length:=rfl
 have h5:(zp (rc (plQ us rc p0 i)) (us (plQ us rc p0 i)) (stQ us rc p0 i) (us (plQ us rc p0 i)).length).1.length=(Jj us rc p0 i (us (plQ us rc p0 i)).length).1.length:=rfl
 omega
theorem Wi {O:Plc→Prop}(h0:O p0)(h1: ∀p,O p→∀u∈us p,O ⟨u,rc p⟩): ∀i,∀p∈stQ us rc p0 i,O p
 |0,p,hp=>by rw [show stQ us rc p0 0= [p0]from rfl,List.mem_singleton]at hp;subst hp;exact h0
 |i+1,p,hp=>by
  by_cases h:i<(stQ us rc p0 i).length
  ·rw [Zb h]at hp
   refine Qs (O:=O) (Wi h0 h1 i) (fun u hu=>h1 _ (Wi h0 h1 i _ (vk h)) u hu) (Nat.le_refl _) p hp
  ·rw [Yi h]at hp
   exact Wi h0 h1 i p hp
def usA (a:Ar)(p:Plc):List Int:=gl a.next p.at_.toNat
section
variable (a:Ar) (rc:Plc→List Int) (pr:Plc→Int) (p0:Plc)
def xx (n:Nat):List Int:=(List.range n).map fun j=>gi a.owner (plQ (usA a) rc p0 j).at_.toNat
def nxG (n:Nat):List (List Int):=(List.range n).map fun j=>nxQ (usA a) rc p0 j
def prG (n:Nat):List Int:=(List.range n).map fun j=>pr (plQ (usA a) rc p0 j)
def gmA (n:Nat):Pa:=⟨⟨xx a rc p0 n,nxG a rc p0 n⟩,prG a rc pr p0 n⟩
def gmR (c:Bool):Pa:=if c&&okQ (usA a) rc p0 then gmA a rc pr p0 (stQ (usA a) rc p0 257).length else⟨⟨[],[]⟩,[]⟩
def plR (c:Bool):List Plc:=if c&&okQ (usA a) rc p0 then stQ (usA a) rc p0 257 else []
end
variable {a:Ar} {rc:Plc→List Int} {pr:Plc→Int} {p0:Plc}
theorem qb (n:Nat):(xx a rc p0 n).length=n:=by simp [xx]
theorem Xv (n:Nat):(nxG a rc p0 n).length=n:=by simp [nxG]
theorem YO (n:Nat):(prG a rc pr p0 n).length=n:=by simp [prG]
theorem zD5 (n:Nat):xx a rc p0 (n+1)=xx a rc p0 n++ [gi a.owner (plQ (usA a) rc p0 n).at_.toNat]:=by simp [xx,List.range_succ]
theorem zF1 (n:Nat):nxG a rc p0 (n+1)=nxG a rc p0 n++ [nxQ (usA a) rc p0 n]:=by simp [nxG,List.range_succ]
theorem zF6 (n:Nat):prG a rc pr p0 (n+1)=prG a rc pr p0 n++ [pr (plQ (usA a) rc p0 n)]:=by simp [prG,List.range_succ]
theorem zD4 :xx a rc p0 0= []:=rfl
theorem zF0 :nxG a rc p0 0= []:=rfl
theorem zF5 :prG a rc pr p0 0= []:=rfl
theorem UY {c:Bool}(h:(c&&okQ (usA a) rc p0)=false):gmR a rc pr p0 c=⟨⟨[],[]⟩,[]⟩:=by unfold gmR;rw [h];rfl
theorem Uv {c:Bool}(h:(c&&okQ (usA a) rc p0)=false):plR a rc p0 c= []:=by unfold plR;rw [h];rfl
theorem zBZ {c:Bool}{i:Nat}(hc:c=true)(hi:i≤256)(h: ¬i<(stQ (usA a) rc p0 i).length)(h2:i≤(stQ (usA a) rc p0 i).length):(c&&okQ (usA a) rc p0)=true∧gmR a rc pr p0 c=gmA a rc pr p0 i∧plR a rc p0 c=stQ (usA a) rc p0 i:=by
 obtain⟨h3,h4⟩:=zGy hi h
 have h5:(c&&okQ (usA a) rc p0)=true:=by rw [hc,h3];rfl
 have h6:(stQ (usA a) rc p0 i).length=i:=by omega
 refine⟨h5,?_,?_⟩
 ·unfold gmR;rw [h5,if_pos rfl,h4,h6]
 ·unfold plR;rw [h5,if_pos rfl,h4]
theorem Wl (ha:zv a=true){p:Plc}(h:0≤p.at_∧p.at_<a.owner.length):1≤(usA a p).length∧(usA a p).length≤16∧∀u∈usA a p,0≤u∧u<a.owner.length:=by
 have hv:p.at_.toNat<a.owner.length:=by omega
 obtain⟨h1,h2,h3,h4,h5⟩:=vf ha hv
 refine⟨h3,h4,fun u hu=> ?_⟩
 have hu:u∈gl a.next p.at_.toNat:=hu
 obtain⟨j,hj,rfl⟩:=List.mem_iff_getElem.1 hu
 have :=qI h5 hj
 unfold qF at this
 have :=of_decide_eq_true this
 have e:gi (gl a.next p.at_.toNat) j=(gl a.next p.at_.toNat)[j]:=by
  unfold gi
  rw [List.getD_eq_getElem?_getD,List.getElem?_eq_getElem hj]
  rfl
 rw [e]at this
 exact⟨this.1,this.2.1⟩
theorem zDn {ps qs:List Plc}{i:Nat}(h:i<ps.length):gq (ps++qs) i=gq ps i:=by
 unfold gq
 rw [List.getD_eq_getElem?_getD,List.getElem?_append_left h,List.getD_eq_getElem?_getD]
theorem Wh {r us:List Int}{ps:List Plc}{i:Nat}(hi:i<ps.length): ∀{k:Nat},k≤us.length→gq (zp r us ps k).1 i=gq ps i
 |0,_=>rfl
 |k+1,h=>by
  have h1:=Wh (r:=r) (us:=us) hi (k:=k) (by omega)
  have h3:=(xy (r:=r) (us:=us) (ps:=ps) (k:=k) (by omega)).2.1
  by_cases h2:ixQ (yj (gi us k) r) (zp r us ps k).1<0
  ·rw [qy (by omega) h2]
   show gq ((zp r us ps k).1++ [_]) i=_
   rw [zDn (by omega)];exact h1
  ·rw [vN (by omega) h2];exact h1
structure XH (a:Ar)(rc:Plc→List Int)(p0:Plc)(V:List Int→Prop)(B:Nat):Prop where
 first:0≤p0.at_∧p0.at_<(a.owner.length:Int)∧V p0.record
 next: ∀p:Plc,0≤p.at_→p.at_<(a.owner.length:Int)→V p.record→V (rc p)
 small: ∀r,V r→r.length≤B
theorem vS {V:List Int→Prop}{B:Nat}(ha:zv a=true)(h:XH a rc p0 V B)(i:Nat): ∀p∈stQ (usA a) rc p0 i,0≤p.at_∧p.at_<a.owner.length∧V p.record:=
 Wi (O:=fun p=>0≤p.at_∧p.at_<a.owner.length∧V p.record) h.first (fun p hp u hu=>by
  have :=(Wl ha ⟨hp.1,hp.2.1⟩).2.2 u hu
  exact⟨this.1,this.2,h.next p hp.1 hp.2.1 hp.2.2⟩) i
theorem zD8 {V:List Int→Prop}{B:Nat}(ha:zv a=true)(h:XH a rc p0 V B){i k:Nat}(hi:i<(stQ (usA a) rc p0 i).length)(hk:k≤(usA a (gq (stQ (usA a) rc p0 i) i)).length): ∀p∈(zp (rc (gq (stQ (usA a) rc p0 i) i)) (usA a (gq (stQ (usA a) rc p0 i) i)) (stQ (usA a) rc p0 i) k).1,0≤p.at_∧p.at_<a.owner.length∧V p.record:=by
 have hp:=vS ha h i _ (vk hi)
 exact Qs (O:=fun p=>0≤p.at_∧p.at_<a.owner.length∧V p.record) (vS ha h i) (fun u hu=>by
  have :=(Wl ha ⟨hp.1,hp.2.1⟩).2.2 u hu
  exact⟨this.1,this.2,h.next _ hp.1 hp.2.1 hp.2.2⟩) hk
theorem zIJ {V:List Int→Prop}{B:Nat}(ha:zv a=true)(h:XH a rc p0 V B){n:Nat}(hn:n≤1048576)(hall: ∀j,j<n→j<(stQ (usA a) rc p0 j).length):Zp 1048576 (nxG a rc p0 n):=by
 refine⟨by rw [Xv];exact hn,fun r hr=> ?_⟩
 unfold nxG at hr
 obtain⟨j,hj,rfl⟩:=List.mem_map.1 hr
 have hj:=hall j (List.mem_range.1 hj)
 have hp:=vS ha h j _ (vk hj)
 have h2:=(Wl ha ⟨hp.1,hp.2.1⟩).2.1
 unfold nxQ
 rw [xH]
 have h3:=(xy (r:=rc (gq (stQ (usA a) rc p0 j) j)) (us:=usA a (gq (stQ (usA a) rc p0 j) j)) (ps:=stQ (usA a) rc p0 j) (Nat.le_refl _)).1
 show(zp _ _ _ _).2.length≤_
 rw [h3]
 omega
theorem zBw {n:Nat}(h:n≤(stQ (usA a) rc p0 257).length)(hn:n≤257): ∀j,j<n→j<(stQ (usA a) rc p0 j).length:=fun j hj=>by
 rcases Nat.lt_or_ge j (stQ (usA a) rc p0 j).length with h1|h1
 ·exact h1
 ·have :=Qw (us:=usA a) (rc:=rc) (p0:=p0) (i:=j) (by omega) (j:=257) (by omega)
  rw [this]at h
  omega
theorem zH4 {V:List Int→Prop}{B:Nat}{c:Bool}(ha:c=true→zv a=true∧XH a rc p0 V B):(gmR a rc pr p0 c).Ln 1048576:=by
 cases hc:(c&&okQ (usA a) rc p0)with
 |false=>
  rw [UY hc]
  exact⟨⟨by unfold LnI;simp,⟨by simp,by simp⟩⟩,by unfold LnI;simp⟩
 |true=>
  have h1:=hc
  rw [Bool.and_eq_true]at h1
  obtain⟨h2,h3⟩:=ha h1.1
  have h4:(stQ (usA a) rc p0 257).length≤256:=by have :=h1.2;unfold okQ at this;exact of_decide_eq_true this
  unfold gmR
  rw [hc,if_pos rfl]
  have h5:=zBw (a:=a) (rc:=rc) (p0:=p0) (n:=(stQ (usA a) rc p0 257).length) (Nat.le_refl _) (by omega)
  obtain⟨n9,hn9⟩: ∃n9,n9=(stQ (usA a) rc p0 257).length:=⟨_,rfl⟩
  rw [←hn9]at h4 h5⊢
  refine⟨⟨?_,zIJ h2 h3 (by omega) h5⟩,?_⟩
  ·show(xx a rc p0 _).length≤_;rw [qb];omega
  ·show(prG a rc pr p0 _).length≤_;rw [YO];omega
theorem zIO {V:List Int→Prop}{B:Nat}{c:Bool}(hB:B≤1048576)(ha:c=true→zv a=true∧XH a rc p0 V B):QLn 1048576 (plR a rc p0 c):=by
 cases hc:(c&&okQ (usA a) rc p0)with
 |false=>
  rw [Uv hc]
  exact⟨by simp,by simp⟩
 |true=>
  have h1:=hc
  rw [Bool.and_eq_true]at h1
  obtain⟨h2,h3⟩:=ha h1.1
  have h4:(stQ (usA a) rc p0 257).length≤256:=by have :=h1.2;unfold okQ at this;exact of_decide_eq_true this
  unfold plR
  rw [hc,if_pos rfl]
  exact⟨by omega,fun p hp=>Nat.le_trans (h3.small _ (vS h2 h3 257 p hp).2.2) hB⟩
theorem zDj {xs:List Int}{x:Int}{j:Nat}(h:j<xs.length):gi (xs++ [x]) j=gi xs j:=by
 unfold gi
 rw [List.getD_eq_getElem?_getD,List.getD_eq_getElem?_getD,List.getElem?_append_left h]
theorem zDk (xs:List Int)(x:Int):gi (xs++ [x]) xs.length=x:=by
 unfold gi
 rw [List.getD_eq_getElem?_getD,List.getElem?_append_right (Nat.le_refl _)]
 simp
theorem zH5 (ps:List Plc)(p:Plc):gq (ps++ [p]) ps.length=p:=by
 unfold gq
 rw [List.getD_eq_getElem?_getD,List.getElem?_append_right (Nat.le_refl _)]
 simp
theorem zH9 {p:Plc→Bool}{ps:List Plc}(h: ¬ixQ p ps<0):(ixQ p ps).toNat<ps.length∧p (gq ps (ixQ p ps).toNat)=true:=by
 unfold ixQ at h⊢
 split
 ·rename_i h1
  rw [Int.toNat_natCast]
  refine⟨h1,?_⟩
  rw [←KS h1]
  exact List.findIdx_getElem (w:=h1)
 ·rename_i h1
  rw [if_neg h1]at h
  omega
theorem zFb {u:Int}{r:List Int}{p:Plc}(h:yj u r p=true):p=⟨u,r⟩:=by
 unfold yj at h
 rw [Bool.and_eq_true,decide_eq_true_eq,decide_eq_true_eq]at h
 obtain⟨a,b⟩:=p
 obtain⟨h1,h2⟩:=h
 simp only at h1 h2
 rw [h1,h2]
theorem Vx {r us:List Int}{ps:List Plc}: ∀{k:Nat},k≤us.length→∀j,j<k→(0≤gi (zp r us ps k).2 j∧gi (zp r us ps k).2 j<(zp r us ps k).1.length)∧gq (zp r us ps k).1 (gi (zp r us ps k).2 j).toNat=⟨gi us j,r⟩
 |0,_,j,hj=>absurd hj (Nat.not_lt_zero j)
 |k+1,hk,j,hj=>by
  have ih:=Vx (r:=r) (us:=us) (ps:=ps) (k:=k) (by omega)
  have hl:=xy (r:=r) (us:=us) (ps:=ps) (k:=k) (by omega)
  by_cases h2:ixQ (yj (gi us k) r) (zp r us ps k).1<0
  ·rw [qy (by omega) h2]
   simp only
   by_cases e:j=k
   ·subst e
    rw [show gi ((zp r us ps j).2++ [((zp r us ps j).1.length:Int)]) j=((zp r us ps j).1.length:Int)from by
     have :=zDk (zp r us ps j).2 ((zp r us ps j).1.length:Int)
     rw [hl.1]at this
     exact this]
    rw [List.length_append,List.length_singleton,Int.toNat_natCast,zH5]
    exact⟨by omega,rfl⟩
   ·have h3:=ih j (by omega)
    rw [zDj (by omega),List.length_append,List.length_singleton,zDn (by omega)]
    exact⟨by omega,h3.2⟩
  ·rw [vN (by omega) h2]
   simp only
   by_cases e:j=k
   ·subst e
    have h4:=zH9 h2
    rw [show gi ((zp r us ps j).2++ [ixQ (yj (gi us j) r) (zp r us ps j).1]) j=ixQ (yj (gi us j) r) (zp r us ps j).1 from by
     have :=zDk (zp r us ps j).2 (ixQ (yj (gi us j) r) (zp r us ps j).1)
     rw [hl.1]at this
     exact this]
    exact⟨by omega,zFb h4.2⟩
   ·have h3:=ih j (by omega)
    rw [zDj (by omega)]
    exact h3
theorem wR {r:List Int}{i:Nat}(h:i<r.length):gi r i=r[i]:=by
 unfold gi
 rw [List.getD_eq_getElem?_getD,List.getElem?_eq_getElem h]
 rfl
theorem zEM {r us:List Int}{ps:List Plc}(hu:us.Pairwise (· < ·)):(zp r us ps us.length).2.Nodup:=by
 have hl:=(xy (r:=r) (us:=us) (ps:=ps) (Nat.le_refl _)).1
 rw [List.Nodup,List.pairwise_iff_getElem]
 intro i j hi hj hij e
 rw [hl]at hi hj
 have h1:=(Vx (r:=r) (us:=us) (ps:=ps) (Nat.le_refl _) i hi).2
 have h2:=(Vx (r:=r) (us:=us) (ps:=ps) (Nat.le_refl _) j hj).2
 rw [wR (by omega),e,←wR (by omega),h2]at h1
 have h3:gi us j=gi us i:=congrArg Plc.at_ h1
 rw [wR hi,wR hj]at h3
 have :=(List.pairwise_iff_getElem.1 hu) i j hi hj hij
 omega
theorem WA {xs:List Int}{n:Int}(h:xs.Pairwise (· < ·))(h2: ∀x∈xs,0≤x∧x<n):yN xs n=true:=by
 refine xq fun k hk=> ?_
 unfold qF
 have h3:=h2 (gi xs k) (by rw [wR hk];exact List.getElem_mem hk)
 refine decide_eq_true ⟨h3.1,h3.2,?_⟩
 rcases Nat.eq_zero_or_pos k with e|e
 ·exact .inl e
 ·right
  rw [wR hk,wR (by omega)]
  exact(List.pairwise_iff_getElem.1 h) (k - 1) k (by omega) hk (by omega)
theorem zHB {xs:List Int}(h:xs.Nodup):(yH xs).Pairwise (· < ·):=by
 have h1:=Yh xs
 have h2:(yH xs).Nodup:=(qp xs).nodup_iff.2 h
 exact(h1.and h2).imp fun{a b} hab=>by
  have h3:=hab.1
  have h4:=hab.2
  omega
section
variable {a:Ar} {rc:Plc→List Int} {pr:Plc→Int} {p0:Plc} {V:List Int→Prop} {B:Nat}
theorem Wj (hok:okQ (usA a) rc p0=true){n:Nat}(hn:n=(stQ (usA a) rc p0 257).length):n≤256∧stQ (usA a) rc p0 n=stQ (usA a) rc p0 257∧1≤n∧∀j,j<n→j<(stQ (usA a) rc p0 j).length:=by
 have h1:n≤256:=by unfold okQ at hok;rw [decide_eq_true_eq]at hok;omega
 have h2:=zBw (a:=a) (rc:=rc) (p0:=p0) (n:=n) (by omega) (by omega)
 have h3:1≤(stQ (usA a) rc p0 257).length:=by
  have :=ZP (us:=usA a) (rc:=rc) (p0:=p0) (i:=0) (j:=257) (by omega)
  exact this
 have h4:=ZP (us:=usA a) (rc:=rc) (p0:=p0) (i:=n) (j:=257) (by omega)
 have h5:=Qw (us:=usA a) (rc:=rc) (p0:=p0) (i:=n) (by omega) (j:=257) (by omega)
 exact⟨h1,h5.symm,by omega,h2⟩
theorem zDl (ha:zv a=true)(h:XH a rc p0 V B)(hok:okQ (usA a) rc p0=true)(hpr: ∀p:Plc,0≤p.at_→p.at_<(a.owner.length:Int)→V p.record→0≤pr p∧pr p≤40):xn (gmA a rc pr p0 (stQ (usA a) rc p0 257).length)=true:=by
 obtain⟨n,hn⟩: ∃n,n=(stQ (usA a) rc p0 257).length:=⟨_,rfl⟩
 rw [←hn]
 obtain⟨h1,h2,h3,h4⟩:=Wj hok hn
 have hl:=yS ha
 have hplq: ∀v,v<n→0≤(plQ (usA a) rc p0 v).at_∧(plQ (usA a) rc p0 v).at_<a.owner.length∧V (plQ (usA a) rc p0 v).record:=fun v hv=>vS ha h v _ (vk (h4 v hv))
 refine XZ (ZT ⟨?_,?_,?_⟩ fun v hv=> ?_) ?_ fun k hk=> ?_
 ·show 1≤(xx a rc p0 n).length;rw [qb];exact h3
 ·show(xx a rc p0 n).length≤256;rw [qb];exact h1
 ·show(nxG a rc p0 n).length=(xx a rc p0 n).length;rw [qb,Xv]
 ·have hv:v<n:=by have :v<(xx a rc p0 n).length:=hv;rwa [qb]at this
  have hp:=hplq v hv
  have ho:gi (xx a rc p0 n) v=gi a.owner (plQ (usA a) rc p0 v).at_.toNat:=by
   unfold xx
   rw [wR (by simp;exact hv)]
   simp
  have hx:gl (nxG a rc p0 n) v=nxQ (usA a) rc p0 v:=by
   unfold nxG gl
   rw [List.getD_eq_getElem?_getD,List.getElem?_map,List.getElem?_range hv]
   rfl
  have hat:=vf ha (v:=(plQ (usA a) rc p0 v).at_.toNat) (by omega)
  have hnl:(nxQ (usA a) rc p0 v).length=(usA a (plQ (usA a) rc p0 v)).length:=by
   unfold nxQ
   rw [xH]
   exact(xy (Nat.le_refl _)).1
  unfold qi Yy
  rw [Bool.and_eq_true,decide_eq_true_eq]
  show(0≤gi (xx a rc p0 n) v∧gi (xx a rc p0 n) v≤1∧1≤(gl (nxG a rc p0 n) v).length∧(gl (nxG a rc p0 n) v).length≤16)∧yN (gl (nxG a rc p0 n) v) (xx a rc p0 n).length=true
  rw [ho,hx,hnl,qb]
  refine⟨⟨hat.1,hat.2.1,hat.2.2.1,hat.2.2.2.1⟩,?_⟩
  refine WA (zHB (zEM (zEQ hat.2.2.2.2))) fun x hx=> ?_
  have hx2:=(qp _).mem_iff.1 hx
  obtain⟨j,hj,rfl⟩:=List.mem_iff_getElem.1 hx2
  have hlen:=(xy (r:=rc (plQ (usA a) rc p0 v)) (us:=usA a (plQ (usA a) rc p0 v)) (ps:=stQ (usA a) rc p0 v) (Nat.le_refl _)).1
  have hj2:j<(usA a (plQ (usA a) rc p0 v)).length:=Nat.lt_of_lt_of_eq hj hlen
  have h5:=(Vx (r:=rc (plQ (usA a) rc p0 v)) (us:=usA a (plQ (usA a) rc p0 v)) (ps:=stQ (usA a) rc p0 v) (Nat.le_refl _) j hj2).1
  rw [wR (by omega)]at h5
  have h6:(stQ (usA a) rc p0 (v+1)).length≤n:=by
   have :=ZP (us:=usA a) (rc:=rc) (p0:=p0) (i:=v+1) (j:=n) (by omega)
   rw [h2]at this
   omega
  rw [Zb (h4 v hv)]at h6
  have h7:(zp (rc (plQ (usA a) rc p0 v)) (usA a (plQ (usA a) rc p0 v)) (stQ (usA a) rc p0 v) (usA a (plQ (usA a) rc p0 v)).length).1.length≤n:=h6
  exact⟨h5.1,Int.lt_of_lt_of_le h5.2 (by omega)⟩
 ·show(prG a rc pr p0 n).length=(xx a rc p0 n).length;rw [qb,YO]
 ·have hk:k<n:=by have :k<(prG a rc pr p0 n).length:=hk;rwa [YO]at this
  have hp:=hplq k hk
  have :gi (prG a rc pr p0 n) k=pr (plQ (usA a) rc p0 k):=by
   unfold prG
   rw [wR (by simp;exact hk)]
   simp
  show 0≤gi (prG a rc pr p0 n) k∧gi (prG a rc pr p0 n) k≤40
  rw [this]
  exact hpr _ hp.1 hp.2.1 hp.2.2
end
theorem ZX {r:List Int}{i:Nat}(h:i<r.length):gi r i=r[i]:=by
 unfold gi
 rw [List.getD_eq_getElem?_getD,List.getElem?_eq_getElem h]
 rfl
theorem KR {r:List Int}{x:Int}(h:x∈r): ∃i,i<r.length∧gi r i=x:=by
 obtain⟨i,hi,e⟩:=List.mem_iff_getElem.1 h
 exact⟨i,hi,by rw [ZX hi];exact e⟩
theorem zFv {r:List Int}(h:r.Nodup){i j:Nat}(hi:i<r.length)(hj:j<r.length)(e:gi r i=gi r j):i=j:=by
 rw [ZX hi,ZX hj]at e
 have h2:=List.pairwise_iff_getElem.1 h
 rcases Nat.lt_trichotomy i j with h1|h1|h1
 ·exact absurd e (h2 i j hi hj h1)
 ·exact h1
 ·exact absurd e.symm (h2 j i hj hi h1)
theorem zG0 {q:Int→Bool}{r:List Int}{i:Nat}(hi:i<r.length)(hx:q (gi r i)=false): ∃j,i≤j∧j<(r.filter q++r.filter (fun x=> !q x)).length∧gi (r.filter q++r.filter (fun x=> !q x)) j=gi r i∧((∃m,i<m∧m<r.length∧q (gi r m)=true)→i<j):=by
 have hr:r=r.take i++gi r i::r.drop (i+1):=by
  rw [ZX hi]
  rw [List.getElem_cons_drop,List.take_append_drop]
 have hsplit: ∀l:List Int,l.length=(l.filter q).length+(l.filter (fun x=> !q x)).length:=fun l=>by
  induction l with
  |nil=>rfl
  |cons y l ih=>
   cases hy:q y<;>simp only [List.filter_cons,hy,List.length_cons,ih]<;>simp<;>omega
 have hti:(r.take i).length=i:=by rw [List.length_take];omega
 have h1:=hsplit (r.take i)
 rw [hti]at h1
 have hp:(r.filter q).length=((r.take i).filter q).length+((r.drop (i+1)).filter q).length:=by
  conv=>lhs;rw [hr]
  rw [List.filter_append,List.filter_cons,if_neg (by rw [hx];decide),List.length_append]
 have hq:r.filter (fun x=> !q x)=(r.take i).filter (fun x=> !q x)++gi r i::(r.drop (i+1)).filter (fun x=> !q x):=by
  conv=>lhs;rw [hr]
  rw [List.filter_append,List.filter_cons,if_pos (by rw [hx];rfl)]
 refine⟨(r.filter q).length+((r.take i).filter (fun x=> !q x)).length,by omega,?_,?_,?_⟩
 ·rw [List.length_append,hq,List.length_append,List.length_cons]
  omega
 ·unfold gi
  rw [List.getD_eq_getElem?_getD,List.getElem?_append_right (by omega),Nat.add_sub_cancel_left,hq,List.getElem?_append_right (Nat.le_refl _),Nat.sub_self]
  rfl
 ·rintro⟨m,h2,h3,h4⟩
  have h5:gi r m∈(r.drop (i+1)).filter q:=by
   refine List.mem_filter.2 ⟨?_,h4⟩
   rw [ZX h3]
   refine List.mem_iff_getElem.2 ⟨m - (i+1),by rw [List.length_drop];omega,?_⟩
   rw [List.getElem_drop]
   congr 1
   omega
  have h6:0<((r.drop (i+1)).filter q).length:=List.length_pos_of_mem h5
  omega
theorem zE3 {r:List Int}(hn:r.Nodup){v:Int}(h:v∈r):r.filter (fun x=>decide (x=v))= [v]:=by
 induction r with
 |nil=>cases h
 |cons y r ih=>
  rw [List.nodup_cons]at hn
  by_cases e:y=v
  ·subst e
   rw [List.filter_cons,if_pos (decide_eq_true rfl)]
   congr 1
   rw [List.filter_eq_nil_iff]
   intro x hx h9
   rw [decide_eq_true_eq]at h9
   subst h9
   exact hn.1 hx
  ·rw [List.filter_cons,if_neg (by rw [decide_eq_true_eq];exact e)]
   rcases List.mem_cons.1 h with h9|h9
   ·exact absurd h9.symm e
   ·exact ih hn.2 h9
theorem zCi {r:List Int}(hn:r.Nodup)(v:Int):Wa r v=r.filter (fun x=>decide (x=v))++r.filter (fun x=> !decide (x=v)):=by
 cases hb:zt r v with
 |true=>
  rw [zD1 hb,zE3 hn ((xQ _ _).1 hb)]
  rfl
 |false=>
  have hnv: ¬v∈r:=fun h=>by rw [(xQ _ _).2 h]at hb;cases hb
  rw [zFI hb,List.filter_eq_nil_iff.2 fun x hx h9=>by rw [decide_eq_true_eq]at h9;subst h9;exact hnv hx,List.nil_append]
  symm
  rw [List.filter_eq_self]
  intro x hx
  rw [Bool.not_eq_true',decide_eq_false_iff_not]
  rintro rfl
  exact hnv hx
structure qH (f:Fm)(L:Nat)(rec:Nat→List Int)(v:Nat→Int):Prop where
 pos:0<L
 ok: ∀t,visB f (rec t)=true
 next: ∀t,rec (t+1)=Wa (rec t) (v t)
 perR: ∀t,rec (t+L)=rec t
 perV: ∀t,v (t+L)=v t
section
variable {f:Fm} {L:Nat} {rec:Nat→List Int} {v:Nat→Int}
theorem qH.nd (h:qH f L rec v)(t:Nat):(rec t).Nodup:=(WF (h.ok t)).2.2.2.1
theorem qH.mem (h:qH f L rec v)(t:Nat)(x:Int):x∈rec t↔x∈f.names:=(WF (h.ok t)).2.2.2.2 x
theorem qH.len (h:qH f L rec v)(t:Nat):(rec t).length=f.names.length:=by
 have :=(WF (h.ok t)).2.1
 rw [←this,xH]
theorem qH.up (h:qH f L rec v){t i:Nat}(hi:i<f.names.length)(hx: ¬gi (rec t) i=v t): ∃j,i≤j∧j<f.names.length∧gi (rec (t+1)) j=gi (rec t) i∧((∃m,i<m∧m<f.names.length∧gi (rec t) m=v t)→i<j):=by
 obtain⟨j,h1,h2,h3,h4⟩:=zG0 (q:=fun x=>decide (x=v t)) (r:=rec t) (i:=i) (by rw [h.len];exact hi) (decide_eq_false hx)
 rw [←zCi (h.nd t),←h.next]at h2 h3
 rw [h.len]at h2
 exact⟨j,h1,h2,h3,fun⟨m,m1,m2,m3⟩=>h4 ⟨m,m1,by rw [h.len];exact m2,decide_eq_true m3⟩⟩
theorem qH.mono (h:qH f L rec v){T i:Nat}(hi:i<f.names.length): ∀d,(∀s,s<d→¬gi (rec T) i=v (T+s))→∃j,i≤j∧j<f.names.length∧gi (rec (T+d)) j=gi (rec T) i
 |0,_=>⟨i,Nat.le_refl _,hi,rfl⟩
 |d+1,hg=>by
  obtain⟨j,h1,h2,h3⟩:=qH.mono h hi d fun s hs=>hg s (by omega)
  have hgd:=hg d (by omega)
  rw [←h3]at hgd
  obtain⟨m,k1,k2,k3,-⟩:=h.up h2 hgd
  exact⟨m,by omega,k2,k3.trans h3⟩
theorem qH.per (h:qH f L rec v)(t:Nat): ∀m,rec (t+m*L)=rec t∧v (t+m*L)=v t
 |0=>by simp
 |m+1=>by
  have ih:=qH.per h t m
  rw [show t+(m+1)*L=(t+m*L)+L from by rw [Nat.succ_mul];omega,h.perR,h.perV]
  exact ih
theorem qH.mod (h:qH f L rec v)(t:Nat):rec t=rec (t%L)∧v t=v (t%L):=by
 have :=h.per (t%L) (t / L)
 rw [show t%L+t / L*L=t from by rw [Nat.mul_comm];exact Nat.mod_add_div t L]at this
 exact this
theorem qH.never (h:qH f L rec v){t i:Nat}(hi:i<f.names.length)(hn: ∀s,¬gi (rec t) i=v s){m:Nat}(hm:m<f.names.length)(hg:gi (rec t) m=v t):m<i:=by
 rcases Nat.lt_trichotomy m i with h1|h1|h1
 ·exact h1
 ·subst h1;exact absurd hg (hn t)
 ·exfalso
  obtain⟨j,k1,k2,k3,k4⟩:=h.up (t:=t) hi (hn t)
  have k5:=k4 ⟨m,h1,hm,hg⟩
  obtain⟨q,q1,q2,q3⟩:=h.mono (T:=t+1) k2 (L - 1) fun s _=>by rw [k3];exact hn _
  rw [show t+1+(L - 1)=t+L from by have :=h.pos;omega,h.perR,k3]at q3
  have hl:=h.len t
  have :=zFv (h.nd t) (by omega) (by omega) q3
  omega
theorem Vv {r:List Int}{x:Int}(hn:r.Nodup){i:Nat}(hi:i<r.length)(e:gi r i=x):YG f r x=2*i+(if XY f.sets (wv f.names (r.take (i+1)))then 2 else 1):=
 zFS hi (fun j hj e9=>by have :=zFv hn (i:=j) (j:=i) (by omega) hi (e9.trans e.symm);omega) e
theorem qH.law (h:qH f L rec v){M:Int}(h1: ∃T,T<L∧YG f (rec T) (v T)=M)(h2: ∀t,t<L→YG f (rec t) (v t)≤M){met:List Int}(hm: ∀x,x∈f.names→(zt met x=true↔∃t,t<L∧v t=x)):
  M%2=0↔XY f.sets (wv f.names met)=true:=by
 have hmax: ∀t,YG f (rec t) (v t)≤M:=fun t=>by
  have :=h.mod t
  rw [this.1,this.2]
  exact h2 _ (Nat.mod_lt _ h.pos)
 obtain⟨T,hT,hM⟩:=h1
 have hnone: ∀t,zt (rec t) (v t)=false→YG f (rec t) (v t)=if XY f.sets []then 0 else 1:=fun t e=>by unfold YG;rw [e];rfl
 rcases Classical.em (∃t,zt (rec t) (v t)=true)with hex|hno
 ·-- a time at which a name is met,with the greatest priority
  have key: ∃T1,zt (rec T1) (v T1)=true∧YG f (rec T1) (v T1)=M:=by
   cases hb:zt (rec T) (v T)with
   |true=>exact⟨T,hb,hM⟩
   |false=>
    obtain⟨t0,ht0⟩:=hex
    refine⟨t0,ht0,?_⟩
    obtain⟨i,hi,e⟩:=KR ((xQ _ _).1 ht0)
    have e1:=Vv (f:=f) (h.nd t0) hi e
    have e2:=hnone T hb
    have e3:=hmax t0
    have e4:M≤1:=by rw [←hM,e2];split<;>omega
    have e5:(1:Int)≤(if XY f.sets (wv f.names ((rec t0).take (i+1)))then 2 else 1):=by split<;>omega
    rw [e1]at e3⊢
    omega
  obtain⟨T1,ht1,hM1⟩:=key
  obtain⟨c,hc,hce⟩:=KR ((xQ _ _).1 ht1)
  have hlc:=h.len T1
  have e1:=Vv (f:=f) (h.nd T1) hc hce
  have hset:wv f.names ((rec T1).take (c+1))=wv f.names met:=by
   unfold wv
   refine List.filter_congr fun x hx=> ?_
   rw [Bool.eq_iff_iff,hm x hx,xQ]
   constructor
   ·intro hxm
    obtain⟨p,hp,hpe⟩:=KR hxm
    rw [List.length_take]at hp
    have hpe2:gi (rec T1) p=x:=by
     rw [←hpe]
     unfold gi
     rw [List.getD_eq_getElem?_getD,List.getD_eq_getElem?_getD,List.getElem?_take,if_pos (by omega)]
    rcases Classical.em (∃s,v s=x)with⟨s,hs⟩|hv
    ·exact⟨s%L,Nat.mod_lt _ h.pos,by rw [←(h.mod s).2];exact hs⟩
    ·exfalso
     have :=h.never (t:=T1) (i:=p) (by omega) (fun s e=>hv ⟨s,by rw [←e];exact hpe2⟩) (m:=c) (by omega) hce
     omega
   ·rintro⟨s,hs,hse⟩
    obtain⟨p,hp,hpe⟩:=KR ((h.mem T1 x).2 hx)
    rcases Nat.lt_or_ge c p with hcp|hcp
    ·exfalso
     -- its first visit from T1 on
     have hexd: ∃d,v (T1+d)=x:=by
      have h9:=h.per s (T1+1)
      have h10:T1+1≤(T1+1)*L:=Nat.le_mul_of_pos_right _ h.pos
      refine⟨s+(T1+1)*L - T1,?_⟩
      rw [show T1+(s+(T1+1)*L - T1)=s+(T1+1)*L from by omega,h9.2]
      exact hse
     have hfst9: ∀n,(∃d,d<n∧v (T1+d)=x∧∀q,q<d→¬v (T1+q)=x)∨∀q,q<n→¬v (T1+q)=x:=by
      intro n
      induction n with
      |zero=>exact .inr fun q hq=>absurd hq (Nat.not_lt_zero q)
      |succ n ih=>
       rcases ih with⟨d,d1,d2,d3⟩|ih
       ·exact .inl ⟨d,by omega,d2,d3⟩
       ·by_cases hb:v (T1+n)=x
        ·exact .inl ⟨n,by omega,hb,ih⟩
        ·refine .inr fun q hq=> ?_
         rcases Nat.lt_or_ge q n with h9|h9
         ·exact ih q h9
         ·rw [show q=n by omega];exact hb
     obtain⟨d0,hd0⟩:=hexd
     rcases hfst9 (d0+1)with⟨d,-,d2,d3⟩|hk
     ·obtain⟨j,j1,j2,j3⟩:=h.mono (T:=T1) (i:=p) (by omega) d fun q hq=>by rw [hpe];exact fun e=>d3 q hq e.symm
      have hlj:=h.len (T1+d)
      have e5:=Vv (f:=f) (h.nd (T1+d)) (i:=j) (x:=v (T1+d)) (by omega) (by rw [j3,hpe,d2])
      have e6:=hmax (T1+d)
      rw [e5]at e6
      rw [←hM1,e1]at e6
      split at e6<;>split at e6<;>omega
     ·exact absurd hd0 (hk d0 (by omega))
    ·refine List.mem_iff_getElem.2 ⟨p,by rw [List.length_take];omega,?_⟩
     rw [List.getElem_take,←ZX hp]
     exact hpe
  rw [←hset,←hM1,e1]
  cases XY f.sets (wv f.names ((rec T1).take (c+1)))with
  |true=>simp only [if_true,iff_true];omega
  |false=>simp only [Bool.false_eq_true,if_false,iff_false];omega
 ·have hb: ∀t,zt (rec t) (v t)=false:=fun t=>by
   cases hb:zt (rec t) (v t)with
   |false=>rfl
   |true=>exact absurd ⟨t,hb⟩ hno
  have hset:wv f.names met= []:=by
   unfold wv
   rw [List.filter_eq_nil_iff]
   intro x hx hxm
   obtain⟨t,ht,e⟩:=(hm x hx).1 hxm
   have :=hb t
   rw [e,(xQ _ _).2 ((h.mem t x).2 hx)]at this
   cases this
  rw [hset,←hM,hnone T (hb T)]
  cases XY f.sets []<;>simp
end
section
variable {a:Ar} {rc:Plc→List Int} {pr:Plc→Int} {p0:Plc} {V:List Int→Prop} {B:Nat}
theorem zF9 {i:Nat}{k:Nat}(hk:k<(stQ (usA a) rc p0 i).length): ∀d,gq (stQ (usA a) rc p0 (i+d)) k=gq (stQ (usA a) rc p0 i) k
 |0=>rfl
 |d+1=>by
  have ih:=zF9 hk d
  have hm:=ZP (us:=usA a) (rc:=rc) (p0:=p0) (i:=i) (j:=i+d) (by omega)
  by_cases h:i+d<(stQ (usA a) rc p0 (i+d)).length
  ·rw [show i+(d+1)=i+d+1 from rfl,Zb h]
   rw [show Jj (usA a) rc p0 (i+d) (usA a (plQ (usA a) rc p0 (i+d))).length=zp (rc (gq (stQ (usA a) rc p0 (i+d)) (i+d))) (usA a (gq (stQ (usA a) rc p0 (i+d)) (i+d))) (stQ (usA a) rc p0 (i+d)) (usA a (gq (stQ (usA a) rc p0 (i+d)) (i+d))).length from rfl]
   rw [Wh (by omega) (Nat.le_refl _)]
   exact ih
  ·rw [show i+(d+1)=i+d+1 from rfl,Yi h]
   exact ih
theorem zAM {i j:Nat}(hij:i≤j){k:Nat}(hk:k<(stQ (usA a) rc p0 i).length):gq (stQ (usA a) rc p0 j) k=gq (stQ (usA a) rc p0 i) k:=by
 have :=zF9 hk (j - i)
 rwa [show i+(j - i)=j by omega]at this
abbrev plA (a:Ar)(rc:Plc→List Int)(p0:Plc):List Plc:=stQ (usA a) rc p0 257
theorem Km (hok:okQ (usA a) rc p0=true){v:Nat}(hv:v<(plA a rc p0).length){x:Int}(hx:zt (nxQ (usA a) rc p0 v) x=true):
  (0≤x∧x<(plA a rc p0).length)∧(gq (plA a rc p0) x.toNat).record=rc (gq (plA a rc p0) v)∧zt (gl a.next (gq (plA a rc p0) v).at_.toNat) (gq (plA a rc p0) x.toNat).at_=true:=by
 obtain⟨h1,h2,h3,h4⟩:=Wj (n:=(plA a rc p0).length) hok rfl
 have hv2:=h4 v hv
 have hpv:gq (plA a rc p0) v=plQ (usA a) rc p0 v:=zAM (i:=v) (by omega) hv2
 have hx2:=(qp _).mem_iff.1 ((xQ _ _).1 hx)
 obtain⟨j,hj,e⟩:=List.mem_iff_getElem.1 hx2
 have hlen:=(xy (r:=rc (plQ (usA a) rc p0 v)) (us:=usA a (plQ (usA a) rc p0 v)) (ps:=stQ (usA a) rc p0 v) (Nat.le_refl _)).1
 have hj2:j<(usA a (plQ (usA a) rc p0 v)).length:=Nat.lt_of_lt_of_eq hj hlen
 have h5:=Vx (r:=rc (plQ (usA a) rc p0 v)) (us:=usA a (plQ (usA a) rc p0 v)) (ps:=stQ (usA a) rc p0 v) (Nat.le_refl _) j hj2
 have e2:gi (zp (rc (plQ (usA a) rc p0 v)) (usA a (plQ (usA a) rc p0 v)) (stQ (usA a) rc p0 v) (usA a (plQ (usA a) rc p0 v)).length).2 j=x:=by
  rw [wR (by omega)];exact e
 rw [e2]at h5
 have h6:=Zb hv2
 have h7:stQ (usA a) rc p0 (v+1)=(zp (rc (plQ (usA a) rc p0 v)) (usA a (plQ (usA a) rc p0 v)) (stQ (usA a) rc p0 v) (usA a (plQ (usA a) rc p0 v)).length).1:=h6
 rw [←h7]at h5
 have h8:=ZP (us:=usA a) (rc:=rc) (p0:=p0) (i:=v+1) (j:=257) (by omega)
 have h9:gq (plA a rc p0) x.toNat=⟨gi (usA a (plQ (usA a) rc p0 v)) j,rc (plQ (usA a) rc p0 v)⟩:=by
  rw [←h5.2]
  exact zAM (i:=v+1) (by omega) (by omega)
 refine⟨⟨h5.1.1,by show x<((stQ (usA a) rc p0 257).length:Int);omega⟩,?_,?_⟩
 ·rw [h9,hpv]
 ·rw [h9,hpv,xQ]
  show gi (gl a.next (plQ (usA a) rc p0 v).at_.toNat) j∈_
  have :j<(gl a.next (plQ (usA a) rc p0 v).at_.toNat).length:=hj2
  rw [ZX this]
  exact List.getElem_mem this
theorem Vf (n:Nat):(gmA a rc pr p0 n).a.owner.length=n:=qb n
theorem zFx {n v:Nat}(h:v<n):gl (gmA a rc pr p0 n).a.next v=nxQ (usA a) rc p0 v:=by
 show gl (nxG a rc p0 n) v=_
 unfold nxG gl
 rw [List.getD_eq_getElem?_getD,List.getElem?_map,List.getElem?_range h]
 rfl
theorem gm_pr {n v:Nat}(h:v<n):gi (gmA a rc pr p0 n).prio v=pr (plQ (usA a) rc p0 v):=by
 show gi (prG a rc pr p0 n) v=_
 unfold prG
 rw [wR (by simp;exact h)]
 simp
theorem Xp {ps:List Plc}{xs:List Int}{k:Nat}(h:k<xs.length):gi (atL ps xs) k=(gq ps (gi xs k).toNat).at_:=by
 unfold atL
 rw [ZX (by rw [List.length_map];exact h),List.getElem_map,←ZX h]
theorem zBQ (ps:List Plc)(xs ys:List Int):atL ps (xs++ys)=atL ps xs++atL ps ys:=by unfold atL;rw [List.map_append]
theorem zBR (ps:List Plc){l:Ls}(h:1≤l.loop.length):yM ⟨atL ps l.stem,atL ps l.loop⟩=atL ps (yM l):=by
 unfold yM
 rw [zBQ,zBQ,Xp (by omega)]
 rfl
theorem zAj (ha:zv a=true)(h:XH a rc p0 V B)(hok:okQ (usA a) rc p0=true){l:Ls}(hl:xj (gmA a rc pr p0 (plA a rc p0).length).a l=true):
  xj a ⟨atL (plA a rc p0) l.stem,atL (plA a rc p0) l.loop⟩=true:=by
 obtain⟨h1,h2,h3⟩:=xM.1 hl
 rw [Vf]at h2
 have hall:=vS ha h 257
 refine xM.2 ⟨⟨by rw [qV];exact h1.1,by rw [qV];exact h1.2.1,by rw [qV];exact h1.2.2⟩,?_,?_⟩
 ·rw [zBR _ h1.2.1]
  intro j hj
  rw [qV]at hj
  rw [Xp hj]
  have h4:=h2 j hj
  have h5:=hall _ (vk (ps:=plA a rc p0) (k:=(gi (yM l) j).toNat) (by omega))
  exact⟨h5.1,h5.2.1⟩
 ·rw [zBR _ h1.2.1]
  intro j h0 hj
  rw [qV]at hj
  rw [Xp hj,Xp (by omega)]
  have h4:=h2 (j - 1) (by omega)
  have h5:=h3 j h0 hj
  rw [zFx (by omega)]at h5
  exact(Km hok (by omega) h5).2.2
def plT (ps:List Plc)(l:Ls)(t:Nat):Plc:=gq ps (gi l.loop (t%l.loop.length)).toNat
theorem zBm (ps:List Plc)(l:Ls)(t:Nat):plT ps l (t+l.loop.length)=plT ps l t:=by unfold plT;rw [Nat.add_mod_right]
theorem zDz (hok:okQ (usA a) rc p0=true){l:Ls}(hl:xj (gmA a rc pr p0 (plA a rc p0).length).a l=true)(t:Nat):(plT (plA a rc p0) l (t+1)).record=rc (plT (plA a rc p0) l t):=by
 have hpos:=(vU hl).2.1
 have hm:=Nat.mod_lt t (show l.loop.length>0 by omega)
 have h1:=WX hl hm
 rw [Vf]at h1
 have h2:=h1.2
 rw [zFx (by omega)]at h2
 have h3:=(Km hok (by omega) h2).2.1
 have h4:Vs l.loop (gi l.loop 0) (t%l.loop.length)=gi l.loop ((t+1)%l.loop.length):=by
  unfold Vs
  split
  ·rename_i e
   rw [Nat.add_mod,Nat.mod_eq_of_lt (a:=t%l.loop.length+1%l.loop.length) (by
    rcases Nat.lt_or_ge 1 l.loop.length with h9|h9
    ·rw [Nat.mod_eq_of_lt h9];exact e
    ·omega)]
   rw [Nat.mod_eq_of_lt (a:=1) (by omega)]
  ·rename_i e
   have e2:t%l.loop.length+1=l.loop.length:=by omega
   refine congrArg (gi l.loop) ?_
   have h9:=Nat.mod_add_div t l.loop.length
   rw [show t+1=l.loop.length*(t / l.loop.length+1)from by rw [Nat.mul_add];omega,Nat.mul_mod_right]
 rw [h4]at h3
 exact h3
theorem zFE (hok:okQ (usA a) rc p0=true)(hpr: ∀v,v<(plA a rc p0).length→0≤pr (gq (plA a rc p0) v)){l:Ls}(hl:xj (gmA a rc pr p0 (plA a rc p0).length).a l=true):
  0≤vp (gmA a rc pr p0 (plA a rc p0).length) l.loop l.loop.length∧(∃T,T<l.loop.length∧pr (plT (plA a rc p0) l T)=vp (gmA a rc pr p0 (plA a rc p0).length) l.loop l.loop.length)∧∀t,t<l.loop.length→pr (plT (plA a rc p0) l t)≤vp (gmA a rc pr p0 (plA a rc p0).length) l.loop l.loop.length:=by
 have hpos:=(vU hl).2.1
 have e: ∀t,t<l.loop.length→gi (gmA a rc pr p0 (plA a rc p0).length).prio (gi l.loop t).toNat=pr (plT (plA a rc p0) l t)∧0≤pr (plT (plA a rc p0) l t):=fun t ht=>by
  have h1:=(WX hl ht).1
  rw [Vf]at h1
  rw [gm_pr (by omega)]
  unfold plT
  rw [Nat.mod_eq_of_lt ht]
  obtain⟨k1,k2,k3,k4⟩:=Wj (n:=(plA a rc p0).length) hok rfl
  have h9:gq (plA a rc p0) (gi l.loop t).toNat=plQ (usA a) rc p0 (gi l.loop t).toNat:=by
   have h10:(gi l.loop t).toNat<(plA a rc p0).length:=by omega
   exact zAM (i:=(gi l.loop t).toNat) (by omega) (k4 _ h10)
  rw [←h9]
  exact⟨rfl,hpr _ (by omega)⟩
 have hmax:=zAO (gmA a rc pr p0 (plA a rc p0).length) l.loop l.loop.length
 have h0:=hmax 0 (by omega)
 have e0:=e 0 (by omega)
 rw [e0.1]at h0
 refine⟨by omega,?_,fun t ht=>by rw [←(e t ht).1];exact hmax t ht⟩
 rcases zBy (gmA a rc pr p0 (plA a rc p0).length) l.loop l.loop.length with h9|⟨j,hj,h9⟩
 ·omega
 ·exact⟨j,hj,by rw [←(e j hj).1];exact h9⟩
end
open Nat renaming reduceMod → zA, reduceMul → zB, reduceDiv → zC, reduceAdd → zD, reduceSub → zE, reduceEqDiff → zF, reduceBEq → zG, reduceLT → zH, reduceLeDiff → zI
def vl (a b:List Int):Bool:=a.any fun x=>zt b x
theorem Qf (a b:List Int):vl a b=vl b a:=by
 rw [Bool.eq_iff_iff]
 unfold vl
 simp only [List.any_eq_true,xQ]
 exact⟨fun⟨x,h1,h2⟩=>⟨x,h2,h1⟩,fun⟨x,h1,h2⟩=>⟨x,h2,h1⟩⟩
theorem zII (a b:List Int):decide ((uH a b).length<a.length)=vl a b:=by
 rw [Bool.eq_iff_iff,decide_eq_true_eq]
 unfold uH vl
 rw [List.length_filter_lt_length_iff_exists,List.any_eq_true]
 simp
def bkB (ps:List Pr)(met:List Int)(i:Nat):Bool:=vl (gp ps i).ask met&& !vl (gp ps i).give met
theorem zHa {ps:List Pr}{met:List Int}{i:Nat}(h:vl (gp ps i).ask met=false):bkB ps met i=false:=by unfold bkB;rw [h];rfl
theorem zHb {ps:List Pr}{met:List Int}{i:Nat}(h:vl (gp ps i).give met=true):bkB ps met i=false:=by unfold bkB;rw [h];simp
theorem zHc {ps:List Pr}{met:List Int}{i:Nat}(h:vl (gp ps i).ask met=true)(h2:vl (gp ps i).give met=false):bkB ps met i=true:=by unfold bkB;rw [h,h2];rfl
def bkN (ps:List Pr)(met:List Int)(k:Nat):List Int:=((List.range k).filter (bkB ps met)).map fun(i:Nat)=>(i:Int)
theorem zGR {ps:List Pr}{met:List Int}{k:Nat}(h:bkB ps met k=true):bkN ps met (k+1)=bkN ps met k++ [(k:Int)]:=by unfold bkN;rw [List.range_succ,List.filter_append,List.map_append];simp [h]
theorem zHZ {ps:List Pr}{met:List Int}{k:Nat}(h:bkB ps met k=false):bkN ps met (k+1)=bkN ps met k:=by unfold bkN;rw [List.range_succ,List.filter_append];simp [h]
theorem zDN (ps:List Pr)(met:List Int)(k:Nat):(bkN ps met k).length≤k:=by unfold bkN;rw [List.length_map];exact Nat.le_trans (List.length_filter_le _ _) (by simp)
set_option maxRecDepth 20000 in
set_option maxHeartbeats 4000000 in
theorem ZL (a b:List Int)(ha:a.length≤1048576)(hb:b.length≤1048576)(n:Int)(hs:yN b n=true):Fn Try.prog tyT 78 [.c (DI a), .c (DI b)] [.c (.bool (vl a b))]:=by
 have hL:=zDw a b ha hb n hs
 have hm:=zII a b
 unfold uH at hm
 refine yG (fn:=Try.f78) (ts:= [4]) Try.func78 (by kernel_rfl) rfl rfl (by rw [Try.ntmps78];exact Nat.le_of_ble_eq_true rfl) rfl (by simp only [szA,List.mem_cons,List.not_mem_nil,or_false,forall_eq_or_imp,forall_eq,VT.cells,szL];try decide) ?_
 rw [Try.ntmps78]
 simp only [push_cast,↓zK,↓zJ,↓reduceIte,zA,zB,zC,zD,zE,zF,zG,zH,zI,reduceCtorEq]
 refine zL fun K hK=> ?_
 refine zM zQ zN [] rfl ?_
 simp only [push_cast,↓zK,↓zJ,↓reduceIte,zA,zB,zC,zD,zE,zF,zG,zH,zI,reduceCtorEq]
 repeat' apply And.intro
 all_goals try exact gB
 all_goals first|(refine hK _ ?_;clear hK K)|(simp only [push_cast];done)
 refine zL fun K hK=> ?_
 refine zM zQ zN [] rfl ?_
 all_goals refine yC 3 fun K9 hK9=> ?_
 all_goals simp only [push_cast,↓zK,↓zJ,↓reduceIte,zA,zB,zC,zD,zE,zF,zG,zH,zI,reduceCtorEq]
 all_goals repeat'(first|(apply zO<;>(intro hg;(try simp only [push_cast]at hg)))|(refine⟨_,hL,?_⟩;simp only [push_cast,↓zK,↓zJ,↓reduceIte,zA,zB,zC,zD,zE,zF,zG,zH,zI,reduceCtorEq])|apply And.intro|(intro hg;(try simp only [push_cast]at hg)))
 all_goals try exact gA
 all_goals first|(refine hK9 _ ?_;clear hK9 K9)|(simp only [push_cast];done)
 all_goals simp only [push_cast,↓zK,↓zJ,↓reduceIte,zA,zB,zC,zD,zE,zF,zG,zH,zI,reduceCtorEq]
 all_goals repeat'(first|(apply zO<;>(intro hg;(try simp only [push_cast]at hg)))|(refine⟨_,hL,?_⟩;simp only [push_cast,↓zK,↓zJ,↓reduceIte,zA,zB,zC,zD,zE,zF,zG,zH,zI,reduceCtorEq])|apply And.intro|(intro hg;(try simp only [push_cast]at hg)))
 all_goals try exact gA
 all_goals first|(refine hK _ ?_;clear hK K)|(simp only [push_cast];done)
 refine zZ ?_
 (try simp only [zR,zT])
 refine⟨Or.inl rfl,?_⟩
 simp only [zf,push_cast,↓zK,↓zJ,↓reduceIte,zA,zB,zC,zD,zE,zF,zG,zH,zI,reduceCtorEq]
 first|exact hm|(rw [←hm];simp;done)|(rw [←hm];done)
set_option maxRecDepth 20000 in
set_option maxHeartbeats 4000000 in
theorem zAl (ps:List Pr)(ha:PLn 1048576 ps)(n:Int)(hs: ∀i,i<ps.length→yN (gp ps i).ask n=true∧yN (gp ps i).give n=true)(met:List Int)(hm:met.length≤1048576):Fn Try.prog tyT 50 [.c (.lst 64 (dII (ilv ps))), .c (DI met)] [.c (DI (bkN ps met ps.length))]:=by
 have hl:=ha.1
 have hg:=fun k=>QV ha k
 have hga: ∀k,(gp ps k).ask.length≤1048576:=fun k=>(hg k).ask
 have hgg: ∀k,(gp ps k).give.length≤1048576:=fun k=>(hg k).give
 have hli:=xY ps
 refine yG (fn:=Try.f50) (ts:= [4]) Try.func50 (by kernel_rfl) rfl rfl (by rw [Try.ntmps50];exact Nat.le_of_ble_eq_true rfl) rfl (by simp only [szA,List.mem_cons,List.not_mem_nil,or_false,forall_eq_or_imp,forall_eq,VT.cells,szL];try decide) ?_
 rw [Try.ntmps50]
 simp only [push_cast,↓zK,↓zJ,↓reduceIte,zA,zB,zC,zD,zE,zF,zG,zH,zI,reduceCtorEq]
 refine zL fun K hK=> ?_
 refine zM zQ zN [] rfl ?_
 all_goals simp only [push_cast,↓zK,↓zJ,↓reduceIte,zA,zB,zC,zD,zE,zF,zG,zH,zI,reduceCtorEq]
 all_goals repeat'(first|(apply zO<;>(intro hg;(try simp only [push_cast]at hg)))|apply And.intro|(intro hg;(try simp only [push_cast]at hg)))
 all_goals first|exact gA|(exact zP (by simp only [push_cast];omega))|(exact zP (by omega))|skip
 all_goals first|(refine hK _ ?_;clear hK K)|(simp only [push_cast];done)
 refine zL fun K hK=> ?_
 refine zM zQ zN [] rfl ?_
 all_goals simp only [push_cast,↓zK,↓zJ,↓reduceIte,zA,zB,zC,zD,zE,zF,zG,zH,zI,reduceCtorEq]
 all_goals repeat'(first|(apply zO<;>(intro hg;(try simp only [push_cast]at hg)))|apply And.intro|(intro hg;(try simp only [push_cast]at hg)))
 all_goals first|exact gA|(exact zP (by simp only [push_cast];omega))|(exact zP (by omega))|skip
 all_goals first|(refine hK _ ?_;clear hK K)|(simp only [push_cast];done)
 refine zL fun K1 hK1=> ?_
 refine zL fun K hK=> ?_
 refine zM zQ zN [] rfl ?_
 all_goals simp only [push_cast,↓zK,↓zJ,↓reduceIte,zA,zB,zC,zD,zE,zF,zG,zH,zI,reduceCtorEq]
 all_goals repeat'(first|(apply zO<;>(intro hg;(try simp only [push_cast]at hg)))|apply And.intro|(intro hg;(try simp only [push_cast]at hg)))
 all_goals first|exact gA|(exact zP (by simp only [push_cast];omega))|(exact zP (by omega))|skip
 all_goals first|(refine hK _ ?_;clear hK K)|(simp only [push_cast];done)
 refine zW ?_
 refine zk [5,6,7,11,12,13,14,15,16,17,18,19,20,21,22,23,24,25,26,27,28,29,30,31] [80] (fun(k:Nat)=> [(11, .int .i64 k),(5, .sl 80 [] 0 (bkN ps met k).length 2)]) (fun k=> []) (fun k=> [(80,⟨.ex,2,dI (bkN ps met k),none⟩)]) (fun k=>k≤ps.length) (fun k=>ps.length - k) 0 ?_ (by omega) ?_
 ·
  rw [show bkN ps met 0= []from rfl,show dI ([]:List Int)= []from rfl]
  refine zb rfl ?_ ?_ ?_<;>simp only [zi,zh,push_cast,↓zK,↓zJ,↓reduceIte,zA,zB,zC,zD,zE,zF,zG,zH,zI,reduceCtorEq]
 ·rintro k hk KL0 hL0
  have hbl:=zDN ps met k
  simp only [push_cast,↓zK,↓zJ,↓reduceIte,zA,zB,zC,zD,zE,zF,zG,zH,zI,reduceCtorEq]
  refine zL fun K hK=> ?_
  refine zM zQ zN [] rfl ?_
  all_goals simp only [push_cast,↓zK,↓zJ,↓reduceIte,zA,zB,zC,zD,zE,zF,zG,zH,zI,reduceCtorEq]
  all_goals repeat'(first|(apply zO<;>(intro hg;(try simp only [push_cast]at hg)))|apply And.intro|(intro hg;(try simp only [push_cast]at hg)))
  all_goals first|exact gA|(exact zP (by simp only [push_cast];omega))|(exact zP (by omega))|skip
  all_goals first|(refine hK _ ?_;clear hK K)|(simp only [push_cast];done)
  refine zL fun K2 hK2=> ?_
  refine zV rfl (fun hc=> ?_) (fun hc=> ?_)<;>(try simp only [push_cast]at hc)
  ·
   refine zX ?_
   (try simp only [zR,zT,reduceIte,zF]);refine hK2 _ ?_
   refine zL fun K3 hK3=> ?_
   refine zW ?_
   refine zL fun K hK=> ?_
   refine zM zQ zN [] rfl ?_
   all_goals simp only [push_cast,↓zK,↓zJ,↓reduceIte,zA,zB,zC,zD,zE,zF,zG,zH,zI,reduceCtorEq]
   all_goals repeat'(first|(apply zO<;>(intro hg;(try simp only [push_cast]at hg)))|apply And.intro|(intro hg;(try simp only [push_cast]at hg)))
   all_goals first|exact gA|(exact zP (by simp only [push_cast];omega))|(exact zP (by omega))|skip
   all_goals first|(refine hK _ ?_;clear hK K)|(simp only [push_cast];done)
   refine zL fun K hK=> ?_
   refine ze false zQ zN ?_ rfl ?_
   ·kernel_rfl
   all_goals refine zj 4 fun K9 hK9=> ?_
   all_goals simp only [push_cast,↓zK,↓zJ,↓reduceIte,zA,zB,zC,zD,zE,zF,zG,zH,zI,reduceCtorEq]
   all_goals repeat'(first|(apply zO<;>(intro hg;(try simp only [push_cast]at hg)))|(refine⟨_,ZL met (gp ps k).ask hm (hga k) n (hs k (by omega)).1,?_⟩;simp only [push_cast,↓zK,↓zJ,↓reduceIte,zA,zB,zC,zD,zE,zF,zG,zH,zI,reduceCtorEq])|(refine⟨_,ZL met (gp ps k).give hm (hgg k) n (hs k (by omega)).2,?_⟩;simp only [push_cast,↓zK,↓zJ,↓reduceIte,zA,zB,zC,zD,zE,zF,zG,zH,zI,reduceCtorEq])|apply And.intro|(intro hg;(try simp only [push_cast]at hg)))
   all_goals first|exact gA|(exact zP (by simp only [push_cast];omega))|(exact zP (by omega))|skip
   all_goals first|(refine hK9 _ ?_;clear hK9 K9)|(simp only [push_cast];done)
   all_goals refine zj 5 fun K9 hK9=> ?_
   all_goals simp only [push_cast,↓zK,↓zJ,↓reduceIte,zA,zB,zC,zD,zE,zF,zG,zH,zI,reduceCtorEq]
   all_goals repeat'(first|(apply zO<;>(intro hg;(try simp only [push_cast]at hg)))|(refine⟨_,ZL met (gp ps k).ask hm (hga k) n (hs k (by omega)).1,?_⟩;simp only [push_cast,↓zK,↓zJ,↓reduceIte,zA,zB,zC,zD,zE,zF,zG,zH,zI,reduceCtorEq])|(refine⟨_,ZL met (gp ps k).give hm (hgg k) n (hs k (by omega)).2,?_⟩;simp only [push_cast,↓zK,↓zJ,↓reduceIte,zA,zB,zC,zD,zE,zF,zG,zH,zI,reduceCtorEq])|apply And.intro|(intro hg;(try simp only [push_cast]at hg)))
   all_goals first|exact gA|(exact zP (by simp only [push_cast];omega))|(exact zP (by omega))|skip
   all_goals first|(refine hK9 _ ?_;clear hK9 K9)|(simp only [push_cast];done)
   all_goals simp only [push_cast,↓zK,↓zJ,↓reduceIte,zA,zB,zC,zD,zE,zF,zG,zH,zI,reduceCtorEq]
   all_goals repeat'(first|(apply zO<;>(intro hg;(try simp only [push_cast]at hg)))|(refine⟨_,ZL met (gp ps k).ask hm (hga k) n (hs k (by omega)).1,?_⟩;simp only [push_cast,↓zK,↓zJ,↓reduceIte,zA,zB,zC,zD,zE,zF,zG,zH,zI,reduceCtorEq])|(refine⟨_,ZL met (gp ps k).give hm (hgg k) n (hs k (by omega)).2,?_⟩;simp only [push_cast,↓zK,↓zJ,↓reduceIte,zA,zB,zC,zD,zE,zF,zG,zH,zI,reduceCtorEq])|apply And.intro|(intro hg;(try simp only [push_cast]at hg)))
   all_goals first|exact gA|(exact zP (by simp only [push_cast];omega))|(exact zP (by omega))|skip
   all_goals first|(refine hK _ ?_;clear hK K)|(simp only [push_cast];done)
   all_goals refine zV rfl (fun hc=> ?_) (fun hc=> ?_)
   all_goals(first|(cases hc;done)|skip)
   all_goals(try simp only [push_cast]at hc)
   all_goals first
    |(
      refine zX ?_
      (try simp only [zR,zT,reduceIte,zF]);refine hK3 _ ?_
      refine zM zQ zN [] rfl ?_
      all_goals simp only [push_cast,↓zK,↓zJ,↓reduceIte,zA,zB,zC,zD,zE,zF,zG,zH,zI,reduceCtorEq]
      all_goals repeat'(first|(apply zO<;>(intro hg;(try simp only [push_cast]at hg)))|apply And.intro|(intro hg;(try simp only [push_cast]at hg)))
      all_goals first|exact gA|(exact zP (by simp only [push_cast];omega))|(exact zP (by omega))|skip
      refine hL0 _ ⟨k+1,by omega,by omega,?_⟩
      rw [zHZ (by first|exact zHa (by rw [Qf];with_reducible assumption)|exact zHb (by rw [Qf];with_reducible assumption))]
      refine zb rfl ?_ ?_ ?_<;>simp only [zi,zh,push_cast,↓zK,↓zJ,↓reduceIte,zA,zB,zC,zD,zE,zF,zG,zH,zI,reduceCtorEq]
      all_goals(try(rw [List.length_append];rfl))
      done)
    |(
      refine zM zQ zN [] rfl ?_
      all_goals simp only [push_cast,↓zK,↓zJ,↓reduceIte,zA,zB,zC,zD,zE,zF,zG,zH,zI,reduceCtorEq]
      all_goals repeat'(first|(apply zO<;>(intro hg;(try simp only [push_cast]at hg)))|apply And.intro|(intro hg;(try simp only [push_cast]at hg)))
      all_goals first|exact gA|(exact zP (by simp only [push_cast];omega))|(exact zP (by omega))|skip
      (try simp only [zR,zT,reduceIte,zF]);refine hK3 _ ?_
      refine zM zQ zN [] rfl ?_
      all_goals simp only [push_cast,↓zK,↓zJ,↓reduceIte,zA,zB,zC,zD,zE,zF,zG,zH,zI,reduceCtorEq]
      all_goals repeat'(first|(apply zO<;>(intro hg;(try simp only [push_cast]at hg)))|apply And.intro|(intro hg;(try simp only [push_cast]at hg)))
      all_goals first|exact gA|(exact zP (by simp only [push_cast];omega))|(exact zP (by omega))|skip
      refine hL0 _ ⟨k+1,by omega,by omega,?_⟩
      (try rw [List.take_of_length_le (l:=bkN ps met k) (by omega)])
      rw [zGR (zHc (by rw [Qf];with_reducible assumption) (by rw [Qf];with_reducible assumption))]
      refine zb rfl ?_ ?_ ?_<;>simp only [zi,zh,push_cast,↓zK,↓zJ,↓reduceIte,zA,zB,zC,zD,zE,zF,zG,zH,zI,reduceCtorEq]
      all_goals(try(rw [List.length_append];rfl))
      done)
  ·
   refine zn ?_
   have hkk:k=ps.length:=by omega
   subst hkk
   (try simp only [zR,zT,reduceIte,zF]);refine hK1 _ ?_
   refine zL fun K hK=> ?_
   refine zM zQ zN [] rfl ?_
   all_goals simp only [push_cast,↓zK,↓zJ,↓reduceIte,zA,zB,zC,zD,zE,zF,zG,zH,zI,reduceCtorEq]
   all_goals repeat'(first|(apply zO<;>(intro hg;(try simp only [push_cast]at hg)))|apply And.intro|(intro hg;(try simp only [push_cast]at hg)))
   all_goals first|exact gA|(exact zP (by simp only [push_cast];omega))|(exact zP (by omega))|skip
   all_goals first|(refine hK _ ?_;clear hK K)|(simp only [push_cast];done)
   refine zZ ?_
   (try simp only [zR,zT])
   refine⟨Or.inl rfl,?_⟩
   simp only [zf,push_cast,↓zK,↓zJ,↓reduceIte,zA,zB,zC,zD,zE,zF,zG,zH,zI,reduceCtorEq]
   all_goals first|rfl|exact⟨rfl,rfl⟩
set_option maxRecDepth 20000 in
set_option maxHeartbeats 4000000 in
theorem JJ (p:Plc)(hp:p.record.length≤1048576)(u:Int)(r:List Int)(hr:r.length≤1048576):FnX Try.prog tyT 98 [.v (.agg [.int .i64 p.at_,DI p.record]), .ref (.lst 2 [.int .i64 u]), .ref (.lst 2 [DI r])] [.c (.bool (yj u r p))]:=by
 have hE:=zEe p.record r hp hr
 refine Jq (fn:=Try.f98) (rs:= [.tmp 4]) zQ zN Try.func98 (by kernel_rfl) rfl rfl (by rw [Try.ntmps98];exact Nat.le_of_ble_eq_true rfl) rfl (by simp only [szX,List.mem_cons,List.not_mem_nil,or_false,forall_eq_or_imp,forall_eq,XT.cells,VT.cells,szL];try decide) ?_
 rw [Try.ntmps98]
 simp only [push_cast,↓zK,↓zJ,↓reduceIte,zA,zB,zC,zD,zE,zF,zG,zH,zI,reduceCtorEq]
 refine zL fun K hK=> ?_
 refine zM zQ zN [] rfl ?_
 simp only [push_cast,↓zK,↓zJ,↓reduceIte,zA,zB,zC,zD,zE,zF,zG,zH,zI,reduceCtorEq]
 repeat' apply And.intro
 all_goals try exact gB
 all_goals first|(refine hK _ ?_;clear hK K)|(simp only [push_cast];done)
 refine zL fun K hK=> ?_
 refine ze false zQ zN ?_ rfl ?_
 ·kernel_rfl
 all_goals refine zj 9 fun K9 hK9=> ?_
 all_goals simp only [push_cast,↓zK,↓zJ,↓reduceIte,zA,zB,zC,zD,zE,zF,zG,zH,zI,reduceCtorEq]
 all_goals repeat'(first|(apply zO<;>(intro hg;(try simp only [push_cast]at hg)))|(refine⟨_,hE,?_⟩;simp only [push_cast,↓zK,↓zJ,↓reduceIte,zA,zB,zC,zD,zE,zF,zG,zH,zI,reduceCtorEq])|apply And.intro|(intro hg;(try simp only [push_cast]at hg)))
 all_goals try exact gA
 all_goals first|(refine hK9 _ ?_;clear hK9 K9)|(simp only [push_cast];done)
 all_goals simp only [push_cast,↓zK,↓zJ,↓reduceIte,zA,zB,zC,zD,zE,zF,zG,zH,zI,reduceCtorEq]
 all_goals repeat'(first|(apply zO<;>(intro hg;(try simp only [push_cast]at hg)))|(refine⟨_,hE,?_⟩;simp only [push_cast,↓zK,↓zJ,↓reduceIte,zA,zB,zC,zD,zE,zF,zG,zH,zI,reduceCtorEq])|apply And.intro|(intro hg;(try simp only [push_cast]at hg)))
 all_goals try exact gA
 all_goals first|(refine hK _ ?_;clear hK K)|(simp only [push_cast];done)
 all_goals(
   refine zZ ?_
   (try simp only [zR,zT])
   refine⟨Or.inl rfl,?_⟩
   simp only [zf,yF,ye,push_cast,↓zK,↓zJ,↓reduceIte,zA,zB,zC,zD,zE,zF,zG,zH,zI,reduceCtorEq]
   all_goals first|exact(ke (by omega)).symm|(unfold yj;rw [decide_eq_true (by with_reducible assumption)];rfl)|(unfold yj;simp_all;done))
set_option maxRecDepth 20000 in
set_option maxHeartbeats 4000000 in
theorem VA (ps:List Plc)(ha:QLn 1048576 ps)(g:FuncId)(d1 d2:D)(c1 c2:List D)(q:Plc→Bool)(hp: ∀k,k<ps.length→FnX Try.prog tyT g [.v (.agg [.int .i64 (gq ps k).at_,DI (gq ps k).record]), .ref (.lst 2 (d1::c1)), .ref (.lst 2 (d2::c2))] [.c (.bool (q (gq ps k)))]):FnX Try.prog tyT 97 [.v (.c (.lst 72 (yn ps))), .clo g [.lst 2 (d1::c1), .lst 2 (d2::c2)]] [.c (.int .i64 (ixQ q ps))]:=by
 have hl:=ha.1
 have hgl:=fun k=>WU ha k
 refine Jq (fn:=Try.f97) (rs:= [.tmp 4]) zQ zN Try.func97 (by kernel_rfl) rfl rfl (by rw [Try.ntmps97];exact Nat.le_of_ble_eq_true rfl) rfl (by simp only [szX,List.mem_cons,List.not_mem_nil,or_false,forall_eq_or_imp,forall_eq,XT.cells,VT.cells,szL];try decide) ?_
 rw [Try.ntmps97]
 simp only [push_cast,↓zK,↓zJ,↓reduceIte,zA,zB,zC,zD,zE,zF,zG,zH,zI,reduceCtorEq]
 refine zL fun K hK=> ?_
 refine zM zQ zN [] rfl ?_
 all_goals simp only [push_cast,↓zK,↓zJ,↓reduceIte,zA,zB,zC,zD,zE,zF,zG,zH,zI,reduceCtorEq]
 all_goals repeat'(first|(apply zO<;>(intro hg;(try simp only [push_cast]at hg)))|apply And.intro|(intro hg;(try simp only [push_cast]at hg)))
 all_goals first|exact gA|(exact zU (by omega))|skip
 all_goals first|(refine hK _ ?_;clear hK K)|(simp only [push_cast];done)
 refine zL fun K1 hK1=> ?_
 refine zL fun K hK=> ?_
 refine zM zQ zN [] rfl ?_
 all_goals simp only [push_cast,↓zK,↓zJ,↓reduceIte,zA,zB,zC,zD,zE,zF,zG,zH,zI,reduceCtorEq]
 all_goals repeat'(first|(apply zO<;>(intro hg;(try simp only [push_cast]at hg)))|apply And.intro|(intro hg;(try simp only [push_cast]at hg)))
 all_goals first|exact gA|(exact zU (by omega))|skip
 all_goals first|(refine hK _ ?_;clear hK K)|(simp only [push_cast];done)
 refine zW ?_
 refine zk [4,5,8,9,10,11,12,13,14,15,16,17,18] [] (fun(k:Nat)=> [(8, .int .i64 k)]) (fun k=> []) (fun k=> []) (fun k=>k≤ps.length∧∀j,j<k→q (gq ps j)=false) (fun k=>ps.length - k) 0 ?_ ⟨by omega,fun j hj=>by omega⟩ ?_
 ·
  refine zb rfl ?_ ?_ ?_<;>simp only [zi,zh,push_cast,↓zK,↓zJ,↓reduceIte,zA,zB,zC,zD,zE,zF,zG,zH,zI,reduceCtorEq]
 ·rintro k ⟨hk,hall⟩ KL0 hL0
  simp only [push_cast,↓zK,↓zJ,↓reduceIte,zA,zB,zC,zD,zE,zF,zG,zH,zI,reduceCtorEq]
  refine zL fun K hK=> ?_
  refine zM zQ zN [] rfl ?_
  all_goals simp only [push_cast,↓zK,↓zJ,↓reduceIte,zA,zB,zC,zD,zE,zF,zG,zH,zI,reduceCtorEq]
  all_goals repeat'(first|(apply zO<;>(intro hg;(try simp only [push_cast]at hg)))|apply And.intro|(intro hg;(try simp only [push_cast]at hg)))
  all_goals first|exact gA|(exact zU (by omega))|skip
  all_goals first|(refine hK _ ?_;clear hK K)|(simp only [push_cast];done)
  refine zL fun K2 hK2=> ?_
  refine zV rfl (fun hc=> ?_) (fun hc=> ?_)<;>(try simp only [push_cast]at hc)
  ·
   refine zX ?_
   (try simp only [zR,zT,reduceIte,zF]);refine hK2 _ ?_
   refine zL fun K3 hK3=> ?_
   refine zW ?_
   refine zL fun K hK=> ?_
   refine zM zQ zN [] rfl ?_
   all_goals simp only [push_cast,↓zK,↓zJ,↓reduceIte,zA,zB,zC,zD,zE,zF,zG,zH,zI,reduceCtorEq]
   all_goals repeat'(first|(apply zO<;>(intro hg;(try simp only [push_cast]at hg)))|apply And.intro|(intro hg;(try simp only [push_cast]at hg)))
   all_goals first|exact gA|(exact zU (by omega))|skip
   all_goals first|(refine hK _ ?_;clear hK K)|(simp only [push_cast];done)
   refine zL fun K hK=> ?_
   refine XN 16 2 rfl zQ zN [] rfl ?_
   simp only [push_cast,↓zK,↓zJ,↓reduceIte,zA,zB,zC,zD,zE,zF,zG,zH,zI,reduceCtorEq]
   repeat' apply And.intro
   all_goals(try simp only [push_cast,↓zK,↓zJ,↓reduceIte,zA,zB,zC,zD,zE,zF,zG,zH,zI,reduceCtorEq])
   all_goals repeat'(first|(apply zO<;>(intro hg;(try simp only [push_cast]at hg)))|(refine⟨_,hp k (by omega),?_⟩;simp only [push_cast,↓zK,↓zJ,↓reduceIte,zA,zB,zC,zD,zE,zF,zG,zH,zI,reduceCtorEq])|apply And.intro|(intro hg;(try simp only [push_cast]at hg)))
   all_goals first|exact gA|(exact zU (by omega))|skip
   all_goals first|(refine hK _ ?_;clear hK K)|(simp only [push_cast];done)
   refine zV rfl (fun hc=> ?_) (fun hc=> ?_)<;>(try simp only [push_cast]at hc)
   ·
    refine zL fun K hK=> ?_
    refine zM zQ zN [] rfl ?_
    all_goals simp only [push_cast,↓zK,↓zJ,↓reduceIte,zA,zB,zC,zD,zE,zF,zG,zH,zI,reduceCtorEq]
    all_goals repeat'(first|(apply zO<;>(intro hg;(try simp only [push_cast]at hg)))|apply And.intro|(intro hg;(try simp only [push_cast]at hg)))
    all_goals first|exact gA|(exact zU (by omega))|skip
    all_goals first|(refine hK _ ?_;clear hK K)|(simp only [push_cast];done)
    refine zZ ?_
    (try simp only [zR,zT])
    refine⟨Or.inl rfl,?_⟩
    simp only [zf,yF,ye,push_cast,↓zK,↓zJ,↓reduceIte,zA,zB,zC,zD,zE,zF,zG,zH,zI,reduceCtorEq]
    rw [kQ (k:=k) (by omega) (fun j hj=>hall j hj) hc]
   ·
    refine zX ?_
    (try simp only [zR,zT,reduceIte,zF]);refine hK3 _ ?_
    refine zM zQ zN [] rfl ?_
    all_goals simp only [push_cast,↓zK,↓zJ,↓reduceIte,zA,zB,zC,zD,zE,zF,zG,zH,zI,reduceCtorEq]
    all_goals repeat'(first|(apply zO<;>(intro hg;(try simp only [push_cast]at hg)))|apply And.intro|(intro hg;(try simp only [push_cast]at hg)))
    all_goals first|exact gA|(exact zU (by omega))|skip
    refine hL0 _ ⟨k+1,⟨by omega,fun j hj=>(by
      by_cases hjk:j=k
      ·subst hjk;exact hc
      ·exact hall j (by omega))⟩,by omega,?_⟩
    refine zb rfl ?_ ?_ ?_<;>simp only [zi,zh,push_cast,↓zK,↓zJ,↓reduceIte,zA,zB,zC,zD,zE,zF,zG,zH,zI,reduceCtorEq]
  ·
   refine zn ?_
   (try simp only [zR,zT,reduceIte,zF]);refine hK1 _ ?_
   refine zL fun K hK=> ?_
   refine zM zQ zN [] rfl ?_
   all_goals simp only [push_cast,↓zK,↓zJ,↓reduceIte,zA,zB,zC,zD,zE,zF,zG,zH,zI,reduceCtorEq]
   all_goals repeat'(first|(apply zO<;>(intro hg;(try simp only [push_cast]at hg)))|apply And.intro|(intro hg;(try simp only [push_cast]at hg)))
   all_goals first|exact gA|(exact zU (by omega))|skip
   all_goals first|(refine hK _ ?_;clear hK K)|(simp only [push_cast];done)
   refine zZ ?_
   (try simp only [zR,zT])
   refine⟨Or.inl rfl,?_⟩
   simp only [zf,yF,ye,push_cast,↓zK,↓zJ,↓reduceIte,zA,zB,zC,zD,zE,zF,zG,zH,zI,reduceCtorEq]
   rw [Jc fun j hj=>hall j (by omega)]
set_option maxRecDepth 20000 in
set_option maxHeartbeats 4000000 in
theorem Kl (ps:List Plc)(ha:QLn 1048576 ps)(u:Int)(r:List Int)(hr:r.length≤1048576):Fn Try.prog tyT 84 [.c (.lst 72 (yn ps)), .c (.int .i64 u), .c (DI r)] [.c (.int .i64 (ixQ (yj u r) ps))]:=by
 refine yG (fn:=Try.f84) (ts:= [6]) Try.func84 (by kernel_rfl) rfl rfl (by rw [Try.ntmps84];exact Nat.le_of_ble_eq_true rfl) rfl (by simp only [szA,List.mem_cons,List.not_mem_nil,or_false,forall_eq_or_imp,forall_eq,VT.cells,szL];try decide) ?_
 rw [Try.ntmps84]
 simp only [push_cast,↓zK,↓zJ,↓reduceIte,zA,zB,zC,zD,zE,zF,zG,zH,zI,reduceCtorEq]
 refine zL fun K hK=> ?_
 refine zM zQ zN [] rfl ?_
 all_goals simp only [push_cast,↓zK,↓zJ,↓reduceIte,zA,zB,zC,zD,zE,zF,zG,zH,zI,reduceCtorEq]
 all_goals repeat'(first|(apply zO<;>(intro hg;(try simp only [push_cast]at hg)))|(refine⟨_,VA ps ha _ (.int .i64 u) (DI r) [] [] (yj u r) (fun k hk=>JJ (gq ps k) (WU ha k) u r hr),?_⟩;simp only [push_cast,↓zK,↓zJ,↓reduceIte,zA,zB,zC,zD,zE,zF,zG,zH,zI,reduceCtorEq])|apply And.intro|(intro hg;(try simp only [push_cast]at hg)))
 all_goals first|exact gA|decide|skip
 all_goals first|(refine hK _ ?_;clear hK K)|(simp only [push_cast];done)
 refine zL fun K hK=> ?_
 refine XN 9 2 rfl zQ zN [] rfl ?_
 simp only [push_cast,↓zK,↓zJ,↓reduceIte,zA,zB,zC,zD,zE,zF,zG,zH,zI,reduceCtorEq]
 repeat' apply And.intro
 all_goals(try simp only [push_cast,↓zK,↓zJ,↓reduceIte,zA,zB,zC,zD,zE,zF,zG,zH,zI,reduceCtorEq])
 all_goals repeat'(first|(apply zO<;>(intro hg;(try simp only [push_cast]at hg)))|(refine⟨_,VA ps ha _ (.int .i64 u) (DI r) [] [] (yj u r) (fun k hk=>JJ (gq ps k) (WU ha k) u r hr),?_⟩;simp only [push_cast,↓zK,↓zJ,↓reduceIte,zA,zB,zC,zD,zE,zF,zG,zH,zI,reduceCtorEq])|apply And.intro|(intro hg;(try simp only [push_cast]at hg)))
 all_goals first|exact gA|decide|skip
 all_goals first|(refine hK _ ?_;clear hK K)|(simp only [push_cast];done)
 refine zZ ?_
 (try simp only [zR,zT])
 refine⟨Or.inl rfl,?_⟩
 simp only [zf,push_cast,↓zK,↓zJ,↓reduceIte,zA,zB,zC,zD,zE,zF,zG,zH,zI,reduceCtorEq]
section
variable {P:Program} {τ:Ty} {st:St}
def Zn :List (Nat×zo)→List (Nat×zo)
 | []=> []
 |(d,R)::l=>(d,{R with pin:=none})::Zn l
def St.unpin (st:St):St:=⟨st.n,st.s,st.b,Zn st.r⟩
theorem Zi : ∀(l:List (Nat×zo)) (d:Nat) (R':zo),lk (Zn l) d=some R'→∃R,lk l d=some R∧R'={R with pin:=none}
 | [],d,R',h=>by simp [Zn,lk]at h
 |(k,R)::l,d,R',h=>by
  simp only [Zn,lk]at h⊢
  split at h
  ·rename_i e
   rw [if_pos e]
   cases h
   exact⟨R,rfl,rfl⟩
  ·rename_i e
   rw [if_neg e]
   exact Zi l d R' h
mutual
theorem jo {w:World}{rr:List (Nat×zo)}{bb:List (Nat×List AV)}{hd:Nat→Value}{bk:Nat→Nat}: ∀(v:AV) (z:Value),AvR τ w rr bb hd bk v z→AvR τ w (Zn rr) bb hd bk v z
 | .int k n,z,h=>by simp only [AvR]at h⊢;exact h
 | .bool b,z,h=>by simp only [AvR]at h⊢;exact h
 | .sl d p off len e,z,h=>by
  simp only [AvR]at h⊢
  refine⟨h.1,fun R' hR' hp=> ?_⟩
  obtain⟨R,hR,rfl⟩:=Zi _ _ _ hR'
  exact h.2 R hR hp
 | .nil,z,h=>by simp only [AvR]at h⊢;exact h
 | .ep d p i,z,h=>by
  simp only [AvR]at h⊢
  refine⟨h.1,fun R' hR' hp=> ?_⟩
  obtain⟨R,hR,rfl⟩:=Zi _ _ _ hR'
  exact h.2 R hR hp
 | .bp t i,z,h=>by simp only [AvR]at h⊢;exact h
 | .agg vs,z,h=>by
  simp only [AvR]at h⊢
  obtain⟨cs,h1,h2⟩:=h
  exact⟨cs,h1,we vs cs h2⟩
 | .tup vs,z,h=>by
  simp only [AvR]at h⊢
  obtain⟨cs,h1,h2⟩:=h
  exact⟨cs,h1,we vs cs h2⟩
 | .fn f vs,z,h=>by
  simp only [AvR]at h⊢
  obtain⟨cs,h1,h2⟩:=h
  exact⟨cs,h1,we vs cs h2⟩
 | .dead,z,h=>by simp only [AvR]
 | .raw u,z,h=>by simpa only [AvR]using h
theorem we {w:World}{rr:List (Nat×zo)}{bb:List (Nat×List AV)}{hd:Nat→Value}{bk:Nat→Nat}: ∀(vs:List AV) (zs:List Value),zY τ w rr bb hd bk vs zs→zY τ w (Zn rr) bb hd bk vs zs
 | [],zs,h=>by simp only [zY]at h⊢;exact h
 |x::xs,zs,h=>by
  simp only [zY]at h⊢
  obtain⟨v,vs',h1,h2,h3⟩:=h
  exact⟨v,vs',h1,jo x v h2,we xs vs' h3⟩
end
theorem jz {c:Code}{Q:Exit→St→Prop}(hK:awp P τ c Q st.unpin):awp P τ c Q st:=fun lo w0 a w hr=>by
 obtain⟨ow,hd,bk,h⟩:=hr
 refine hK lo w0 a w ⟨ow,hd,bk,h.big,h.defers,h.size,h.low,h.below,h.ge,h.new,fun k v hv=>jo v _ (h.slot k v hv),fun d R' hR'=> ?_,fun t vs hv=> ?_,fun d R' i hR' hp=> ?_⟩
 ·obtain⟨R,hR,rfl⟩:=Zi _ _ _ hR'
  exact h.root d R hR
 ·obtain⟨cs,ty,h1,h2,h3⟩:=h.box t vs hv
  exact⟨cs,ty,h1,h2,we vs cs h3⟩
 ·obtain⟨R,hR,rfl⟩:=Zi _ _ _ hR'
  cases hp
end
attribute [push_cast] St.unpin Zn
set_option maxRecDepth 20000 in
set_option maxHeartbeats 4000000 in
theorem kw (g:Pa)(hg:g.Ln 1000000)(o p:Int)(nx:List Int)(hx:nx.length≤1000000):FnG Try.prog tyT 85 [.agg (dPa g), .c (.int .i64 o), .c (.int .i64 p), .c (DI nx)] [0,1,2,48] [] [.agg (dPa ⟨⟨g.a.owner++ [o],g.a.next++ [nx]⟩,g.prio++ [p]⟩)]:=by
 have h1:=hg.a.owner
 have h2:=hg.a.next.1
 have h3:=hg.prio
 unfold LnI at h1 h3
 unfold dPa
 refine zC3 (fn:=Try.f85) (rs:= [.cell 8 36]) (own:= [0,1,2,48]) (outs:= []) zQ zN Try.func85 (by kernel_rfl) rfl rfl (by rw [Try.ntmps85];exact Nat.le_of_ble_eq_true rfl) rfl (by simp only [szA,List.mem_cons,List.not_mem_nil,or_false,forall_eq_or_imp,forall_eq,VT.cells,szL];try decide) ?_
 rw [Try.ntmps85]
 simp only [push_cast,↓zK,↓zJ,↓reduceIte,zA,zB,zC,zD,zE,zF,zG,zH,zI,reduceCtorEq]
 refine zL fun K hK=> ?_
 refine zM zQ zN [] rfl ?_
 simp only [push_cast,↓zK,↓zJ,↓reduceIte,zA,zB,zC,zD,zE,zF,zG,zH,zI,reduceCtorEq]
 repeat' apply And.intro
 all_goals try exact gB
 all_goals first|(refine hK _ ?_;clear hK K)|(simp only [push_cast];done)
 refine jz ?_
 simp only [push_cast,↓zK,↓zJ,↓reduceIte,zA,zB,zC,zD,zE,zF,zG,zH,zI,reduceCtorEq]
 refine zL fun K hK=> ?_
 refine zM zQ zN [] rfl ?_
 simp only [push_cast,↓zK,↓zJ,↓reduceIte,zA,zB,zC,zD,zE,zF,zG,zH,zI,reduceCtorEq]
 repeat' apply And.intro
 all_goals try exact gB
 all_goals first|(refine hK _ ?_;clear hK K)|(simp only [push_cast];done)
 refine zL fun K hK=> ?_
 refine ze false zQ zN ?_ rfl ?_
 ·kernel_rfl
 simp only [push_cast,↓zK,↓zJ,↓reduceIte,zA,zB,zC,zD,zE,zF,zG,zH,zI,reduceCtorEq]
 all_goals repeat'(first|(apply zO<;>(intro hg;(try simp only [push_cast]at hg)))|apply And.intro|(intro hg;(try simp only [push_cast]at hg)))
 all_goals try exact gA
 all_goals first|(refine hK _ ?_;clear hK K)|(simp only [push_cast];done)
 refine zL fun K hK=> ?_
 refine zM zQ zN [] rfl ?_
 simp only [push_cast,↓zK,↓zJ,↓reduceIte,zA,zB,zC,zD,zE,zF,zG,zH,zI,reduceCtorEq]
 repeat' apply And.intro
 all_goals try exact gB
 all_goals first|(refine hK _ ?_;clear hK K)|(simp only [push_cast];done)
 refine zL fun K hK=> ?_
 refine zM zQ zN [] rfl ?_
 simp only [push_cast,↓zK,↓zJ,↓reduceIte,zA,zB,zC,zD,zE,zF,zG,zH,zI,reduceCtorEq]
 repeat' apply And.intro
 all_goals try exact gB
 all_goals first|(refine hK _ ?_;clear hK K)|(simp only [push_cast];done)
 refine zZ ?_
 (try simp only [zR,zT])
 refine⟨Or.inl rfl,?_⟩
 simp only [zf,yF,ye,push_cast,↓zK,↓zJ,↓reduceIte,zA,zB,zC,zD,zE,zF,zG,zH,zI,reduceCtorEq]
 exact⟨by decide,by simp,by simp,by simp⟩
end Go.Proofs.Ytipplkjdmdlhpaa
