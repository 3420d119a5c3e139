/- the game of places is a right parity game; plain -/
import Derived.Test.YtcleaokoimhedaaGreatB11zmo
import Derived.Test.YtcleaokoimhedaaGreatB19zmo
import Derived.Test.YtcleaokoimhedaaGreatB13zmo
import Derived.Test.YtcleaokoimhedaaGreatGEzmo
import Derived.Test.YtcleaokoimhedaaGreatB10zmo
import Derived.Test.YtcleaokoimhedaaGreatB14zmo
import Derived.Test.YtcleaokoimhedaaGreatB7zmo
import Derived.Test.YtcleaokoimhedaaGreatB17zmo
namespace Go.Proofs.YtcleaokoimhedaaGreat
open Go.RowKit
set_option linter.unusedVariables false
set_option linter.unusedSimpArgs false
theorem zHV {xs:List Int}{x:Int}{j:Nat}(h:j<xs.length):gi (xs++ [x]) j=gi xs j:=by
 unfold gi
 rw [List.getD_eq_getElem?_getD,List.getD_eq_getElem?_getD,List.getElem?_append_left h]
theorem zHW (xs:List Int)(x:Int):gi (xs++ [x]) xs.length=x:=by
 unfold gi
 rw [List.getD_eq_getElem?_getD,List.getElem?_append_right (Nat.le_refl _)]
 simp
theorem zNM (ps:List Plc)(p:Plc):gq (ps++ [p]) ps.length=p:=by
 unfold gq
 rw [List.getD_eq_getElem?_getD,List.getElem?_append_right (Nat.le_refl _)]
 simp
theorem zNS {p:Plc→Bool}{ps:List Plc}(h: ¬ixQ p ps<0):(ixQ p ps).toNat<ps.length∧p (gq ps (ixQ p ps).toNat)=true:=by
 unfold ixQ at h⊢
 split
 ·rename_i h1
  rw [Int.toNat_natCast]
  refine⟨h1,?_⟩
  rw [←UC h1]
  exact List.findIdx_getElem (w:=h1)
 ·rename_i h1
  rw [if_neg h1]at h
  omega
theorem zJ6 {u:Int}{r:List Int}{p:Plc}(h:xD u r p=true):p=⟨u,r⟩:=by
 unfold xD at h
 rw [Bool.and_eq_true,decide_eq_true_eq,decide_eq_true_eq]at h
 obtain⟨a,b⟩:=p
 obtain⟨h1,h2⟩:=h
 simp only at h1 h2
 rw [h1,h2]
theorem Wh {r us:List Int}{ps:List Plc}: ∀{k:Nat},k≤us.length→∀j,j<k→(0≤gi (zu r us ps k).2 j∧gi (zu r us ps k).2 j<(zu r us ps k).1.length)∧gq (zu r us ps k).1 (gi (zu r us ps k).2 j).toNat=⟨gi us j,r⟩
 |0,_,j,hj=>absurd hj (Nat.not_lt_zero j)
 |k+1,hk,j,hj=>by
  have ih:=Wh (r:=r) (us:=us) (ps:=ps) (k:=k) (by omega)
  have hl:=qK (r:=r) (us:=us) (ps:=ps) (k:=k) (by omega)
  by_cases h2:ixQ (xD (gi us k) r) (zu r us ps k).1<0
  ·rw [wS (by omega) h2]
   simp only
   by_cases e:j=k
   ·subst e
    rw [show gi ((zu r us ps j).2++ [((zu r us ps j).1.length:Int)]) j=((zu r us ps j).1.length:Int)from by
     have :=zHW (zu r us ps j).2 ((zu r us ps j).1.length:Int)
     rw [hl.1]at this
     exact this]
    rw [List.length_append,List.length_singleton,Int.toNat_natCast,zNM]
    exact⟨by omega,rfl⟩
   ·have h3:=ih j (by omega)
    rw [zHV (by omega),List.length_append,List.length_singleton,zHZ (by omega)]
    exact⟨by omega,h3.2⟩
  ·rw [ZF (by omega) h2]
   simp only
   by_cases e:j=k
   ·subst e
    have h4:=zNS h2
    rw [show gi ((zu r us ps j).2++ [ixQ (xD (gi us j) r) (zu r us ps j).1]) j=ixQ (xD (gi us j) r) (zu r us ps j).1 from by
     have :=zHW (zu r us ps j).2 (ixQ (xD (gi us j) r) (zu r us ps j).1)
     rw [hl.1]at this
     exact this]
    exact⟨by omega,zJ6 h4.2⟩
   ·have h3:=ih j (by omega)
    rw [zHV (by omega)]
    exact h3
theorem ZR {r:List Int}{i:Nat}(h:i<r.length):gi r i=r[i]:=by
 unfold gi
 rw [List.getD_eq_getElem?_getD,List.getElem?_eq_getElem h]
 rfl
theorem zIF {r us:List Int}{ps:List Plc}(hu:us.Pairwise (· < ·)):(zu r us ps us.length).2.Nodup:=by
 have hl:=(qK (r:=r) (us:=us) (ps:=ps) (Nat.le_refl _)).1
 rw [List.Nodup,List.pairwise_iff_getElem]
 intro i j hi hj hij e
 rw [hl]at hi hj
 have h1:=(Wh (r:=r) (us:=us) (ps:=ps) (Nat.le_refl _) i hi).2
 have h2:=(Wh (r:=r) (us:=us) (ps:=ps) (Nat.le_refl _) j hj).2
 rw [ZR (by omega),e,←ZR (by omega),h2]at h1
 have h3:gi us j=gi us i:=congrArg Plc.at_ h1
 rw [ZR hi,ZR hj]at h3
 have :=(List.pairwise_iff_getElem.1 hu) i j hi hj hij
 omega
theorem zBa {xs:List Int}{n:Int}(h:xs.Pairwise (· < ·))(h2: ∀x∈xs,0≤x∧x<n):xN xs n=true:=by
 refine wn fun k hk=> ?_
 unfold qr
 have h3:=h2 (gi xs k) (by rw [ZR hk];exact List.getElem_mem hk)
 refine decide_eq_true ⟨h3.1,h3.2,?_⟩
 rcases Nat.eq_zero_or_pos k with e|e
 ·exact .inl e
 ·right
  rw [ZR hk,ZR (by omega)]
  exact(List.pairwise_iff_getElem.1 h) (k - 1) k (by omega) hk (by omega)
theorem zME {xs:List Int}(h:xs.Nodup):(yZ xs).Pairwise (· < ·):=by
 have h1:=Qz xs
 have h2:(yZ xs).Nodup:=(vm xs).nodup_iff.2 h
 exact(h1.and h2).imp fun{a b} hab=>by
  have h3:=hab.1
  have h4:=hab.2
  omega
section
variable {a:Ar} {rc:Plc→List Int} {pr:Plc→Int} {p0:Plc} {V:List Int→Prop} {B:Nat}
theorem Wi (hok:okQ (usA a) rc p0=true){n:Nat}(hn:n=(stQ (usA a) rc p0 257).length):n≤256∧stQ (usA a) rc p0 n=stQ (usA a) rc p0 257∧1≤n∧∀j,j<n→j<(stQ (usA a) rc p0 j).length:=by
 have h1:n≤256:=by unfold okQ at hok;rw [decide_eq_true_eq]at hok;omega
 have h2:=zFh (a:=a) (rc:=rc) (p0:=p0) (n:=n) (by omega) (by omega)
 have h3:1≤(stQ (usA a) rc p0 257).length:=by
  have :=Yz (us:=usA a) (rc:=rc) (p0:=p0) (i:=0) (j:=257) (by omega)
  rwa [show stQ (usA a) rc p0 0= [p0]from by rw [stQ]]at this
 have h4:=Yz (us:=usA a) (rc:=rc) (p0:=p0) (i:=n) (j:=257) (by omega)
 have h5:=Ji (us:=usA a) (rc:=rc) (p0:=p0) (i:=n) (by omega) (j:=257) (by omega)
 exact⟨h1,h5.symm,by omega,h2⟩
theorem zHY (ha:yi a=true)(h:Wr a rc p0 V B)(hok:okQ (usA a) rc p0=true)(hpr: ∀p:Plc,0≤p.at_→p.at_<(a.owner.length:Int)→V p.record→0≤pr p∧pr p≤40):yL (gmA a rc pr p0 (stQ (usA a) rc p0 257).length)=true:=by
 obtain⟨n,hn⟩: ∃n,n=(stQ (usA a) rc p0 257).length:=⟨_,rfl⟩
 rw [←hn]
 obtain⟨h1,h2,h3,h4⟩:=Wi hok hn
 have hl:=yQ ha
 have hplq: ∀v,v<n→0≤(plQ (usA a) rc p0 v).at_∧(plQ (usA a) rc p0 v).at_<a.owner.length∧V (plQ (usA a) rc p0 v).record:=fun v hv=>Yg ha h v _ (qH (h4 v hv))
 refine XO (XH ⟨?_,?_,?_⟩ fun v hv=> ?_) ?_ fun k hk=> ?_
 ·show 1≤(qC a rc p0 n).length;rw [vB];exact h3
 ·show(qC a rc p0 n).length≤256;rw [vB];exact h1
 ·show(nxG a rc p0 n).length=(qC a rc p0 n).length;rw [vB,WY]
 ·have hv:v<n:=by have :v<(qC a rc p0 n).length:=hv;rwa [vB]at this
  have hp:=hplq v hv
  have ho:gi (qC a rc p0 n) v=gi a.owner (plQ (usA a) rc p0 v).at_.toNat:=by
   unfold qC
   rw [ZR (by simp;exact hv)]
   simp
  have hx:gl (nxG a rc p0 n) v=nxQ (usA a) rc p0 v:=by
   unfold nxG gl
   rw [List.getD_eq_getElem?_getD,List.getElem?_map,List.getElem?_range hv]
   rfl
  have hat:=yl ha (v:=(plQ (usA a) rc p0 v).at_.toNat) (by omega)
  have hnl:(nxQ (usA a) rc p0 v).length=(usA a (plQ (usA a) rc p0 v)).length:=by
   unfold nxQ
   rw [qS]
   exact(qK (Nat.le_refl _)).1
  unfold vb VQ
  rw [Bool.and_eq_true,decide_eq_true_eq]
  show(0≤gi (qC a rc p0 n) v∧gi (qC a rc p0 n) v≤1∧1≤(gl (nxG a rc p0 n) v).length∧(gl (nxG a rc p0 n) v).length≤16)∧xN (gl (nxG a rc p0 n) v) (qC a rc p0 n).length=true
  rw [ho,hx,hnl,vB]
  refine⟨⟨hat.1,hat.2.1,hat.2.2.1,hat.2.2.2.1⟩,?_⟩
  refine zBa (zME (zIF (zIL hat.2.2.2.2))) fun x hx=> ?_
  have hx2:=(vm _).mem_iff.1 hx
  obtain⟨j,hj,rfl⟩:=List.mem_iff_getElem.1 hx2
  have hlen:=(qK (r:=rc (plQ (usA a) rc p0 v)) (us:=usA a (plQ (usA a) rc p0 v)) (ps:=stQ (usA a) rc p0 v) (Nat.le_refl _)).1
  have hj2:j<(usA a (plQ (usA a) rc p0 v)).length:=Nat.lt_of_lt_of_eq hj hlen
  have h5:=(Wh (r:=rc (plQ (usA a) rc p0 v)) (us:=usA a (plQ (usA a) rc p0 v)) (ps:=stQ (usA a) rc p0 v) (Nat.le_refl _) j hj2).1
  rw [ZR (by omega)]at h5
  have h6:(stQ (usA a) rc p0 (v+1)).length≤n:=by
   have :=Yz (us:=usA a) (rc:=rc) (p0:=p0) (i:=v+1) (j:=n) (by omega)
   rw [h2]at this
   omega
  rw [XP (h4 v hv)]at h6
  have h7:(zu (rc (plQ (usA a) rc p0 v)) (usA a (plQ (usA a) rc p0 v)) (stQ (usA a) rc p0 v) (usA a (plQ (usA a) rc p0 v)).length).1.length≤n:=h6
  exact⟨h5.1,Int.lt_of_lt_of_le h5.2 (by omega)⟩
 ·show(prG a rc pr p0 n).length=(qC a rc p0 n).length;rw [vB,QP]
 ·have hk:k<n:=by have :k<(prG a rc pr p0 n).length:=hk;rwa [QP]at this
  have hp:=hplq k hk
  have :gi (prG a rc pr p0 n) k=pr (plQ (usA a) rc p0 k):=by
   unfold prG
   rw [ZR (by simp;exact hk)]
   simp
  show 0≤gi (prG a rc pr p0 n) k∧gi (prG a rc pr p0 n) k≤40
  rw [this]
  exact hpr _ hp.1 hp.2.1 hp.2.2
end
theorem Xr {r:List Int}{i:Nat}(h:i<r.length):gi r i=r[i]:=by
 unfold gi
 rw [List.getD_eq_getElem?_getD,List.getElem?_eq_getElem h]
 rfl
theorem jO {r:List Int}{x:Int}(h:x∈r): ∃i,i<r.length∧gi r i=x:=by
 obtain⟨i,hi,e⟩:=List.mem_iff_getElem.1 h
 exact⟨i,hi,by rw [Xr hi];exact e⟩
theorem zKQ {r:List Int}(h:r.Nodup){i j:Nat}(hi:i<r.length)(hj:j<r.length)(e:gi r i=gi r j):i=j:=by
 rw [Xr hi,Xr hj]at e
 have h2:=List.pairwise_iff_getElem.1 h
 rcases Nat.lt_trichotomy i j with h1|h1|h1
 ·exact absurd e (h2 i j hi hj h1)
 ·exact h1
 ·exact absurd e.symm (h2 j i hj hi h1)
theorem zLz {q:Int→Bool}{r:List Int}{i:Nat}(hi:i<r.length)(hx:q (gi r i)=false): ∃j,i≤j∧j<(r.filter q++r.filter (fun x=> !q x)).length∧gi (r.filter q++r.filter (fun x=> !q x)) j=gi r i∧((∃m,i<m∧m<r.length∧q (gi r m)=true)→i<j):=by
 have hr:r=r.take i++gi r i::r.drop (i+1):=by
  rw [Xr hi]
  rw [List.getElem_cons_drop,List.take_append_drop]
 have hsplit: ∀l:List Int,l.length=(l.filter q).length+(l.filter (fun x=> !q x)).length:=fun l=>by
  induction l with
  |nil=>rfl
  |cons y l ih=>
   cases hy:q y<;>simp only [List.filter_cons,hy,List.length_cons,ih]<;>simp<;>omega
 have hti:(r.take i).length=i:=by rw [List.length_take];omega
 have h1:=hsplit (r.take i)
 rw [hti]at h1
 have hp:(r.filter q).length=((r.take i).filter q).length+((r.drop (i+1)).filter q).length:=by
  conv=>lhs;rw [hr]
  rw [List.filter_append,List.filter_cons,if_neg (by rw [hx];decide),List.length_append]
 have hq:r.filter (fun x=> !q x)=(r.take i).filter (fun x=> !q x)++gi r i::(r.drop (i+1)).filter (fun x=> !q x):=by
  conv=>lhs;rw [hr]
  rw [List.filter_append,List.filter_cons,if_pos (by rw [hx];rfl)]
 refine⟨(r.filter q).length+((r.take i).filter (fun x=> !q x)).length,by omega,?_,?_,?_⟩
 ·rw [List.length_append,hq,List.length_append,List.length_cons]
  omega
 ·unfold gi
  rw [List.getD_eq_getElem?_getD,List.getElem?_append_right (by omega),Nat.add_sub_cancel_left,hq,List.getElem?_append_right (Nat.le_refl _),Nat.sub_self]
  rfl
 ·rintro⟨m,h2,h3,h4⟩
  have h5:gi r m∈(r.drop (i+1)).filter q:=by
   refine List.mem_filter.2 ⟨?_,h4⟩
   rw [Xr h3]
   refine List.mem_iff_getElem.2 ⟨m - (i+1),by rw [List.length_drop];omega,?_⟩
   rw [List.getElem_drop]
   congr 1
   omega
  have h6:0<((r.drop (i+1)).filter q).length:=List.length_pos_of_mem h5
  omega
theorem zI9 {r:List Int}(hn:r.Nodup){v:Int}(h:v∈r):r.filter (fun x=>decide (x=v))= [v]:=by
 induction r with
 |nil=>cases h
 |cons y r ih=>
  rw [List.nodup_cons]at hn
  by_cases e:y=v
  ·subst e
   rw [List.filter_cons,if_pos (decide_eq_true rfl)]
   congr 1
   rw [List.filter_eq_nil_iff]
   intro x hx h9
   rw [decide_eq_true_eq]at h9
   subst h9
   exact hn.1 hx
  ·rw [List.filter_cons,if_neg (by rw [decide_eq_true_eq];exact e)]
   rcases List.mem_cons.1 h with h9|h9
   ·exact absurd h9.symm e
   ·exact ih hn.2 h9
theorem zGW {r:List Int}(hn:r.Nodup)(v:Int):jY r v=r.filter (fun x=>decide (x=v))++r.filter (fun x=> !decide (x=v)):=by
 cases hb:yI r v with
 |true=>
  rw [zHv hb,zI9 hn ((xe _ _).1 hb)]
  rfl
 |false=>
  have hnv: ¬v∈r:=fun h=>by rw [(xe _ _).2 h]at hb;cases hb
  rw [zJc hb,List.filter_eq_nil_iff.2 fun x hx h9=>by rw [decide_eq_true_eq]at h9;subst h9;exact hnv hx,List.nil_append]
  symm
  rw [List.filter_eq_self]
  intro x hx
  rw [Bool.not_eq_true',decide_eq_false_iff_not]
  rintro rfl
  exact hnv hx
structure qu (f:Fm)(L:Nat)(rec:Nat→List Int)(v:Nat→Int):Prop where
 pos:0<L
 ok: ∀t,visB f (rec t)=true
 next: ∀t,rec (t+1)=jY (rec t) (v t)
 perR: ∀t,rec (t+L)=rec t
 perV: ∀t,v (t+L)=v t
section
variable {f:Fm} {L:Nat} {rec:Nat→List Int} {v:Nat→Int}
theorem qu.nd (h:qu f L rec v)(t:Nat):(rec t).Nodup:=(Kx (h.ok t)).2.2.2.1
theorem qu.mem (h:qu f L rec v)(t:Nat)(x:Int):x∈rec t↔x∈f.names:=(Kx (h.ok t)).2.2.2.2 x
theorem qu.len (h:qu f L rec v)(t:Nat):(rec t).length=f.names.length:=by
 have :=(Kx (h.ok t)).2.1
 rw [←this,qS]
theorem qu.up (h:qu f L rec v){t i:Nat}(hi:i<f.names.length)(hx: ¬gi (rec t) i=v t): ∃j,i≤j∧j<f.names.length∧gi (rec (t+1)) j=gi (rec t) i∧((∃m,i<m∧m<f.names.length∧gi (rec t) m=v t)→i<j):=by
 obtain⟨j,h1,h2,h3,h4⟩:=zLz (q:=fun x=>decide (x=v t)) (r:=rec t) (i:=i) (by rw [h.len];exact hi) (decide_eq_false hx)
 rw [←zGW (h.nd t),←h.next]at h2 h3
 rw [h.len]at h2
 exact⟨j,h1,h2,h3,fun⟨m,m1,m2,m3⟩=>h4 ⟨m,m1,by rw [h.len];exact m2,decide_eq_true m3⟩⟩
theorem qu.mono (h:qu f L rec v){T i:Nat}(hi:i<f.names.length): ∀d,(∀s,s<d→¬gi (rec T) i=v (T+s))→∃j,i≤j∧j<f.names.length∧gi (rec (T+d)) j=gi (rec T) i
 |0,_=>⟨i,Nat.le_refl _,hi,rfl⟩
 |d+1,hg=>by
  obtain⟨j,h1,h2,h3⟩:=qu.mono h hi d fun s hs=>hg s (by omega)
  have hgd:=hg d (by omega)
  rw [←h3]at hgd
  obtain⟨m,k1,k2,k3,-⟩:=h.up h2 hgd
  exact⟨m,by omega,k2,k3.trans h3⟩
theorem qu.per (h:qu f L rec v)(t:Nat): ∀m,rec (t+m*L)=rec t∧v (t+m*L)=v t
 |0=>by simp
 |m+1=>by
  have ih:=qu.per h t m
  rw [show t+(m+1)*L=(t+m*L)+L from by rw [Nat.succ_mul];omega,h.perR,h.perV]
  exact ih
theorem qu.mod (h:qu f L rec v)(t:Nat):rec t=rec (t%L)∧v t=v (t%L):=by
 have :=h.per (t%L) (t / L)
 rw [show t%L+t / L*L=t from by rw [Nat.mul_comm];exact Nat.mod_add_div t L]at this
 exact this
theorem qu.never (h:qu f L rec v){t i:Nat}(hi:i<f.names.length)(hn: ∀s,¬gi (rec t) i=v s){m:Nat}(hm:m<f.names.length)(hg:gi (rec t) m=v t):m<i:=by
 rcases Nat.lt_trichotomy m i with h1|h1|h1
 ·exact h1
 ·subst h1;exact absurd hg (hn t)
 ·exfalso
  obtain⟨j,k1,k2,k3,k4⟩:=h.up (t:=t) hi (hn t)
  have k5:=k4 ⟨m,h1,hm,hg⟩
  obtain⟨q,q1,q2,q3⟩:=h.mono (T:=t+1) k2 (L - 1) fun s _=>by rw [k3];exact hn _
  rw [show t+1+(L - 1)=t+L from by have :=h.pos;omega,h.perR,k3]at q3
  have hl:=h.len t
  have :=zKQ (h.nd t) (by omega) (by omega) q3
  omega
theorem Kq {r:List Int}{x:Int}(hn:r.Nodup){i:Nat}(hi:i<r.length)(e:gi r i=x):QC f r x=2*i+(if Vs f.sets (Yd f.names (r.take (i+1)))then 2 else 1):=
 zJu hi (fun j hj e9=>by have :=zKQ hn (i:=j) (j:=i) (by omega) hi (e9.trans e.symm);omega) e
theorem qu.law (h:qu f L rec v){M:Int}(h1: ∃T,T<L∧QC f (rec T) (v T)=M)(h2: ∀t,t<L→QC f (rec t) (v t)≤M){met:List Int}(hm: ∀x,x∈f.names→(yI met x=true↔∃t,t<L∧v t=x)):
  M%2=0↔Vs f.sets (Yd f.names met)=true:=by
 have hmax: ∀t,QC f (rec t) (v t)≤M:=fun t=>by
  have :=h.mod t
  rw [this.1,this.2]
  exact h2 _ (Nat.mod_lt _ h.pos)
 obtain⟨T,hT,hM⟩:=h1
 have hnone: ∀t,yI (rec t) (v t)=false→QC f (rec t) (v t)=if Vs f.sets []then 0 else 1:=fun t e=>by unfold QC;rw [e];rfl
 rcases Classical.em (∃t,yI (rec t) (v t)=true)with hex|hno
 ·-- a time at which a name is met,with the greatest priority
  have key: ∃T1,yI (rec T1) (v T1)=true∧QC f (rec T1) (v T1)=M:=by
   cases hb:yI (rec T) (v T)with
   |true=>exact⟨T,hb,hM⟩
   |false=>
    obtain⟨t0,ht0⟩:=hex
    refine⟨t0,ht0,?_⟩
    obtain⟨i,hi,e⟩:=jO ((xe _ _).1 ht0)
    have e1:=Kq (f:=f) (h.nd t0) hi e
    have e2:=hnone T hb
    have e3:=hmax t0
    have e4:M≤1:=by rw [←hM,e2];split<;>omega
    have e5:(1:Int)≤(if Vs f.sets (Yd f.names ((rec t0).take (i+1)))then 2 else 1):=by split<;>omega
    rw [e1]at e3⊢
    omega
  obtain⟨T1,ht1,hM1⟩:=key
  obtain⟨c,hc,hce⟩:=jO ((xe _ _).1 ht1)
  have hlc:=h.len T1
  have e1:=Kq (f:=f) (h.nd T1) hc hce
  have hset:Yd f.names ((rec T1).take (c+1))=Yd f.names met:=by
   unfold Yd
   refine List.filter_congr fun x hx=> ?_
   rw [Bool.eq_iff_iff,hm x hx,xe]
   constructor
   ·intro hxm
    obtain⟨p,hp,hpe⟩:=jO hxm
    rw [List.length_take]at hp
    have hpe2:gi (rec T1) p=x:=by
     rw [←hpe]
     unfold gi
     rw [List.getD_eq_getElem?_getD,List.getD_eq_getElem?_getD,List.getElem?_take,if_pos (by omega)]
    rcases Classical.em (∃s,v s=x)with⟨s,hs⟩|hv
    ·exact⟨s%L,Nat.mod_lt _ h.pos,by rw [←(h.mod s).2];exact hs⟩
    ·exfalso
     have :=h.never (t:=T1) (i:=p) (by omega) (fun s e=>hv ⟨s,by rw [←e];exact hpe2⟩) (m:=c) (by omega) hce
     omega
   ·rintro⟨s,hs,hse⟩
    obtain⟨p,hp,hpe⟩:=jO ((h.mem T1 x).2 hx)
    rcases Nat.lt_or_ge c p with hcp|hcp
    ·exfalso
     -- its first visit from T1 on
     have hexd: ∃d,v (T1+d)=x:=by
      have h9:=h.per s (T1+1)
      have h10:T1+1≤(T1+1)*L:=Nat.le_mul_of_pos_right _ h.pos
      refine⟨s+(T1+1)*L - T1,?_⟩
      rw [show T1+(s+(T1+1)*L - T1)=s+(T1+1)*L from by omega,h9.2]
      exact hse
     have hfst9: ∀n,(∃d,d<n∧v (T1+d)=x∧∀q,q<d→¬v (T1+q)=x)∨∀q,q<n→¬v (T1+q)=x:=by
      intro n
      induction n with
      |zero=>exact .inr fun q hq=>absurd hq (Nat.not_lt_zero q)
      |succ n ih=>
       rcases ih with⟨d,d1,d2,d3⟩|ih
       ·exact .inl ⟨d,by omega,d2,d3⟩
       ·by_cases hb:v (T1+n)=x
        ·exact .inl ⟨n,by omega,hb,ih⟩
        ·refine .inr fun q hq=> ?_
         rcases Nat.lt_or_ge q n with h9|h9
         ·exact ih q h9
         ·rw [show q=n by omega];exact hb
     obtain⟨d0,hd0⟩:=hexd
     rcases hfst9 (d0+1)with⟨d,-,d2,d3⟩|hk
     ·obtain⟨j,j1,j2,j3⟩:=h.mono (T:=T1) (i:=p) (by omega) d fun q hq=>by rw [hpe];exact fun e=>d3 q hq e.symm
      have hlj:=h.len (T1+d)
      have e5:=Kq (f:=f) (h.nd (T1+d)) (i:=j) (x:=v (T1+d)) (by omega) (by rw [j3,hpe,d2])
      have e6:=hmax (T1+d)
      rw [e5]at e6
      rw [←hM1,e1]at e6
      split at e6<;>split at e6<;>omega
     ·exact absurd hd0 (hk d0 (by omega))
    ·refine List.mem_iff_getElem.2 ⟨p,by rw [List.length_take];omega,?_⟩
     rw [List.getElem_take,←Xr hp]
     exact hpe
  rw [←hset,←hM1,e1]
  cases Vs f.sets (Yd f.names ((rec T1).take (c+1)))with
  |true=>simp only [if_true,iff_true];omega
  |false=>simp only [Bool.false_eq_true,if_false,iff_false];omega
 ·have hb: ∀t,yI (rec t) (v t)=false:=fun t=>by
   cases hb:yI (rec t) (v t)with
   |false=>rfl
   |true=>exact absurd ⟨t,hb⟩ hno
  have hset:Yd f.names met= []:=by
   unfold Yd
   rw [List.filter_eq_nil_iff]
   intro x hx hxm
   obtain⟨t,ht,e⟩:=(hm x hx).1 hxm
   have :=hb t
   rw [e,(xe _ _).2 ((h.mem t x).2 hx)]at this
   cases this
  rw [hset,←hM,hnone T (hb T)]
  cases Vs f.sets []<;>simp
end
section
variable {a:Ar} {rc:Plc→List Int} {pr:Plc→Int} {p0:Plc} {V:List Int→Prop} {B:Nat}
theorem zKf {i:Nat}{k:Nat}(hk:k<(stQ (usA a) rc p0 i).length): ∀d,gq (stQ (usA a) rc p0 (i+d)) k=gq (stQ (usA a) rc p0 i) k
 |0=>rfl
 |d+1=>by
  have ih:=zKf hk d
  have hm:=Yz (us:=usA a) (rc:=rc) (p0:=p0) (i:=i) (j:=i+d) (by omega)
  by_cases h:i+d<(stQ (usA a) rc p0 (i+d)).length
  ·rw [show i+(d+1)=i+d+1 from rfl,XP h]
   rw [show uH (usA a) rc p0 (i+d) (usA a (plQ (usA a) rc p0 (i+d))).length=zu (rc (gq (stQ (usA a) rc p0 (i+d)) (i+d))) (usA a (gq (stQ (usA a) rc p0 (i+d)) (i+d))) (stQ (usA a) rc p0 (i+d)) (usA a (gq (stQ (usA a) rc p0 (i+d)) (i+d))).length from rfl]
   rw [jj (by omega) (Nat.le_refl _)]
   exact ih
  ·rw [show i+(d+1)=i+d+1 from rfl,Jh h]
   exact ih
theorem Ku {i j:Nat}(hij:i≤j){k:Nat}(hk:k<(stQ (usA a) rc p0 i).length):gq (stQ (usA a) rc p0 j) k=gq (stQ (usA a) rc p0 i) k:=by
 have :=zKf hk (j - i)
 rwa [show i+(j - i)=j by omega]at this
abbrev plA (a:Ar)(rc:Plc→List Int)(p0:Plc):List Plc:=stQ (usA a) rc p0 257
theorem Ua (hok:okQ (usA a) rc p0=true){v:Nat}(hv:v<(plA a rc p0).length){x:Int}(hx:yI (nxQ (usA a) rc p0 v) x=true):
  (0≤x∧x<(plA a rc p0).length)∧(gq (plA a rc p0) x.toNat).record=rc (gq (plA a rc p0) v)∧yI (gl a.next (gq (plA a rc p0) v).at_.toNat) (gq (plA a rc p0) x.toNat).at_=true:=by
 obtain⟨h1,h2,h3,h4⟩:=Wi (n:=(plA a rc p0).length) hok rfl
 have hv2:=h4 v hv
 have hpv:gq (plA a rc p0) v=plQ (usA a) rc p0 v:=Ku (i:=v) (by omega) hv2
 have hx2:=(vm _).mem_iff.1 ((xe _ _).1 hx)
 obtain⟨j,hj,e⟩:=List.mem_iff_getElem.1 hx2
 have hlen:=(qK (r:=rc (plQ (usA a) rc p0 v)) (us:=usA a (plQ (usA a) rc p0 v)) (ps:=stQ (usA a) rc p0 v) (Nat.le_refl _)).1
 have hj2:j<(usA a (plQ (usA a) rc p0 v)).length:=Nat.lt_of_lt_of_eq hj hlen
 have h5:=Wh (r:=rc (plQ (usA a) rc p0 v)) (us:=usA a (plQ (usA a) rc p0 v)) (ps:=stQ (usA a) rc p0 v) (Nat.le_refl _) j hj2
 have e2:gi (zu (rc (plQ (usA a) rc p0 v)) (usA a (plQ (usA a) rc p0 v)) (stQ (usA a) rc p0 v) (usA a (plQ (usA a) rc p0 v)).length).2 j=x:=by
  rw [ZR (by omega)];exact e
 rw [e2]at h5
 have h6:=XP hv2
 have h7:stQ (usA a) rc p0 (v+1)=(zu (rc (plQ (usA a) rc p0 v)) (usA a (plQ (usA a) rc p0 v)) (stQ (usA a) rc p0 v) (usA a (plQ (usA a) rc p0 v)).length).1:=h6
 rw [←h7]at h5
 have h8:=Yz (us:=usA a) (rc:=rc) (p0:=p0) (i:=v+1) (j:=257) (by omega)
 have h9:gq (plA a rc p0) x.toNat=⟨gi (usA a (plQ (usA a) rc p0 v)) j,rc (plQ (usA a) rc p0 v)⟩:=by
  rw [←h5.2]
  exact Ku (i:=v+1) (by omega) (by omega)
 refine⟨⟨h5.1.1,by show x<((stQ (usA a) rc p0 257).length:Int);omega⟩,?_,?_⟩
 ·rw [h9,hpv]
 ·rw [h9,hpv,xe]
  show gi (gl a.next (plQ (usA a) rc p0 v).at_.toNat) j∈_
  have :j<(gl a.next (plQ (usA a) rc p0 v).at_.toNat).length:=hj2
  rw [Xr this]
  exact List.getElem_mem this
theorem zC7 (n:Nat):(gmA a rc pr p0 n).a.owner.length=n:=vB n
theorem zGG {n v:Nat}(h:v<n):gl (gmA a rc pr p0 n).a.next v=nxQ (usA a) rc p0 v:=by
 show gl (nxG a rc p0 n) v=_
 unfold nxG gl
 rw [List.getD_eq_getElem?_getD,List.getElem?_map,List.getElem?_range h]
 rfl
theorem gm_pr {n v:Nat}(h:v<n):gi (gmA a rc pr p0 n).prio v=pr (plQ (usA a) rc p0 v):=by
 show gi (prG a rc pr p0 n) v=_
 unfold prG
 rw [ZR (by simp;exact h)]
 simp
end
section
variable {a:Ar} {ps:List Pr} {s:Int}
theorem wH (h:rgB a ps s=true):rgC a ps s=true∧okQ (usA a) (rcR ps) ⟨s,zW ps.length⟩=true:=by
 unfold rgB at h
 rw [Bool.and_eq_true]at h
 exact h
theorem Uf (h:rgB a ps s=true):rgG a ps s=gmA a (rcR ps) (prR ps) ⟨s,zW ps.length⟩ (plA a (rcR ps) ⟨s,zW ps.length⟩).length∧rgP a ps s=plA a (rcR ps) ⟨s,zW ps.length⟩:=by
 obtain⟨h1,h2⟩:=wH h
 unfold rgG rgP gmR plR
 rw [h1,h2,Bool.and_self,if_pos rfl,if_pos rfl]
 unfold plA
 exact⟨Eq.refl _,Eq.refl _⟩
theorem rg_pr {p:Plc}{k:Nat}(h:vZ p.record (k:Int)=true):0≤prR ps p∧prR ps p≤40:=by
 have h1:=(xB h).1
 have h2:=zJt ps p.record p.at_
 unfold prR
 omega
theorem ZE (h:rgB a ps s=true):yL (rgG a ps s)=true:=by
 obtain⟨h1,h2⟩:=wH h
 obtain⟨k1,k2,k3⟩:=xz h1
 rw [(Uf h).1]
 exact zHY k1 k3 h2 fun p _ _ hp=>rg_pr hp
end
section
variable {P:Program} {np:Bool} {τ:Ty} {lo:Nat} {w0:Fz} {ow:Nat→Option Pl} {hd:Nat→Value} {bk:Nat→Nat} {st:St} {a:Act} {w:World}
def St.top (d:Nat)(st:St):St:=match lk st.r d with
 |some R=>match R.o with
  | .ex=>st.setR d {R with o:= .top}
  |_=>st
 |none=>st
theorem zIg (h:zl τ lo w0 ow hd bk st a w){d:Nat}{R:zq}(hR:lk st.r d=some R)(ho:R.o= .ex):
  zl τ lo w0 (wQ ow d fun q=>match q with| []=>some (.root d [])|_=>none) hd bk (st.setR d {R with o:= .top}) a w:=by
 obtain⟨ow',how⟩: ∃ow',(wQ ow d fun q=>match q with| []=>some (.root d [])|_=>none)=ow':=⟨_,rfl⟩
 have e0: ∀b,ow b=some (.root d [])→ow' b=some (.root d []):=fun b e=>by rw [←how,wR e]
 have e1: ∀b i q,ow b=some (.root d (i::q))→ow' b=none:=fun b i q e=>by rw [←how,wR e]
 have e2: ∀b,(∀q,ow b≠some (.root d q))→ow' b=ow b:=fun b hb=>by rw [←how];exact xf hb
 rw [how]
 have hD: ∀k,noB k=false→xL w w st.r (st.setR d {R with o:= .top}).r hd hd k:=fun k _ R' hR'=>by
  simp only [St.setR,zi]at hR'
  split at hR'
  ·rename_i e;subst e;cases hR';exact⟨R,hR,rfl,fun p hp=>⟨hp,rfl⟩⟩
  ·exact⟨R',hR',rfl,fun p hp=>⟨hp,rfl⟩⟩
 have hB: ∀t,noB t=false→xK st.b st.b bk bk t:=fun t _ hl=>⟨hl,rfl⟩
 refine⟨h.big,h.defers,h.size,h.low,h.below,fun b p hlt hb hp=> ?_,fun b hb=> ?_,fun k v hv=> ?_,fun k R' hR'=> ?_,fun t vs hv=> ?_,fun k R' i hR' hp=> ?_⟩
 ·by_cases hq: ∃q,ow b=some (.root d q)
  ·obtain⟨q,hq⟩:=hq;exact h.ge b _ hlt hq (by simp)
  ·rw [e2 b (fun q e=>hq ⟨q,e⟩)]at hb;exact h.ge b p hlt hb hp
 ·rw [e2 b (fun q e=>by rw [h.new b hb]at e;cases e)];exact h.new b hb
 ·have :=xE hD hB v _ (h.slot k v hv)
  rwa [vO]at this
 ·simp only [St.setR,zi]at hR'
  split at hR'
  ·rename_i e
   subst e
   cases hR'
   have h0:=h.root d R hR
   rw [ho]at h0
   obtain⟨vs,⟨k1,N,k2,k3⟩,k5⟩:=(zy _ _).1 h0
   simp only [md]at k3⊢
   refine(zy _ _).2 ⟨vs,⟨k1,N,k2,⟨k3.1,fun b hb=>e0 b (k3.2 b hb)⟩⟩,fun i x u hx hu=> ?_⟩
   refine QY _ _ _ _ _ (fun b hb hr=> ?_) (k5 i x u hx hu)
   simp only [md,Md.kid,rel]at hr
   obtain⟨q,hq⟩:=hr
   exact e1 b i q (by simpa using hq)
  ·rename_i hne
   refine yM _ _ (Nat.le_refl _) _ _ _ (fun b hb hr=>⟨rfl,e2 b fun q e=> ?_⟩) (h.root k R' hR')
   cases ho':R'.o<;>rw [ho']at hr<;>simp only [md,rel]at hr
   ·rw [hr]at e;cases e
   ·obtain⟨q',hq'⟩:=hr;rw [hq']at e;cases e;exact hne rfl
   ·rcases hr with hr|hr
    ·rw [hr]at e;cases e
    ·rw [hr]at e;cases e;exact hne rfl
 ·obtain⟨cs,ty,k1,k2,k3⟩:=h.box t vs hv
  have :=yE hD hB vs cs k3
  rw [xG]at this
  exact⟨cs,ty,k1,by rw [e2 _ (fun q e=>by rw [k2]at e;cases e)];exact k2,this⟩
 ·simp only [St.setR,zi]at hR'
  split at hR'
  ·rename_i e;subst e;cases hR';exact h.pin d R i hR hp
  ·exact h.pin k R' i hR' hp
theorem zKu (d:Nat)(h:Rel τ lo w0 st a w):Rel τ lo w0 (st.top d) a w:=by
 unfold St.top
 split
 ·rename_i R hR
  split
  ·rename_i ho
   obtain⟨ow,hd,bk,hr⟩:=h
   exact⟨_,hd,bk,zIg hr hR ho⟩
  ·exact h
 ·exact h
theorem Uv (d:Nat){c:Code}{Q:Exit→St→Prop}(hK:awp P τ c Q (st.top d)):awp P τ c Q st:=fun lo w0 a w hr=>hK lo w0 a w (zKu d hr)
theorem zJ5 (hτ:zz P τ){ty e:TypeId}(hu:P.underlying ty=some (.slice e)){K:TK}{bK:Nat}(hK:tk τ e=some (K,bK))(hsz:sz τ e=1){v:Value}(hv:v.cells= #[v]):
  (Instr.buildSlice ty 1 #[(0,v)]).run P w= .ok (.slice (some ⟨w.heap.size,0,none⟩) 1 1) (w.alloc (.cells #[v] e)):=by
 obtain⟨z,hzr⟩:=uP (w:=w) hτ hK
 unfold Instr.buildSlice
 simp only [Sem.run_bind,run_underlying hu,Result.andThen_ok,xl hτ (show sz τ e≠0 by omega)]
 rw [if_neg (by omega)]
 simp only [hsz,Nat.one_mul,if_neg (show ¬(1:Nat)=0 by omega),Sem.run_pure,Sem.run_bind,hzr,Result.andThen_ok]
 generalize hcs:(Array.map _ (Array.range 1))=cs0
 have hcs0:cs0.size=1:=by rw [←hcs];simp
 have hfill:=XK (m:=1) [v] [[v]] 0 cs0.toList rfl (by simp [hcs0]) (fun i x ws hx hw=>by
  cases i with
  |zero=>simp at hx hw;subst hx;subst hw;exact⟨hv,rfl⟩
  |succ i=>simp at hx)
 simp only [List.flatten_cons,List.flatten_nil,List.append_nil,Nat.zero_mul,List.take_zero,List.nil_append,List.zipIdx_cons,List.zipIdx_nil,List.map_cons,List.map_nil,Nat.mul_one,Array.toArray_toList]at hfill⊢
 rw [hfill]
 simp [newRow,newObj,Sem.run]
theorem zIh {S:TypeId→Nat}{e:TypeId}{xs:List D}{A:Option Addr}{n c c' len:Nat}(h:Rp S lo w ow .sh (.lst e xs) (.slice A n c))(hl:len≤n)(hc:len≤c')(hm:c'≤maxLen):Rp S lo w ow .sh (.lst e (xs.take (len*S e))) (.slice A len c'):=by
 obtain⟨vs,⟨k1,N,k2,A2,c2,k3,k4,k5,k6⟩,k7⟩:=(zy _ _).1 h
 cases k3
 have hle:len*S e≤n*S e:=Nat.mul_le_mul_right _ hl
 refine(zy _ _).2 ⟨vs.take (len*S e),⟨?_,len,?_,A,c',rfl,hc,hm,fun h0=> ?_⟩,fun i x u hx hu=> ?_⟩
 ·rw [List.length_take,List.length_take,k1]
 ·rw [List.length_take,k2,Nat.min_eq_left hle]
 ·obtain⟨b,o,q1,q2,q3,q4⟩:=k6 (by omega)
  exact⟨b,o,q1,q2,q3,fun i u hu=>q4 i u (by rw [List.getElem?_take]at hu;split at hu;exact hu;cases hu)⟩
 ·rw [List.getElem?_take]at hx hu
  split at hx
  ·rename_i hi
   rw [if_pos hi]at hu
   exact k7 i x u hx hu
  ·cases hx
def zB2 (R:zq)(p:List Nat):Bool:=match R.o,p with
 | .sh,_=>true
 | .top,_::_=>true
 |_,_=>false
theorem zGf (h:zl τ lo w0 ow hd bk st a w){d:Nat}{R:zq}{p:List Nat}{len:Nat}{e:TypeId}{v:Value}(hR:lk st.r d=some R)(hs:zB2 R p=true)(hp:zn R.xs p)(he:vJ R.e R.xs p=e)(hv:AvR τ w st.r st.b hd bk (.sl d p 0 len e) v):
  Rp (sz τ) lo w ow .sh (.lst e ((yU R.xs p).take (len*sz τ e))) v:=by
 simp only [AvR]at hv
 obtain⟨hv0,hin,A,n,c,A',c',hnw,e1,e2,hle,hlc,hmx,hf0,hA⟩:=hv.2 R hR hp
 obtain⟨rfl,rfl⟩:=hf0 rfl
 obtain⟨m',e',u,a1,a2,a3,a4,a5,a6,a7,a8⟩:=YG p _ _ _ _ (h.root d R hR) hp
 rw [hin]at a1
 cases a1
 rw [he]at a4
 subst a4
 have hm:m'= .sh:=by
  unfold zB2 at hs
  cases ho:R.o with
  |sh=>exact a7 (by rw [ho];rfl)
  |ex=>rw [ho]at hs;cases hs
  |top=>
   rw [ho]at hs
   cases p with
   |nil=>cases hs
   |cons i q=>exact a8 d [] (by rw [ho];rfl) (by simp)
 rw [hm,e1]at a2
 rw [e2]
 exact zIh a2 (by omega) hlc hmx
def Kc (τ:Ty)(o1 o2:Oper)(K:St→Prop)(st:St):Prop:=
 match o1,o2 with
 |⟨some tl, .buildSlice ty n parts,_,_,_,none⟩,⟨some ta, .call ⟨.builtin .append,args,ats⟩,_,_,_,none⟩=>
  match parts.toList,args.toList,ats.toList with
  | [(i0,Y)],[X,Z],[t1,t2]=>
   (n=1∧i0=0∧Z= .tmp tl∧t1=ty∧t2=ty)∧
   match tk τ ty,ev (st.put (some tl) .dead) X,ev st Y with
   |some (.sc (.sl e),_), .sl d [] 0 len e1, .sl d2 p 0 len2 e2=>
    match tk τ e,lk st.r d,lk st.r d2 with
    |some (.sc _,by_),some R,some R2=>(e1=e∧R.e=e∧(match R.o with| .top=>True|_=>False)∧zB2 R2 p=true∧zn R2.xs p∧vJ R2.e R2.xs p=e2∧len≤1048576∧by_≤64)∧
      K (((((st.put (some tl) .dead).delR0 d).delR (zc ta 0)).addR (zc ta 0) ⟨.top,e,R.xs.take len++ [.lst e2 ((yU R2.xs p).take (len2*sz τ e2))],none⟩).put (some ta) (.sl (zc ta 0) [] 0 (len+1) e))
    |_,_,_=>False
   |_,_,_=>False
  |_,_,_=>False
 |_,_=>False
theorem zHl (hτ:zz P τ){o1 o2:Oper}{ops rest:Array Oper}{K:St→Prop}{Q:Exit→Act→World→Prop}{l:List Oper}(h:Rel τ lo w0 st a w)(hd1: ∀k,o1.dst=some k→k<a.tmps.size)(hd2: ∀k,o2.dst=some k→k<a.tmps.size)(ha:Kc τ o1 o2 K st)
  (hK: ∀st' a' w',K st'→a'.tmps.size=a.tmps.size→Rel τ lo w0 st' a' w'→wpList P ops Q l a' w'):wpList P ops Q (o1::o2::l) a w:=by
 obtain⟨dst1,op1,oty1,pos1,after1,guard1⟩:=o1
 obtain⟨dst2,op2,oty2,pos2,after2,guard2⟩:=o2
 unfold Kc at ha
 split at ha
 rotate_left
 ·exact ha.elim
 rename_i tl ty n parts oty1' pos1' after1' ta args ats oty2' pos2' after2' heq1 heq2
 cases heq1
 cases heq2
 split at ha
 rotate_left
 ·exact ha.elim
 rename_i i0 Y X Z t1 t2 hparts hargs hats
 obtain⟨⟨rfl,rfl,rfl,rfl,rfl⟩,ha⟩:=ha
 have e1:parts= #[(0,Y)]:=by cases parts;simp at hparts;subst hparts;rfl
 have e2:args= #[X, .tmp tl]:=by cases args;simp at hargs;subst hargs;rfl
 have e3:ats= #[t2,t2]:=by cases ats;simp at hats;subst hats;rfl
 subst e1;subst e2;subst e3
 split at ha
 rotate_left
 ·exact ha.elim
 rename_i e bt d len e1 d2 p len2 e2 htk hX hY
 split at ha
 rotate_left
 ·exact ha.elim
 rename_i ck by_ R R2 hte hR hR2
 obtain⟨⟨rfl,hRe,hRo,hsh,hp,hne,hlen,hby⟩,hK1⟩:=ha
 have ho:R.o= .top:=by
  cases h9:R.o<;>rw [h9]at hRo<;>first|rfl|exact hRo.elim
 obtain⟨ow,hd,bk,hr⟩:=h
 have hu:P.underlying t2=some (.slice e1):=(ye hτ htk).1
 have hsz:sz τ e1=1:=XR hte
 have hav:=zk hr Y
 rw [hY]at hav
 have hrow:=zGf hr hR2 hsh hp hne hav
 have hcell:(a.eval Y).oneCell'=true∧(a.eval Y).cells= #[a.eval Y]:=zCG hrow
 have hrun1:=zJ5 (P:=P) (w:=w) hτ hu hte hsz hcell.2
 -- the literal
 refine wpList_step fun K' hK'=> ?_
 rw [if_pos (by simp [Region.wanted])]
 unfold Oper.wp
 have r1:(execOp a.eval ⟨some tl, .buildSlice t2 1 #[(0,Y)],oty1,pos1,after1,none⟩).run P w= .ok (.value (.slice (some ⟨w.heap.size,0,none⟩) 1 1)) (w.alloc (.cells #[a.eval Y] e1)):=by
  simp only [execOp]
  rw [Sem.run_bind,show(#[(0,Y)].map fun(x:Nat×Operand)=>(x.1,a.eval x.2))= #[(0,a.eval Y)]from by simp,hrun1,Result.andThen_ok,Sem.run_pure]
 rw [r1]
 refine hK' _ _ ?_
 have hb1:=YP hr (.cells #[a.eval Y] e1) none (by simp)
 have htl:tl<st.n:=by rw [←hr.size];exact hd1 tl rfl
 have hr2:=Ws hb1 (some tl) (fun k hk=>by cases hk;exact htl) .dead (.slice (some ⟨w.heap.size,0,none⟩) 1 1) (by simp only [AvR])
 have hs2:(a.put (some tl) (.slice (some ⟨w.heap.size,0,none⟩) 1 1)).tmps.size=a.tmps.size:=yw ..
 have hz:(a.put (some tl) (.slice (some ⟨w.heap.size,0,none⟩) 1 1)).eval (.tmp tl)= .slice (some ⟨w.heap.size,0,none⟩) 1 1:=by
  have h9:=hd1 tl rfl
  unfold Act.put Act.eval
  simp [h9]
 obtain⟨a2,ha2⟩: ∃a2,a.put (some tl) (.slice (some ⟨w.heap.size,0,none⟩) 1 1)=a2:=⟨_,rfl⟩
 have hput:a.put (Oper.dst ⟨some tl, .buildSlice t2 1 #[(0,Y)],oty1,pos1,after1,none⟩) (.slice (some ⟨w.heap.size,0,none⟩) 1 1)=a2:=ha2
 rw [ha2]at hr2 hs2 hz
 rw [hput]
 -- the append
 have hXv:=zk hr2 X
 rw [hX]at hXv
 simp only [AvR]at hXv
 have hR':lk (st.put (some tl) .dead).r d=some R:=hR
 obtain⟨hv',hin,A,n,c,A',c',hnw,q1,q2,hle1,hlc,hmx,hf0,hA⟩:=hXv.2 R hR' (by simp [zn])
 simp only [yK,Option.some.injEq]at hin
 obtain⟨rfl,rfl⟩:=hf0 rfl
 rw [←hin]at q1
 have hrow2:Rp (sz τ) lo (w.alloc (.cells #[a.eval Y] e1)) (upd ow w.heap.size none) .sh (.lst e2 ((yU R2.xs p).take (len2*sz τ e2))) (a.eval Y):=
  yM _ _ (by simp) _ _ _ (fun b hb _=>⟨Below.heap_alloc w _ b hb,yo _ _ (by omega)⟩) hrow
 subst hRe
 obtain⟨v',w',ow',q3,q4⟩:=XG (P:=P) (k:=zc ta 0) (len:=len) (m:=1) (t:=t2) (ty:=oty2) hτ hr2 (ZJ hr2 d) (by simp [St.delR0,xU,is1]) hR' (by rw [ho];simp) q1 (by omega) htk hte (by omega)
  [.lst e2 ((yU R2.xs p).take (len2*sz τ e2))] [a.eval Y] (.slice (some ⟨w.heap.size,0,none⟩) 1 1) (.inl ⟨_,_,rfl,fun j u hu=>by
   cases j with
   |zero=>
    simp at hu
    subst hu
    have h9:=(MapKept.heap_alloc w (.cells #[a.eval Y] R.e)).1
    rw [Addr.add_lit]
    unfold World.cell?
    simp only [Nat.add_zero]
    rw [h9]
    rfl
   |succ j=>simp at hu⟩) (by rw [hsz];rfl) rfl (fun u hu=>by simp at hu;subst hu;exact hcell.1) (fun i x u hx hu=>by
   cases i with
   |zero=>
    simp at hx hu
    subst hx;subst hu
    unfold kidM
    rw [ho]
    exact hrow2
   |succ i=>simp at hx) (by unfold maxLen;omega) (by
   have :(len+1)*by_≤1048577*64:=Nat.mul_le_mul (by omega) hby
   omega)
 have hroot:=q4.root (zc ta 0) ⟨R.o,R.e,R.xs.take (len*sz τ R.e)++ [.lst e2 ((yU R2.xs p).take (len2*sz τ e2))],none⟩ (by simp only [St.addR,zi,if_true])
 rw [yB]at hroot
 obtain⟨A2,n2,c2,hv2,hlen',hnc2,hm2⟩:=xI hroot
 have hxl:R.xs.length=n*sz τ R.e:=by
  obtain⟨A3,n3,c3,e3,l3,-⟩:=xI (hr2.root d R hR')
  rw [q1]at e3;cases e3
  exact l3
 rw [hsz,Nat.mul_one]at hxl hlen' hroot q4
 have hn2:n2=len+1:=by
  rw [List.length_append,List.length_take,hxl,Nat.min_eq_left (by omega)]at hlen'
  simp at hlen'
  omega
 subst hn2
 subst hv2
 refine wpList_step fun K2 hK2=> ?_
 rw [if_pos (by simp [Region.wanted])]
 unfold Oper.wp
 have r2:(execOp a2.eval ⟨some ta, .call ⟨.builtin .append,#[X, .tmp tl],#[t2,t2]⟩,oty2,pos2,after2,none⟩).run P (w.alloc (.cells #[a.eval Y] R.e))= .ok (.value (.slice A2 (len+1) c2)) w':=by
  rw [←hz,←q2]at q3
  simp [execOp,resolve,invoke,builtin,q3]
 rw [r2]
 refine hK2 _ _ ?_
 have hta:ta<st.n:=by rw [←hr.size];exact hd2 ta rfl
 have hav3:AvR τ w' ((((st.put (some tl) .dead).delR0 d).delR (zc ta 0)).addR (zc ta 0) ⟨R.o,R.e,R.xs.take len++ [.lst e2 ((yU R2.xs p).take (len2*sz τ e2))],none⟩).r ((((st.put (some tl) .dead).delR0 d).delR (zc ta 0)).addR (zc ta 0) ⟨R.o,R.e,R.xs.take len++ [.lst e2 ((yU R2.xs p).take (len2*sz τ e2))],none⟩).b (upd hd (zc ta 0) (.slice A2 (len+1) c2)) bk (.sl (zc ta 0) [] 0 (len+1) R.e) (.slice A2 (len+1) c2):=by
  simp only [AvR]
  refine⟨⟨_,_,_,rfl⟩,fun R' hR' hp=>⟨.slice A2 (len+1) c2,by simp only [yK,yB],A2,len+1,c2,A2,c2,nw0,rfl,rfl,by omega,hnc2,hm2,fun _=>⟨rfl,rfl⟩,fun hne0=> ?_⟩⟩
  obtain⟨vs,p1,p2⟩:=(zy _ _).1 hroot
  have hlenv:0<vs.length:=by
   rw [p1.1,hlen']
   omega
  obtain⟨b2,o2,n3,c3,hv3,-⟩:=qM p1 (List.getElem?_eq_getElem hlenv)
  cases hv3
  exact⟨b2,o2,rfl,by simp⟩
 have hfin:=Ws q4 (some ta) (fun k hk=>by cases hk;exact hta) _ _ hav3
 refine hK _ _ w' hK1 ?_ ⟨_,_,_,by rw [ho]at hfin;exact hfin⟩
 show(a2.put (some ta) _).tmps.size=_
 rw [yw,hs2]
theorem jy (m:Nat)(al:List Nat){Q:Exit→St→Prop}(hτ:zz P τ)(hpos:yW τ){id:Nat}{ops:List Oper}{o1 o2:Oper}{rest:List Oper}(hs:vw false ops=true)(hd:yv st.n ops=true)(ho:ops.drop m=o1::o2::rest)
  (h: ∀K:St→Prop,(∀s,Kc τ o1 o2 (fun s'=>vF P τ al ops (Q .normal) rest s') s→K s)→xr P false τ ops K (ops.take m) (st.start false ops)):awp P τ (.region id ops.toArray false) Q st:=fun lo w0 a w hr=>by
 have hn:a.tmps.size=st.n:=by obtain⟨ow,hd,bk,h⟩:=hr;exact h.size
 have hlen:m<ops.length:=by
  rcases Nat.lt_or_ge m ops.length with h|h
  ·exact h
  ·rw [List.drop_eq_nil_of_le h]at ho;cases ho
 have h1:=h _ fun s hs=>hs
 have hin: ∀x,x=o1∨x=o2∨x∈rest→x∈ops:=fun x hx=>by
  have :x∈ops.drop m:=by
   rw [ho]
   rcases hx with rfl|rfl|hx
   ·exact List.mem_cons_self
   ·exact List.mem_cons_of_mem _ List.mem_cons_self
   ·exact List.mem_cons_of_mem _ (List.mem_cons_of_mem _ hx)
  exact List.mem_of_mem_drop this
 have hdo: ∀x,x∈ops→∀k,x.dst=some k→k<st.n:=fun x hx k hk=>by
  have :=List.all_eq_true.1 hd x hx
  rw [hk]at this
  simpa using this
 have key:=Vx (lo:=lo) (w0:=w0) (Q:=fun s=>Kc τ o1 o2 (fun s'=>vF P τ al ops (Q .normal) rest s') s) (Q':=fun e a' w'=> ∃st',Rel τ lo w0 st' a' w'∧Q e st') (rest:=o1::o2::rest) (K0:=m) hτ hpos hs hd (fun st1 a1 w1 hq hn1 hinv hr1=>by
  refine zHl (rest:= #[]) hτ hr1 (fun k hk=>by rw [hn1];exact hdo o1 (hin _ (.inl rfl)) k hk) (fun k hk=>by rw [hn1];exact hdo o2 (hin _ (.inr (.inl rfl))) k hk) hq fun st' a' w' hq' hn' hr'=> ?_
  refine YV hτ hpos (fun st a w h1 h2=>⟨st,h2,h1⟩) rest st' a' w' ?_ hr' hq'
  rw [hn',hn1]
  exact List.all_eq_true.2 fun x hx=>List.all_eq_true.1 hd x (hin x (.inr (.inr hx)))) (ops.take m) 0 (st.start false ops) a w (by rw [List.length_take];omega) hn (fun j x hx=>by
   rw [Nat.zero_add]
   rw [List.getElem?_take]at hx
   split at hx
   ·exact hx
   ·cases hx) (fun j o _ ho hm=>ZX ho hm) (YA hr ops) h1
 rw [←ho,List.take_append_drop]at key
 exact wp_region_lit key
attribute [push_cast] St.top Kc zB2 St.delR0
end
def qe (rs:List (List Int))(r:List Int):Nat:=rs.findIdx fun x=>decide (x=r)
theorem jc (rs:List (List Int))(r:List Int):qe rs r≤rs.length:=List.findIdx_le_length
theorem jd {rs:List (List Int)}{r:List Int}:qe rs r<rs.length↔r∈rs:=by
 unfold qe
 rw [List.findIdx_lt_length]
 constructor
 ·rintro⟨x,hx,h⟩;rw [decide_eq_true_eq]at h;exact h ▸ hx
 ·intro h;exact⟨r,h,decide_eq_true rfl⟩
theorem WN {rs:List (List Int)}{k:Nat}(h:k<rs.length):gl rs k=rs[k]:=by
 unfold gl
 rw [List.getD_eq_getElem?_getD,List.getElem?_eq_getElem h]
 rfl
theorem zLq {rs:List (List Int)}{r:List Int}{k:Nat}(hk:k<rs.length)(h: ∀j,j<k→¬gl rs j=r)(e:gl rs k=r):qe rs r=k:=by
 unfold qe
 rw [List.findIdx_eq hk]
 refine⟨by rw [←WN hk];exact decide_eq_true e,fun j hj=> ?_⟩
 rw [←WN (by omega)]
 exact decide_eq_false (h j hj)
theorem zLr {rs:List (List Int)}{r:List Int}(h: ∀j,j<rs.length→¬gl rs j=r):qe rs r=rs.length:=by
 refine Nat.le_antisymm (jc _ _) (Nat.le_of_not_lt fun h2=> ?_)
 obtain⟨j,hj,e⟩:=List.mem_iff_getElem.1 (jd.1 h2)
 exact h j hj (by rw [WN hj];exact e)
def addR (rs:List (List Int))(r:List Int):List (List Int):=if qe rs r=rs.length then rs++ [r]else rs
theorem Wv {rs:List (List Int)}{r:List Int}(h:qe rs r=rs.length):addR rs r=rs++ [r]:=if_pos h
theorem Ww {rs:List (List Int)}{r:List Int}(h: ¬qe rs r=rs.length):addR rs r=rs:=if_neg h
def xH (ps:List Plc)(j:Nat):List (List Int):=(ps.take j).foldl (fun o p=>addR o p.record) []
theorem Uc (ps:List Plc):xH ps 0= []:=rfl
theorem Wd {ps:List Plc}{j:Nat}(h:j<ps.length):xH ps (j+1)=addR (xH ps j) (gq ps j).record:=by
 unfold xH;rw [zD1 h,List.foldl_append];rfl
theorem zIk {rs:List (List Int)}{r x:List Int}:x∈addR rs r↔x∈rs∨x=r:=by
 by_cases h:qe rs r=rs.length
 ·rw [Wv h];simp
 ·rw [Ww h]
  have :=jd.1 (show qe rs r<rs.length from by have :=jc rs r;omega)
  constructor
  ·exact Or.inl
  ·rintro(h1|rfl)
   ·exact h1
   ·exact this
theorem Jb {ps:List Plc}: ∀{j:Nat},j≤ps.length→∀x,x∈xH ps j↔∃q,q<j∧(gq ps q).record=x
 |0,_,x=>by simp [Uc]
 |j+1,h,x=>by
  rw [Wd (by omega),zIk,Jb (j:=j) (by omega) x]
  constructor
  ·rintro(⟨q,h1,h2⟩|rfl)
   ·exact⟨q,by omega,h2⟩
   ·exact⟨j,by omega,rfl⟩
  ·rintro⟨q,h1,h2⟩
   rcases Nat.lt_or_ge q j with h3|h3
   ·exact .inl ⟨q,h3,h2⟩
   ·have :q=j:=by omega
    subst this;exact .inr h2.symm
theorem Wc {ps:List Plc}: ∀{j:Nat},j≤ps.length→(xH ps j).length≤j
 |0,_=>by rw [Uc];exact Nat.le_refl 0
 |j+1,h=>by
  have ih:=Wc (ps:=ps) (j:=j) (by omega)
  rw [Wd (by omega)]
  by_cases h2:qe (xH ps j) (gq ps j).record=(xH ps j).length
  ·rw [Wv h2,List.length_append,List.length_singleton];omega
  ·rw [Ww h2];omega
theorem zFX {ps:List Plc}{B:Nat}(hq:QLn B ps){j:Nat}(h:j≤ps.length):qV B (xH ps j):=by
 refine⟨Nat.le_trans (Wc h) (Nat.le_trans h hq.1),fun r hr=> ?_⟩
 obtain⟨q,h1,rfl⟩:=(Jb h r).1 hr
 exact hq.2 _ (qH (by omega))
theorem zDj {ps:List Plc}{q:Nat}(h:q<ps.length):qe (xH ps ps.length) (gq ps q).record<(xH ps ps.length).length:=jd.2 ((Jb (Nat.le_refl _) _).2 ⟨q,h,rfl⟩)
def Qy (N:List (List Int))(s v:Nat)(x:Int):List (List Int):=N.set s ((gl N s).set v x)
def mfN (prs:List Pr)(R:List (List Int))(n:Nat)(ps:List Plc)(j:Nat):List (List Int):=(ps.take j).foldl (fun N p=>Qy N (qe R p.record) p.at_.toNat (qe R (nxL prs p.record p.at_):Nat)) (List.replicate R.length (List.replicate n 0))
def mfC (a:Ar)(pl:List Int)(R:List (List Int))(n:Nat)(ps:List Plc)(j:Nat):List (List Int):=(List.range j).foldl (fun N i=>if 0≤gi pl i∧gi a.owner (gq ps i).at_.toNat=0 then Qy N (qe R (gq ps i).record) (gq ps i).at_.toNat (gq ps (gi pl i).toNat).at_ else N) (List.replicate R.length (List.replicate n (-1)))
theorem zKX (prs:List Pr)(R:List (List Int))(n:Nat)(ps:List Plc):mfN prs R n ps 0=List.replicate R.length (List.replicate n 0):=rfl
theorem zKW (a:Ar)(pl:List Int)(R:List (List Int))(n:Nat)(ps:List Plc):mfC a pl R n ps 0=List.replicate R.length (List.replicate n (-1)):=rfl
theorem JQ {prs:List Pr}{R:List (List Int)}{n:Nat}{ps:List Plc}{j:Nat}(h:j<ps.length):mfN prs R n ps (j+1)=Qy (mfN prs R n ps j) (qe R (gq ps j).record) (gq ps j).at_.toNat (qe R (nxL prs (gq ps j).record (gq ps j).at_):Nat):=by
 unfold mfN;rw [zD1 h,List.foldl_append];rfl
theorem zAR {a:Ar}{pl:List Int}{R:List (List Int)}{n:Nat}{ps:List Plc}{j:Nat}(h:0≤gi pl j∧gi a.owner (gq ps j).at_.toNat=0):mfC a pl R n ps (j+1)=Qy (mfC a pl R n ps j) (qe R (gq ps j).record) (gq ps j).at_.toNat (gq ps (gi pl j).toNat).at_:=by
 unfold mfC;rw [List.range_succ,List.foldl_append];exact if_pos h
theorem Kg {a:Ar}{pl:List Int}{R:List (List Int)}{n:Nat}{ps:List Plc}{j:Nat}(h: ¬(0≤gi pl j∧gi a.owner (gq ps j).at_.toNat=0)):mfC a pl R n ps (j+1)=mfC a pl R n ps j:=by
 unfold mfC;rw [List.range_succ,List.foldl_append];exact if_neg h
theorem zCN {c n:Nat}{N:List (List Int)}(h:SqN c n N)(i v:Nat)(x:Int):SqN c n (Qy N i v x):=zKw h i v x
theorem WX {prs:List Pr}{R:List (List Int)}{n:Nat}{ps:List Plc}: ∀{j:Nat},j≤ps.length→SqN R.length n (mfN prs R n ps j)
 |0,_=>zEx _ _ _
 |j+1,h=>by rw [JQ (by omega)];exact zCN (WX (by omega)) _ _ _
theorem Qu {a:Ar}{pl:List Int}{R:List (List Int)}{n:Nat}{ps:List Plc}: ∀(j:Nat),SqN R.length n (mfC a pl R n ps j)
 |0=>zEx _ _ _
 |j+1=>by
  by_cases h:0≤gi pl j∧gi a.owner (gq ps j).at_.toNat=0
  ·rw [zAR h];exact zCN (Qu j) _ _ _
  ·rw [Kg h];exact Qu j
theorem kQ (x:L7)(inn:List Bool)(v u:Nat)(hu:u≠v): ∀i,gi (wh x inn v i) u=gi x.pick u
 |0=>rfl
 |i+1=>by
  unfold wh
  split
  ·unfold gi
   rw [List.getD_eq_getElem?_getD,List.getElem?_set_ne (fun e=>hu e.symm),List.getD_eq_getElem?_getD]
  ·exact kQ x inn v u hu i
theorem Vu (x:L7)(inn:List Bool)(v u:Nat)(hu:u≠v): ∀m i,gi (qB x inn v m i).2 u=gi x.pick u
 |0,i=>kQ x inn v u hu i
 |m+1,i=>by
  unfold qB
  split
  ·show gi (x.pick.set v _) u=_
   unfold gi
   rw [List.getD_eq_getElem?_getD,List.getElem?_set_ne (fun e=>hu e.symm),List.getD_eq_getElem?_getD]
  ·exact Vu x inn v u hu m (i+1)
theorem zDa (x:L7)(inn:List Bool)(v:Nat): ∀m i,(qB x inn v m i).1= -1∨∃j,i≤j∧j<i+m∧(qB x inn v m i).1=gi (gl x.next v) j
 |0,i=> .inl rfl
 |m+1,i=>by
  unfold qB
  split
  ·exact .inr ⟨i,Nat.le_refl _,by omega,rfl⟩
  ·rcases zDa x inn v m (i+1)with h|⟨j,h1,h2,h3⟩
   ·exact .inl h
   ·exact .inr ⟨j,by omega,by omega,h3⟩
theorem zDf {g:Pa}: ∀(v:Nat),v≤g.a.owner.length→∀u,u<g.a.owner.length→gi (zt g v) u= -1∨∃j,j<(gl g.a.next u).length∧gi (zt g v) u=gi (gl g.a.next u) j
 |0,_,u,hu=> .inl (Yf _ _ hu)
 |v+1,hv,u,hu=>by
  have ih:=zDf v (by omega) u hu
  have hl:=vk g v
  by_cases h:0≤gi (zt g v) v∨¬gi (zj g) v=gi g.a.owner v
  ·rw [←Qw h];exact ih
  ·obtain⟨r,hr⟩: ∃r,qB (l7G g (zt g v)) (yS (zj g) (gi (zj g) v)) v (gl g.a.next v).length 0=r:=⟨_,rfl⟩
   rw [←Xc (fun h1=>h (.inl h1)) (Classical.not_not.1 fun h1=>h (.inr h1)) rfl hr]
   have hrl:r.2.length=g.a.owner.length:=by rw [←hr,Xb];exact hl
   by_cases e:u=v
   ·subst e
    have h9:=zDa (l7G g (zt g u)) (yS (zj g) (gi (zj g) u)) u (gl g.a.next u).length 0
    rw [hr]at h9
    have e9:gi (r.2.set u r.1) u=r.1:=by
     unfold gi
     rw [List.getD_eq_getElem?_getD,List.getElem?_set_self (by omega)]
     rfl
    rw [e9]
    rcases h9 with h9|⟨j,-,h8,h9⟩
    ·exact .inl h9
    ·exact .inr ⟨j,by omega,h9⟩
   ·have h9:=Vu (l7G g (zt g v)) (yS (zj g) (gi (zj g) v)) v u e (gl g.a.next v).length 0
    rw [hr]at h9
    have e9:gi (r.2.set v r.1) u=gi r.2 u:=by
     unfold gi
     rw [List.getD_eq_getElem?_getD,List.getElem?_set_ne (fun e2=>e e2.symm),List.getD_eq_getElem?_getD]
    rw [e9,h9]
    exact ih
theorem VR (g:Pa):(vK g).length=g.a.owner.length:=vk g _
theorem zDd {g:Pa}(h:yL g=true){u:Nat}(hu:u<g.a.owner.length): -1≤gi (vK g) u∧gi (vK g) u<g.a.owner.length:=by
 rcases zDf g.a.owner.length (Nat.le_refl _) u hu with e|⟨j,hj,e⟩
 ·have e:gi (vK g) u= -1:=e
  omega
 ·have e:gi (vK g) u=gi (gl g.a.next u) j:=e
  have hb:=qf (yl (yJ h).1 hu).2.2.2.2 hj
  omega
noncomputable def mofM (a:Ar)(prs:List Pr)(s:Int):Me:=⟨mfN prs (xH (rgP a prs s) (rgP a prs s).length) a.owner.length (rgP a prs s) (rgP a prs s).length,mfC a (vK (rgG a prs s)) (xH (rgP a prs s) (rgP a prs s).length) a.owner.length (rgP a prs s) (rgP a prs s).length⟩
noncomputable def Zd (a:Ar)(prs:List Pr)(s:Int):Bool:=rgB a prs s&&decide (gi (zj (rgG a prs s)) 0=0)
noncomputable def Vr (a:Ar)(prs:List Pr)(s:Int):Me:=if Zd a prs s then mofM a prs s else⟨[],[]⟩
theorem zAV {a:Ar}{prs:List Pr}{s:Int}(h:rgB a prs s=false):Zd a prs s=false:=by unfold Zd;rw [h];rfl
theorem zFO {a:Ar}{prs:List Pr}{s:Int}(h: ¬gi (zj (rgG a prs s)) 0=0):Zd a prs s=false:=by unfold Zd;rw [decide_eq_false h,Bool.and_false]
theorem zFP {a:Ar}{prs:List Pr}{s:Int}(h1:rgB a prs s=true)(h2:gi (zj (rgG a prs s)) 0=0):Zd a prs s=true:=by unfold Zd;rw [h1,decide_eq_true h2];rfl
theorem jX {a:Ar}{prs:List Pr}{s:Int}(h:Zd a prs s=false):Vr a prs s=⟨[],[]⟩:=by unfold Vr;rw [h];rfl
theorem ky {a:Ar}{prs:List Pr}{s:Int}(h:Zd a prs s=true):Vr a prs s=mofM a prs s:=by unfold Vr;rw [h];rfl
theorem zEw {c n:Nat}{N:List (List Int)}(h:SqN c n N)(hc:c≤1048576)(hn:n≤1048576):qV 1048576 N:=⟨by rw [h.1];exact hc,fun r hr=>by
 obtain⟨i,hi,rfl⟩:=List.mem_iff_getElem.1 hr
 have :=h.2 i (by rw [←h.1];exact hi)
 rw [WN hi]at this
 omega⟩
theorem Ug {a:Ar}{prs:List Pr}{s:Int}(h:rgB a prs s=true):(rgP a prs s).length≤256∧(rgG a prs s).a.owner.length=(rgP a prs s).length∧∀p∈rgP a prs s,(0≤p.at_∧p.at_<a.owner.length)∧vZ p.record prs.length=true:=by
 obtain⟨h1,h2⟩:=wH h
 obtain⟨k1,k2,k3⟩:=xz h1
 rw [(Uf h).1,(Uf h).2]
 have h3:=(Wi (n:=(plA a (rcR prs) ⟨s,zW prs.length⟩).length) h2 rfl).1
 refine⟨h3,zC7 _,fun p hp=> ?_⟩
 have h4:=Yg k1 k3 257 p hp
 exact⟨⟨h4.1,h4.2.1⟩,h4.2.2⟩
theorem zDT {a:Ar}{prs:List Pr}{s:Int}:(Vr a prs s).Ln 1048576:=by
 cases hB:Zd a prs s with
 |false=>rw [jX hB];exact⟨⟨by simp,by simp⟩,⟨by simp,by simp⟩⟩
 |true=>
  rw [ky hB]
  unfold Zd at hB
  rw [Bool.and_eq_true]at hB
  obtain⟨h1,-,h3⟩:=Ug hB.1
  have h4:=Wc (ps:=rgP a prs s) (Nat.le_refl _)
  have h5:=(yQ (xz (wH hB.1).1).1).2.1
  exact⟨zEw (WX (Nat.le_refl _)) (by omega) (by omega),zEw (Qu _) (by omega) (by omega)⟩
open Nat renaming reduceMod → zA, reduceMul → zB, reduceDiv → zC, reduceAdd → zD, reduceSub → zE, reduceEqDiff → zF, reduceBEq → zG, reduceLT → zH, reduceLeDiff → zI
def VK (xs:List (List Int))(plan:List Int)(y:Nat→Int)(j:Nat):List Int:=if 0≤gi plan j then [y j]else gl xs j
def wM (xs:List (List Int))(plan:List Int)(y:Nat→Int)(v:Nat):List (List Int):=(List.range v).map (VK xs plan y)++xs.drop v
theorem zND (xs:List (List Int))(plan:List Int)(y:Nat→Int):wM xs plan y 0=xs:=by simp [wM]
theorem Zv {xs:List (List Int)}{plan:List Int}{y:Nat→Int}{v:Nat}(h:v≤xs.length):(wM xs plan y v).length=xs.length:=by simp [wM];omega
theorem zHO {xs:List (List Int)}{plan:List Int}{y:Nat→Int}{v:Nat}(h:v<xs.length):(wM xs plan y v).set v (VK xs plan y v)=wM xs plan y (v+1):=by
 have hl:((List.range v).map (VK xs plan y)).length=v:=by simp
 unfold wM
 rw [List.set_append_right _ _ (by omega),hl,Nat.sub_self,zCu h,List.set_cons_zero,List.range_succ,List.map_append,List.append_assoc]
 rfl
theorem zJA {xs:List (List Int)}{plan:List Int}{y:Nat→Int}{v:Nat}(h:v<xs.length)(hp:0≤gi plan v):(wM xs plan y v).set v [y v]=wM xs plan y (v+1):=by
 rw [←zHO h,VK,if_pos hp]
theorem zNw {xs:List (List Int)}{v:Nat}(h:v<xs.length):xs.set v (gl xs v)=xs:=by
 refine List.ext_getElem? fun i=> ?_
 rw [List.getElem?_set]
 split
 ·rename_i e;subst e;exact(Zs h).symm
 ·rfl
theorem zLN {xs:List (List Int)}{plan:List Int}{y:Nat→Int}{v:Nat}(h:v<xs.length):gl (wM xs plan y v) v=gl xs v:=by
 have hl:((List.range v).map (VK xs plan y)).length=v:=by simp
 unfold wM
 rw [zCu h]
 exact zJC (xs:=(List.range v).map (VK xs plan y)) (ys:=gl xs v::xs.drop (v+1)) (k:=0) hl
theorem zHN {xs:List (List Int)}{plan:List Int}{y:Nat→Int}{v:Nat}(h:v<xs.length)(hp: ¬0≤gi plan v):wM xs plan y (v+1)=wM xs plan y v:=by
 rw [←zHO h,VK,if_neg hp,←zLN h,zNw (by rw [Zv (by omega)];exact h)]
theorem zLM {xs:List (List Int)}{plan:List Int}{y:Nat→Int}{j:Nat}(h:j<xs.length):gl (wM xs plan y xs.length) j=VK xs plan y j:=by
 unfold wM
 rw [List.drop_length,List.append_nil]
 unfold gl
 rw [List.getD_eq_getElem?_getD,List.getElem?_map,List.getElem?_range h]
 rfl
def kn (a:Ar)(plan:List Int):Ar:=⟨a.owner,wM a.next plan (fun j=>gi plan j) a.next.length⟩
set_option maxRecDepth 20000 in
set_option maxHeartbeats 4000000 in
theorem zGF (a:Ar)(ha:a.Ln 1048576)(hnl:a.next.length=a.owner.length)(plan:List Int)(hp:plan.length=a.owner.length):Fn Tryz.prog tyT 104 [.agg (dAr a), .c (DI plan)] [.agg (dAr (kn a plan))]:=by
 have h0:=ha.owner
 have h1:=ha.next.1
 unfold LnI at h0
 have hC:=zCm a ha
 unfold dAr at hC
 unfold kn dAr
 refine qm (fn:=Tryz.f104) (rs:= [.cell 4 33]) zO zN Tryz.func104 (by kernel_rfl) rfl rfl (by rw [Tryz.ntmps104];exact Nat.le_of_ble_eq_true rfl) rfl (by simp only [szA,List.mem_cons,List.not_mem_nil,or_false,forall_eq_or_imp,forall_eq,VT.cells,szL];try decide) ?_
 rw [Tryz.ntmps104]
 push_cast
 refine θA ?_
 refine θL fun K hK=> ?_
 refine θD 2 ?_
 refine θE hK ?_
 refine zL fun K1 hK1=> ?_
 refine θA ?_
 refine zV ?_
 refine zg [5,6,7,12,13,14,15,16,17,18,19,20,21,22,23,24,25] [] (fun(k:Nat)=> [(12, .int .i64 k),(5, .bp 5 0)]) (fun k=> [(5,[.sl 80 [] 0 a.owner.length 2, .sl 81 [] 0 a.next.length 22])]) (fun k=> [(80,⟨.ex,2,dI a.owner,none⟩),(81,⟨.ex,22,dII (wM a.next plan (fun j=>gi plan j) k),none⟩)]) (fun k=>k≤a.owner.length) (fun k=>a.owner.length - k) 0 ?_ (by omega) ?_
 ·
  rw [zND]
  exact θX
 ·rintro k hk KL0 hL0
  have hfl:=Zv (xs:=a.next) (plan:=plan) (y:=(fun j=>gi plan j)) (v:=k) (by omega)
  push_cast
  refine θA ?_
  refine zL fun K2 hK2=> ?_
  refine θU (fun hc=> ?_) fun hc=> ?_
  ·
   refine zU (hK2 _ ?_)
   refine zL fun K3 hK3=> ?_
   refine zV ?_
   refine θA ?_
   refine θA ?_
   refine θU (fun hc=> ?_) fun hc=> ?_
   ·
    refine zf true zO zN ?_ rfl ?_
    ·kernel_rfl
    push_cast
    all_goals repeat'(first|(apply zP<;>(intro hg;push_cast at hg))|apply And.intro|(intro hg;push_cast at hg))
    all_goals first|exact gA|(exact zQ (by omega))|(simp only [qP];omega)|skip
    refine hK3 _ ?_
    refine θB ?_
    refine hL0 _ ⟨k+1,by omega,by omega,?_⟩
    rw [zNj,zDF (by omega),zJA (y:=(fun j=>gi plan j)) (by omega) (by omega)]
    exact θX
   ·
    refine zU (hK3 _ ?_)
    refine θB ?_
    refine hL0 _ ⟨k+1,by omega,by omega,?_⟩
    rw [zHN (by omega) (by omega)]
    exact θX
  ·
   refine zh ?_
   have hkk:k=a.next.length:=by omega
   subst hkk
   refine hK1 _ ?_
   refine θA ?_
   refine zZ ⟨Or.inl rfl,?_⟩
   push_cast [zd,zo,yA]
   all_goals first|rfl|(rw [Zv (Nat.le_refl _)])|exact⟨rfl,by rw [Zv (Nat.le_refl _)]⟩
def qW (g:Pa):PG:=⟨fun v=>if v<g.a.owner.length then gi g.a.owner v else 0,fun v=>(gi g.prio v).toNat,fun v u=>v<g.a.owner.length∧∃j,j<(gl g.a.next v).length∧(gi (gl g.a.next v) j).toNat=u⟩
theorem zHF {g:Pa}{v:Nat}(hv:v<g.a.owner.length)(u:Int):edB (l7G g (noP g.a.owner.length)) v u=true:=by
 unfold edB
 refine decide_eq_true (.inl ?_)
 show gi (noP g.a.owner.length) (Int.toNat v)<0
 rw [Int.toNat_natCast,Yf _ _ hv]
 decide
theorem UY (g:Pa):pgL (l7G g (noP g.a.owner.length))=qW g:=by
 unfold pgL qW
 congr 1
 funext v u
 refine propext ⟨?_,?_⟩
 ·rintro⟨h1,j,h2,h3,-⟩
  exact⟨h1,j,h2,h3⟩
 ·rintro⟨h1,j,h2,h3⟩
  exact⟨h1,j,h2,h3,zHF h1 _⟩
theorem zMV {g:Pa}(h:yL g=true):
  (∃s,xi (qW g) 0 (fun v=>v<g.a.owner.length) (fun v=>v<g.a.owner.length∧gb (Xl g) v=true) s)∧∃s,xi (qW g) 1 (fun v=>v<g.a.owner.length) (fun v=>v<g.a.owner.length∧gb (Xl g) v=false) s:=by
 obtain⟨ha,hpl,hpr⟩:=yJ h
 have hD: ∀v,inD g.a.owner.length (qv g.a.owner.length) v↔v<g.a.owner.length:=fun v=>⟨fun h=>h.1,fun h=>⟨h,QH h⟩⟩
 have hlive:vX (pgL (l7G g (noP g.a.owner.length))) (inD g.a.owner.length (qv g.a.owner.length)):=fun v hv=>by
  have h1:=(yl ha hv.1).2.2
  have h2:=qf h1.2.2 (j:=0) (by omega)
  rw [UY]
  exact⟨(gi (gl g.a.next v) 0).toNat,⟨hv.1,0,by omega,rfl⟩,(hD _).2 (by omega)⟩
 obtain⟨⟨s,h0⟩,⟨t,h1⟩⟩:=jq (WS h (xy _)) (g.a.owner.length+1) (qv g.a.owner.length) (QZ _) (Nat.lt_succ_of_le (Yt _ _)) hlive
 rw [UY]at h0 h1
 exact⟨⟨s,yP h0 hD fun v=>by rw [hD v];exact Iff.rfl⟩,⟨t,yP h1 hD fun v=>by rw [hD v];exact Iff.rfl⟩⟩
noncomputable def wiB (x:L7)(n:Nat)(M:List Bool)(who:Int)(v:Nat):Bool:=gb M v&&(gb (yV x n (n+1) M) v==(who==0))
noncomputable def wiM (x:L7)(n:Nat)(M:List Bool)(who:Int):List Bool:=yg n (wiB x n M who)
theorem Wm (x:L7)(n:Nat)(M:List Bool)(who:Int):(wiM x n M who).length=n:=qz _ _
structure WnI (x:L7)(n:Nat)(M:List Bool)(who:Int)(now:List Bool):Prop where
 len:now.length=n
 sub: ∀v,inD n now v→inD n M v
 live:vX (pgL x) (inD n now)
 whoW: ∀U m,xi (pgL x) who (inD n now) U m→xi (pgL x) who (inD n M) U m
 oppW: ∀U m,xi (pgL x) (1 - who) (inD n now) U m→∃s,xi (pgL x) (1 - who) (inD n M) (fun v=>U v∨(inD n M v∧¬inD n now v)) s
section
variable {x:L7} {n:Nat}
theorem WnI.start {M:List Bool}{who:Int}(hM:M.length=n)(hl:vX (pgL x) (inD n M)):WnI x n M who M:=
 ⟨hM,fun v h=>h,hl,fun U m h=>h,fun U m h=>⟨m,yP h (fun v=>Iff.rfl) fun v=>⟨fun h=> .inl h,fun h=>h.resolve_right fun h2=>h2.2 h2.1⟩⟩⟩
theorem jr (hx:x.Ok n){M:List Bool}(hM:M.length=n)(hl:vX (pgL x) (inD n M)){who:Int}(hw:who=0∨who=1):
  (∃s,xi (pgL x) who (inD n M) (fun v=>inD n M v∧gb (yV x n (n+1) M) v=(who==0)) s)∧∃s,xi (pgL x) (1 - who) (inD n M) (fun v=>inD n M v∧gb (yV x n (n+1) M) v= !(who==0)) s:=by
 obtain⟨h0,h1⟩:=jq hx (n+1) M hM (Nat.lt_succ_of_le (Yt _ _)) hl
 rcases hw with rfl|rfl
 ·exact⟨h0,h1⟩
 ·exact⟨h1,h0⟩
theorem zAh (hx:x.Ok n){M:List Bool}(hM:M.length=n)(hl:vX (pgL x) (inD n M)){who:Int}(hw:who=0∨who=1){U:Nat→Prop}{s t:Nat→Nat}
  (h1:xi (pgL x) who (inD n M) U s) (h2:xi (pgL x) (1 - who) (inD n M) (fun v=>inD n M v∧¬U v) t) {v:Nat} (hv:inD n M v):wiB x n M who v=true↔U v:=by
 obtain⟨⟨a,ha⟩,⟨b,hb⟩⟩:=jr hx hM hl hw
 have key: ∀{A B:Nat→Prop} {c d:Nat→Nat},xi (pgL x) who (inD n M) A c→xi (pgL x) (1 - who) (inD n M) B d→A v→B v→False:=fun{A B c d} p q e f=>by
  rcases hw with rfl|rfl
  ·exact Jt (fun v h=>h.1) (JX hx) p q v e f
  ·exact Jt (fun v h=>h.1) (JX hx) q p v f e
 unfold wiB
 rw [hv.2,Bool.true_and,beq_iff_eq]
 constructor
 ·intro h
  exact Classical.byContradiction fun hn=>key ha h2 ⟨hv,h⟩ ⟨hv,hn⟩
 ·intro h
  cases hc:gb (yV x n (n+1) M) v==(who==0)
  ·exfalso
   refine key h1 hb h ⟨hv,?_⟩
   have h9: ¬gb (yV x n (n+1) M) v=(who==0):=fun e=>by rw [beq_iff_eq.2 e]at hc;cases hc
   cases hq:gb (yV x n (n+1) M) v<;>cases hq2:(who==0)<;>first|rfl|(exfalso;rw [hq,hq2]at h9;exact h9 rfl)
  ·exact beq_iff_eq.1 hc
theorem zKl (hx:x.Ok n){M:List Bool}(hM:M.length=n)(hl:vX (pgL x) (inD n M)){who:Int}(hw:who=0∨who=1){now:List Bool}(hn:now.length=n)(hsub: ∀v,inD n now v→inD n M v){s t:Nat→Nat}
  (h1:xi (pgL x) who (inD n M) (inD n now) s) (h2:xi (pgL x) (1 - who) (inD n M) (fun v=>inD n M v∧¬inD n now v) t):now=wiM x n M who:=by
 refine wa (by rw [Wm];exact hn) fun v hv=> ?_
 rw [hn]at hv
 unfold wiM
 rw [yX hv,Bool.eq_iff_iff]
 constructor
 ·intro h
  exact(zAh hx hM hl hw h1 h2 (hsub v ⟨hv,h⟩)).2 ⟨hv,h⟩
 ·intro h
  have h5:=h
  unfold wiB at h5
  rw [Bool.and_eq_true]at h5
  exact((zAh hx hM hl hw h1 h2 ⟨hv,h5.1⟩).1 h).2
theorem WnI.rest {M:List Bool}{who:Int}{now goal:List Bool}(hx:x.Ok n)(h:WnI x n M who now):(yY now (yn x n now who goal)).length=n∧vX (pgL x) (inD n (yY now (yn x n now who goal))):=by
 refine⟨by rw [xx];exact h.len,?_⟩
 have :=VN (who:=who) (goal:=fun v=>gb goal v=true) (jf hx) h.live
 rw [show inD n (yY now (yn x n now who goal))=_ from funext fun v=>propext (Wg h.len v)]
 exact this
theorem WnI.all {M:List Bool}{who:Int}{now goal lost:List Bool}{top:Int}(hx:x.Ok n)(hM:M.length=n)(hl:vX (pgL x) (inD n M))(h:WnI x n M who now)(ht:0≤top)(hwho:top%2=who)(htop: ∀v,inD n M v→gi x.prio v≤top)
  (hgoal:goal=yg n (xT x now top)) {rest:List Bool} (hrest:rest=yY now (yn x n now who goal)) (hlost: ∀v,v<n→gb lost v=yN rest (yV x n (n+1) rest) who v) (hno: ∀v,v<n→gb lost v=false):now=wiM x n M who:=by
 have hw:who=0∨who=1:=by omega
 obtain⟨hrl,hrv⟩:=h.rest (goal:=goal) hx
 rw [←hrest]at hrl hrv
 obtain⟨⟨s,hs⟩,-⟩:=jr hx hrl hrv hw
 have hD: ∀v,inD n rest v↔inD n now v∧¬Att (pgL x) who (inD n now) (fun v=>(pgL x).pr v=top.toNat) v:=fun v=>by
  rw [hrest,Wg h.len v]
  have :Att (pgL x) who (inD n now) (fun v=>gb goal v=true) v↔Att (pgL x) who (inD n now) (fun v=>(pgL x).pr v=top.toNat) v:=Qe (fun u hu=>by
   rw [hgoal,yX hu.1]
   unfold xT
   rw [hu.2,Bool.true_and,beq_iff_eq]
   have :=hx.pr u hu.1
   show _↔(gi x.prio u).toNat=top.toNat
   omega) v
  rw [this]
 have hall: ∀v,inD n rest v→gb (yV x n (n+1) rest) v=(who==0):=fun v hv=>by
  have h1:=hno v hv.1
  rw [hlost v hv.1]at h1
  unfold yN at h1
  rw [hv.2,Bool.true_and]at h1
  cases hq:gb (yV x n (n+1) rest) v<;>cases hq2:(who==0)<;>first|rfl|(exfalso;rw [hq,hq2]at h1;cases h1)
 obtain⟨s',hs'⟩:=zFn (g:=pgL x) (who:=who) (D:=inD n now) (top:=top.toNat) (jf hx) h.live (fun v hv=>by
  have :=htop v (h.sub v hv)
  show(gi x.prio v).toNat≤top.toNat
  omega) (by omega) (s:=s) (yP hs hD fun v=>⟨fun h5=>(hD v).1 h5.1,fun h5=>⟨(hD v).2 h5,hall v ((hD v).2 h5)⟩⟩)
 obtain⟨t0,ht0⟩:=ZG (pgL x) (1 - who) (inD n now) (fun _=>False) (fun v h=>h)
 obtain⟨t,ht1⟩:=h.oppW _ _ ht0
 exact zKl hx hM hl hw h.len h.sub (h.whoW _ _ hs') (yP ht1 (fun v=>Iff.rfl) fun v=>⟨fun h5=>h5.resolve_left id,fun h5=> .inr h5⟩)
theorem WnI.none {M:List Bool}{who:Int}{now:List Bool}(hx:x.Ok n)(hM:M.length=n)(hl:vX (pgL x) (inD n M))(hw:who=0∨who=1)(h:WnI x n M who now)(hno: ∀v,v<n→gb now v=false):now=wiM x n M who:=by
 have hn: ∀v,¬inD n now v:=fun v hv=>by rw [inD,hno v hv.1]at hv;cases hv.2
 obtain⟨t0,ht0⟩:=ZG (pgL x) (1 - who) (inD n now) (fun _=>False) (fun v h=>h)
 obtain⟨t,ht1⟩:=h.oppW _ _ ht0
 obtain⟨s,hs⟩:=ZG (pgL x) who (inD n M) (inD n now) hn
 exact zKl hx hM hl hw h.len h.sub hs (yP ht1 (fun v=>Iff.rfl) fun v=>⟨fun h5=>h5.resolve_left id,fun h5=> .inr h5⟩)
theorem WnI.next {M:List Bool}{who:Int}{now goal lost:List Bool}(hx:x.Ok n)(hw:who=0∨who=1)(h:WnI x n M who now){rest:List Bool}(hrest:rest=yY now (yn x n now who goal))(hlost: ∀v,v<n→gb lost v=yN rest (yV x n (n+1) rest) who v):WnI x n M who (yY now (yn x n now (1 - who) lost)):=by
 obtain⟨hrl,hrv⟩:=h.rest (goal:=goal) hx
 rw [←hrest]at hrl hrv
 obtain⟨-,⟨s,hs⟩⟩:=jr hx hrl hrv hw
 have ho2: ∀v,(pgL x).own v=who∨(pgL x).own v=1 - who:=fun v=>by have :=JX hx v;omega
 have hL: ∀v,inD n rest v∧gb (yV x n (n+1) rest) v=(!(who==0))↔v<n∧gb lost v=true:=fun v=>by
  constructor
  ·rintro⟨⟨a,b⟩,c⟩
   refine⟨a,?_⟩
   rw [hlost v a]
   unfold yN
   rw [b,c]
   cases(who==0)<;>rfl
  ·rintro⟨a,b⟩
   rw [hlost v a]at b
   unfold yN at b
   rw [Bool.and_eq_true]at b
   refine⟨⟨a,b.1⟩,?_⟩
   have :=b.2
   cases hq:gb (yV x n (n+1) rest) v<;>cases hq2:(who==0)<;>first|rfl|(rw [hq,hq2]at this;cases this)
 have hcg: ∀v,Att (pgL x) (1 - who) (inD n now) (fun v=>gb lost v=true) v↔Att (pgL x) (1 - who) (inD n now) (fun v=>v<n∧gb lost v=true) v:=Qe fun v hv=>⟨fun e=>⟨hv.1,e⟩,fun e=>e.2⟩
 have hD: ∀v,inD n (yY now (yn x n now (1 - who) lost)) v↔inD n now v∧¬Att (pgL x) (1 - who) (inD n now) (fun v=>v<n∧gb lost v=true) v:=fun v=>by rw [Wg h.len v,hcg v]
 refine⟨by rw [xx];exact h.len,fun v hv=>h.sub v ((hD v).1 hv).1,?_,fun U m hU=> ?_,fun U m hU=> ?_⟩
 ·have :=VN (who:=1 - who) (goal:=fun v=>v<n∧gb lost v=true) (jf hx) h.live
  rw [show inD n (yY now (yn x n now (1 - who) lost))=_ from funext fun v=>propext (hD v)]
  exact this
 ·exact h.whoW U m (zAj ho2 (yP hU hD fun v=>Iff.rfl))
 ·obtain⟨s',hs'⟩:=zAi (g:=pgL x) (who:=who) (opp:=1 - who) (D:=inD n now) (goal:=fun v=>gb goal v=true) ho2 (by omega) (L:=fun v=>v<n∧gb lost v=true) (M:=U) (s:=s) (m:=m) (yP hs (fun v=>by rw [hrest];exact Wg h.len v) hL) (yP hU hD fun v=>Iff.rfl)
  obtain⟨t,ht⟩:=h.oppW _ _ hs'
  refine⟨t,yP ht (fun v=>Iff.rfl) fun v=> ?_⟩
  constructor
  ·rintro((h5|h5)|⟨h5,h6⟩)
   ·exact .inl h5
   ·exact .inr ⟨h.sub v h5.inD,fun h7=>((hD v).1 h7).2 h5⟩
   ·exact .inr ⟨h5,fun h7=>h6 ((hD v).1 h7).1⟩
  ·rintro(h5|⟨h5,h6⟩)
   ·exact .inl (.inl h5)
   ·by_cases h7:inD n now v
    ·exact .inl (.inr (Classical.byContradiction fun h8=>h6 ((hD v).2 ⟨h7,h8⟩)))
    ·exact .inr ⟨h5,h7⟩
theorem zHo {rest:List Bool}{who:Int}{v:Nat}(hl:rest.length=n)(hv:v<n):gb (yY rest (wiM x n rest who)) v=yN rest (yV x n (n+1) rest) who v:=by
 rw [qy (by omega)]
 unfold wiM yN
 rw [yX hv]
 unfold wiB
 cases gb rest v<;>cases gb (yV x n (n+1) rest) v<;>cases(who==0)<;>rfl
theorem zGT {rest:List Bool}{who:Int}{v:Nat}(hw:who=0∨who=1)(hv:v<n):gb (wiM x n rest (1 - who)) v=yN rest (yV x n (n+1) rest) who v:=by
 unfold wiM yN
 rw [yX hv]
 unfold wiB
 rcases hw with rfl|rfl<;>cases gb rest v<;>cases gb (yV x n (n+1) rest) v<;>rfl
theorem WnI.lt {M:List Bool}{who:Int}{now lost goal rest:List Bool}(h:WnI x n M who now)(hrest:rest=yY now (yn x n now who goal))(hlost: ∀v,v<n→gb lost v=yN rest (yV x n (n+1) rest) who v)(hsome: ∃v,v<n∧gb lost v=true):yz (yY now (yn x n now (1 - who) lost)) n<yz now n:=by
 obtain⟨v,hv,h1⟩:=hsome
 refine QT h.len hv ?_ h1
 rw [hlost v hv]at h1
 unfold yN at h1
 rw [Bool.and_eq_true,hrest,qy (by rw [h.len];exact hv),Bool.and_eq_true]at h1
 exact h1.1.1
end
end Go.Proofs.YtcleaokoimhedaaGreat
