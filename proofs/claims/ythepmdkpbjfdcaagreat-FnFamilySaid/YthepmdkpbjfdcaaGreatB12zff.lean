/- visits zKj a loop: the greatest priority is even just if what is met belongs to the family; lassos of places; plain -/
import Derived.Test.YthepmdkpbjfdcaaGreatVazff
import Derived.Test.YthepmdkpbjfdcaaGreatB11zff
import Derived.Test.YthepmdkpbjfdcaaGreatB4zff
import Derived.Test.YthepmdkpbjfdcaaGreatB7zff
namespace Go.Proofs.YthepmdkpbjfdcaaGreat
open Go.RowKit
set_option linter.unusedVariables false
set_option linter.unusedSimpArgs false
theorem Xx {r:List Int}{i:Nat}(h:i<r.length):gi r i=r[i]:=by
 unfold gi
 rw [List.getD_eq_getElem?_getD,List.getElem?_eq_getElem h]
 rfl
theorem jP {r:List Int}{x:Int}(h:x∈r): ∃i,i<r.length∧gi r i=x:=by
 obtain⟨i,hi,e⟩:=List.mem_iff_getElem.1 h
 exact⟨i,hi,by rw [Xx hi];exact e⟩
theorem zKo {r:List Int}(h:r.Nodup){i j:Nat}(hi:i<r.length)(hj:j<r.length)(e:gi r i=gi r j):i=j:=by
 rw [Xx hi,Xx hj]at e
 have h2:=List.pairwise_iff_getElem.1 h
 rcases Nat.lt_trichotomy i j with h1|h1|h1
 ·exact absurd e (h2 i j hi hj h1)
 ·exact h1
 ·exact absurd e.symm (h2 j i hj hi h1)
theorem zL9 {q:Int→Bool}{r:List Int}{i:Nat}(hi:i<r.length)(hx:q (gi r i)=false): ∃j,i≤j∧j<(r.filter q++r.filter (fun x=> !q x)).length∧gi (r.filter q++r.filter (fun x=> !q x)) j=gi r i∧((∃m,i<m∧m<r.length∧q (gi r m)=true)→i<j):=by
 have hr:r=r.take i++gi r i::r.drop (i+1):=by
  rw [Xx hi]
  rw [List.getElem_cons_drop,List.take_append_drop]
 have hsplit: ∀l:List Int,l.length=(l.filter q).length+(l.filter (fun x=> !q x)).length:=fun l=>by
  induction l with
  |nil=>rfl
  |cons y l ih=>
   cases hy:q y<;>simp only [List.filter_cons,hy,List.length_cons,ih]<;>simp<;>omega
 have hti:(r.take i).length=i:=by rw [List.length_take];omega
 have h1:=hsplit (r.take i)
 rw [hti]at h1
 have hp:(r.filter q).length=((r.take i).filter q).length+((r.drop (i+1)).filter q).length:=by
  conv=>lhs;rw [hr]
  rw [List.filter_append,List.filter_cons,if_neg (by rw [hx];decide),List.length_append]
 have hq:r.filter (fun x=> !q x)=(r.take i).filter (fun x=> !q x)++gi r i::(r.drop (i+1)).filter (fun x=> !q x):=by
  conv=>lhs;rw [hr]
  rw [List.filter_append,List.filter_cons,if_pos (by rw [hx];rfl)]
 refine⟨(r.filter q).length+((r.take i).filter (fun x=> !q x)).length,by omega,?_,?_,?_⟩
 ·rw [List.length_append,hq,List.length_append,List.length_cons]
  omega
 ·unfold gi
  rw [List.getD_eq_getElem?_getD,List.getElem?_append_right (by omega),Nat.add_sub_cancel_left,hq,List.getElem?_append_right (Nat.le_refl _),Nat.sub_self]
  rfl
 ·rintro⟨m,h2,h3,h4⟩
  have h5:gi r m∈(r.drop (i+1)).filter q:=by
   refine List.mem_filter.2 ⟨?_,h4⟩
   rw [Xx h3]
   refine List.mem_iff_getElem.2 ⟨m - (i+1),by rw [List.length_drop];omega,?_⟩
   rw [List.getElem_drop]
   congr 1
   omega
  have h6:0<((r.drop (i+1)).filter q).length:=List.length_pos_of_mem h5
  omega
theorem zJb {r:List Int}(hn:r.Nodup){v:Int}(h:v∈r):r.filter (fun x=>decide (x=v))= [v]:=by
 induction r with
 |nil=>cases h
 |cons y r ih=>
  rw [List.nodup_cons]at hn
  by_cases e:y=v
  ·subst e
   rw [List.filter_cons,if_pos (decide_eq_true rfl)]
   congr 1
   rw [List.filter_eq_nil_iff]
   intro x hx h9
   rw [decide_eq_true_eq]at h9
   subst h9
   exact hn.1 hx
  ·rw [List.filter_cons,if_neg (by rw [decide_eq_true_eq];exact e)]
   rcases List.mem_cons.1 h with h9|h9
   ·exact absurd h9.symm e
   ·exact ih hn.2 h9
theorem zGz {r:List Int}(hn:r.Nodup)(v:Int):ye r v=r.filter (fun x=>decide (x=v))++r.filter (fun x=> !decide (x=v)):=by
 cases hb:zr r v with
 |true=>
  rw [Kg hb,zJb hn ((yD _ _).1 hb)]
  rfl
 |false=>
  have hnv: ¬v∈r:=fun h=>by rw [(yD _ _).2 h]at hb;cases hb
  rw [uC hb,List.filter_eq_nil_iff.2 fun x hx h9=>by rw [decide_eq_true_eq]at h9;subst h9;exact hnv hx,List.nil_append]
  symm
  rw [List.filter_eq_self]
  intro x hx
  rw [Bool.not_eq_true',decide_eq_false_iff_not]
  rintro rfl
  exact hnv hx
structure qg (f:Fm)(L:Nat)(rec:Nat→List Int)(v:Nat→Int):Prop where
 pos:0<L
 ok: ∀t,wW f (rec t)=true
 next: ∀t,rec (t+1)=ye (rec t) (v t)
 perR: ∀t,rec (t+L)=rec t
 perV: ∀t,v (t+L)=v t
section
variable {f:Fm} {L:Nat} {rec:Nat→List Int} {v:Nat→Int}
theorem qg.nd (h:qg f L rec v)(t:Nat):(rec t).Nodup:=(qV (h.ok t)).2.2.2.1
theorem qg.mem (h:qg f L rec v)(t:Nat)(x:Int):x∈rec t↔x∈f.names:=(qV (h.ok t)).2.2.2.2 x
theorem qg.len (h:qg f L rec v)(t:Nat):(rec t).length=f.names.length:=by
 have :=(qV (h.ok t)).2.1
 rw [←this,xJ]
theorem qg.up (h:qg f L rec v){t i:Nat}(hi:i<f.names.length)(hx: ¬gi (rec t) i=v t): ∃j,i≤j∧j<f.names.length∧gi (rec (t+1)) j=gi (rec t) i∧((∃m,i<m∧m<f.names.length∧gi (rec t) m=v t)→i<j):=by
 obtain⟨j,h1,h2,h3,h4⟩:=zL9 (q:=fun x=>decide (x=v t)) (r:=rec t) (i:=i) (by rw [h.len];exact hi) (decide_eq_false hx)
 rw [←zGz (h.nd t),←h.next]at h2 h3
 rw [h.len]at h2
 exact⟨j,h1,h2,h3,fun⟨m,m1,m2,m3⟩=>h4 ⟨m,m1,by rw [h.len];exact m2,decide_eq_true m3⟩⟩
theorem qg.mono (h:qg f L rec v){T i:Nat}(hi:i<f.names.length): ∀d,(∀s,s<d→¬gi (rec T) i=v (T+s))→∃j,i≤j∧j<f.names.length∧gi (rec (T+d)) j=gi (rec T) i
 |0,_=>⟨i,Nat.le_refl _,hi,rfl⟩
 |d+1,hg=>by
  obtain⟨j,h1,h2,h3⟩:=qg.mono h hi d fun s hs=>hg s (by omega)
  have hgd:=hg d (by omega)
  rw [←h3]at hgd
  obtain⟨m,k1,k2,k3,-⟩:=h.up h2 hgd
  exact⟨m,by omega,k2,k3.trans h3⟩
theorem qg.per (h:qg f L rec v)(t:Nat): ∀m,rec (t+m*L)=rec t∧v (t+m*L)=v t
 |0=>by simp
 |m+1=>by
  have ih:=qg.per h t m
  rw [show t+(m+1)*L=(t+m*L)+L from by rw [Nat.succ_mul];omega,h.perR,h.perV]
  exact ih
theorem qg.mod (h:qg f L rec v)(t:Nat):rec t=rec (t%L)∧v t=v (t%L):=by
 have :=h.per (t%L) (t / L)
 rw [show t%L+t / L*L=t from by rw [Nat.mul_comm];exact Nat.mod_add_div t L]at this
 exact this
theorem qg.never (h:qg f L rec v){t i:Nat}(hi:i<f.names.length)(hn: ∀s,¬gi (rec t) i=v s){m:Nat}(hm:m<f.names.length)(hg:gi (rec t) m=v t):m<i:=by
 rcases Nat.lt_trichotomy m i with h1|h1|h1
 ·exact h1
 ·subst h1;exact absurd hg (hn t)
 ·exfalso
  obtain⟨j,k1,k2,k3,k4⟩:=h.up (t:=t) hi (hn t)
  have k5:=k4 ⟨m,h1,hm,hg⟩
  obtain⟨q,q1,q2,q3⟩:=h.mono (T:=t+1) k2 (L - 1) fun s _=>by rw [k3];exact hn _
  rw [show t+1+(L - 1)=t+L from by have :=h.pos;omega,h.perR,k3]at q3
  have hl:=h.len t
  have :=zKo (h.nd t) (by omega) (by omega) q3
  omega
theorem Kl {r:List Int}{x:Int}(hn:r.Nodup){i:Nat}(hi:i<r.length)(e:gi r i=x):xZ f r x=2*i+(if xn f.sets (ya f.names (r.take (i+1)))then 2 else 1):=
 zKD hi (fun j hj e9=>by have :=zKo hn (i:=j) (j:=i) (by omega) hi (e9.trans e.symm);omega) e
theorem qg.law (h:qg f L rec v){M:Int}(h1: ∃T,T<L∧xZ f (rec T) (v T)=M)(h2: ∀t,t<L→xZ f (rec t) (v t)≤M){met:List Int}(hm: ∀x,x∈f.names→(zr met x=true↔∃t,t<L∧v t=x)):
  M%2=0↔xn f.sets (ya f.names met)=true:=by
 have hmax: ∀t,xZ f (rec t) (v t)≤M:=fun t=>by
  have :=h.mod t
  rw [this.1,this.2]
  exact h2 _ (Nat.mod_lt _ h.pos)
 obtain⟨T,hT,hM⟩:=h1
 have hnone: ∀t,zr (rec t) (v t)=false→xZ f (rec t) (v t)=if xn f.sets []then 0 else 1:=fun t e=>by unfold xZ;rw [e];rfl
 rcases Classical.em (∃t,zr (rec t) (v t)=true)with hex|hno
 ·-- a time at which a name is met,with the greatest priority
  have key: ∃T1,zr (rec T1) (v T1)=true∧xZ f (rec T1) (v T1)=M:=by
   cases hb:zr (rec T) (v T)with
   |true=>exact⟨T,hb,hM⟩
   |false=>
    obtain⟨t0,ht0⟩:=hex
    refine⟨t0,ht0,?_⟩
    obtain⟨i,hi,e⟩:=jP ((yD _ _).1 ht0)
    have e1:=Kl (f:=f) (h.nd t0) hi e
    have e2:=hnone T hb
    have e3:=hmax t0
    have e4:M≤1:=by rw [←hM,e2];split<;>omega
    have e5:(1:Int)≤(if xn f.sets (ya f.names ((rec t0).take (i+1)))then 2 else 1):=by split<;>omega
    rw [e1]at e3⊢
    omega
  obtain⟨T1,ht1,hM1⟩:=key
  obtain⟨c,hc,hce⟩:=jP ((yD _ _).1 ht1)
  have hlc:=h.len T1
  have e1:=Kl (f:=f) (h.nd T1) hc hce
  have hset:ya f.names ((rec T1).take (c+1))=ya f.names met:=by
   unfold ya
   refine List.filter_congr fun x hx=> ?_
   rw [Bool.eq_iff_iff,hm x hx,yD]
   constructor
   ·intro hxm
    obtain⟨p,hp,hpe⟩:=jP hxm
    rw [List.length_take]at hp
    have hpe2:gi (rec T1) p=x:=by
     rw [←hpe]
     unfold gi
     rw [List.getD_eq_getElem?_getD,List.getD_eq_getElem?_getD,List.getElem?_take,if_pos (by omega)]
    rcases Classical.em (∃s,v s=x)with⟨s,hs⟩|hv
    ·exact⟨s%L,Nat.mod_lt _ h.pos,by rw [←(h.mod s).2];exact hs⟩
    ·exfalso
     have :=h.never (t:=T1) (i:=p) (by omega) (fun s e=>hv ⟨s,by rw [←e];exact hpe2⟩) (m:=c) (by omega) hce
     omega
   ·rintro⟨s,hs,hse⟩
    obtain⟨p,hp,hpe⟩:=jP ((h.mem T1 x).2 hx)
    rcases Nat.lt_or_ge c p with hcp|hcp
    ·exfalso
     -- its first visit from T1 on
     have hexd: ∃d,v (T1+d)=x:=by
      have h9:=h.per s (T1+1)
      have h10:T1+1≤(T1+1)*L:=Nat.le_mul_of_pos_right _ h.pos
      refine⟨s+(T1+1)*L - T1,?_⟩
      rw [show T1+(s+(T1+1)*L - T1)=s+(T1+1)*L from by omega,h9.2]
      exact hse
     have hfst9: ∀n,(∃d,d<n∧v (T1+d)=x∧∀q,q<d→¬v (T1+q)=x)∨∀q,q<n→¬v (T1+q)=x:=by
      intro n
      induction n with
      |zero=>exact .inr fun q hq=>absurd hq (Nat.not_lt_zero q)
      |succ n ih=>
       rcases ih with⟨d,d1,d2,d3⟩|ih
       ·exact .inl ⟨d,by omega,d2,d3⟩
       ·by_cases hb:v (T1+n)=x
        ·exact .inl ⟨n,by omega,hb,ih⟩
        ·refine .inr fun q hq=> ?_
         rcases Nat.lt_or_ge q n with h9|h9
         ·exact ih q h9
         ·rw [show q=n by omega];exact hb
     obtain⟨d0,hd0⟩:=hexd
     rcases hfst9 (d0+1)with⟨d,-,d2,d3⟩|hk
     ·obtain⟨j,j1,j2,j3⟩:=h.mono (T:=T1) (i:=p) (by omega) d fun q hq=>by rw [hpe];exact fun e=>d3 q hq e.symm
      have hlj:=h.len (T1+d)
      have e5:=Kl (f:=f) (h.nd (T1+d)) (i:=j) (x:=v (T1+d)) (by omega) (by rw [j3,hpe,d2])
      have e6:=hmax (T1+d)
      rw [e5]at e6
      rw [←hM1,e1]at e6
      split at e6<;>split at e6<;>omega
     ·exact absurd hd0 (hk d0 (by omega))
    ·refine List.mem_iff_getElem.2 ⟨p,by rw [List.length_take];omega,?_⟩
     rw [List.getElem_take,←Xx hp]
     exact hpe
  rw [←hset,←hM1,e1]
  cases xn f.sets (ya f.names ((rec T1).take (c+1)))with
  |true=>simp only [if_true,iff_true];omega
  |false=>simp only [Bool.false_eq_true,if_false,iff_false];omega
 ·have hb: ∀t,zr (rec t) (v t)=false:=fun t=>by
   cases hb:zr (rec t) (v t)with
   |false=>rfl
   |true=>exact absurd ⟨t,hb⟩ hno
  have hset:ya f.names met= []:=by
   unfold ya
   rw [List.filter_eq_nil_iff]
   intro x hx hxm
   obtain⟨t,ht,e⟩:=(hm x hx).1 hxm
   have :=hb t
   rw [e,(yD _ _).2 ((h.mem t x).2 hx)]at this
   cases this
  rw [hset,←hM,hnone T (hb T)]
  cases xn f.sets []<;>simp
end
section
variable {a:Ar} {rc:Plc→List Int} {pr:Plc→Int} {p0:Plc} {V:List Int→Prop} {B:Nat}
theorem zKy {i:Nat}{k:Nat}(hk:k<(stQ (usA a) rc p0 i).length): ∀d,gq (stQ (usA a) rc p0 (i+d)) k=gq (stQ (usA a) rc p0 i) k
 |0=>rfl
 |d+1=>by
  have ih:=zKy hk d
  have hm:=XC (us:=usA a) (rc:=rc) (p0:=p0) (i:=i) (j:=i+d) (by omega)
  by_cases h:i+d<(stQ (usA a) rc p0 (i+d)).length
  ·rw [show i+(d+1)=i+d+1 from rfl,ZV h]
   rw [show uI (usA a) rc p0 (i+d) (usA a (plQ (usA a) rc p0 (i+d))).length=zn (rc (gq (stQ (usA a) rc p0 (i+d)) (i+d))) (usA a (gq (stQ (usA a) rc p0 (i+d)) (i+d))) (stQ (usA a) rc p0 (i+d)) (usA a (gq (stQ (usA a) rc p0 (i+d)) (i+d))).length from rfl]
   rw [WW (by omega) (Nat.le_refl _)]
   exact ih
  ·rw [show i+(d+1)=i+d+1 from rfl,Qu h]
   exact ih
theorem Ks {i j:Nat}(hij:i≤j){k:Nat}(hk:k<(stQ (usA a) rc p0 i).length):gq (stQ (usA a) rc p0 j) k=gq (stQ (usA a) rc p0 i) k:=by
 have :=zKy hk (j - i)
 rwa [show i+(j - i)=j by omega]at this
abbrev plA (a:Ar)(rc:Plc→List Int)(p0:Plc):List Plc:=stQ (usA a) rc p0 257
theorem UZ (hok:okQ (usA a) rc p0=true){v:Nat}(hv:v<(plA a rc p0).length){x:Int}(hx:zr (nxQ (usA a) rc p0 v) x=true):
  (0≤x∧x<(plA a rc p0).length)∧(gq (plA a rc p0) x.toNat).record=rc (gq (plA a rc p0) v)∧zr (gl a.next (gq (plA a rc p0) v).at_.toNat) (gq (plA a rc p0) x.toNat).at_=true:=by
 obtain⟨h1,h2,h3,h4⟩:=wL (n:=(plA a rc p0).length) hok rfl
 have hv2:=h4 v hv
 have hpv:gq (plA a rc p0) v=plQ (usA a) rc p0 v:=Ks (i:=v) (by omega) hv2
 have hx2:=(xE _).mem_iff.1 ((yD _ _).1 hx)
 obtain⟨j,hj,e⟩:=List.mem_iff_getElem.1 hx2
 have hlen:=(xw (r:=rc (plQ (usA a) rc p0 v)) (us:=usA a (plQ (usA a) rc p0 v)) (ps:=stQ (usA a) rc p0 v) (Nat.le_refl _)).1
 have hj2:j<(usA a (plQ (usA a) rc p0 v)).length:=Nat.lt_of_lt_of_eq hj hlen
 have h5:=WX (r:=rc (plQ (usA a) rc p0 v)) (us:=usA a (plQ (usA a) rc p0 v)) (ps:=stQ (usA a) rc p0 v) (Nat.le_refl _) j hj2
 have e2:gi (zn (rc (plQ (usA a) rc p0 v)) (usA a (plQ (usA a) rc p0 v)) (stQ (usA a) rc p0 v) (usA a (plQ (usA a) rc p0 v)).length).2 j=x:=by
  rw [ZN (by omega)];exact e
 rw [e2]at h5
 have h6:=ZV hv2
 have h7:stQ (usA a) rc p0 (v+1)=(zn (rc (plQ (usA a) rc p0 v)) (usA a (plQ (usA a) rc p0 v)) (stQ (usA a) rc p0 v) (usA a (plQ (usA a) rc p0 v)).length).1:=h6
 rw [←h7]at h5
 have h8:=XC (us:=usA a) (rc:=rc) (p0:=p0) (i:=v+1) (j:=257) (by omega)
 have h9:gq (plA a rc p0) x.toNat=⟨gi (usA a (plQ (usA a) rc p0 v)) j,rc (plQ (usA a) rc p0 v)⟩:=by
  rw [←h5.2]
  exact Ks (i:=v+1) (by omega) (by omega)
 refine⟨⟨h5.1.1,by show x<((stQ (usA a) rc p0 257).length:Int);omega⟩,?_,?_⟩
 ·rw [h9,hpv]
 ·rw [h9,hpv,yD]
  show gi (gl a.next (plQ (usA a) rc p0 v).at_.toNat) j∈_
  have :j<(gl a.next (plQ (usA a) rc p0 v).at_.toNat).length:=hj2
  rw [Xx this]
  exact List.getElem_mem this
theorem Zh (n:Nat):(gmA a rc pr p0 n).a.owner.length=n:=qO n
theorem zGj {n v:Nat}(h:v<n):gl (gmA a rc pr p0 n).a.next v=nxQ (usA a) rc p0 v:=by
 show gl (nxG a rc p0 n) v=_
 unfold nxG gl
 rw [List.getD_eq_getElem?_getD,List.getElem?_map,List.getElem?_range h]
 rfl
theorem gm_pr {n v:Nat}(h:v<n):gi (gmA a rc pr p0 n).prio v=pr (plQ (usA a) rc p0 v):=by
 show gi (prG a rc pr p0 n) v=_
 unfold prG
 rw [ZN (by simp;exact h)]
 simp
end
structure PG where
 own:Nat→Int
 pr:Nat→Nat
 E:Nat→Nat→Prop
inductive Wk (R:Nat→Nat→Prop)(pr:Nat→Nat):Nat→Nat→Nat→Prop
 |one {v u:Nat}:R v u→Wk R pr v u (pr v)
 |cons {v x u t:Nat}:R v x→Wk R pr x u t→Wk R pr v u (max (pr v) t)
theorem Wk.mono {R R':Nat→Nat→Prop}{pr:Nat→Nat}(h: ∀v u,R v u→R' v u){v u t:Nat}(w:Wk R pr v u t):Wk R' pr v u t:=by
 induction w with
 |one h1=>exact .one (h _ _ h1)
 |cons h1 _ ih=>exact .cons (h _ _ h1) ih
theorem Wk.app {R:Nat→Nat→Prop}{pr:Nat→Nat}{v x u s t:Nat}(a:Wk R pr v x s)(b:Wk R pr x u t):Wk R pr v u (max s t):=by
 induction a with
 |one h1=>exact .cons h1 b
 |cons h1 _ ih=>rw [Nat.max_assoc];exact .cons h1 (ih b)
theorem Wk.le {R:Nat→Nat→Prop}{pr:Nat→Nat}{top:Nat}(h: ∀v u,R v u→pr v≤top){v u t:Nat}(w:Wk R pr v u t):t≤top:=by
 induction w with
 |one h1=>exact h _ _ h1
 |cons h1 _ ih=>exact Nat.max_le.2 ⟨h _ _ h1,ih⟩
def SR (g:PG)(who:Int)(U:Nat→Prop)(s:Nat→Nat)(v u:Nat):Prop:=U v∧U u∧g.E v u∧(g.own v=who→u=s v)
structure xt (g:PG)(who:Int)(D U:Nat→Prop)(s:Nat→Nat):Prop where
 sub: ∀v,U v→D v
 own: ∀v,U v→g.own v=who→g.E v (s v)∧U (s v)
 opp: ∀v u,U v→¬g.own v=who→g.E v u→D u→U u
 good: ∀v t,Wk (SR g who U s) g.pr v v t→(t:Int)%2=who
def vT (g:PG)(who:Int)(D goal:Nat→Prop):Nat→Nat→Prop
 |0,v=>D v∧goal v
 |k+1,v=>vT g who D goal k v∨(D v∧((g.own v=who∧∃u,g.E v u∧vT g who D goal k u)∨(¬g.own v=who∧(∃u,g.E v u∧D u)∧∀u,g.E v u→D u→vT g who D goal k u)))
def Att (g:PG)(who:Int)(D goal:Nat→Prop)(v:Nat):Prop:= ∃k,vT g who D goal k v
section
variable {g:PG} {who:Int} {D goal:Nat→Prop}
theorem vT.inD {v:Nat}: ∀{k:Nat},vT g who D goal k v→D v
 |0,h=>h.1
 |k+1,h=>by
  rcases h with h|h
  ·exact vT.inD h
  ·exact h.1
theorem vT.up {v:Nat}{j:Nat}(h:vT g who D goal j v): ∀k,j≤k→vT g who D goal k v
 |0,hk=>by rw [show j=0 by omega]at h;exact h
 |k+1,hk=>by
  by_cases e:j=k+1
  ·rw [←e];exact h
  ·exact .inl (vT.up h k (by omega))
theorem zBc {P:Nat→Prop}: ∀n,P n→∃k,P k∧∀j,j<k→¬P j:=by
 intro n
 induction n using Nat.strongRecOn with
 |ind n ih=>
  intro h
  by_cases h2: ∃j,j<n∧P j
  ·obtain⟨j,hj,hp⟩:=h2
   exact ih j hj hp
  ·exact⟨n,h,fun j hj hp=>h2 ⟨j,hj,hp⟩⟩
open Classical in
noncomputable def rk (g:PG)(who:Int)(D goal:Nat→Prop)(v:Nat):Nat:=if h: ∃k,vT g who D goal k v∧∀j,j<k→¬vT g who D goal j v then h.choose else 0
theorem zF1 {v:Nat}(h:Att g who D goal v):vT g who D goal (rk g who D goal v) v∧∀j,j<rk g who D goal v→¬vT g who D goal j v:=by
 obtain⟨n,hn⟩:=h
 have h2:=zBc (P:=fun k=>vT g who D goal k v) n hn
 unfold rk
 rw [dif_pos h2]
 exact h2.choose_spec
theorem zKx {v k:Nat}(h:vT g who D goal k v):rk g who D goal v≤k:=by
 have :=(zF1 ⟨k,h⟩).2 k
 rcases Nat.lt_or_ge k (rk g who D goal v)with h1|h1
 ·exact absurd h (this h1)
 ·exact h1
theorem Att.cases {v:Nat}(h:Att g who D goal v):(D v∧goal v)∨(D v∧g.own v=who∧∃u,g.E v u∧Att g who D goal u∧rk g who D goal u<rk g who D goal v)∨(D v∧¬g.own v=who∧∀u,g.E v u→D u→Att g who D goal u∧rk g who D goal u<rk g who D goal v):=by
 obtain⟨h1,h2⟩:=zF1 h
 generalize hr:rk g who D goal v=r at h1 h2
 cases r with
 |zero=>exact .inl h1
 |succ k=>
  rcases h1 with h1|⟨hD,h1⟩
  ·exact absurd h1 (h2 k (by omega))
  ·rcases h1 with⟨ho,u,he,hu⟩|⟨ho,-,ha⟩
   ·exact .inr (.inl ⟨hD,ho,u,he,⟨k,hu⟩,Nat.lt_succ_of_le (zKx hu)⟩)
   ·exact .inr (.inr ⟨hD,ho,fun u he hu=>⟨⟨k,ha u he hu⟩,Nat.lt_succ_of_le (zKx (ha u he hu))⟩⟩)
theorem Att.inD {v:Nat}(h:Att g who D goal v):D v:=by obtain⟨k,hk⟩:=h;exact hk.inD
theorem Att.base {v:Nat}(h1:D v)(h2:goal v):Att g who D goal v:=⟨0,h1,h2⟩
theorem Att.own {v u:Nat}(h1:D v)(h2:g.own v=who)(h3:g.E v u)(h4:Att g who D goal u):Att g who D goal v:=by
 obtain⟨k,hk⟩:=h4
 exact⟨k+1, .inr ⟨h1, .inl ⟨h2,u,h3,hk⟩⟩⟩
theorem Att.opp {n:Nat}(hn: ∀v u,g.E v u→u<n){v:Nat}(h1:D v)(h2: ¬g.own v=who)(h3: ∃u,g.E v u∧D u)(h4: ∀u,g.E v u→D u→Att g who D goal u):Att g who D goal v:=by
 have key: ∀m,∃k,∀u,u<m→g.E v u→D u→vT g who D goal k u:=by
  intro m
  induction m with
  |zero=>exact⟨0,fun u hu=>by omega⟩
  |succ m ih=>
   obtain⟨k,hk⟩:=ih
   by_cases hm:g.E v m∧D m
   ·obtain⟨j,hj⟩:=h4 m hm.1 hm.2
    refine⟨max k j,fun u hu he hd=> ?_⟩
    by_cases e:u=m
    ·rw [e];exact hj.up _ (Nat.le_max_right ..)
    ·exact(hk u (by omega) he hd).up _ (Nat.le_max_left ..)
   ·refine⟨k,fun u hu he hd=> ?_⟩
    by_cases e:u=m
    ·rw [e]at he hd;exact absurd ⟨he,hd⟩ hm
    ·exact hk u (by omega) he hd
 obtain⟨k,hk⟩:=key n
 exact⟨k+1, .inr ⟨h1, .inr ⟨h2,h3,fun u he hd=>hk u (hn v u he) he hd⟩⟩⟩
theorem Att.out_own {v u:Nat}(h1:D v)(h: ¬Att g who D goal v)(h2:g.own v=who)(h3:g.E v u): ¬Att g who D goal u:=fun h4=>h (.own h1 h2 h3 h4)
theorem Att.out_opp {n:Nat}(hn: ∀v u,g.E v u→u<n){v:Nat}(h1:D v)(h: ¬Att g who D goal v)(h2: ¬g.own v=who)(h3: ∃u,g.E v u∧D u): ∃u,g.E v u∧D u∧¬Att g who D goal u:=by
 by_cases h4: ∃u,g.E v u∧D u∧¬Att g who D goal u
 ·exact h4
 ·exact absurd (Att.opp hn h1 h2 h3 fun u he hd=>Classical.byContradiction fun h5=>h4 ⟨u,he,hd,h5⟩) h
end
def wE (g:PG)(D:Nat→Prop):Prop:= ∀v,D v→∃u,g.E v u∧D u
theorem VM {g:PG}{who:Int}{D goal:Nat→Prop}{n:Nat}(hn: ∀v u,g.E v u→u<n)(h:wE g D):wE g (fun v=>D v∧¬Att g who D goal v):=fun v hv=>by
 obtain⟨u,he,hd⟩:=h v hv.1
 by_cases ho:g.own v=who
 ·exact⟨u,he,hd,Att.out_own hv.1 hv.2 ho he⟩
 ·obtain⟨x,a,b,c⟩:=Att.out_opp hn hv.1 hv.2 ho ⟨u,he,hd⟩
  exact⟨x,a,b,c⟩
open Classical in
noncomputable def Jy (g:PG)(who:Int)(D goal:Nat→Prop)(v:Nat):Nat:=if h: ∃u,g.E v u∧Att g who D goal u∧rk g who D goal u<rk g who D goal v then h.choose else 0
theorem VA {g:PG}{who:Int}{D goal:Nat→Prop}{v:Nat}(h:Att g who D goal v)(hg: ¬goal v)(ho:g.own v=who):g.E v (Jy g who D goal v)∧Att g who D goal (Jy g who D goal v)∧rk g who D goal (Jy g who D goal v)<rk g who D goal v:=by
 have h2: ∃u,g.E v u∧Att g who D goal u∧rk g who D goal u<rk g who D goal v:=by
  rcases h.cases with⟨-,h1⟩|⟨-,-,h1⟩|⟨-,h1,-⟩
  ·exact absurd h1 hg
  ·exact h1
  ·exact absurd ho h1
 unfold Jy
 rw [dif_pos h2]
 exact h2.choose_spec
section
variable {g:PG} {who:Int} {D:Nat→Prop} {top n:Nat}
open Classical in
theorem zGG (hn: ∀v u,g.E v u→u<n)(hl:wE g D)(htop: ∀v,D v→g.pr v≤top)(hpar:(top:Int)%2=who){s:Nat→Nat}
  (hw:xt g who (fun v=>D v∧¬Att g who D (fun v=>g.pr v=top) v) (fun v=>D v∧¬Att g who D (fun v=>g.pr v=top) v) s): ∃s',xt g who D D s':=by
 let A:=Att g who D (fun v=>g.pr v=top)
 let r:=rk g who D (fun v=>g.pr v=top)
 have hsome: ∀v,∃u,D v→g.E v u∧D u:=fun v=>by
  by_cases h:D v
  ·obtain⟨u,hu⟩:=hl v h;exact⟨u,fun _=>hu⟩
  ·exact⟨0,fun h2=>absurd h2 h⟩
 let any:Nat→Nat:=fun v=>(hsome v).choose
 have hany: ∀v,D v→g.E v (any v)∧D (any v):=fun v=>(hsome v).choose_spec
 let s':Nat→Nat:=fun v=>if A v then(if g.pr v=top then any v else Jy g who D (fun v=>g.pr v=top) v)else s v
 have e1: ∀v,A v→g.pr v=top→s' v=any v:=fun v h1 h2=>by show(if _ then _ else _)=_;rw [if_pos h1,if_pos h2]
 have e2: ∀v,A v→¬g.pr v=top→s' v=Jy g who D (fun v=>g.pr v=top) v:=fun v h1 h2=>by show(if _ then _ else _)=_;rw [if_pos h1,if_neg h2]
 have e3: ∀v,¬A v→s' v=s v:=fun v h1=>by show(if _ then _ else _)=_;rw [if_neg h1]
 refine⟨s',fun v h=>h,fun v hv ho=> ?_,fun v u _ _ _ hu=>hu,fun v t w=> ?_⟩
 ·by_cases hA:A v
  ·by_cases hp:g.pr v=top
   ·rw [e1 v hA hp];exact hany v hv
   ·rw [e2 v hA hp]
    have :=VA hA hp ho
    exact⟨this.1,Att.inD this.2.1⟩
  ·rw [e3 v hA]
   have :=hw.own v ⟨hv,hA⟩ ho
   exact⟨this.1,this.2.1⟩
 ·have hle:=w.le fun v u h=>htop v h.1
  have claim: ∀{v u t:Nat},Wk (SR g who D s') g.pr v u t→t<top→(A v→A u∧r u<r v)∧(¬A v→A u∨Wk (SR g who (fun v=>D v∧¬A v) s) g.pr v u t):=by
   intro v u t w
   have stepA: ∀v u,SR g who D s' v u→g.pr v<top→A v→A u∧r u<r v:=fun v u h hp hA=>by
    rcases hA.cases with⟨-,h1⟩|⟨-,ho,-⟩|⟨-,ho,ha⟩
    ·omega
    ·have h2:=VA hA (by omega) ho
     rw [h.2.2.2 ho,e2 v hA (by omega)]
     exact h2.2
    ·exact ha u h.2.2.1 h.2.1
   have zCL: ∀v u,SR g who D s' v u→¬A v→¬A u→SR g who (fun v=>D v∧¬A v) s v u:=fun v u h h1 h2=>⟨⟨h.1,h1⟩,⟨h.2.1,h2⟩,h.2.2.1,fun ho=>by rw [h.2.2.2 ho,e3 v h1]⟩
   induction w with
   | @one v u h=>
    intro ht
    refine⟨stepA v u h ht,fun hA=> ?_⟩
    by_cases hu:A u
    ·exact .inl hu
    ·exact .inr (.one (zCL v u h hA hu))
   | @cons v x u t h w ih=>
    intro ht
    obtain⟨i1,i2⟩:=ih (by omega)
    refine⟨fun hA=> ?_,fun hA=> ?_⟩
    ·obtain⟨a,b⟩:=stepA v x h (by omega) hA
     obtain⟨c,d⟩:=i1 a
     exact⟨c,Nat.lt_trans d b⟩
    ·by_cases hx:A x
     ·exact .inl (i1 hx).1
     ·rcases i2 hx with h5|h5
      ·exact .inl h5
      ·exact .inr (.cons (zCL v x h hA hx) h5)
  by_cases ht:t=top
  ·rw [ht];exact hpar
  ·obtain⟨i1,i2⟩:=claim w (by omega)
   by_cases hA:A v
   ·have :=(i1 hA).2
    omega
   ·rcases i2 hA with h5|h5
    ·exact absurd h5 hA
    ·exact hw.good v t h5
theorem zAr {opp:Int}(ho2: ∀v,g.own v=who∨g.own v=opp)(hne: ¬who=opp){goal L M:Nat→Prop}{s m:Nat→Nat}
  (hL:xt g opp (fun v=>D v∧¬Att g who D goal v) L s)
  (hM:xt g opp (fun v=>D v∧¬Att g opp D L v) M m): ∃s',xt g opp D (fun v=>M v∨Att g opp D L v) s':=by
 classical
 let B:=Att g opp D L
 let r:=rk g opp D L
 have hLD: ∀v,L v→D v:=fun v h=>(hL.sub v h).1
 have hLB: ∀v,L v→B v:=fun v h=>Att.base (hLD v h) h
 let s':Nat→Nat:=fun v=>if L v then s v else if B v then Jy g opp D L v else m v
 have e1: ∀v,L v→s' v=s v:=fun v h=>by show(if _ then _ else _)=_;rw [if_pos h]
 have e2: ∀v,¬L v→B v→s' v=Jy g opp D L v:=fun v h h2=>by show(if _ then _ else _)=_;rw [if_neg h,if_pos h2]
 have e3: ∀v,¬B v→s' v=m v:=fun v h=>by show(if _ then _ else _)=_;rw [if_neg (fun h2=>h (hLB v h2)),if_neg h]
 have hMB: ∀v,M v→¬B v:=fun v h=>(hM.sub v h).2
 -- from L nobody leaves L
 have stepL: ∀v u,L v→D u→g.E v u→(g.own v=opp→u=s' v)→L u:=fun v u h1 h2 h3 h4=>by
  rcases ho2 v with e|e
  ·have hv:=hL.sub v h1
   exact hL.opp v u h1 (fun e5=>hne (e.symm.trans e5)) h3 ⟨h2,Att.out_own hv.1 hv.2 e h3⟩
  ·rw [h4 e,e1 v h1];exact(hL.own v h1 e).2
 refine⟨s',fun v h=> ?_,fun v h ho=> ?_,fun v u h ho he hu=> ?_,fun v t w=> ?_⟩
 ·rcases h with h|h
  ·exact(hM.sub v h).1
  ·exact Att.inD h
 ·by_cases h1:L v
  ·rw [e1 v h1]
   have :=hL.own v h1 ho
   exact⟨this.1, .inr (hLB _ this.2)⟩
  ·by_cases h2:B v
   ·rw [e2 v h1 h2]
    have :=VA h2 h1 ho
    exact⟨this.1, .inr this.2.1⟩
   ·rw [e3 v h2]
    rcases h with h|h
    ·have :=hM.own v h ho
     exact⟨this.1, .inl this.2⟩
    ·exact absurd h h2
 ·by_cases h3:B u
  ·exact .inr h3
  ·by_cases h1:L v
   ·exact .inr (hLB _ (stepL v u h1 hu he fun e=>absurd e ho))
   ·rcases h with h|h
    ·exact .inl (hM.opp v u h ho he ⟨hu,h3⟩)
    ·rcases h.cases with⟨-,h4⟩|⟨-,h4,-⟩|⟨-,-,h4⟩
     ·exact absurd h4 h1
     ·exact absurd h4 ho
     ·exact .inr (h4 u he hu).1
 ·have hD: ∀v,(M v∨B v)→D v:=fun v h=>by
   rcases h with h|h
   ·exact(hM.sub v h).1
   ·exact Att.inD h
  have claim: ∀{v u t:Nat},Wk (SR g opp (fun v=>M v∨B v) s') g.pr v u t→(L v→L u∧Wk (SR g opp L s) g.pr v u t)∧(¬L v→B v→L u∨(B u∧r u<r v))∧(¬B v→B u∨Wk (SR g opp M m) g.pr v u t):=by
   intro v u t w
   have q1: ∀v u,SR g opp (fun v=>M v∨B v) s' v u→L v→L u∧SR g opp L s v u:=fun v u h h1=>by
    have h2:=stepL v u h1 (hD u h.2.1) h.2.2.1 h.2.2.2
    exact⟨h2,h1,h2,h.2.2.1,fun e=>by rw [h.2.2.2 e,e1 v h1]⟩
   have q2: ∀v u,SR g opp (fun v=>M v∨B v) s' v u→¬L v→B v→B u∧r u<r v:=fun v u h h1 h2=>by
    rcases h2.cases with⟨-,h4⟩|⟨-,h4,-⟩|⟨-,-,h4⟩
    ·exact absurd h4 h1
    ·have :=VA h2 h1 h4
     rw [h.2.2.2 h4,e2 v h1 h2]
     exact this.2
    ·exact h4 u h.2.2.1 (hD u h.2.1)
   have q3: ∀v u,SR g opp (fun v=>M v∨B v) s' v u→¬B v→¬B u→SR g opp M m v u:=fun v u h h1 h2=>by
    have hm: ∀x,(M x∨B x)→¬B x→M x:=fun x h5 h6=>h5.resolve_right h6
    exact⟨hm v h.1 h1,hm u h.2.1 h2,h.2.2.1,fun e=>by rw [h.2.2.2 e,e3 v h1]⟩
   induction w with
   | @one v u h=>
    refine⟨fun h1=> ?_,fun h1 h2=> .inr (q2 v u h h1 h2),fun h1=> ?_⟩
    ·obtain⟨a,b⟩:=q1 v u h h1
     exact⟨a, .one b⟩
    ·by_cases h2:B u
     ·exact .inl h2
     ·exact .inr (.one (q3 v u h h1 h2))
   | @cons v x u t h w ih=>
    obtain⟨i1,i2,i3⟩:=ih
    refine⟨fun h1=> ?_,fun h1 h2=> ?_,fun h1=> ?_⟩
    ·obtain⟨a,b⟩:=q1 v x h h1
     obtain⟨c,d⟩:=i1 a
     exact⟨c, .cons b d⟩
    ·obtain⟨a,b⟩:=q2 v x h h1 h2
     by_cases hx:L x
     ·exact .inl (i1 hx).1
     ·rcases i2 hx a with h5|h5
      ·exact .inl h5
      ·exact .inr ⟨h5.1,Nat.lt_trans h5.2 b⟩
    ·by_cases h2:B x
     ·by_cases hx:L x
      ·exact .inl (hLB _ (i1 hx).1)
      ·rcases i2 hx h2 with h5|h5
       ·exact .inl (hLB _ h5)
       ·exact .inl h5.1
     ·rcases i3 h2 with h5|h5
      ·exact .inl h5
      ·exact .inr (.cons (q3 v x h h1 h2) h5)
  obtain⟨i1,i2,i3⟩:=claim w
  by_cases h1:L v
  ·exact hL.good v t (i1 h1).2
  ·by_cases h2:B v
   ·rcases i2 h1 h2 with h5|h5
    ·exact absurd h5 h1
    ·omega
   ·rcases i3 h2 with h5|h5
    ·exact absurd h5 h2
    ·exact hM.good v t h5
theorem zAs {opp:Int}(ho2: ∀v,g.own v=who∨g.own v=opp){L M:Nat→Prop}{m:Nat→Nat}(hM:xt g who (fun v=>D v∧¬Att g opp D L v) M m):xt g who D M m:=
 ⟨fun v h=>(hM.sub v h).1,hM.own,fun v u h ho he hu=>hM.opp v u h ho he ⟨hu,Att.out_own (hM.sub v h).1 (hM.sub v h).2 ((ho2 v).resolve_left ho) he⟩,hM.good⟩
end
theorem yU {g:PG}{who:Int}{D U D' U':Nat→Prop}{s:Nat→Nat}(h:xt g who D U s)(hD: ∀v,D v↔D' v)(hU: ∀v,U v↔U' v):xt g who D' U' s:=by
 have e1:D=D':=funext fun v=>propext (hD v)
 have e2:U=U':=funext fun v=>propext (hU v)
 rw [←e1,←e2];exact h
theorem Jk {g:PG}{D U V:Nat→Prop}{s t:Nat→Nat}{n:Nat}(hn: ∀v,D v→v<n)(ho: ∀v,g.own v=0∨g.own v=1)(h0:xt g 0 D U s)(h1:xt g 1 D V t)(v:Nat)(hU:U v)(hV:V v):False:=by
 let f:Nat→Nat:=fun x=>if g.own x=0 then s x else t x
 have step: ∀x,U x∧V x→(U (f x)∧V (f x))∧SR g 0 U s x (f x)∧SR g 1 V t x (f x):=fun x ⟨hu,hv⟩=>by
  rcases ho x with e|e
  ·have hf:f x=s x:=if_pos e
   have a:=h0.own x hu e
   have b:=h1.opp x (s x) hv (by omega) a.1 (h0.sub _ a.2)
   rw [hf]
   exact⟨⟨a.2,b⟩,⟨hu,a.2,a.1,fun _=>rfl⟩,hv,b,a.1,fun e2=>by omega⟩
  ·have hf:f x=t x:=if_neg (by omega)
   have a:=h1.own x hv e
   have b:=h0.opp x (t x) hu (by omega) a.1 (h1.sub _ a.2)
   rw [hf]
   exact⟨⟨b,a.2⟩,⟨hu,b,a.1,fun e2=>by omega⟩,hv,a.2,a.1,fun _=>rfl⟩
 let it:Nat→Nat:=fun k=>Nat.rec v (fun _ x=>f x) k
 have hit: ∀k,U (it k)∧V (it k):=fun k=>by
  induction k with
  |zero=>exact⟨hU,hV⟩
  |succ k ih=>exact(step _ ih).1
 have hlt: ∀k,it k<n:=fun k=>hn _ (h0.sub _ (hit k).1)
 have walk: ∀i d,∃p,Wk (SR g 0 U s) g.pr (it i) (it (i+d+1)) p∧Wk (SR g 1 V t) g.pr (it i) (it (i+d+1)) p:=by
  intro i d
  induction d with
  |zero=>exact⟨_, .one (step _ (hit i)).2.1, .one (step _ (hit i)).2.2⟩
  |succ d ih=>
   obtain⟨p,a,b⟩:=ih
   exact⟨_,a.app (.one (step _ (hit (i+d+1))).2.1),b.app (.one (step _ (hit (i+d+1))).2.2)⟩
 have rep: ∃i d,it (i+d+1)=it i:=by
  refine Classical.byContradiction fun hno=> ?_
  have hnd:((List.range (n+1)).map it).Nodup:=by
   rw [List.nodup_iff_pairwise_ne,List.pairwise_map]
   refine List.Pairwise.imp_of_mem ?_ (List.pairwise_lt_range)
   intro a b ha hb hab e
   exact hno ⟨a,b - a - 1,by rw [show a+(b - a - 1)+1=b by omega];exact e.symm⟩
  have :=List.Nodup.length_le_of_subset (l₂:=List.range n) hnd (fun x hx=>by
   obtain⟨k,-,rfl⟩:=List.mem_map.1 hx
   exact List.mem_range.2 (hlt k))
  simp at this
  omega
 obtain⟨i,d,e⟩:=rep
 obtain⟨p,a,b⟩:=walk i d
 rw [e]at a b
 have :=h0.good _ _ a
 have :=h1.good _ _ b
 omega
open Nat renaming reduceMod → zA, reduceMul → zB, reduceDiv → zC, reduceAdd → zD, reduceSub → zE, reduceEqDiff → zF, reduceBEq → zG, reduceLT → zH, reduceLeDiff → zI
theorem zMP (xs:List Bool)(n:Nat):(dB xs).take n=dB (xs.take n):=by simp [dB]
attribute [push_cast] zMP
structure L7 where
 owner:List Int
 prio:List Int
 next:List (List Int)
 prev:List (List Int)
 pick:List Int
def dL7 (x:L7):List D:= [DI x.owner,DI x.prio,DII x.next,DII x.prev,DI x.pick]
structure L7.Ok (x:L7)(n:Nat):Prop where
 hn:n≤256
 ho:x.owner.length=n
 hp:x.prio.length=n
 hx:x.next.length=n
 hv:x.prev.length=n
 hk:x.pick.length=n
 deg: ∀v,v<n→(gl x.next v).length≤256
 to: ∀v,v<n→∀j,j<(gl x.next v).length→0≤gi (gl x.next v) j∧gi (gl x.next v) j<n
 pr: ∀v,v<n→0≤gi x.prio v∧gi x.prio v≤40
 ow: ∀v,v<n→gi x.owner v=0∨gi x.owner v=1
 nd: ∀v,v<n→∀i j,i<j→j<(gl x.next v).length→gi (gl x.next v) i≠gi (gl x.next v) j
 dpv: ∀u,u<n→(gl x.prev u).length≤256
 pin: ∀u,u<n→∀m,m<(gl x.prev u).length→(0≤gi (gl x.prev u) m∧gi (gl x.prev u) m<n)∧∃j,j<(gl x.next (gi (gl x.prev u) m).toNat).length∧gi (gl x.next (gi (gl x.prev u) m).toNat) j=u
 pal: ∀v,v<n→∀j,j<(gl x.next v).length→∃m,m<(gl x.prev (gi (gl x.next v) j).toNat).length∧gi (gl x.prev (gi (gl x.next v) j).toNat) m=v
 pnd: ∀u,u<n→∀i j,i<j→j<(gl x.prev u).length→gi (gl x.prev u) i≠gi (gl x.prev u) j
def edB (x:L7)(v u:Int):Bool:=decide (gi x.pick v.toNat<0∨gi x.pick v.toNat=u)
def vw (x:L7)(inn:List Bool)(v:Nat):Nat→Int
 |0=>0
 |k+1=>if gb inn (gi (gl x.next v) k).toNat&&edB x v (gi (gl x.next v) k)then vw x inn v k+1 else vw x inn v k
theorem jI (x:L7)(inn:List Bool)(v:Nat): ∀k,0≤vw x inn v k∧vw x inn v k≤k
 |0=>⟨Int.le_refl _,Int.le_refl _⟩
 |k+1=>by
  have :=jI x inn v k
  unfold vw
  split<;>omega
theorem ke {x:L7}{inn:List Bool}{v k:Nat}(h1:gb inn (gi (gl x.next v) k).toNat=true)(h2:edB x v (gi (gl x.next v) k)=true):vw x inn v (k+1)=vw x inn v k+1:=by
 show(if _ then _ else _)=_;rw [h1,h2];rfl
theorem kd {x:L7}{inn:List Bool}{v k:Nat}(h1:gb inn (gi (gl x.next v) k).toNat=false):vw x inn v (k+1)=vw x inn v k:=by
 show(if _ then _ else _)=_;rw [h1];rfl
theorem zC5 {x:L7}{inn:List Bool}{v k:Nat}(h2:edB x v (gi (gl x.next v) k)=false):vw x inn v (k+1)=vw x inn v k:=by
 show(if _ then _ else _)=_;rw [h2,Bool.and_false];rfl
def wR (x:L7)(inn:List Bool)(v:Nat):Int:=vw x inn v (gl x.next v).length
def mkB (n:Nat)(f:Nat→Bool)(k:Nat):List Bool:=(List.range k).map f++List.replicate (n - k) false
theorem ZR {n:Nat}{f:Nat→Bool}{k:Nat}(h:k≤n):(mkB n f k).length=n:=by unfold mkB;simp;omega
theorem VN (n:Nat)(f:Nat→Bool):mkB n f 0=List.replicate n false:=by simp [mkB]
theorem zCG (n:Nat)(f:Nat→Bool):mkB n f n=(List.range n).map f:=by simp [mkB]
theorem qq {n:Nat}{f:Nat→Bool}{k:Nat}(h:k<n):(mkB n f k).set k (f k)=mkB n f (k+1):=by
 unfold mkB
 rw [List.set_append_right _ _ (by simp),List.length_map,List.length_range,Nat.sub_self,show n - k=(n - (k+1))+1 from by omega,List.replicate_succ,List.set_cons_zero,List.range_succ,List.map_append,List.append_assoc]
 rfl
theorem UP {n:Nat}{f:Nat→Bool}{v:Nat}(h:v<n):gb ((List.range n).map f) v=f v:=by
 unfold gb
 rw [List.getD_eq_getElem?_getD,List.getElem?_map,List.getElem?_range h]
 rfl
def vm (inn out:List Bool)(v:Nat):Bool:=gb inn v&& !gb out v
def yT (inn out:List Bool):List Bool:=(List.range inn.length).map (vm inn out)
def yV (x:L7)(inn:List Bool):Nat→Int
 |0=> -1
 |k+1=>if gb inn k then max (yV x inn k) (gi x.prio k)else yV x inn k
theorem jk {x:L7}{n:Nat}(h:x.Ok n)(inn:List Bool): ∀k,k≤n→ -1≤yV x inn k∧yV x inn k≤40
 |0,_=>⟨Int.le_refl _,(show(-1:Int)≤40 by decide)⟩
 |k+1,hk=>by
  have :=jk h inn k (by omega)
  have :=h.pr k (by omega)
  unfold yV
  split<;>omega
theorem zEP {x:L7}{inn:List Bool}{k:Nat}(h:gb inn k=true):yV x inn (k+1)=if gi x.prio k>yV x inn k then gi x.prio k else yV x inn k:=by
 show(if _ then _ else _)=_
 rw [if_pos h]
 split<;>omega
theorem zF9 {x:L7}{inn:List Bool}{k:Nat}(h:gb inn k=false):yV x inn (k+1)=yV x inn k:=by
 show(if _ then _ else _)=_
 rw [h];rfl
set_option maxRecDepth 20000 in
set_option maxHeartbeats 4000000 in
theorem zBZ (x:L7)(n:Nat)(hx:x.Ok n)(v u:Int)(hv:0≤v∧v<n):Fn Tryz.prog tyT 178 [.agg (dL7 x), .c (.int .i64 v), .c (.int .i64 u)] [.c (.bool (edB x v u))]:=by
 have hn1:=hx.hn
 have hn2:=hx.ho
 have hn3:=hx.hp
 have hn4:=hx.hx
 have hn5:=hx.hv
 have hn6:=hx.hk
 unfold dL7
 refine θH (ts:= [6]) Tryz.func178 Tryz.ntmps178 ?_
 push_cast [↓zK,↓zJ]
 refine θA ?_
 refine zL fun K hK=> ?_
 refine zc false zQ zN ?_ rfl ?_
 ·kernel_rfl
 all_goals push_cast [↓zK,↓zJ]
 all_goals repeat'(first|(apply zO<;>(intro hg;(try simp only [push_cast]at hg)))|apply And.intro|(intro hg;(try simp only [push_cast]at hg)))
 all_goals try exact gA
 all_goals(refine hK _ ?_;clear hK K)
 all_goals(
   refine zY ?_
   refine⟨Or.inl rfl,?_⟩
   push_cast [zd,↓zK,↓zJ]
   all_goals first|(symm;unfold edB;rw [decide_eq_true_eq];omega)|(symm;unfold edB;rw [decide_eq_false_iff_not];omega)|(unfold edB;rw [Bool.eq_iff_iff];simp;omega))
set_option maxRecDepth 20000 in
set_option maxHeartbeats 4000000 in
theorem zEr (x:L7)(n:Nat)(hx:x.Ok n)(inn:List Bool)(hi:inn.length=n)(v:Nat)(hv:v<n):Fn Tryz.prog tyT 177 [.agg (dL7 x), .c (.lst 4 (dB inn)), .c (.int .i64 v)] [.c (.int .i64 (wR x inn v))]:=by
 have hn1:=hx.hn
 have hn2:=hx.ho
 have hn3:=hx.hp
 have hn4:=hx.hx
 have hn5:=hx.hv
 have hn6:=hx.hk
 have hdeg:=hx.deg v hv
 have hto:=hx.to v hv
 have hE:=fun u=>zBZ x n hx (v:Int) u (by omega)
 unfold dL7 at hE⊢
 refine θH (ts:= [6]) Tryz.func177 Tryz.ntmps177 ?_
 push_cast [↓zK,↓zJ]
 refine θA ?_
 refine θA ?_
 refine zL fun K1 hK1=> ?_
 refine θA ?_
 refine zV ?_
 refine zh [7,8,9,10,11,12,13,14,15,16,17,18,19,20,21,22,23,24,25,26,27,28,29,30,31,32,33,34,35,36,37,38,39] [] (fun(k:Nat)=> [(8, .int .i64 k),(7, .int .i64 (vw x inn v k))]) (fun k=> []) (fun k=> []) (fun k=>k≤(gl x.next v).length) (fun k=>(gl x.next v).length - k) 0 ?_ (by omega) ?_
 ·
  rw [show vw x inn v 0=0 from rfl]
  exact θX
 ·rintro k hk KL0 hL0
  push_cast [↓zK,↓zJ]
  refine zL fun K2 hK2=> ?_
  refine θA ?_
  refine θU (fun hc=> ?_) fun hc=> ?_
  ·
   refine zW (hK2 _ ?_)
   refine zL fun K3 hK3=> ?_
   refine zV ?_
   have hto1:=hto k (by omega)
   have hdk:=jI x inn v k
   refine θA ?_
   refine zL fun K hK=> ?_
   refine zc false zQ zN ?_ rfl ?_
   ·kernel_rfl
   all_goals refine zm 9 fun K9 hK9=> ?_
   all_goals push_cast [↓zK,↓zJ]
   all_goals repeat'(first|(apply zO<;>(intro hg;(try push_cast at hg)))|(refine⟨_,hE (gi (gl x.next v) k),?_⟩;push_cast [↓zK,↓zJ])|apply And.intro|(intro hg;(try push_cast at hg)))
   all_goals first|exact gA|(exact zP (by omega))|skip
   all_goals(refine hK9 _ ?_;clear hK9 K9)
   all_goals push_cast [↓zK,↓zJ]
   all_goals repeat'(first|(apply zO<;>(intro hg;(try push_cast at hg)))|(refine⟨_,hE (gi (gl x.next v) k),?_⟩;push_cast [↓zK,↓zJ])|apply And.intro|(intro hg;(try push_cast at hg)))
   all_goals first|exact gA|(exact zP (by omega))|skip
   all_goals(refine hK _ ?_;clear hK K)
   all_goals refine zU rfl (fun hc=> ?_) (fun hc=> ?_)
   all_goals(first|(cases hc;done)|skip)
   all_goals(try simp only [push_cast]at hc)
   all_goals first
    |(
      refine zW (hK3 _ ?_)
      refine θB ?_
      refine hL0 _ ⟨k+1,by omega,by omega,?_⟩
      first|rw [ke (by with_reducible assumption) (by with_reducible assumption)]|rw [kd (by with_reducible assumption)]|rw [zC5 (by with_reducible assumption)]
      exact θX
      done)
    |(
      refine θB ?_
      refine hK3 _ ?_
      refine θB ?_
      refine hL0 _ ⟨k+1,by omega,by omega,?_⟩
      first|rw [ke (by with_reducible assumption) (by with_reducible assumption)]|rw [kd (by with_reducible assumption)]|rw [zC5 (by with_reducible assumption)]
      exact θX
      done)
  ·
   refine zi ?_
   have hkk:k=(gl x.next v).length:=by omega
   subst hkk
   refine hK1 _ ?_
   refine θA ?_
   refine zY ⟨Or.inl rfl,?_⟩
   push_cast [zd,↓zK,↓zJ]
   all_goals first|rfl|skip
set_option maxRecDepth 20000 in
set_option maxHeartbeats 4000000 in
theorem zBa (inn out:List Bool)(hn:inn.length≤256)(ho:out.length=inn.length):Fn Tryz.prog tyT 154 [.c (.lst 4 (dB inn)), .c (.lst 4 (dB out))] [.c (.lst 4 (dB (yT inn out)))]:=by
 refine θH (ts:= [4]) Tryz.func154 Tryz.ntmps154 ?_
 push_cast
 refine θA ?_
 refine θA ?_
 refine zL fun K1 hK1=> ?_
 refine θA ?_
 refine zV ?_
 refine zh [6,10,11,12,13,14,15,16,17,18,19,20,21,22,23,24,25,26,27,28,29] [80] (fun(k:Nat)=> [(6, .int .i64 k),(5, .sl 80 [] 0 inn.length 4)]) (fun k=> []) (fun k=> [(80,⟨.ex,4,dB (mkB inn.length (vm inn out) k),none⟩)]) (fun k=>k≤inn.length) (fun k=>inn.length - k) 0 ?_ (by omega) ?_
 ·
  rw [VN]
  exact θX
 ·rintro k hk KL0 hL0
  have hml:=ZR (f:=vm inn out) hk
  push_cast
  refine zL fun K2 hK2=> ?_
  refine θA ?_
  refine θU (fun hc=> ?_) fun hc=> ?_
  ·
   refine zW (hK2 _ ?_)
   refine zL fun K3 hK3=> ?_
   refine zV ?_
   refine zc false zQ zN ?_ rfl ?_
   ·kernel_rfl
   all_goals push_cast
   all_goals repeat'(first|(apply zO<;>(intro hg;push_cast at hg))|apply And.intro|(intro hg;push_cast at hg))
   all_goals try exact gA
   all_goals(
     refine hK3 _ ?_
     refine θB ?_
     refine hL0 _ ⟨k+1,by omega,by omega,?_⟩
     first|rw [show(mkB inn.length (vm inn out) k).set k (!gb out k)=mkB inn.length (vm inn out) (k+1)from by rw [←qq (by omega)];unfold vm;rw [show gb inn k=true from by with_reducible assumption];rfl]|rw [show(mkB inn.length (vm inn out) k).set k false=mkB inn.length (vm inn out) (k+1)from by rw [←qq (by omega)];unfold vm;rw [show gb inn k=false from by with_reducible assumption];rfl]
     refine zX rfl ?_ ?_ ?_<;>push_cast [zf,ze])
  ·
   refine zi ?_
   have hkk:k=inn.length:=by omega
   subst hkk
   refine hK1 _ ?_
   refine θA ?_
   refine zY ⟨Or.inl rfl,?_⟩
   push_cast [zd]
   try rw [zCG]
   unfold yT
   all_goals first|rfl|exact⟨rfl,by simp⟩|exact⟨by simp,rfl⟩|(simp;done)
set_option maxRecDepth 20000 in
set_option maxHeartbeats 4000000 in
theorem zIP (x y:Int):Fn Tryz.prog tyT 176 [.c (.int .i64 x), .c (.int .i64 y)] [.c (.int .i64 (if y>x then y else x))]:=by
 refine θH (ts:= [4]) Tryz.func176 Tryz.ntmps176 ?_
 push_cast
 refine θA ?_
 refine zL fun K1 hK1=> ?_
 refine θA ?_
 refine θU (fun hc=> ?_) fun hc=> ?_
 ·
  refine θA ?_
  refine zY ⟨Or.inl rfl,?_⟩
  push_cast [zd]
  rw [if_neg (by omega)]
 ·
  refine zW (hK1 _ ?_)
  refine θA ?_
  refine zY ⟨Or.inl rfl,?_⟩
  push_cast [zd]
  split<;>omega
set_option maxRecDepth 20000 in
set_option maxHeartbeats 4000000 in
theorem zJm (x:L7)(n:Nat)(hx:x.Ok n)(inn:List Bool)(hi:inn.length=n):Fn Tryz.prog tyT 153 [.agg (dL7 x), .c (.lst 4 (dB inn))] [.c (.int .i64 (yV x inn n))]:=by
 have hn1:=hx.hn
 have hn2:=hx.ho
 have hn3:=hx.hp
 have hn4:=hx.hx
 have hn5:=hx.hv
 have hn6:=hx.hk
 have hM:=zIP
 unfold dL7
 refine θH (ts:= [4]) Tryz.func153 Tryz.ntmps153 ?_
 push_cast
 refine θA ?_
 refine θA ?_
 refine zL fun K1 hK1=> ?_
 refine θA ?_
 refine zV ?_
 refine zh [5,6,7,8,9,10,11,12,13,14,15,16,17,18,19,20,21,22,23] [] (fun(k:Nat)=> [(6, .int .i64 k),(5, .int .i64 (yV x inn k))]) (fun k=> []) (fun k=> []) (fun k=>k≤n) (fun k=>n - k) 0 ?_ (by omega) ?_
 ·
  rw [show yV x inn 0= -1 from rfl]
  exact θX
 ·rintro k hk KL0 hL0
  push_cast
  refine zL fun K2 hK2=> ?_
  refine θA ?_
  refine θU (fun hc=> ?_) fun hc=> ?_
  ·
   refine zW (hK2 _ ?_)
   refine zL fun K3 hK3=> ?_
   refine zV ?_
   refine θA ?_
   refine θU (fun hc=> ?_) fun hc=> ?_
   ·
    refine zM zQ zN [] rfl ?_
    all_goals refine zj 7 fun K9 hK9=> ?_
    all_goals push_cast
    all_goals repeat'(first|(apply zO<;>(intro hg;push_cast at hg))|(refine⟨_,hM _ _,?_⟩;push_cast)|apply And.intro|(intro hg;push_cast at hg))
    all_goals try exact gA
    refine hK9 _ ?_;clear hK9 K9
    all_goals push_cast
    all_goals repeat'(first|(apply zO<;>(intro hg;push_cast at hg))|(refine⟨_,hM _ _,?_⟩;push_cast)|apply And.intro|(intro hg;push_cast at hg))
    all_goals try exact gA
    refine hK3 _ ?_
    refine θB ?_
    refine hL0 _ ⟨k+1,by omega,by omega,?_⟩
    first|rw [zEP (by with_reducible assumption)]|rw [zF9 (by with_reducible assumption)]
    exact θX
   ·
    refine zW (hK3 _ ?_)
    refine θB ?_
    refine hL0 _ ⟨k+1,by omega,by omega,?_⟩
    first|rw [zEP (by with_reducible assumption)]|rw [zF9 (by with_reducible assumption)]
    exact θX
  ·
   refine zi ?_
   have hkk:k=n:=by omega
   subst hkk
   refine hK1 _ ?_
   refine θA ?_
   refine zY ⟨Or.inl rfl,?_⟩
   push_cast [zd]
   all_goals first|rfl|skip
set_option maxRecDepth 20000 in
set_option maxHeartbeats 4000000 in
theorem zJk (n:Nat)(hn:n≤256):Fn Tryz.prog tyT 108 [.c (.int .i64 n)] [.c (.lst 4 (dB (List.replicate n true)))]:=by
 refine θH (ts:= [2]) Tryz.func108 Tryz.ntmps108 ?_
 push_cast
 refine θA ?_
 refine θA ?_
 refine zL fun K1 hK1=> ?_
 refine θA ?_
 refine zV ?_
 refine zh [4,7,8,9,10,11,12,13,14] [48] (fun(k:Nat)=> [(4, .int .i64 k),(3, .sl 48 [] 0 n 4)]) (fun k=> []) (fun k=> [(48,⟨.ex,4,dB (mkB n (fun _=>true) k),none⟩)]) (fun k=>k≤n) (fun k=>n - k) 0 ?_ (by omega) ?_
 ·
  rw [VN]
  exact θX
 ·rintro k hk KL0 hL0
  have hml:=ZR (f:=fun _=>true) hk
  push_cast
  refine zL fun K2 hK2=> ?_
  refine θA ?_
  refine θU (fun hc=> ?_) fun hc=> ?_
  ·
   refine zW (hK2 _ ?_)
   refine zL fun K3 hK3=> ?_
   refine zV ?_
   refine θB ?_
   refine hK3 _ ?_
   refine θB ?_
   refine hL0 _ ⟨k+1,by omega,by omega,?_⟩
   rw [show(mkB n (fun _=>true) k).set k true=mkB n (fun _=>true) (k+1)from qq (by omega)]
   exact θX
  ·
   refine zi ?_
   have hkk:k=n:=by omega
   subst hkk
   refine hK1 _ ?_
   refine θA ?_
   refine zY ⟨Or.inl rfl,?_⟩
   push_cast [zd]
   rw [zCG,show(List.range k).map (fun _=>true)=List.replicate k true from by rw [List.map_const',List.length_range]]
   all_goals first|rfl|exact⟨rfl,by simp⟩|(simp;done)
end Go.Proofs.YthepmdkpbjfdcaaGreat
