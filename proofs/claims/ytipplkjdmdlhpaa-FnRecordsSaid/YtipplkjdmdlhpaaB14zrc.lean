/- records of pairs: right records; both sides -/
import Derived.Test.YtipplkjdmdlhpaaB13zrc
import Derived.Test.YtipplkjdmdlhpaaB11zrc
import Derived.Test.YtipplkjdmdlhpaaB7zrc
import Derived.Test.YtipplkjdmdlhpaaB10zrc
import Derived.Test.YtipplkjdmdlhpaaVazrc
import Derived.Test.YtipplkjdmdlhpaaB12zrc
namespace Go.Proofs.Ytipplkjdmdlhpaa
open Go.RowKit
set_option linter.unusedVariables false
set_option linter.unusedSimpArgs false
theorem zBb {s:List Int}{x:Int}:zt s x=true↔∃j,j<s.length∧gi s j=x:=by
 unfold zt
 rw [decide_eq_true_eq]
 constructor
 ·intro h;exact⟨_,h,kI h⟩
 ·rintro⟨j,hj,e⟩
  rcases Nat.lt_or_ge (yd s x) s.length with h|h
  ·exact h
  ·exact absurd e (zAn (by have :=zBX s x;omega))
theorem zFw {s:List Int}{j k:Nat}(h:j<k):gi (s.take k) j=gi s j:=by
 unfold gi
 rw [List.getD_eq_getElem?_getD,List.getD_eq_getElem?_getD,List.getElem?_take_of_lt h]
def We (r:List Int)(n:Int)(i:Nat):Bool:=decide (0≤gi r i∧gi r i<n)&& !zt (r.take i) (gi r i)
def qh (r:List Int)(n:Int):Bool:=decide ((0≤n∧n≤4)∧(r.length:Int)=n)&&wU r.length (We r n)
theorem zEE {r:List Int}{n:Int}{i:Nat}(h:0≤gi r i∧gi r i<n)(h2:zt (r.take i) (gi r i)=false):We r n i=true:=by unfold We;rw [decide_eq_true h,h2];rfl
theorem zFW {r:List Int}{n:Int}{i:Nat}(h:We r n i=true):(0≤gi r i∧gi r i<n)∧zt (r.take i) (gi r i)=false:=by
 unfold We at h
 rw [Bool.and_eq_true,decide_eq_true_eq,Bool.not_eq_true']at h
 exact h
theorem zFX {r:List Int}{n:Int}(h:(0≤n∧n≤4)∧(r.length:Int)=n)(h2: ∀i,i<r.length→We r n i=true):qh r n=true:=by unfold qh;rw [decide_eq_true h,xq h2];rfl
theorem xZ {r:List Int}{n:Int}(h:qh r n=true):((0≤n∧n≤4)∧(r.length:Int)=n)∧∀i,i<r.length→(0≤gi r i∧gi r i<n)∧∀j,j<i→gi r j≠gi r i:=by
 unfold qh at h
 rw [Bool.and_eq_true,decide_eq_true_eq]at h
 refine⟨h.1,fun i hi=> ?_⟩
 have h1:=zFW (qI h.2 hi)
 refine⟨h1.1,fun j hj e=> ?_⟩
 have h2:zt (r.take i) (gi r i)=true:=zBb.2 ⟨j,by rw [List.length_take];omega,by rw [zFw hj];exact e⟩
 rw [h1.2]at h2
 cases h2
def gvP (ps:List Pr)(v x:Int):Bool:=zt (gp ps x.toNat).give v
def nxL (ps:List Pr)(r:List Int)(v:Int):List Int:=nrF ps r v r.length++nrR ps r v r.length
theorem zGB {r:List Int}{k:Nat}(h:k<r.length):r.take (k+1)=r.take k++ [gi r k]:=by
 rw [List.take_succ_eq_append_getElem h]
 unfold gi
 rw [List.getD_eq_getElem?_getD,List.getElem?_eq_getElem h]
 rfl
theorem Uo (ps:List Pr)(r:List Int)(v:Int): ∀k,k≤r.length→nrF ps r v k=(r.take k).filter (gvP ps v)
 |0,_=>by rw [List.take_zero];rfl
 |k+1,h=>by
  have ih:=Uo ps r v k (by omega)
  rw [zGB (by omega),List.filter_append]
  cases hb:gvB ps r v k with
  |true=>rw [Wc hb,ih,List.filter_cons,if_pos (show gvP ps v (gi r k)=true from hb)];rfl
  |false=>rw [Kd hb,ih,List.filter_cons,if_neg (show ¬gvP ps v (gi r k)=true from (by rw [show gvP ps v (gi r k)=false from hb];decide))];simp
theorem Up (ps:List Pr)(r:List Int)(v:Int): ∀k,k≤r.length→nrR ps r v k=(r.take k).filter (fun x=> !gvP ps v x)
 |0,_=>by rw [List.take_zero];rfl
 |k+1,h=>by
  have ih:=Up ps r v k (by omega)
  rw [zGB (by omega),List.filter_append]
  cases hb:gvB ps r v k with
  |true=>rw [Wd hb,ih,List.filter_cons,if_neg (show ¬(!gvP ps v (gi r k))=true from (by rw [show gvP ps v (gi r k)=true from hb];decide))];simp
  |false=>rw [Ke hb,ih,List.filter_cons,if_pos (show(!gvP ps v (gi r k))=true from (by rw [show gvP ps v (gi r k)=false from hb];rfl))];rfl
theorem Ur (ps:List Pr)(r:List Int)(v:Int):nxL ps r v=r.filter (gvP ps v)++r.filter (fun x=> !gvP ps v x):=by
 unfold nxL
 rw [Uo ps r v _ (Nat.le_refl _),Up ps r v _ (Nat.le_refl _),List.take_length]
theorem zFL (ps:List Pr)(r:List Int)(v:Int):(nxL ps r v).Perm r:=by
 rw [Ur]
 exact List.filter_append_perm _ _
theorem zGe {r:List Int}{i:Nat}(h:i<r.length):gi r i∈r:=by
 unfold gi
 rw [List.getD_eq_getElem?_getD,List.getElem?_eq_getElem h]
 exact List.getElem_mem h
theorem zBj {r:List Int}{x:Int}(h:x∈r): ∃i,i<r.length∧gi r i=x:=by
 obtain⟨i,hi,e⟩:=List.mem_iff_getElem.1 h
 refine⟨i,hi,?_⟩
 unfold gi
 rw [List.getD_eq_getElem?_getD,List.getElem?_eq_getElem hi]
 exact e
theorem YL {r:List Int}{i:Nat}(h:i<r.length):gi r i=r[i]:=by
 unfold gi
 rw [List.getD_eq_getElem?_getD,List.getElem?_eq_getElem h]
 rfl
theorem Zl {r:List Int}{n:Int}(h:qh r n=true):((0≤n∧n≤4)∧(r.length:Int)=n)∧(∀x∈r,0≤x∧x<n)∧r.Nodup:=by
 have hf:=xZ h
 refine⟨hf.1,fun x hx=> ?_,?_⟩
 ·obtain⟨i,hi,rfl⟩:=zBj hx
  exact(hf.2 i hi).1
 ·rw [List.Nodup,List.pairwise_iff_getElem]
  intro i j hi hj hij
  rw [←YL hi,←YL hj]
  exact(hf.2 j hj).2 i hij
theorem zEF {r:List Int}{n:Int}(h1:(0≤n∧n≤4)∧(r.length:Int)=n)(h2: ∀x∈r,0≤x∧x<n)(h3:r.Nodup):qh r n=true:=by
 refine zFX h1 fun i hi=>zEE (h2 _ (zGe hi)) ?_
 cases hb:zt (r.take i) (gi r i)with
 |false=>rfl
 |true=>
  obtain⟨j,hj,e⟩:=zBb.1 hb
  rw [List.length_take]at hj
  rw [zFw (by omega),YL (by omega),YL hi]at e
  have :=(List.pairwise_iff_getElem.1 h3) j i (by omega) hi (by omega)
  exact absurd e this
theorem zFY {ps:List Pr}{r:List Int}{n v:Int}(h:qh r n=true):qh (nxL ps r v) n=true:=by
 have hf:=Zl h
 have hp:=zFL ps r v
 refine zEF ⟨hf.1.1,?_⟩ (fun x hx=>hf.2.1 x (hp.mem_iff.1 hx)) (hp.nodup_iff.2 hf.2.2)
 rw [hp.length_eq]
 exact hf.1.2
theorem zD7 : ∀(n:Nat) (r:List Int),r.Nodup→(∀x∈r,0≤x∧x<(n:Int))→r.length≤n
 |0,r,_,h=>by
  cases r with
  |nil=>exact Nat.le_refl _
  |cons x r=>have :=h x (List.mem_cons_self ..);omega
 |n+1,r,hd,h=>by
  have h1:=zD7 n (r.erase (n:Int)) (hd.erase _) (fun x hx=>by
   have h2:=(hd.mem_erase_iff).1 hx
   have h3:=h x h2.2
   have h4:=h2.1
   omega)
  have h2:=List.length_erase (a:=(n:Int)) (l:=r)
  split at h2<;>omega
theorem Uu : ∀(n:Nat) (r:List Int),r.Nodup→(∀x∈r,0≤x∧x<(n:Int))→r.length=n→r.Perm ((List.range n).map Int.ofNat)
 |0,r,_,_,hl=>by rw [List.eq_nil_of_length_eq_zero hl];exact List.Perm.refl _
 |n+1,r,hd,h,hl=>by
  have hm:(n:Int)∈r:=by
   rcases Classical.em ((n:Int)∈r)with hm|hm
   ·exact hm
   ·have :=zD7 n r hd (fun x hx=>by
     have h3:=h x hx
     have h4:x≠(n:Int):=fun e=>hm (e ▸ hx)
     omega)
    omega
  have h1:=Uu n (r.erase (n:Int)) (hd.erase _) (fun x hx=>by
   have h2:=(hd.mem_erase_iff).1 hx
   have h3:=h x h2.2
   have h4:=h2.1
   omega) (by rw [List.length_erase_of_mem hm];omega)
  rw [List.range_succ,List.map_append]
  exact((List.perm_cons_erase hm).trans (h1.cons _)).trans (List.perm_append_singleton _ _).symm
def xW (ps:List Pr)(r:List Int)(v:Int):Int:=prV (akI ps r v r.length) (gvI ps r v r.length)
theorem zFR (ps:List Pr)(r:List Int)(v:Int): -1<xW ps r v∧xW ps r v≤2*r.length:=by
 have h1:=KA ps r v r.length
 have h2:=Vg ps r v r.length
 unfold xW prV
 split
 ·omega
 ·split<;>omega
attribute [irreducible] nxL xW
theorem zBN (ps:List Pr)(r:List Int)(v:Int): ∀n i,i<n→akB ps r v i=true→(i:Int)≤akI ps r v n
 |0,i,h,_=>absurd h (Nat.not_lt_zero i)
 |n+1,i,h,hb=>by
  cases hn:akB ps r v n with
  |true=>rw [ZC hn];omega
  |false=>
   rw [YT hn]
   by_cases e:i=n
   ·subst e;rw [hn]at hb;cases hb
   ·exact zBN ps r v n i (by omega) hb
theorem zDH (ps:List Pr)(r:List Int)(v:Int): ∀n,akI ps r v n= -1∨∃i,i<n∧akI ps r v n=i∧akB ps r v i=true
 |0=> .inl rfl
 |n+1=>by
  cases hn:akB ps r v n with
  |true=>rw [ZC hn];exact .inr ⟨n,by omega,rfl,hn⟩
  |false=>
   rw [YT hn]
   rcases zDH ps r v n with h|⟨i,h1,h2,h3⟩
   ·exact .inl h
   ·exact .inr ⟨i,by omega,h2,h3⟩
theorem zBa (ps:List Pr)(r:List Int)(v:Int): ∀n i,i<n→gvB ps r v i=true→(i:Int)≤gvI ps r v n
 |0,i,h,_=>absurd h (Nat.not_lt_zero i)
 |n+1,i,h,hb=>by
  cases hn:gvB ps r v n with
  |true=>rw [ZJ hn];omega
  |false=>
   rw [YX hn]
   by_cases e:i=n
   ·subst e;rw [hn]at hb;cases hb
   ·exact zBa ps r v n i (by omega) hb
theorem Ua (ps:List Pr)(r:List Int)(v:Int): ∀n,gvI ps r v n= -1∨∃i,i<n∧gvI ps r v n=i∧gvB ps r v i=true
 |0=> .inl rfl
 |n+1=>by
  cases hn:gvB ps r v n with
  |true=>rw [ZJ hn];exact .inr ⟨n,by omega,rfl,hn⟩
  |false=>
   rw [YX hn]
   rcases Ua ps r v n with h|⟨i,h1,h2,h3⟩
   ·exact .inl h
   ·exact .inr ⟨i,by omega,h2,h3⟩
theorem zEC {ps:List Pr}{r:List Int}{v:Int}{i:Nat}(hi:i<r.length)(hx:gvP ps v (gi r i)=false): ∃j,i≤j∧j<(nxL ps r v).length∧gi (nxL ps r v) j=gi r i∧((∃m,i<m∧m<r.length∧gvP ps v (gi r m)=true)→i<j):=by
 have hr:r=r.take i++gi r i::r.drop (i+1):=by
  rw [YL hi]
  rw [List.getElem_cons_drop,List.take_append_drop]
 have hsplit: ∀l:List Int,l.length=(l.filter (gvP ps v)).length+(l.filter (fun x=> !gvP ps v x)).length:=fun l=>by
  induction l with
  |nil=>rfl
  |cons y l ih=>
   cases hy:gvP ps v y<;>simp only [List.filter_cons,hy,List.length_cons,ih]<;>simp<;>omega
 have hti:(r.take i).length=i:=by rw [List.length_take];omega
 have h1:=hsplit (r.take i)
 rw [hti]at h1
 have hp:(r.filter (gvP ps v)).length=((r.take i).filter (gvP ps v)).length+((r.drop (i+1)).filter (gvP ps v)).length:=by
  conv=>lhs;rw [hr]
  rw [List.filter_append,List.filter_cons,if_neg (by rw [hx];decide),List.length_append]
 have hq:r.filter (fun x=> !gvP ps v x)=(r.take i).filter (fun x=> !gvP ps v x)++gi r i::(r.drop (i+1)).filter (fun x=> !gvP ps v x):=by
  conv=>lhs;rw [hr]
  rw [List.filter_append,List.filter_cons,if_pos (by rw [hx];rfl)]
 refine⟨(r.filter (gvP ps v)).length+((r.take i).filter (fun x=> !gvP ps v x)).length,by omega,?_,?_,?_⟩
 ·rw [Ur,List.length_append,hq,List.length_append,List.length_cons]
  omega
 ·rw [Ur]
  unfold gi
  rw [List.getD_eq_getElem?_getD,List.getElem?_append_right (by omega),Nat.add_sub_cancel_left,hq,List.getElem?_append_right (Nat.le_refl _),Nat.sub_self]
  rfl
 ·rintro⟨m,h2,h3,h4⟩
  have h5:gi r m∈(r.drop (i+1)).filter (gvP ps v):=by
   refine List.mem_filter.2 ⟨?_,h4⟩
   rw [YL h3]
   refine List.mem_iff_getElem.2 ⟨m - (i+1),by rw [List.length_drop];omega,?_⟩
   rw [List.getElem_drop]
   congr 1
   omega
  have h6:0<((r.drop (i+1)).filter (gvP ps v)).length:=List.length_pos_of_mem h5
  omega
structure qP (ps:List Pr)(L:Nat)(rec:Nat→List Int)(v:Nat→Int):Prop where
 pos:0<L
 ok: ∀t,qh (rec t) ps.length=true
 next: ∀t,rec (t+1)=nxL ps (rec t) (v t)
 perR: ∀t,rec (t+L)=rec t
 perV: ∀t,v (t+L)=v t
section
variable {ps:List Pr} {L:Nat} {rec:Nat→List Int} {v:Nat→Int}
theorem qP.len (h:qP ps L rec v)(t:Nat):(rec t).length=ps.length:=by have :=(xZ (h.ok t)).1;omega
theorem qP.inj (h:qP ps L rec v){t i j:Nat}(hi:i<ps.length)(hj:j<ps.length)(e:gi (rec t) i=gi (rec t) j):i=j:=by
 have hf:=(xZ (h.ok t)).2
 have hl:=h.len t
 rcases Nat.lt_trichotomy i j with h1|h1|h1
 ·exact absurd e ((hf j (by omega)).2 i h1)
 ·exact h1
 ·exact absurd e.symm ((hf i (by omega)).2 j h1)
theorem qP.mono (h:qP ps L rec v){T i:Nat}(hi:i<ps.length): ∀d,(∀s,s<d→gvP ps (v (T+s)) (gi (rec T) i)=false)→∃j,i≤j∧j<ps.length∧gi (rec (T+d)) j=gi (rec T) i
 |0,_=>⟨i,Nat.le_refl _,hi,rfl⟩
 |d+1,hg=>by
  obtain⟨j,h1,h2,h3⟩:=qP.mono h hi d fun s hs=>hg s (by omega)
  have hgd:=hg d (by omega)
  rw [←h3]at hgd
  obtain⟨m,k1,k2,k3,-⟩:=zEC (r:=rec (T+d)) (i:=j) (by rw [h.len];exact h2) hgd
  rw [←h.next]at k2 k3
  rw [h.len]at k2
  exact⟨m,by omega,k2,k3.trans h3⟩
theorem qP.perR' (h:qP ps L rec v)(t:Nat): ∀m,rec (t+m*L)=rec t∧v (t+m*L)=v t
 |0=>by simp
 |m+1=>by
  have ih:=qP.perR' h t m
  rw [show t+(m+1)*L=(t+m*L)+L from by rw [Nat.succ_mul];omega,h.perR,h.perV]
  exact ih
theorem qP.mod (h:qP ps L rec v)(t:Nat):rec t=rec (t%L)∧v t=v (t%L):=by
 have :=h.perR' (t%L) (t / L)
 rw [show t%L+t / L*L=t from by rw [Nat.mul_comm];exact Nat.mod_add_div t L]at this
 exact this
theorem qP.never (h:qP ps L rec v){t i:Nat}(hi:i<ps.length)(hn: ∀s,gvP ps (v s) (gi (rec t) i)=false){m:Nat}(hm:m<ps.length)(hg:gvP ps (v t) (gi (rec t) m)=true):m<i:=by
 rcases Nat.lt_trichotomy m i with h1|h1|h1
 ·exact h1
 ·subst h1;rw [hn t]at hg;cases hg
 ·exfalso
  have hl:=h.len t
  obtain⟨j,k1,k2,k3,k4⟩:=zEC (r:=rec t) (i:=i) (by omega) (hn t)
  have k5:=k4 ⟨m,h1,by omega,hg⟩
  rw [←h.next]at k2 k3
  rw [h.len]at k2
  obtain⟨q,q1,q2,q3⟩:=h.mono (T:=t+1) k2 (L - 1) fun s _=>by rw [k3];exact hn _
  rw [show t+1+(L - 1)=t+L from by have :=h.pos;omega,h.perR,k3]at q3
  have :=h.inj q2 hi q3
  omega
theorem giveP {x:Int}(v:Int):gvP ps v x=zt (gp ps x.toNat).give v:=rfl
theorem qP.at (h:qP ps L rec v)(t:Nat){x:Nat}(hx:x<ps.length): ∃i,i<ps.length∧gi (rec t) i=(x:Int):=by
 have hf:=Zl (h.ok t)
 have hp:=Uu ps.length (rec t) hf.2.2 hf.2.1 (h.len t)
 have hm:(x:Int)∈rec t:=hp.mem_iff.2 (List.mem_map.2 ⟨x,List.mem_range.2 hx,rfl⟩)
 obtain⟨i,hi,e⟩:=zBj hm
 exact⟨i,by rw [h.len]at hi;exact hi,e⟩
theorem qP.law (h:qP ps L rec v){M:Int}(h1: ∃T,T<L∧xW ps (rec T) (v T)=M)(h2: ∀t,t<L→xW ps (rec t) (v t)≤M):
  M%2=0↔∀x,x<ps.length→(∃t,t<L∧zt (gp ps x).ask (v t)=true)→∃t,t<L∧zt (gp ps x).give (v t)=true:=by
 have hmax: ∀t,xW ps (rec t) (v t)≤M:=fun t=>by
  have :=h.mod t
  rw [this.1,this.2]
  exact h2 _ (Nat.mod_lt _ h.pos)
 obtain⟨T,hT,hM⟩:=h1
 constructor
 ·intro hev x hx ⟨t,ht,ha⟩
  rcases Classical.em (∃t,t<L∧zt (gp ps x).give (v t)=true)with hc|hc
  ·exact hc
  ·exfalso
   have hnv: ∀s,zt (gp ps x).give (v s)=false:=fun s=>by
    cases hb:zt (gp ps x).give (v s)with
    |false=>rfl
    |true=>exact absurd ⟨s%L,Nat.mod_lt _ h.pos,by rw [←(h.mod s).2];exact hb⟩ hc
   -- its place is the same at all times
   obtain⟨c,hcl,hcx⟩:=h.at t hx
   have hng: ∀s,gvP ps (v s) (gi (rec t) c)=false:=fun s=>by rw [hcx];exact hnv s
   have ha2:akB ps (rec t) (v t) c=true:=by unfold akB;rw [hcx];exact ha
   have hlt:=h.len t
   have a1:=zBN ps (rec t) (v t) (rec t).length c (by omega) ha2
   have g1:gvI ps (rec t) (v t) (rec t).length<c:=by
    rcases Ua ps (rec t) (v t) (rec t).length with e|⟨m,m1,m2,m3⟩
    ·omega
    ·have :=h.never hcl hng (m:=m) (by omega) m3
     omega
   have hp:2*(c:Int)+1≤xW ps (rec t) (v t):=by
    unfold xW prV
    rw [if_neg (by omega),if_pos (by omega)]
    omega
   have hM1:=hmax t
   -- at T
   obtain⟨b,hbl,hbx⟩:=h.at T hx
   have hngT: ∀s,gvP ps (v s) (gi (rec T) b)=false:=fun s=>by rw [hbx];exact hnv s
   have hbc:b=c:=by
    -- from t to T (a later turn),and back
    obtain⟨q,q1,q2,q3⟩:=h.mono (T:=t) hcl (T+L - t) fun s _=>hng _
    rw [show t+(T+L - t)=T+L from by omega,h.perR,hcx,←hbx]at q3
    have e1:=h.inj q2 hbl q3
    obtain⟨q',p1,p2,p3⟩:=h.mono (T:=T) hbl (t+L - T) fun s _=>hngT _
    rw [show T+(t+L - T)=t+L from by omega,h.perR,hbx,←hcx]at p3
    have e2:=h.inj p2 hcl p3
    omega
   have g2:gvI ps (rec T) (v T) (rec T).length<c:=by
    have hlT:=h.len T
    rcases Ua ps (rec T) (v T) (rec T).length with e|⟨m,m1,m2,m3⟩
    ·omega
    ·have :=h.never hbl hngT (m:=m) (by omega) m3
     omega
   rw [←hM]at hev hM1
   unfold xW prV at hev hM1 hp
   split at hev
   ·rename_i e;rw [if_pos e]at hM1;split at hp<;>omega
   ·rename_i e
    rw [if_neg e]at hM1
    split at hev
    ·omega
    ·rename_i e2
     rw [if_neg e2]at hM1
     split at hp
     ·omega
     ·split at hp<;>omega
 ·intro hall
  rcases Int.emod_two_eq M with h0|h0
  ·exact h0
  ·exfalso
   have hodd: ∃a,0≤a∧akI ps (rec T) (v T) (rec T).length=a∧M=2*a+1:=by
    rw [←hM]at h0⊢
    unfold xW prV at h0⊢
    split at h0
    ·omega
    ·rename_i e
     rw [if_neg e]
     split at h0
     ·rename_i e2
      rw [if_pos e2]
      have :=Vg ps (rec T) (v T) (rec T).length
      exact⟨_,by omega,rfl,rfl⟩
     ·omega
   obtain⟨a,ha0,ha1,ha2⟩:=hodd
   have hlT:=h.len T
   rcases zDH ps (rec T) (v T) (rec T).length with e|⟨i,i1,i2,i3⟩
   ·omega
   have hfT:=(xZ (h.ok T)).2 i i1
   obtain⟨x,hx⟩: ∃x:Nat,gi (rec T) i=x:=⟨_,(Int.toNat_of_nonneg hfT.1.1).symm⟩
   have hxl:x<ps.length:=by omega
   unfold akB at i3
   rw [hx,Int.toNat_natCast]at i3
   obtain⟨s,hs,hgs⟩:=hall x hxl ⟨T,hT,i3⟩
   -- the first time from T on at which it is given
   have hex: ∃d,zt (gp ps x).give (v (T+d))=true:=⟨s+L - T,by rw [show T+(s+L - T)=s+L from by omega,h.perV];exact hgs⟩
   have key: ∀n,(∃d,d<n∧zt (gp ps x).give (v (T+d))=true∧∀q,q<d→zt (gp ps x).give (v (T+q))=false)∨∀q,q<n→zt (gp ps x).give (v (T+q))=false:=by
    intro n
    induction n with
    |zero=>exact .inr fun q hq=>absurd hq (Nat.not_lt_zero q)
    |succ n ih=>
     rcases ih with⟨d,d1,d2,d3⟩|ih
     ·exact .inl ⟨d,by omega,d2,d3⟩
     ·cases hb:zt (gp ps x).give (v (T+n))with
      |true=>exact .inl ⟨n,by omega,hb,ih⟩
      |false=>
       refine .inr fun q hq=> ?_
       rcases Nat.lt_or_ge q n with h9|h9
       ·exact ih q h9
       ·rw [show q=n by omega];exact hb
   obtain⟨d0,hd0⟩:=hex
   rcases key (d0+1)with⟨d,-,d2,d3⟩|hk
   ·obtain⟨j,j1,j2,j3⟩:=h.mono (T:=T) (i:=i) (by omega) d fun q hq=>by rw [hx,giveP,Int.toNat_natCast];exact d3 q hq
    have hlj:=h.len (T+d)
    have hgj:gvB ps (rec (T+d)) (v (T+d)) j=true:=by
     unfold gvB
     rw [j3,hx,Int.toNat_natCast]
     exact d2
    have g3:=zBa ps (rec (T+d)) (v (T+d)) (rec (T+d)).length j (by omega) hgj
    have hm:=hmax (T+d)
    unfold xW prV at hm
    split at hm
    ·omega
    ·split at hm<;>omega
   ·rw [hk d0 (by omega)]at hd0
    cases hd0
end
def zS (k:Nat):List Int:=(List.range k).map Int.ofNat
theorem zDr (k:Nat):zS (k+1)=zS k++ [(k:Int)]:=by unfold zS;rw [List.range_succ,List.map_append];rfl
theorem QX (k:Nat):(zS k).length=k:=by simp [zS]
theorem zE7 {k:Nat}(h:k≤4):qh (zS k) (k:Int)=true:=by
 refine zEF ⟨⟨by omega,by omega⟩,by rw [QX]⟩ (fun x hx=> ?_) ?_
 ·unfold zS at hx
  obtain⟨j,hj,rfl⟩:=List.mem_map.1 hx
  have :=List.mem_range.1 hj
  show 0≤(j:Int)∧(j:Int)<k
  omega
 ·unfold zS
  rw [List.Nodup,List.pairwise_map]
  exact List.Pairwise.imp (fun{a b} h e=>h (Int.ofNat.inj e)) List.nodup_range
def rcR (ps:List Pr)(p:Plc):List Int:=nxL ps p.record p.at_
def prR (ps:List Pr)(p:Plc):Int:=xW ps p.record p.at_
def rgC (a:Ar)(ps:List Pr)(s:Int):Bool:=zv a&&(arB ps a.owner.length&&decide (0≤s∧s≤(a.owner.length:Int) - 1))
def rgB (a:Ar)(ps:List Pr)(s:Int):Bool:=rgC a ps s&&okQ (usA a) (rcR ps) ⟨s,zS ps.length⟩
def rgG (a:Ar)(ps:List Pr)(s:Int):Pa:=gmR a (rcR ps) (prR ps) ⟨s,zS ps.length⟩ (rgC a ps s)
def rgP (a:Ar)(ps:List Pr)(s:Int):List Plc:=plR a (rcR ps) ⟨s,zS ps.length⟩ (rgC a ps s)
theorem zHV {ps:List Pr}{n:Int}(h:arB ps n=true):ps.length≤4:=by
 unfold arB at h
 rw [Bool.and_eq_true,decide_eq_true_eq]at h
 exact h.1
theorem qU {a:Ar}{ps:List Pr}{s:Int}(h:rgC a ps s=true):zv a=true∧ps.length≤4∧XH a (rcR ps) ⟨s,zS ps.length⟩ (fun r=>qh r ps.length=true) 4:=by
 unfold rgC at h
 rw [Bool.and_eq_true,Bool.and_eq_true,decide_eq_true_eq]at h
 obtain⟨h1,h2,h3⟩:=h
 have h4:=zHV h2
 exact⟨h1,h4,⟨⟨h3.1,by show s<_;omega,zE7 h4⟩,fun p _ _ h=>zFY h,fun r hr=>by have :=(xZ hr).1;omega⟩⟩
theorem zBr {a:Ar}{ps:List Pr}{s:Int}:(rgG a ps s).Ln 1048576:=zH4 (V:=fun r=>qh r ps.length=true) (B:=4) fun h=>⟨(qU h).1,(qU h).2.2⟩
theorem zG6 {a:Ar}{ps:List Pr}{s:Int}:QLn 1048576 (rgP a ps s):=zIO (V:=fun r=>qh r ps.length=true) (B:=4) (by decide) fun h=>⟨(qU h).1,(qU h).2.2⟩
theorem zEH {a:Ar}{ps:List Pr}{s:Int}(h:rgC a ps s=false):rgB a ps s=false∧rgG a ps s=⟨⟨[],[]⟩,[]⟩∧rgP a ps s= []:=by
 have :(rgC a ps s&&okQ (usA a) (rcR ps) ⟨s,zS ps.length⟩)=false:=by rw [h];rfl
 exact⟨this,UY this,Uv this⟩
theorem zEI {a:Ar}{ps:List Pr}{s:Int}(h:okQ (usA a) (rcR ps) ⟨s,zS ps.length⟩=false):rgB a ps s=false∧rgG a ps s=⟨⟨[],[]⟩,[]⟩∧rgP a ps s= []:=by
 have :(rgC a ps s&&okQ (usA a) (rcR ps) ⟨s,zS ps.length⟩)=false:=by rw [h,Bool.and_false]
 exact⟨this,UY this,Uv this⟩
theorem zBo {a:Ar}{ps:List Pr}{s:Int}(h:zv a=false):rgC a ps s=false:=by unfold rgC;rw [h];rfl
theorem zBp {a:Ar}{ps:List Pr}{s:Int}(h:arB ps a.owner.length=false):rgC a ps s=false:=by unfold rgC;rw [h,Bool.false_and,Bool.and_false]
theorem zBq {a:Ar}{ps:List Pr}{s:Int}(h: ¬(0≤s∧s≤(a.owner.length:Int) - 1)):rgC a ps s=false:=by unfold rgC;rw [decide_eq_false h,Bool.and_false,Bool.and_false]
theorem jd {a:Ar}{ps:List Pr}{s:Int}(h1:zv a=true)(h2:arB ps a.owner.length=true)(h3:0≤s∧s≤(a.owner.length:Int) - 1):rgC a ps s=true:=by unfold rgC;rw [h1,h2,decide_eq_true h3];rfl
theorem Kx (code:List Int)(seed:Int)(j:Nat): ∀n,∀x∈wsL code seed j n,0≤x∧x<(n:Int)
 |0,x,h=>by rw [zC1]at h;cases h
 |n+1,x,h=>by
  by_cases hd:dv code seed (j+n) 3=0
  ·rw [jk hd,List.mem_append,List.mem_singleton]at h
   rcases h with h|rfl
   ·have :=Kx code seed j n x h;omega
   ·omega
  ·rw [zAT hd]at h
   have :=Kx code seed j n x h;omega
theorem zAU (code:List Int)(seed:Int)(j:Nat): ∀n,(wsL code seed j n).Pairwise (· < ·)
 |0=>by rw [zC1];exact List.Pairwise.nil
 |n+1=>by
  by_cases hd:dv code seed (j+n) 3=0
  ·rw [jk hd,List.pairwise_append]
   refine⟨zAU code seed j n,List.pairwise_singleton _ _,fun x hx y hy=> ?_⟩
   have :=Kx code seed j n x hx
   have hy2:y=n:=by simpa using hy
   omega
  ·rw [zAT hd];exact zAU code seed j n
theorem zB2 (code:List Int)(seed:Int)(j n:Nat):yN (wsL code seed j n) (n:Int)=true:=WA (zAU code seed j n) (Kx code seed j n)
theorem zB0 (code:List Int)(seed:Int)(n j:Nat): ∀t,∀p∈wpL code seed n j t,yN p.ask (n:Int)=true∧yN p.give (n:Int)=true
 |0,p,h=>by rw [zC0]at h;cases h
 |t+1,p,h=>by
  rw [uP,List.mem_append,List.mem_singleton]at h
  rcases h with h|rfl
  ·exact zB0 code seed n j t p h
  ·exact⟨zB2 _ _ _ _,zB2 _ _ _ _⟩
theorem zIY {code:List Int}(hby:xJ code)(seed:Int)(j n:Nat){most:Int}(hm:0≤most∧most≤4):arB (wpP code seed n j most) (n:Int)=true∧(wpP code seed n j most).length≤most.toNat:=by
 have h1:=wQ hby seed j (n:=most+1) (by omega)
 have h2:(wpP code seed n j most).length=wpK code seed j most:=Wm ..
 have h3:wpK code seed j most≤most.toNat:=by unfold wpK;omega
 refine⟨?_,by omega⟩
 rw [jF fun i hi=> ?_]
 ·exact decide_eq_true (by omega)
 ·have :=zB0 code seed n (j+1) _ _ (zDm hi)
  exact Qm this.1 this.2
theorem zGn {p:Plc→Bool}{ps:List Plc}(h:ixQ p ps<0): ∀q∈ps,p q=false:=by
 unfold ixQ at h
 split at h
 ·omega
 ·rename_i h1
  intro q hq
  cases hb:p q with
  |false=>rfl
  |true=>exact absurd (List.findIdx_lt_length.2 ⟨q,hq,hb⟩) h1
theorem zBt {r us:List Int}{ps:List Plc}(h:ps.Nodup): ∀{k:Nat},k≤us.length→(zp r us ps k).1.Nodup
 |0,_=>h
 |k+1,hk=>by
  have ih:=zBt (r:=r) (us:=us) h (k:=k) (by omega)
  by_cases h2:ixQ (yj (gi us k) r) (zp r us ps k).1<0
  ·rw [qy (by omega) h2]
   show((zp r us ps k).1++ [_]).Nodup
   rw [List.nodup_append]
   refine⟨ih,by simp,fun x hx y hy e=> ?_⟩
   have hy2:y=⟨gi us k,r⟩:=by simpa using hy
   have h3:=zGn h2 x hx
   rw [e,hy2,kg (p:=⟨gi us k,r⟩) (u:=gi us k) (r:=r) rfl rfl]at h3
   cases h3
  ·rw [vN (by omega) h2];exact ih
theorem zEU {us rc:Plc→List Int}{p0:Plc}: ∀i,(stQ us rc p0 i).Nodup
 |0=>by show [p0].Nodup;simp
 |i+1=>by
  have ih:=zEU (us:=us) (rc:=rc) (p0:=p0) i
  by_cases h:i<(stQ us rc p0 i).length
  ·rw [Zb h];exact zBt ih (Nat.le_refl _)
  ·rw [Yi h];exact ih
def dig :List Int→Nat
 | []=>0
 |x::r=>x.toNat+3*dig r
theorem zDY : ∀(r:List Int),(∀x∈r,0≤x∧x<3)→dig r<3^r.length
 | [],_=>by decide
 |x::r,h=>by
  have h1:=zDY r fun y hy=>h y (List.mem_cons_of_mem _ hy)
  have h2:=h x List.mem_cons_self
  show x.toNat+3*dig r<3^(r.length+1)
  rw [Nat.pow_succ]
  omega
theorem zBW : ∀(r s:List Int),r.length=s.length→(∀x∈r,0≤x∧x<3)→(∀x∈s,0≤x∧x<3)→dig r=dig s→r=s
 | [],[],_,_,_,_=>rfl
 | [],_::_,h,_,_,_=>by cases h
 |_::_,[],h,_,_,_=>by cases h
 |x::r,y::s,hl,hr,hs,e=>by
  have h1:=hr x List.mem_cons_self
  have h2:=hs y List.mem_cons_self
  have e2:x.toNat+3*dig r=y.toNat+3*dig s:=e
  have h3:=zBW r s (by simpa using hl) (fun z hz=>hr z (List.mem_cons_of_mem _ hz)) (fun z hz=>hs z (List.mem_cons_of_mem _ hz)) (by omega)
  rw [h3,show x=y by omega]
theorem zCR {r:List Int}{k:Nat}(h:qh r (k:Int)=true)(hk:k≤3):dig r<27:=by
 obtain⟨h1,h2,-⟩:=Zl h
 have h3:=zDY r fun x hx=>by have :=h2 x hx;omega
 have h4:3^r.length≤3^3:=Nat.pow_le_pow_right (by decide) (by omega)
 omega
section
variable {a:Ar} {ps:List Pr} {s:Int}
theorem zIR (hc:rgC a ps s=true)(hn:a.owner.length≤6)(hk:ps.length≤3):okQ (usA a) (rcR ps) ⟨s,zS ps.length⟩=true:=by
 obtain⟨h1,h2,h3⟩:=qU hc
 have hall:=vS h1 h3 257
 have hnd:=zEU (us:=usA a) (rc:=rcR ps) (p0:=⟨s,zS ps.length⟩) 257
 have hl:((stQ (usA a) (rcR ps) ⟨s,zS ps.length⟩ 257).map fun p=>p.at_.toNat*27+dig p.record).length≤162:=by
  refine Jg _ _ (List.pairwise_map.2 (List.Pairwise.imp_of_mem (fun{p q} hp hq hne e=> ?_) hnd)) fun x hx=> ?_
  ·apply hne
   have k1:=hall p hp
   have k2:=hall q hq
   have d1:=zCR k1.2.2 hk
   have d2:=zCR k2.2.2 hk
   have r1:=Zl k1.2.2
   have r2:=Zl k2.2.2
   have e1:dig p.record=dig q.record:=by omega
   have e2:=zBW _ _ (by omega) (fun x hx=>by have :=r1.2.1 x hx;omega) (fun x hx=>by have :=r2.2.1 x hx;omega) e1
   obtain⟨pa,pr⟩:=p
   obtain⟨qa,qr⟩:=q
   simp only at e2 e k1 k2
   subst e2
   rw [show pa=qa by omega]
  ·obtain⟨p,hp,rfl⟩:=List.mem_map.1 hx
   have k1:=hall p hp
   have d1:=zCR k1.2.2 hk
   show p.at_.toNat*27+dig p.record<162
   omega
 rw [List.length_map]at hl
 unfold okQ
 exact decide_eq_true (by omega)
theorem zG4 (hc:rgC a ps s=true)(hn:a.owner.length≤6)(hk:ps.length≤3):rgB a ps s=true:=by
 unfold rgB
 rw [hc,zIR hc hn hk]
 rfl
theorem XC (h:rgB a ps s=true):rgC a ps s=true∧okQ (usA a) (rcR ps) ⟨s,zS ps.length⟩=true:=by
 unfold rgB at h
 rw [Bool.and_eq_true]at h
 exact h
theorem Kr (h:rgB a ps s=true):rgG a ps s=gmA a (rcR ps) (prR ps) ⟨s,zS ps.length⟩ (plA a (rcR ps) ⟨s,zS ps.length⟩).length∧rgP a ps s=plA a (rcR ps) ⟨s,zS ps.length⟩:=by
 obtain⟨h1,h2⟩:=XC h
 unfold rgG rgP gmR plR
 rw [h1,h2,Bool.and_self,if_pos rfl,if_pos rfl]
 unfold plA
 exact⟨Eq.refl _,Eq.refl _⟩
theorem zF8 {p:Plc}{k:Nat}(h:qh p.record (k:Int)=true):0≤prR ps p∧prR ps p≤40:=by
 have h1:=(xZ h).1
 have h2:=zFR ps p.record p.at_
 unfold prR
 omega
theorem zEJ (h:rgB a ps s=true):xn (rgG a ps s)=true:=by
 obtain⟨h1,h2⟩:=XC h
 obtain⟨k1,k2,k3⟩:=qU h1
 rw [(Kr h).1]
 exact zDl k1 k3 h2 fun p _ _ hp=>zF8 hp
theorem zG5 (h:rgB a ps s=true):QLn 256 (rgP a ps s):=by
 obtain⟨h1,h2⟩:=XC h
 obtain⟨k1,k2,k3⟩:=qU h1
 rw [(Kr h).2]
 have h3:=(Wj (n:=(plA a (rcR ps) ⟨s,zS ps.length⟩).length) h2 rfl).1
 refine⟨h3,fun p hp=> ?_⟩
 have h4:=(vS k1 k3 257 p hp).2.2
 have :=(xZ h4).1
 omega
theorem zGS {ps:List Pr}{met:List Int}:(bkN ps met ps.length).length=0↔∀x,x<ps.length→vl (gp ps x).ask met=true→vl (gp ps x).give met=true:=by
 unfold bkN
 rw [List.length_map,List.length_eq_zero_iff,List.filter_eq_nil_iff]
 constructor
 ·intro h x hx ha
  have :=h x (List.mem_range.2 hx)
  unfold bkB at this
  rw [ha]at this
  cases hb:vl (gp ps x).give met with
  |true=>rfl
  |false=>rw [hb]at this;exact absurd rfl this
 ·intro h x hx hb
  have hx2:=List.mem_range.1 hx
  unfold bkB at hb
  rw [Bool.and_eq_true]at hb
  rw [h x hx2 hb.1]at hb
  exact absurd hb.2 (by decide)
theorem zA5 (h:rgB a ps s=true){l:Ls}(hl:xj (rgG a ps s).a l=true):
  ((∀j,j<l.stem.length→0≤gi l.stem j∧gi l.stem j<((rgP a ps s).length:Int))∧∀j,j<l.loop.length→0≤gi l.loop j∧gi l.loop j<((rgP a ps s).length:Int))∧
  xj a ⟨atL (rgP a ps s) l.stem,atL (rgP a ps s) l.loop⟩=true∧
  (Int.tmod (vp (rgG a ps s) l.loop l.loop.length) 2=0↔(bkN ps (mbL ⟨atL (rgP a ps s) l.stem,atL (rgP a ps s) l.loop⟩) ps.length).length=0):=by
 obtain⟨h1,h2⟩:=XC h
 obtain⟨k1,k2,k3⟩:=qU h1
 rw [(Kr h).1]at hl⊢
 rw [(Kr h).2]
 have hb:=zAj k1 k3 h2 hl
 obtain⟨g1,g2,g3⟩:=xM.1 hl
 rw [Vf]at g2
 have hall:=vS k1 k3 257
 have hw:=Yj l
 have hst: ∀j,j<l.stem.length→gi (yM l) j=gi l.stem j:=fun j hj=>by
  unfold yM
  rw [List.append_assoc]
  unfold gi
  rw [List.getD_eq_getElem?_getD,List.getElem?_append_left hj,List.getD_eq_getElem?_getD]
 have hpr: ∀v,v<(plA a (rcR ps) ⟨s,zS ps.length⟩).length→0≤prR ps (gq (plA a (rcR ps) ⟨s,zS ps.length⟩) v):=fun v hv=>(zF8 (hall _ (vk hv)).2.2).1
 obtain⟨t0,t1,t2⟩:=zFE (pr:=prR ps) h2 hpr hl
 have hpos:=g1.2.1
 have hin: ∀t,t<l.loop.length→0≤gi l.loop t∧gi l.loop t<((plA a (rcR ps) ⟨s,zS ps.length⟩).length:Int):=fun t ht=>by
  have :=(WX hl ht).1
  rw [Vf]at this
  exact this
 refine⟨⟨fun j hj=>by have :=g2 j (by omega);rw [hst j hj]at this;exact this,hin⟩,hb,?_⟩
 have hL:qP ps l.loop.length (fun t=>(plT (plA a (rcR ps) ⟨s,zS ps.length⟩) l t).record) (fun t=>(plT (plA a (rcR ps) ⟨s,zS ps.length⟩) l t).at_):=by
  refine⟨by omega,fun t=> ?_,fun t=> ?_,fun t=>by show(plT _ l (t+l.loop.length)).record=_;rw [zBm],fun t=>by show(plT _ l (t+l.loop.length)).at_=_;rw [zBm]⟩
  ·have h9:=hin (t%l.loop.length) (Nat.mod_lt _ (by omega))
   exact(hall _ (vk (ps:=plA a (rcR ps) ⟨s,zS ps.length⟩) (k:=(gi l.loop (t%l.loop.length)).toNat) (by omega))).2.2
  ·exact zDz h2 hl t
 have hmem: ∀x:Int,x∈mbL ⟨atL (plA a (rcR ps) ⟨s,zS ps.length⟩) l.stem,atL (plA a (rcR ps) ⟨s,zS ps.length⟩) l.loop⟩↔∃t,t<l.loop.length∧(plT (plA a (rcR ps) ⟨s,zS ps.length⟩) l t).at_=x:=fun x=>by
  rw [zGu]
  constructor
  ·intro hx
   obtain⟨t,ht,e⟩:=KR hx
   have ht2:t<l.loop.length:=by have :=ht;rwa [qV]at this
   have e2:gi (atL (plA a (rcR ps) ⟨s,zS ps.length⟩) l.loop) t=x:=e
   rw [Xp ht2]at e2
   exact⟨t,ht2,by unfold plT;rw [Nat.mod_eq_of_lt ht2];exact e2⟩
  ·rintro⟨t,ht,e⟩
   unfold plT at e
   rw [Nat.mod_eq_of_lt ht]at e
   rw [←e,←Xp ht,ZX (by rw [qV];exact ht)]
   exact List.getElem_mem _
 have hmet: ∀xs:List Int,vl xs (mbL ⟨atL (plA a (rcR ps) ⟨s,zS ps.length⟩) l.stem,atL (plA a (rcR ps) ⟨s,zS ps.length⟩) l.loop⟩)=true↔∃t,t<l.loop.length∧zt xs (plT (plA a (rcR ps) ⟨s,zS ps.length⟩) l t).at_=true:=fun xs=>by
  unfold vl
  rw [List.any_eq_true]
  constructor
  ·rintro⟨x,hx,hx2⟩
   obtain⟨t,ht,e⟩:=(hmem x).1 ((xQ _ _).1 hx2)
   exact⟨t,ht,by rw [e];exact(xQ _ _).2 hx⟩
  ·rintro⟨t,ht,e⟩
   exact⟨_,(xQ _ _).1 e,(xQ _ _).2 ((hmem _).2 ⟨t,ht,rfl⟩)⟩
 have hlaw:=hL.law t1 t2
 rw [Int.tmod_eq_emod_of_nonneg t0,hlaw,zGS]
 constructor
 ·intro h9 x hx ha
  exact(hmet _).2 (h9 x hx ((hmet _).1 ha))
 ·intro h9 x hx ha
  exact(hmet _).1 (h9 x hx ((hmet _).2 ha))
end
def p2 (i:Nat):Nat:=2^i
def JZ (p:List Int→Bool)(rows:List (List Int))(k:Nat):List D:=(rows.take k).map (fun r=>if p r then D.hole else .lst 2 (dI r))++dII (rows.drop k)
theorem jO (p:List Int→Bool)(rows:List (List Int))(k:Nat):(JZ p rows k)[k]? =(dII rows)[k]? :=by
 unfold JZ dII
 rcases Nat.lt_or_ge k rows.length with h|h
 ·have hl:((rows.take k).map (fun r=>if p r then D.hole else .lst 2 (dI r))).length=k:=by simp;omega
  rw [List.getElem?_append_right (by omega),hl,Nat.sub_self,List.getElem?_map,List.getElem?_map,List.getElem?_drop]
  rfl
 ·rw [List.getElem?_eq_none (by simp;omega),List.getElem?_eq_none (by simp;omega)]
theorem zFB (p:List Int→Bool)(rows:List (List Int))(k:Nat):(JZ p rows k).length=rows.length:=by simp [JZ,dII];omega
theorem zDh (p:List Int→Bool)(rows:List (List Int))(k:Nat):xF (JZ p rows k) k=dI (gl rows k):=by
 rw [←JX]
 unfold xF
 rw [jO]
theorem zC5 (p:List Int→Bool)(rows:List (List Int))(k:Nat):yV (.sl 2) (JZ p rows k) k=(k<rows.length):=by
 rw [←JP]
 unfold yV
 rw [jO]
theorem zAx (p:List Int→Bool)(rows:List (List Int))(k:Nat):zl (JZ p rows k) [k]=(k<rows.length):=by
 rw [←Qh]
 unfold zl
 rw [jO]
attribute [push_cast] zFB zDh zC5 zAx
theorem zHX {a:Ar}(h:zv a=true):a.Ln 1048576:=by
 have hl:=yS h
 refine⟨by unfold LnI;omega,by omega,fun r hr=> ?_⟩
 obtain⟨v,hv,rfl⟩:=zIH hr
 have :=(vf h (v:=v) (by omega)).2.2.2.1
 omega
theorem zBz (code:List Int)(seed:Int)(n j:Nat): ∀t,∀p∈wpL code seed n j t,p.ask.length≤n∧p.give.length≤n
 |0,p,h=>by rw [zC0]at h;cases h
 |t+1,p,h=>by
  rw [uP,List.mem_append,List.mem_singleton]at h
  rcases h with h|rfl
  ·exact zBz code seed n j t p h
  ·exact⟨QD _ _ _ _,QD _ _ _ _⟩
theorem zIX {code:List Int}(hby:xJ code)(seed:Int)(j:Nat){n:Nat}(hn:n≤256){most:Int}(hm:0≤most∧most≤4):PLn 1048576 (wpP code seed n j most)∧(wpP code seed n j most).length≤most.toNat:=by
 have h1:=wQ hby seed j (n:=most+1) (by omega)
 have h2:(wpP code seed n j most).length=wpK code seed j most:=Wm ..
 have h3:wpK code seed j most≤most.toNat:=by unfold wpK;omega
 refine⟨⟨by omega,fun p hp=> ?_⟩,by omega⟩
 have :=zBz code seed n (j+1) _ p hp
 exact⟨by show p.ask.length≤_;omega,by show p.give.length≤_;omega⟩
def Ub (q:Nat→Bool)(rows:List (List Int))(k:Nat):List D:=(List.range k).map (fun i=>if q i then D.hole else .lst 2 (dI (gl rows i)))++dII (rows.drop k)
theorem jN (q:Nat→Bool)(rows:List (List Int))(k:Nat):(Ub q rows k)[k]? =(dII rows)[k]? :=by
 unfold Ub dII
 have hl:((List.range k).map (fun i=>if q i then D.hole else .lst 2 (dI (gl rows i)))).length=k:=by simp
 rw [List.getElem?_append_right (by omega),hl,Nat.sub_self,List.getElem?_map,List.getElem?_map,List.getElem?_drop]
 rfl
theorem zDg (q:Nat→Bool)(rows:List (List Int))(k:Nat):xF (Ub q rows k) k=dI (gl rows k):=by
 rw [←JX]
 unfold xF
 rw [jN]
theorem zC4 (q:Nat→Bool)(rows:List (List Int))(k:Nat):yV (.sl 2) (Ub q rows k) k=(k<rows.length):=by
 rw [←JP]
 unfold yV
 rw [jN]
theorem zAw (q:Nat→Bool)(rows:List (List Int))(k:Nat):zl (Ub q rows k) [k]=(k<rows.length):=by
 rw [←Qh]
 unfold zl
 rw [jN]
attribute [push_cast] zDg zC4 zAw
theorem zFe {us rc:Plc→List Int}{p0:Plc}{n:Nat}(h:n≤(stQ us rc p0 n).length): ∀j,j<n→j<(stQ us rc p0 j).length:=fun j hj=>by
 rcases Nat.lt_or_ge j (stQ us rc p0 j).length with h1|h1
 ·exact h1
 ·have :=Qw (us:=us) (rc:=rc) (p0:=p0) (i:=j) (by omega) (j:=n) (by omega)
  rw [this]at h
  omega
theorem zGx {a:Ar}{rc:Plc→List Int}{p0:Plc}{V:List Int→Prop}{B:Nat}(ha:zv a=true)(h:XH a rc p0 V B){n:Nat}(hall: ∀j,j<n→j<(stQ (usA a) rc p0 j).length): ∀r∈nxG a rc p0 n,r.length≤16:=fun r hr=>by
 unfold nxG at hr
 obtain⟨j,hj,rfl⟩:=List.mem_map.1 hr
 have hj:=hall j (List.mem_range.1 hj)
 have hp:=vS ha h j _ (vk hj)
 have h2:=(Wl ha ⟨hp.1,hp.2.1⟩).2.1
 unfold nxQ
 rw [xH]
 have h3:=(xy (r:=rc (gq (stQ (usA a) rc p0 j) j)) (us:=usA a (gq (stQ (usA a) rc p0 j) j)) (ps:=stQ (usA a) rc p0 j) (Nat.le_refl _)).1
 show(zp _ _ _ _).2.length≤_
 rw [h3]
 omega
end Go.Proofs.Ytipplkjdmdlhpaa
