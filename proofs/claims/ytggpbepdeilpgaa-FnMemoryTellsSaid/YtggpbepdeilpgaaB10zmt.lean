/- records along a loop: the greatest priority is even just if what is asked is given; plain -/
import Derived.Test.YtggpbepdeilpgaaB9zmt
import Derived.Test.YtggpbepdeilpgaaB7zmt
import Derived.Test.YtggpbepdeilpgaaB8zmt
import Derived.Test.YtggpbepdeilpgaaB4zmt
import Derived.Test.YtggpbepdeilpgaaGWzmt
namespace Go.Proofs.Ytggpbepdeilpgaa
open Go.RowKit
set_option linter.unusedVariables false
set_option linter.unusedSimpArgs false
theorem zCU (ps:List Pr)(r:List Int)(v:Int): ∀n i,i<n→akB ps r v i=true→(i:Int)≤akI ps r v n
 |0,i,h,_=>absurd h (Nat.not_lt_zero i)
 |n+1,i,h,hb=>by
  cases hn:akB ps r v n with
  |true=>rw [zCV hn];omega
  |false=>
   rw [zEi hn]
   by_cases e:i=n
   ·subst e;rw [hn]at hb;cases hb
   ·exact zCU ps r v n i (by omega) hb
theorem zEh (ps:List Pr)(r:List Int)(v:Int): ∀n,akI ps r v n= -1∨∃i,i<n∧akI ps r v n=i∧akB ps r v i=true
 |0=> .inl rfl
 |n+1=>by
  cases hn:akB ps r v n with
  |true=>rw [zCV hn];exact .inr ⟨n,by omega,rfl,hn⟩
  |false=>
   rw [zEi hn]
   rcases zEh ps r v n with h|⟨i,h1,h2,h3⟩
   ·exact .inl h
   ·exact .inr ⟨i,by omega,h2,h3⟩
theorem zCr (ps:List Pr)(r:List Int)(v:Int): ∀n i,i<n→gvB ps r v i=true→(i:Int)≤gvI ps r v n
 |0,i,h,_=>absurd h (Nat.not_lt_zero i)
 |n+1,i,h,hb=>by
  cases hn:gvB ps r v n with
  |true=>rw [kN hn];omega
  |false=>
   rw [zAl hn]
   by_cases e:i=n
   ·subst e;rw [hn]at hb;cases hb
   ·exact zCr ps r v n i (by omega) hb
theorem zAk (ps:List Pr)(r:List Int)(v:Int): ∀n,gvI ps r v n= -1∨∃i,i<n∧gvI ps r v n=i∧gvB ps r v i=true
 |0=> .inl rfl
 |n+1=>by
  cases hn:gvB ps r v n with
  |true=>rw [kN hn];exact .inr ⟨n,by omega,rfl,hn⟩
  |false=>
   rw [zAl hn]
   rcases zAk ps r v n with h|⟨i,h1,h2,h3⟩
   ·exact .inl h
   ·exact .inr ⟨i,by omega,h2,h3⟩
theorem zFx {ps:List Pr}{r:List Int}{v:Int}{i:Nat}(hi:i<r.length)(hx:gvP ps v (gi r i)=false): ∃j,i≤j∧j<(nxL ps r v).length∧gi (nxL ps r v) j=gi r i∧((∃m,i<m∧m<r.length∧gvP ps v (gi r m)=true)→i<j):=by
 have hr:r=r.take i++gi r i::r.drop (i+1):=by
  rw [JH hi]
  rw [List.getElem_cons_drop,List.take_append_drop]
 have hsplit: ∀l:List Int,l.length=(l.filter (gvP ps v)).length+(l.filter (fun x=> !gvP ps v x)).length:=fun l=>by
  induction l with
  |nil=>rfl
  |cons y l ih=>
   cases hy:gvP ps v y<;>simp only [List.filter_cons,hy,List.length_cons,ih]<;>simp<;>omega
 have hti:(r.take i).length=i:=by rw [List.length_take];omega
 have h1:=hsplit (r.take i)
 rw [hti]at h1
 have hp:(r.filter (gvP ps v)).length=((r.take i).filter (gvP ps v)).length+((r.drop (i+1)).filter (gvP ps v)).length:=by
  conv=>lhs;rw [hr]
  rw [List.filter_append,List.filter_cons,if_neg (by rw [hx];decide),List.length_append]
 have hq:r.filter (fun x=> !gvP ps v x)=(r.take i).filter (fun x=> !gvP ps v x)++gi r i::(r.drop (i+1)).filter (fun x=> !gvP ps v x):=by
  conv=>lhs;rw [hr]
  rw [List.filter_append,List.filter_cons,if_pos (by rw [hx];rfl)]
 refine⟨(r.filter (gvP ps v)).length+((r.take i).filter (fun x=> !gvP ps v x)).length,by omega,?_,?_,?_⟩
 ·rw [zFn,List.length_append,hq,List.length_append,List.length_cons]
  omega
 ·rw [zFn]
  unfold gi
  rw [List.getD_eq_getElem?_getD,List.getElem?_append_right (by omega),Nat.add_sub_cancel_left,hq,List.getElem?_append_right (Nat.le_refl _),Nat.sub_self]
  rfl
 ·rintro⟨m,h2,h3,h4⟩
  have h5:gi r m∈(r.drop (i+1)).filter (gvP ps v):=by
   refine List.mem_filter.2 ⟨?_,h4⟩
   rw [JH h3]
   refine List.mem_iff_getElem.2 ⟨m - (i+1),by rw [List.length_drop];omega,?_⟩
   rw [List.getElem_drop]
   congr 1
   omega
  have h6:0<((r.drop (i+1)).filter (gvP ps v)).length:=List.length_pos_of_mem h5
  omega
structure qg (ps:List Pr)(L:Nat)(rec:Nat→List Int)(v:Nat→Int):Prop where
 pos:0<L
 ok: ∀t,recB (rec t) ps.length=true
 next: ∀t,rec (t+1)=nxL ps (rec t) (v t)
 perR: ∀t,rec (t+L)=rec t
 perV: ∀t,v (t+L)=v t
section
variable {ps:List Pr} {L:Nat} {rec:Nat→List Int} {v:Nat→Int}
theorem qg.len (h:qg ps L rec v)(t:Nat):(rec t).length=ps.length:=by have :=(Xn (h.ok t)).1;omega
theorem qg.inj (h:qg ps L rec v){t i j:Nat}(hi:i<ps.length)(hj:j<ps.length)(e:gi (rec t) i=gi (rec t) j):i=j:=by
 have hf:=(Xn (h.ok t)).2
 have hl:=h.len t
 rcases Nat.lt_trichotomy i j with h1|h1|h1
 ·exact absurd e ((hf j (by omega)).2 i h1)
 ·exact h1
 ·exact absurd e.symm ((hf i (by omega)).2 j h1)
theorem qg.mono (h:qg ps L rec v){T i:Nat}(hi:i<ps.length): ∀d,(∀s,s<d→gvP ps (v (T+s)) (gi (rec T) i)=false)→∃j,i≤j∧j<ps.length∧gi (rec (T+d)) j=gi (rec T) i
 |0,_=>⟨i,Nat.le_refl _,hi,rfl⟩
 |d+1,hg=>by
  obtain⟨j,h1,h2,h3⟩:=qg.mono h hi d fun s hs=>hg s (by omega)
  have hgd:=hg d (by omega)
  rw [←h3]at hgd
  obtain⟨m,k1,k2,k3,-⟩:=zFx (r:=rec (T+d)) (i:=j) (by rw [h.len];exact h2) hgd
  rw [←h.next]at k2 k3
  rw [h.len]at k2
  exact⟨m,by omega,k2,k3.trans h3⟩
theorem qg.perR' (h:qg ps L rec v)(t:Nat): ∀m,rec (t+m*L)=rec t∧v (t+m*L)=v t
 |0=>by simp
 |m+1=>by
  have ih:=qg.perR' h t m
  rw [show t+(m+1)*L=(t+m*L)+L from by rw [Nat.succ_mul];omega,h.perR,h.perV]
  exact ih
theorem qg.mod (h:qg ps L rec v)(t:Nat):rec t=rec (t%L)∧v t=v (t%L):=by
 have :=h.perR' (t%L) (t / L)
 rw [show t%L+t / L*L=t from by rw [Nat.mul_comm];exact Nat.mod_add_div t L]at this
 exact this
theorem qg.never (h:qg ps L rec v){t i:Nat}(hi:i<ps.length)(hn: ∀s,gvP ps (v s) (gi (rec t) i)=false){m:Nat}(hm:m<ps.length)(hg:gvP ps (v t) (gi (rec t) m)=true):m<i:=by
 rcases Nat.lt_trichotomy m i with h1|h1|h1
 ·exact h1
 ·subst h1;rw [hn t]at hg;cases hg
 ·exfalso
  have hl:=h.len t
  obtain⟨j,k1,k2,k3,k4⟩:=zFx (r:=rec t) (i:=i) (by omega) (hn t)
  have k5:=k4 ⟨m,h1,by omega,hg⟩
  rw [←h.next]at k2 k3
  rw [h.len]at k2
  obtain⟨q,q1,q2,q3⟩:=h.mono (T:=t+1) k2 (L - 1) fun s _=>by rw [k3];exact hn _
  rw [show t+1+(L - 1)=t+L from by have :=h.pos;omega,h.perR,k3]at q3
  have :=h.inj q2 hi q3
  omega
theorem giveP {x:Int}(v:Int):gvP ps v x=zn (gp ps x.toNat).give v:=rfl
theorem qg.at (h:qg ps L rec v)(t:Nat){x:Nat}(hx:x<ps.length): ∃i,i<ps.length∧gi (rec t) i=(x:Int):=by
 have hf:=zFy (h.ok t)
 have hp:=zBE ps.length (rec t) hf.2.2 hf.2.1 (h.len t)
 have hm:(x:Int)∈rec t:=hp.mem_iff.2 (List.mem_map.2 ⟨x,List.mem_range.2 hx,rfl⟩)
 obtain⟨i,hi,e⟩:=zC3 hm
 exact⟨i,by rw [h.len]at hi;exact hi,e⟩
theorem qg.law (h:qg ps L rec v){M:Int}(h1: ∃T,T<L∧Yi ps (rec T) (v T)=M)(h2: ∀t,t<L→Yi ps (rec t) (v t)≤M):
  M%2=0↔∀x,x<ps.length→(∃t,t<L∧zn (gp ps x).ask (v t)=true)→∃t,t<L∧zn (gp ps x).give (v t)=true:=by
 have hmax: ∀t,Yi ps (rec t) (v t)≤M:=fun t=>by
  have :=h.mod t
  rw [this.1,this.2]
  exact h2 _ (Nat.mod_lt _ h.pos)
 obtain⟨T,hT,hM⟩:=h1
 constructor
 ·intro hev x hx ⟨t,ht,ha⟩
  rcases Classical.em (∃t,t<L∧zn (gp ps x).give (v t)=true)with hc|hc
  ·exact hc
  ·exfalso
   have hnv: ∀s,zn (gp ps x).give (v s)=false:=fun s=>by
    cases hb:zn (gp ps x).give (v s)with
    |false=>rfl
    |true=>exact absurd ⟨s%L,Nat.mod_lt _ h.pos,by rw [←(h.mod s).2];exact hb⟩ hc
   -- its place is the same at all times
   obtain⟨c,hcl,hcx⟩:=h.at t hx
   have hng: ∀s,gvP ps (v s) (gi (rec t) c)=false:=fun s=>by rw [hcx];exact hnv s
   have ha2:akB ps (rec t) (v t) c=true:=by unfold akB;rw [hcx];exact ha
   have hlt:=h.len t
   have a1:=zCU ps (rec t) (v t) (rec t).length c (by omega) ha2
   have g1:gvI ps (rec t) (v t) (rec t).length<c:=by
    rcases zAk ps (rec t) (v t) (rec t).length with e|⟨m,m1,m2,m3⟩
    ·omega
    ·have :=h.never hcl hng (m:=m) (by omega) m3
     omega
   have hp:2*(c:Int)+1≤Yi ps (rec t) (v t):=by
    unfold Yi prV
    rw [if_neg (by omega),if_pos (by omega)]
    omega
   have hM1:=hmax t
   -- at T
   obtain⟨b,hbl,hbx⟩:=h.at T hx
   have hngT: ∀s,gvP ps (v s) (gi (rec T) b)=false:=fun s=>by rw [hbx];exact hnv s
   have hbc:b=c:=by
    -- from t to T (a later turn),and back
    obtain⟨q,q1,q2,q3⟩:=h.mono (T:=t) hcl (T+L - t) fun s _=>hng _
    rw [show t+(T+L - t)=T+L from by omega,h.perR,hcx,←hbx]at q3
    have e1:=h.inj q2 hbl q3
    obtain⟨q',p1,p2,p3⟩:=h.mono (T:=T) hbl (t+L - T) fun s _=>hngT _
    rw [show T+(t+L - T)=t+L from by omega,h.perR,hbx,←hcx]at p3
    have e2:=h.inj p2 hcl p3
    omega
   have g2:gvI ps (rec T) (v T) (rec T).length<c:=by
    have hlT:=h.len T
    rcases zAk ps (rec T) (v T) (rec T).length with e|⟨m,m1,m2,m3⟩
    ·omega
    ·have :=h.never hbl hngT (m:=m) (by omega) m3
     omega
   rw [←hM]at hev hM1
   unfold Yi prV at hev hM1 hp
   split at hev
   ·rename_i e;rw [if_pos e]at hM1;split at hp<;>omega
   ·rename_i e
    rw [if_neg e]at hM1
    split at hev
    ·omega
    ·rename_i e2
     rw [if_neg e2]at hM1
     split at hp
     ·omega
     ·split at hp<;>omega
 ·intro hall
  rcases Int.emod_two_eq M with h0|h0
  ·exact h0
  ·exfalso
   have hodd: ∃a,0≤a∧akI ps (rec T) (v T) (rec T).length=a∧M=2*a+1:=by
    rw [←hM]at h0⊢
    unfold Yi prV at h0⊢
    split at h0
    ·omega
    ·rename_i e
     rw [if_neg e]
     split at h0
     ·rename_i e2
      rw [if_pos e2]
      have :=zFQ ps (rec T) (v T) (rec T).length
      exact⟨_,by omega,rfl,rfl⟩
     ·omega
   obtain⟨a,ha0,ha1,ha2⟩:=hodd
   have hlT:=h.len T
   rcases zEh ps (rec T) (v T) (rec T).length with e|⟨i,i1,i2,i3⟩
   ·omega
   have hfT:=(Xn (h.ok T)).2 i i1
   obtain⟨x,hx⟩: ∃x:Nat,gi (rec T) i=x:=⟨_,(Int.toNat_of_nonneg hfT.1.1).symm⟩
   have hxl:x<ps.length:=by omega
   unfold akB at i3
   rw [hx,Int.toNat_natCast]at i3
   obtain⟨s,hs,hgs⟩:=hall x hxl ⟨T,hT,i3⟩
   -- the first time from T on at which it is given
   have hex: ∃d,zn (gp ps x).give (v (T+d))=true:=⟨s+L - T,by rw [show T+(s+L - T)=s+L from by omega,h.perV];exact hgs⟩
   have key: ∀n,(∃d,d<n∧zn (gp ps x).give (v (T+d))=true∧∀q,q<d→zn (gp ps x).give (v (T+q))=false)∨∀q,q<n→zn (gp ps x).give (v (T+q))=false:=by
    intro n
    induction n with
    |zero=>exact .inr fun q hq=>absurd hq (Nat.not_lt_zero q)
    |succ n ih=>
     rcases ih with⟨d,d1,d2,d3⟩|ih
     ·exact .inl ⟨d,by omega,d2,d3⟩
     ·cases hb:zn (gp ps x).give (v (T+n))with
      |true=>exact .inl ⟨n,by omega,hb,ih⟩
      |false=>
       refine .inr fun q hq=> ?_
       rcases Nat.lt_or_ge q n with h9|h9
       ·exact ih q h9
       ·rw [show q=n by omega];exact hb
   obtain⟨d0,hd0⟩:=hex
   rcases key (d0+1)with⟨d,-,d2,d3⟩|hk
   ·obtain⟨j,j1,j2,j3⟩:=h.mono (T:=T) (i:=i) (by omega) d fun q hq=>by rw [hx,giveP,Int.toNat_natCast];exact d3 q hq
    have hlj:=h.len (T+d)
    have hgj:gvB ps (rec (T+d)) (v (T+d)) j=true:=by
     unfold gvB
     rw [j3,hx,Int.toNat_natCast]
     exact d2
    have g3:=zCr ps (rec (T+d)) (v (T+d)) (rec (T+d)).length j (by omega) hgj
    have hm:=hmax (T+d)
    unfold Yi prV at hm
    split at hm
    ·omega
    ·split at hm<;>omega
   ·rw [hk d0 (by omega)]at hd0
    cases hd0
end
section
variable {a:Ar} {ps:List Pr} {s:Int}
end
theorem jl (code:List Int)(seed:Int)(j:Nat): ∀n,∀x∈wsL code seed j n,0≤x∧x<(n:Int)
 |0,x,h=>by rw [zER]at h;cases h
 |n+1,x,h=>by
  by_cases hd:dv code seed (j+n) 3=0
  ·rw [kw hd,List.mem_append,List.mem_singleton]at h
   rcases h with h|rfl
   ·have :=jl code seed j n x h;omega
   ·omega
  ·rw [zBg hd]at h
   have :=jl code seed j n x h;omega
theorem zBh (code:List Int)(seed:Int)(j:Nat): ∀n,(wsL code seed j n).Pairwise (· < ·)
 |0=>by rw [zER];exact List.Pairwise.nil
 |n+1=>by
  by_cases hd:dv code seed (j+n) 3=0
  ·rw [kw hd,List.pairwise_append]
   refine⟨zBh code seed j n,List.pairwise_singleton _ _,fun x hx y hy=> ?_⟩
   have :=jl code seed j n x hx
   have hy2:y=n:=by simpa using hy
   omega
  ·rw [zBg hd];exact zBh code seed j n
theorem zDQ (code:List Int)(seed:Int)(j n:Nat):yX (wsL code seed j n) (n:Int)=true:=uz (zBh code seed j n) (jl code seed j n)
theorem zDO (code:List Int)(seed:Int)(n j:Nat): ∀t,∀p∈wpL code seed n j t,yX p.ask (n:Int)=true∧yX p.give (n:Int)=true
 |0,p,h=>by rw [zEQ]at h;cases h
 |t+1,p,h=>by
  rw [Uf,List.mem_append,List.mem_singleton]at h
  rcases h with h|rfl
  ·exact zDO code seed n j t p h
  ·exact⟨zDQ _ _ _ _,zDQ _ _ _ _⟩
theorem zLI {code:List Int}(hby:yv code)(seed:Int)(j n:Nat){most:Int}(hm:0≤most∧most≤4):arB (wpP code seed n j most) (n:Int)=true∧(wpP code seed n j most).length≤most.toNat:=by
 have h1:=wQ hby seed j (n:=most+1) (by omega)
 have h2:(wpP code seed n j most).length=wpK code seed j most:=Ja ..
 have h3:wpK code seed j most≤most.toNat:=by unfold wpK;omega
 refine⟨?_,by omega⟩
 rw [jw fun i hi=> ?_]
 ·exact decide_eq_true (by omega)
 ·have :=zDO code seed n (j+1) _ _ (zFP hi)
  exact Vb this.1 this.2
section
variable {a:Ar} {ps:List Pr} {s:Int}
end
def p2 (i:Nat):Nat:=2^i
def KH (p:List Int→Bool)(rows:List (List Int))(k:Nat):List D:=(rows.take k).map (fun r=>if p r then D.hole else .lst 2 (dI r))++dII (rows.drop k)
theorem kP (p:List Int→Bool)(rows:List (List Int))(k:Nat):(KH p rows k)[k]? =(dII rows)[k]? :=by
 unfold KH dII
 rcases Nat.lt_or_ge k rows.length with h|h
 ·have hl:((rows.take k).map (fun r=>if p r then D.hole else .lst 2 (dI r))).length=k:=by simp;omega
  rw [List.getElem?_append_right (by omega),hl,Nat.sub_self,List.getElem?_map,List.getElem?_map,List.getElem?_drop]
  rfl
 ·rw [List.getElem?_eq_none (by simp;omega),List.getElem?_eq_none (by simp;omega)]
theorem zG6 (p:List Int→Bool)(rows:List (List Int))(k:Nat):(KH p rows k).length=rows.length:=by simp [KH,dII];omega
theorem zFJ (p:List Int→Bool)(rows:List (List Int))(k:Nat):xD (KH p rows k) k=dI (gl rows k):=by
 rw [←KF]
 unfold xD
 rw [kP]
theorem zEV (p:List Int→Bool)(rows:List (List Int))(k:Nat):xK (.sl 2) (KH p rows k) k=(k<rows.length):=by
 rw [←Js]
 unfold xK
 rw [kP]
theorem zCB (p:List Int→Bool)(rows:List (List Int))(k:Nat):zk (KH p rows k) [k]=(k<rows.length):=by
 rw [←VY]
 unfold zk
 rw [kP]
attribute [push_cast] zG6 zFJ zEV zCB
theorem zEm {a:Ar}(h:zu a=true):a.Ln 1048576:=by
 have hl:=zl h
 refine⟨by unfold LnI;omega,by omega,fun r hr=> ?_⟩
 obtain⟨v,hv,rfl⟩:=zKi hr
 have :=(xO h (v:=v) (by omega)).2.2.2.1
 omega
theorem zDN (code:List Int)(seed:Int)(n j:Nat): ∀t,∀p∈wpL code seed n j t,p.ask.length≤n∧p.give.length≤n
 |0,p,h=>by rw [zEQ]at h;cases h
 |t+1,p,h=>by
  rw [Uf,List.mem_append,List.mem_singleton]at h
  rcases h with h|rfl
  ·exact zDN code seed n j t p h
  ·exact⟨Qt _ _ _ _,Qt _ _ _ _⟩
theorem zLH {code:List Int}(hby:yv code)(seed:Int)(j:Nat){n:Nat}(hn:n≤256){most:Int}(hm:0≤most∧most≤4):PLn 1048576 (wpP code seed n j most)∧(wpP code seed n j most).length≤most.toNat:=by
 have h1:=wQ hby seed j (n:=most+1) (by omega)
 have h2:(wpP code seed n j most).length=wpK code seed j most:=Ja ..
 have h3:wpK code seed j most≤most.toNat:=by unfold wpK;omega
 refine⟨⟨by omega,fun p hp=> ?_⟩,by omega⟩
 have :=zDN code seed n (j+1) _ p hp
 exact⟨by show p.ask.length≤_;omega,by show p.give.length≤_;omega⟩
def zAn (q:Nat→Bool)(rows:List (List Int))(k:Nat):List D:=(List.range k).map (fun i=>if q i then D.hole else .lst 2 (dI (gl rows i)))++dII (rows.drop k)
theorem kO (q:Nat→Bool)(rows:List (List Int))(k:Nat):(zAn q rows k)[k]? =(dII rows)[k]? :=by
 unfold zAn dII
 have hl:((List.range k).map (fun i=>if q i then D.hole else .lst 2 (dI (gl rows i)))).length=k:=by simp
 rw [List.getElem?_append_right (by omega),hl,Nat.sub_self,List.getElem?_map,List.getElem?_map,List.getElem?_drop]
 rfl
theorem zFI (q:Nat→Bool)(rows:List (List Int))(k:Nat):xD (zAn q rows k) k=dI (gl rows k):=by
 rw [←KF]
 unfold xD
 rw [kO]
theorem zEU (q:Nat→Bool)(rows:List (List Int))(k:Nat):xK (.sl 2) (zAn q rows k) k=(k<rows.length):=by
 rw [←Js]
 unfold xK
 rw [kO]
theorem zCA (q:Nat→Bool)(rows:List (List Int))(k:Nat):zk (zAn q rows k) [k]=(k<rows.length):=by
 rw [←VY]
 unfold zk
 rw [kO]
attribute [push_cast] zFI zEU zCA
structure PG where
 own:Nat→Int
 pr:Nat→Nat
 E:Nat→Nat→Prop
inductive Wk (R:Nat→Nat→Prop)(pr:Nat→Nat):Nat→Nat→Nat→Prop
 |one {v u:Nat}:R v u→Wk R pr v u (pr v)
 |cons {v x u t:Nat}:R v x→Wk R pr x u t→Wk R pr v u (max (pr v) t)
theorem Wk.mono {R R':Nat→Nat→Prop}{pr:Nat→Nat}(h: ∀v u,R v u→R' v u){v u t:Nat}(w:Wk R pr v u t):Wk R' pr v u t:=by
 induction w with
 |one h1=>exact .one (h _ _ h1)
 |cons h1 _ ih=>exact .cons (h _ _ h1) ih
theorem Wk.app {R:Nat→Nat→Prop}{pr:Nat→Nat}{v x u s t:Nat}(a:Wk R pr v x s)(b:Wk R pr x u t):Wk R pr v u (max s t):=by
 induction a with
 |one h1=>exact .cons h1 b
 |cons h1 _ ih=>rw [Nat.max_assoc];exact .cons h1 (ih b)
theorem Wk.le {R:Nat→Nat→Prop}{pr:Nat→Nat}{top:Nat}(h: ∀v u,R v u→pr v≤top){v u t:Nat}(w:Wk R pr v u t):t≤top:=by
 induction w with
 |one h1=>exact h _ _ h1
 |cons h1 _ ih=>exact Nat.max_le.2 ⟨h _ _ h1,ih⟩
def SR (g:PG)(who:Int)(U:Nat→Prop)(s:Nat→Nat)(v u:Nat):Prop:=U v∧U u∧g.E v u∧(g.own v=who→u=s v)
structure xr (g:PG)(who:Int)(D U:Nat→Prop)(s:Nat→Nat):Prop where
 sub: ∀v,U v→D v
 own: ∀v,U v→g.own v=who→g.E v (s v)∧U (s v)
 opp: ∀v u,U v→¬g.own v=who→g.E v u→D u→U u
 good: ∀v t,Wk (SR g who U s) g.pr v v t→(t:Int)%2=who
def qZ (g:PG)(who:Int)(D goal:Nat→Prop):Nat→Nat→Prop
 |0,v=>D v∧goal v
 |k+1,v=>qZ g who D goal k v∨(D v∧((g.own v=who∧∃u,g.E v u∧qZ g who D goal k u)∨(¬g.own v=who∧(∃u,g.E v u∧D u)∧∀u,g.E v u→D u→qZ g who D goal k u)))
def Att (g:PG)(who:Int)(D goal:Nat→Prop)(v:Nat):Prop:= ∃k,qZ g who D goal k v
section
variable {g:PG} {who:Int} {D goal:Nat→Prop}
theorem qZ.inD {v:Nat}: ∀{k:Nat},qZ g who D goal k v→D v
 |0,h=>h.1
 |k+1,h=>by
  rcases h with h|h
  ·exact qZ.inD h
  ·exact h.1
theorem qZ.up {v:Nat}{j:Nat}(h:qZ g who D goal j v): ∀k,j≤k→qZ g who D goal k v
 |0,hk=>by rw [show j=0 by omega]at h;exact h
 |k+1,hk=>by
  by_cases e:j=k+1
  ·rw [←e];exact h
  ·exact .inl (qZ.up h k (by omega))
theorem zFX {P:Nat→Prop}: ∀n,P n→∃k,P k∧∀j,j<k→¬P j:=by
 intro n
 induction n using Nat.strongRecOn with
 |ind n ih=>
  intro h
  by_cases h2: ∃j,j<n∧P j
  ·obtain⟨j,hj,hp⟩:=h2
   exact ih j hj hp
  ·exact⟨n,h,fun j hj hp=>h2 ⟨j,hj,hp⟩⟩
open Classical in
noncomputable def rk (g:PG)(who:Int)(D goal:Nat→Prop)(v:Nat):Nat:=if h: ∃k,qZ g who D goal k v∧∀j,j<k→¬qZ g who D goal j v then h.choose else 0
theorem zDC {v:Nat}(h:Att g who D goal v):qZ g who D goal (rk g who D goal v) v∧∀j,j<rk g who D goal v→¬qZ g who D goal j v:=by
 obtain⟨n,hn⟩:=h
 have h2:=zFX (P:=fun k=>qZ g who D goal k v) n hn
 unfold rk
 rw [dif_pos h2]
 exact h2.choose_spec
theorem zIK {v k:Nat}(h:qZ g who D goal k v):rk g who D goal v≤k:=by
 have :=(zDC ⟨k,h⟩).2 k
 rcases Nat.lt_or_ge k (rk g who D goal v)with h1|h1
 ·exact absurd h (this h1)
 ·exact h1
theorem Att.cases {v:Nat}(h:Att g who D goal v):(D v∧goal v)∨(D v∧g.own v=who∧∃u,g.E v u∧Att g who D goal u∧rk g who D goal u<rk g who D goal v)∨(D v∧¬g.own v=who∧∀u,g.E v u→D u→Att g who D goal u∧rk g who D goal u<rk g who D goal v):=by
 obtain⟨h1,h2⟩:=zDC h
 generalize hr:rk g who D goal v=r at h1 h2
 cases r with
 |zero=>exact .inl h1
 |succ k=>
  rcases h1 with h1|⟨hD,h1⟩
  ·exact absurd h1 (h2 k (by omega))
  ·rcases h1 with⟨ho,u,he,hu⟩|⟨ho,-,ha⟩
   ·exact .inr (.inl ⟨hD,ho,u,he,⟨k,hu⟩,Nat.lt_succ_of_le (zIK hu)⟩)
   ·exact .inr (.inr ⟨hD,ho,fun u he hu=>⟨⟨k,ha u he hu⟩,Nat.lt_succ_of_le (zIK (ha u he hu))⟩⟩)
theorem Att.inD {v:Nat}(h:Att g who D goal v):D v:=by obtain⟨k,hk⟩:=h;exact hk.inD
theorem Att.base {v:Nat}(h1:D v)(h2:goal v):Att g who D goal v:=⟨0,h1,h2⟩
theorem Att.own {v u:Nat}(h1:D v)(h2:g.own v=who)(h3:g.E v u)(h4:Att g who D goal u):Att g who D goal v:=by
 obtain⟨k,hk⟩:=h4
 exact⟨k+1, .inr ⟨h1, .inl ⟨h2,u,h3,hk⟩⟩⟩
theorem Att.opp {n:Nat}(hn: ∀v u,g.E v u→u<n){v:Nat}(h1:D v)(h2: ¬g.own v=who)(h3: ∃u,g.E v u∧D u)(h4: ∀u,g.E v u→D u→Att g who D goal u):Att g who D goal v:=by
 have key: ∀m,∃k,∀u,u<m→g.E v u→D u→qZ g who D goal k u:=by
  intro m
  induction m with
  |zero=>exact⟨0,fun u hu=>by omega⟩
  |succ m ih=>
   obtain⟨k,hk⟩:=ih
   by_cases hm:g.E v m∧D m
   ·obtain⟨j,hj⟩:=h4 m hm.1 hm.2
    refine⟨max k j,fun u hu he hd=> ?_⟩
    by_cases e:u=m
    ·rw [e];exact hj.up _ (Nat.le_max_right ..)
    ·exact(hk u (by omega) he hd).up _ (Nat.le_max_left ..)
   ·refine⟨k,fun u hu he hd=> ?_⟩
    by_cases e:u=m
    ·rw [e]at he hd;exact absurd ⟨he,hd⟩ hm
    ·exact hk u (by omega) he hd
 obtain⟨k,hk⟩:=key n
 exact⟨k+1, .inr ⟨h1, .inr ⟨h2,h3,fun u he hd=>hk u (hn v u he) he hd⟩⟩⟩
theorem Att.out_own {v u:Nat}(h1:D v)(h: ¬Att g who D goal v)(h2:g.own v=who)(h3:g.E v u): ¬Att g who D goal u:=fun h4=>h (.own h1 h2 h3 h4)
theorem Att.out_opp {n:Nat}(hn: ∀v u,g.E v u→u<n){v:Nat}(h1:D v)(h: ¬Att g who D goal v)(h2: ¬g.own v=who)(h3: ∃u,g.E v u∧D u): ∃u,g.E v u∧D u∧¬Att g who D goal u:=by
 by_cases h4: ∃u,g.E v u∧D u∧¬Att g who D goal u
 ·exact h4
 ·exact absurd (Att.opp hn h1 h2 h3 fun u he hd=>Classical.byContradiction fun h5=>h4 ⟨u,he,hd,h5⟩) h
end
def ZL (g:PG)(D:Nat→Prop):Prop:= ∀v,D v→∃u,g.E v u∧D u
theorem Xe {g:PG}{who:Int}{D goal:Nat→Prop}{n:Nat}(hn: ∀v u,g.E v u→u<n)(h:ZL g D):ZL g (fun v=>D v∧¬Att g who D goal v):=fun v hv=>by
 obtain⟨u,he,hd⟩:=h v hv.1
 by_cases ho:g.own v=who
 ·exact⟨u,he,hd,Att.out_own hv.1 hv.2 ho he⟩
 ·obtain⟨x,a,b,c⟩:=Att.out_opp hn hv.1 hv.2 ho ⟨u,he,hd⟩
  exact⟨x,a,b,c⟩
open Classical in
noncomputable def Vz (g:PG)(who:Int)(D goal:Nat→Prop)(v:Nat):Nat:=if h: ∃u,g.E v u∧Att g who D goal u∧rk g who D goal u<rk g who D goal v then h.choose else 0
theorem XU {g:PG}{who:Int}{D goal:Nat→Prop}{v:Nat}(h:Att g who D goal v)(hg: ¬goal v)(ho:g.own v=who):g.E v (Vz g who D goal v)∧Att g who D goal (Vz g who D goal v)∧rk g who D goal (Vz g who D goal v)<rk g who D goal v:=by
 have h2: ∃u,g.E v u∧Att g who D goal u∧rk g who D goal u<rk g who D goal v:=by
  rcases h.cases with⟨-,h1⟩|⟨-,-,h1⟩|⟨-,h1,-⟩
  ·exact absurd h1 hg
  ·exact h1
  ·exact absurd ho h1
 unfold Vz
 rw [dif_pos h2]
 exact h2.choose_spec
section
variable {g:PG} {who:Int} {D:Nat→Prop} {top n:Nat}
open Classical in
theorem zDR (hn: ∀v u,g.E v u→u<n)(hl:ZL g D)(htop: ∀v,D v→g.pr v≤top)(hpar:(top:Int)%2=who){s:Nat→Nat}
  (hw:xr g who (fun v=>D v∧¬Att g who D (fun v=>g.pr v=top) v) (fun v=>D v∧¬Att g who D (fun v=>g.pr v=top) v) s): ∃s',xr g who D D s':=by
 let A:=Att g who D (fun v=>g.pr v=top)
 let r:=rk g who D (fun v=>g.pr v=top)
 have hsome: ∀v,∃u,D v→g.E v u∧D u:=fun v=>by
  by_cases h:D v
  ·obtain⟨u,hu⟩:=hl v h;exact⟨u,fun _=>hu⟩
  ·exact⟨0,fun h2=>absurd h2 h⟩
 let any:Nat→Nat:=fun v=>(hsome v).choose
 have hany: ∀v,D v→g.E v (any v)∧D (any v):=fun v=>(hsome v).choose_spec
 let s':Nat→Nat:=fun v=>if A v then(if g.pr v=top then any v else Vz g who D (fun v=>g.pr v=top) v)else s v
 have e1: ∀v,A v→g.pr v=top→s' v=any v:=fun v h1 h2=>by show(if _ then _ else _)=_;rw [if_pos h1,if_pos h2]
 have e2: ∀v,A v→¬g.pr v=top→s' v=Vz g who D (fun v=>g.pr v=top) v:=fun v h1 h2=>by show(if _ then _ else _)=_;rw [if_pos h1,if_neg h2]
 have e3: ∀v,¬A v→s' v=s v:=fun v h1=>by show(if _ then _ else _)=_;rw [if_neg h1]
 refine⟨s',fun v h=>h,fun v hv ho=> ?_,fun v u _ _ _ hu=>hu,fun v t w=> ?_⟩
 ·by_cases hA:A v
  ·by_cases hp:g.pr v=top
   ·rw [e1 v hA hp];exact hany v hv
   ·rw [e2 v hA hp]
    have :=XU hA hp ho
    exact⟨this.1,Att.inD this.2.1⟩
  ·rw [e3 v hA]
   have :=hw.own v ⟨hv,hA⟩ ho
   exact⟨this.1,this.2.1⟩
 ·have hle:=w.le fun v u h=>htop v h.1
  have claim: ∀{v u t:Nat},Wk (SR g who D s') g.pr v u t→t<top→(A v→A u∧r u<r v)∧(¬A v→A u∨Wk (SR g who (fun v=>D v∧¬A v) s) g.pr v u t):=by
   intro v u t w
   have stepA: ∀v u,SR g who D s' v u→g.pr v<top→A v→A u∧r u<r v:=fun v u h hp hA=>by
    rcases hA.cases with⟨-,h1⟩|⟨-,ho,-⟩|⟨-,ho,ha⟩
    ·omega
    ·have h2:=XU hA (by omega) ho
     rw [h.2.2.2 ho,e2 v hA (by omega)]
     exact h2.2
    ·exact ha u h.2.2.1 h.2.1
   have Vl: ∀v u,SR g who D s' v u→¬A v→¬A u→SR g who (fun v=>D v∧¬A v) s v u:=fun v u h h1 h2=>⟨⟨h.1,h1⟩,⟨h.2.1,h2⟩,h.2.2.1,fun ho=>by rw [h.2.2.2 ho,e3 v h1]⟩
   induction w with
   | @one v u h=>
    intro ht
    refine⟨stepA v u h ht,fun hA=> ?_⟩
    by_cases hu:A u
    ·exact .inl hu
    ·exact .inr (.one (Vl v u h hA hu))
   | @cons v x u t h w ih=>
    intro ht
    obtain⟨i1,i2⟩:=ih (by omega)
    refine⟨fun hA=> ?_,fun hA=> ?_⟩
    ·obtain⟨a,b⟩:=stepA v x h (by omega) hA
     obtain⟨c,d⟩:=i1 a
     exact⟨c,Nat.lt_trans d b⟩
    ·by_cases hx:A x
     ·exact .inl (i1 hx).1
     ·rcases i2 hx with h5|h5
      ·exact .inl h5
      ·exact .inr (.cons (Vl v x h hA hx) h5)
  by_cases ht:t=top
  ·rw [ht];exact hpar
  ·obtain⟨i1,i2⟩:=claim w (by omega)
   by_cases hA:A v
   ·have :=(i1 hA).2
    omega
   ·rcases i2 hA with h5|h5
    ·exact absurd h5 hA
    ·exact hw.good v t h5
theorem kx {opp:Int}(ho2: ∀v,g.own v=who∨g.own v=opp)(hne: ¬who=opp){goal L M:Nat→Prop}{s m:Nat→Nat}
  (hL:xr g opp (fun v=>D v∧¬Att g who D goal v) L s)
  (hM:xr g opp (fun v=>D v∧¬Att g opp D L v) M m): ∃s',xr g opp D (fun v=>M v∨Att g opp D L v) s':=by
 classical
 let B:=Att g opp D L
 let r:=rk g opp D L
 have hLD: ∀v,L v→D v:=fun v h=>(hL.sub v h).1
 have hLB: ∀v,L v→B v:=fun v h=>Att.base (hLD v h) h
 let s':Nat→Nat:=fun v=>if L v then s v else if B v then Vz g opp D L v else m v
 have e1: ∀v,L v→s' v=s v:=fun v h=>by show(if _ then _ else _)=_;rw [if_pos h]
 have e2: ∀v,¬L v→B v→s' v=Vz g opp D L v:=fun v h h2=>by show(if _ then _ else _)=_;rw [if_neg h,if_pos h2]
 have e3: ∀v,¬B v→s' v=m v:=fun v h=>by show(if _ then _ else _)=_;rw [if_neg (fun h2=>h (hLB v h2)),if_neg h]
 have hMB: ∀v,M v→¬B v:=fun v h=>(hM.sub v h).2
 -- from L nobody leaves L
 have stepL: ∀v u,L v→D u→g.E v u→(g.own v=opp→u=s' v)→L u:=fun v u h1 h2 h3 h4=>by
  rcases ho2 v with e|e
  ·have hv:=hL.sub v h1
   exact hL.opp v u h1 (fun e5=>hne (e.symm.trans e5)) h3 ⟨h2,Att.out_own hv.1 hv.2 e h3⟩
  ·rw [h4 e,e1 v h1];exact(hL.own v h1 e).2
 refine⟨s',fun v h=> ?_,fun v h ho=> ?_,fun v u h ho he hu=> ?_,fun v t w=> ?_⟩
 ·rcases h with h|h
  ·exact(hM.sub v h).1
  ·exact Att.inD h
 ·by_cases h1:L v
  ·rw [e1 v h1]
   have :=hL.own v h1 ho
   exact⟨this.1, .inr (hLB _ this.2)⟩
  ·by_cases h2:B v
   ·rw [e2 v h1 h2]
    have :=XU h2 h1 ho
    exact⟨this.1, .inr this.2.1⟩
   ·rw [e3 v h2]
    rcases h with h|h
    ·have :=hM.own v h ho
     exact⟨this.1, .inl this.2⟩
    ·exact absurd h h2
 ·by_cases h3:B u
  ·exact .inr h3
  ·by_cases h1:L v
   ·exact .inr (hLB _ (stepL v u h1 hu he fun e=>absurd e ho))
   ·rcases h with h|h
    ·exact .inl (hM.opp v u h ho he ⟨hu,h3⟩)
    ·rcases h.cases with⟨-,h4⟩|⟨-,h4,-⟩|⟨-,-,h4⟩
     ·exact absurd h4 h1
     ·exact absurd h4 ho
     ·exact .inr (h4 u he hu).1
 ·have hD: ∀v,(M v∨B v)→D v:=fun v h=>by
   rcases h with h|h
   ·exact(hM.sub v h).1
   ·exact Att.inD h
  have claim: ∀{v u t:Nat},Wk (SR g opp (fun v=>M v∨B v) s') g.pr v u t→(L v→L u∧Wk (SR g opp L s) g.pr v u t)∧(¬L v→B v→L u∨(B u∧r u<r v))∧(¬B v→B u∨Wk (SR g opp M m) g.pr v u t):=by
   intro v u t w
   have q1: ∀v u,SR g opp (fun v=>M v∨B v) s' v u→L v→L u∧SR g opp L s v u:=fun v u h h1=>by
    have h2:=stepL v u h1 (hD u h.2.1) h.2.2.1 h.2.2.2
    exact⟨h2,h1,h2,h.2.2.1,fun e=>by rw [h.2.2.2 e,e1 v h1]⟩
   have q2: ∀v u,SR g opp (fun v=>M v∨B v) s' v u→¬L v→B v→B u∧r u<r v:=fun v u h h1 h2=>by
    rcases h2.cases with⟨-,h4⟩|⟨-,h4,-⟩|⟨-,-,h4⟩
    ·exact absurd h4 h1
    ·have :=XU h2 h1 h4
     rw [h.2.2.2 h4,e2 v h1 h2]
     exact this.2
    ·exact h4 u h.2.2.1 (hD u h.2.1)
   have q3: ∀v u,SR g opp (fun v=>M v∨B v) s' v u→¬B v→¬B u→SR g opp M m v u:=fun v u h h1 h2=>by
    have hm: ∀x,(M x∨B x)→¬B x→M x:=fun x h5 h6=>h5.resolve_right h6
    exact⟨hm v h.1 h1,hm u h.2.1 h2,h.2.2.1,fun e=>by rw [h.2.2.2 e,e3 v h1]⟩
   induction w with
   | @one v u h=>
    refine⟨fun h1=> ?_,fun h1 h2=> .inr (q2 v u h h1 h2),fun h1=> ?_⟩
    ·obtain⟨a,b⟩:=q1 v u h h1
     exact⟨a, .one b⟩
    ·by_cases h2:B u
     ·exact .inl h2
     ·exact .inr (.one (q3 v u h h1 h2))
   | @cons v x u t h w ih=>
    obtain⟨i1,i2,i3⟩:=ih
    refine⟨fun h1=> ?_,fun h1 h2=> ?_,fun h1=> ?_⟩
    ·obtain⟨a,b⟩:=q1 v x h h1
     obtain⟨c,d⟩:=i1 a
     exact⟨c, .cons b d⟩
    ·obtain⟨a,b⟩:=q2 v x h h1 h2
     by_cases hx:L x
     ·exact .inl (i1 hx).1
     ·rcases i2 hx a with h5|h5
      ·exact .inl h5
      ·exact .inr ⟨h5.1,Nat.lt_trans h5.2 b⟩
    ·by_cases h2:B x
     ·by_cases hx:L x
      ·exact .inl (hLB _ (i1 hx).1)
      ·rcases i2 hx h2 with h5|h5
       ·exact .inl (hLB _ h5)
       ·exact .inl h5.1
     ·rcases i3 h2 with h5|h5
      ·exact .inl h5
      ·exact .inr (.cons (q3 v x h h1 h2) h5)
  obtain⟨i1,i2,i3⟩:=claim w
  by_cases h1:L v
  ·exact hL.good v t (i1 h1).2
  ·by_cases h2:B v
   ·rcases i2 h1 h2 with h5|h5
    ·exact absurd h5 h1
    ·omega
   ·rcases i3 h2 with h5|h5
    ·exact absurd h5 h2
    ·exact hM.good v t h5
theorem ky {opp:Int}(ho2: ∀v,g.own v=who∨g.own v=opp){L M:Nat→Prop}{m:Nat→Nat}(hM:xr g who (fun v=>D v∧¬Att g opp D L v) M m):xr g who D M m:=
 ⟨fun v h=>(hM.sub v h).1,hM.own,fun v u h ho he hu=>hM.opp v u h ho he ⟨hu,Att.out_own (hM.sub v h).1 (hM.sub v h).2 ((ho2 v).resolve_left ho) he⟩,hM.good⟩
end
theorem yJ {g:PG}{who:Int}{D U D' U':Nat→Prop}{s:Nat→Nat}(h:xr g who D U s)(hD: ∀v,D v↔D' v)(hU: ∀v,U v↔U' v):xr g who D' U' s:=by
 have e1:D=D':=funext fun v=>propext (hD v)
 have e2:U=U':=funext fun v=>propext (hU v)
 rw [←e1,←e2];exact h
theorem Vq {g:PG}{D U V:Nat→Prop}{s t:Nat→Nat}{n:Nat}(hn: ∀v,D v→v<n)(ho: ∀v,g.own v=0∨g.own v=1)(h0:xr g 0 D U s)(h1:xr g 1 D V t)(v:Nat)(hU:U v)(hV:V v):False:=by
 let f:Nat→Nat:=fun x=>if g.own x=0 then s x else t x
 have step: ∀x,U x∧V x→(U (f x)∧V (f x))∧SR g 0 U s x (f x)∧SR g 1 V t x (f x):=fun x ⟨hu,hv⟩=>by
  rcases ho x with e|e
  ·have hf:f x=s x:=if_pos e
   have a:=h0.own x hu e
   have b:=h1.opp x (s x) hv (by omega) a.1 (h0.sub _ a.2)
   rw [hf]
   exact⟨⟨a.2,b⟩,⟨hu,a.2,a.1,fun _=>rfl⟩,hv,b,a.1,fun e2=>by omega⟩
  ·have hf:f x=t x:=if_neg (by omega)
   have a:=h1.own x hv e
   have b:=h0.opp x (t x) hu (by omega) a.1 (h1.sub _ a.2)
   rw [hf]
   exact⟨⟨b,a.2⟩,⟨hu,b,a.1,fun e2=>by omega⟩,hv,a.2,a.1,fun _=>rfl⟩
 let it:Nat→Nat:=fun k=>Nat.rec v (fun _ x=>f x) k
 have hit: ∀k,U (it k)∧V (it k):=fun k=>by
  induction k with
  |zero=>exact⟨hU,hV⟩
  |succ k ih=>exact(step _ ih).1
 have hlt: ∀k,it k<n:=fun k=>hn _ (h0.sub _ (hit k).1)
 have walk: ∀i d,∃p,Wk (SR g 0 U s) g.pr (it i) (it (i+d+1)) p∧Wk (SR g 1 V t) g.pr (it i) (it (i+d+1)) p:=by
  intro i d
  induction d with
  |zero=>exact⟨_, .one (step _ (hit i)).2.1, .one (step _ (hit i)).2.2⟩
  |succ d ih=>
   obtain⟨p,a,b⟩:=ih
   exact⟨_,a.app (.one (step _ (hit (i+d+1))).2.1),b.app (.one (step _ (hit (i+d+1))).2.2)⟩
 have rep: ∃i d,it (i+d+1)=it i:=by
  refine Classical.byContradiction fun hno=> ?_
  have hnd:((List.range (n+1)).map it).Nodup:=by
   rw [List.nodup_iff_pairwise_ne,List.pairwise_map]
   refine List.Pairwise.imp_of_mem ?_ (List.pairwise_lt_range)
   intro a b ha hb hab e
   exact hno ⟨a,b - a - 1,by rw [show a+(b - a - 1)+1=b by omega];exact e.symm⟩
  have :=List.Nodup.length_le_of_subset (l₂:=List.range n) hnd (fun x hx=>by
   obtain⟨k,-,rfl⟩:=List.mem_map.1 hx
   exact List.mem_range.2 (hlt k))
  simp at this
  omega
 obtain⟨i,d,e⟩:=rep
 obtain⟨p,a,b⟩:=walk i d
 rw [e]at a b
 have :=h0.good _ _ a
 have :=h1.good _ _ b
 omega
theorem zJc (xs:List Bool)(n:Nat):(dB xs).take n=dB (xs.take n):=by simp [dB]
attribute [push_cast] zJc
structure L7 where
 owner:List Int
 prio:List Int
 next:List (List Int)
 prev:List (List Int)
 pick:List Int
structure L7.Ok (x:L7)(n:Nat):Prop where
 hn:n≤256
 ho:x.owner.length=n
 hp:x.prio.length=n
 hx:x.next.length=n
 hv:x.prev.length=n
 hk:x.pick.length=n
 deg: ∀v,v<n→(gl x.next v).length≤256
 to: ∀v,v<n→∀j,j<(gl x.next v).length→0≤gi (gl x.next v) j∧gi (gl x.next v) j<n
 pr: ∀v,v<n→0≤gi x.prio v∧gi x.prio v≤40
 ow: ∀v,v<n→gi x.owner v=0∨gi x.owner v=1
 nd: ∀v,v<n→∀i j,i<j→j<(gl x.next v).length→gi (gl x.next v) i≠gi (gl x.next v) j
 dpv: ∀u,u<n→(gl x.prev u).length≤256
 pin: ∀u,u<n→∀m,m<(gl x.prev u).length→(0≤gi (gl x.prev u) m∧gi (gl x.prev u) m<n)∧∃j,j<(gl x.next (gi (gl x.prev u) m).toNat).length∧gi (gl x.next (gi (gl x.prev u) m).toNat) j=u
 pal: ∀v,v<n→∀j,j<(gl x.next v).length→∃m,m<(gl x.prev (gi (gl x.next v) j).toNat).length∧gi (gl x.prev (gi (gl x.next v) j).toNat) m=v
 pnd: ∀u,u<n→∀i j,i<j→j<(gl x.prev u).length→gi (gl x.prev u) i≠gi (gl x.prev u) j
def edB (x:L7)(v u:Int):Bool:=decide (gi x.pick v.toNat<0∨gi x.pick v.toNat=u)
def WJ (x:L7)(inn:List Bool)(v:Nat):Nat→Int
 |0=>0
 |k+1=>if gb inn (gi (gl x.next v) k).toNat&&edB x v (gi (gl x.next v) k)then WJ x inn v k+1 else WJ x inn v k
theorem zCh (x:L7)(inn:List Bool)(v:Nat): ∀k,0≤WJ x inn v k∧WJ x inn v k≤k
 |0=>⟨Int.le_refl _,Int.le_refl _⟩
 |k+1=>by
  have :=zCh x inn v k
  unfold WJ
  split<;>omega
def Zr (x:L7)(inn:List Bool)(v:Nat):Int:=WJ x inn v (gl x.next v).length
def mkB (n:Nat)(f:Nat→Bool)(k:Nat):List Bool:=(List.range k).map f++List.replicate (n - k) false
theorem zC5 {n:Nat}{f:Nat→Bool}{k:Nat}(h:k≤n):(mkB n f k).length=n:=by unfold mkB;simp;omega
theorem zIE (n:Nat)(f:Nat→Bool):mkB n f 0=List.replicate n false:=by simp [mkB]
theorem zIF (n:Nat)(f:Nat→Bool):mkB n f n=(List.range n).map f:=by simp [mkB]
theorem zC6 {n:Nat}{f:Nat→Bool}{k:Nat}(h:k<n):(mkB n f k).set k (f k)=mkB n f (k+1):=by
 unfold mkB
 rw [List.set_append_right _ _ (by simp),List.length_map,List.length_range,Nat.sub_self,show n - k=(n - (k+1))+1 from by omega,List.replicate_succ,List.set_cons_zero,List.range_succ,List.map_append,List.append_assoc]
 rfl
theorem YR {n:Nat}{f:Nat→Bool}{v:Nat}(h:v<n):gb ((List.range n).map f) v=f v:=by
 unfold gb
 rw [List.getD_eq_getElem?_getD,List.getElem?_map,List.getElem?_range h]
 rfl
def lessB (inn out:List Bool)(v:Nat):Bool:=gb inn v&& !gb out v
def xP (inn out:List Bool):List Bool:=(List.range inn.length).map (lessB inn out)
def xY (x:L7)(inn:List Bool):Nat→Int
 |0=> -1
 |k+1=>if gb inn k then max (xY x inn k) (gi x.prio k)else xY x inn k
def pgL (x:L7):PG:=⟨fun v=>if v<x.owner.length then gi x.owner v else 0,fun v=>(gi x.prio v).toNat,fun v u=>v<x.owner.length∧∃j,j<(gl x.next v).length∧(gi (gl x.next v) j).toNat=u∧edB x v (gi (gl x.next v) j)=true⟩
def inD (n:Nat)(inn:List Bool)(v:Nat):Prop:=v<n∧gb inn v=true
section
variable {x:L7} {n:Nat}
theorem Qj (hx:x.Ok n){v:Nat}(hv:v<n):(pgL x).own v=gi x.owner v:=if_pos (by rw [hx.ho];exact hv)
theorem Vd (hx:x.Ok n)(v:Nat):(pgL x).own v=0∨(pgL x).own v=1:=by
 by_cases h:v<n
 ·rw [Qj hx h];exact hx.ow v h
 ·exact .inl (if_neg (by rw [hx.ho];exact h))
theorem pgL_E (hx:x.Ok n){v:Nat}(hv:v<n){u:Int}(hu:0≤u):(pgL x).E v u.toNat↔(∃j,j<(gl x.next v).length∧gi (gl x.next v) j=u)∧edB x v u=true:=by
 constructor
 ·rintro⟨-,j,hj,e,h⟩
  have :=(hx.to v hv j hj).1
  have e2:gi (gl x.next v) j=u:=by omega
  rw [e2]at h
  exact⟨⟨j,hj,e2⟩,h⟩
 ·rintro⟨⟨j,hj,e⟩,h⟩
  exact⟨by rw [hx.ho];exact hv,j,hj,by rw [e],by rw [e];exact h⟩
theorem JR (hx:x.Ok n)(v u:Nat)(h:(pgL x).E v u):u<n:=by
 obtain⟨h1,j,hj,e,-⟩:=h
 have :=hx.to v (by rw [←hx.ho];exact h1) j hj
 omega
def xy (x:L7)(inn:List Bool)(v:Nat)(p:Int→Bool):Nat→Int
 |0=>0
 |k+1=>if gb inn (gi (gl x.next v) k).toNat&&edB x v (gi (gl x.next v) k)&& !p (gi (gl x.next v) k)then xy x inn v p k+1 else xy x inn v p k
theorem uQ (x:L7)(inn:List Bool)(v:Nat){p:Int→Bool}: ∀k,(∀j,j<k→p (gi (gl x.next v) j)=false)→xy x inn v p k=WJ x inn v k
 |0,_=>rfl
 |k+1,h=>by
  unfold xy WJ
  rw [uQ x inn v k fun j hj=>h j (by omega),h k (by omega),Bool.not_false,Bool.and_true]
theorem ZE (x:L7)(inn:List Bool)(v:Nat){p q:Int→Bool}: ∀k,(∀j,j<k→gb inn (gi (gl x.next v) j).toNat=true→edB x v (gi (gl x.next v) j)=true→p (gi (gl x.next v) j)=q (gi (gl x.next v) j))→xy x inn v p k=xy x inn v q k
 |0,_=>rfl
 |k+1,h=>by
  unfold xy
  rw [ZE x inn v k fun j hj=>h j (by omega)]
  by_cases h1:gb inn (gi (gl x.next v) k).toNat=true
  ·by_cases h2:edB x v (gi (gl x.next v) k)=true
   ·rw [h k (by omega) h1 h2]
   ·have h3:edB x v (gi (gl x.next v) k)=false:=by simpa using h2
    rw [h3,Bool.and_false,Bool.false_and,Bool.false_and]
  ·have h3:gb inn (gi (gl x.next v) k).toNat=false:=by simpa using h1
   rw [h3,Bool.false_and,Bool.false_and,Bool.false_and]
theorem zAS (x:L7)(inn:List Bool)(v:Nat){p q:Int→Bool}{u:Int}(hp:p u=false)(hq:q u=true)(hu:gb inn u.toNat=true)(he:edB x v u=true): ∀k,(∀j,j<k→gi (gl x.next v) j≠u→p (gi (gl x.next v) j)=q (gi (gl x.next v) j))→
  (∀i j,i<j→j<k→gi (gl x.next v) i≠gi (gl x.next v) j)→(∃j,j<k∧gi (gl x.next v) j=u)→xy x inn v q k=xy x inn v p k - 1
 |0,_,_,h=>by obtain⟨j,hj,-⟩:=h;omega
 |k+1,h,hd,hex=>by
  obtain⟨j,hj,e⟩:=hex
  by_cases hk:gi (gl x.next v) k=u
  ·have h1:xy x inn v q k=xy x inn v p k:=(ZE x inn v k fun j' hj' _ _=>h j' (by omega) (fun e'=>hd j' k hj' (by omega) (e'.trans hk.symm))).symm
   unfold xy
   rw [hk,hp,hq,hu,he,h1]
   simp
  ·have hjk:j≠k:=fun e2=>hk (by rw [←e2];exact e)
   have ih:=zAS x inn v hp hq hu he k (fun j' hj'=>h j' (by omega)) (fun a b h1 h2=>hd a b h1 (by omega)) ⟨j,by omega,e⟩
   unfold xy
   rw [h k (by omega) hk,ih]
   split<;>omega
theorem kK (x:L7)(inn:List Bool)(v:Nat)(p:Int→Bool): ∀k,0≤xy x inn v p k∧xy x inn v p k≤k
 |0=>⟨Int.le_refl _,Int.le_refl _⟩
 |k+1=>by
  have :=kK x inn v p k
  unfold xy
  split<;>omega
theorem uR (x:L7)(inn:List Bool)(v:Nat)(p:Int→Bool): ∀k,xy x inn v p k=0→∀j,j<k→gb inn (gi (gl x.next v) j).toNat=true→edB x v (gi (gl x.next v) j)=true→p (gi (gl x.next v) j)=true
 |0,_,j,hj,_,_=>by omega
 |k+1,h,j,hj,h1,h2=>by
  have hn:=kK x inn v p k
  unfold xy at h
  split at h
  ·omega
  ·rename_i hc
   by_cases e:j=k
   ·rw [e]at h1 h2⊢
    rw [h1,h2]at hc
    simpa using hc
   ·exact uR x inn v p k h j (by omega) h1 h2
structure AtI (x:L7)(n:Nat)(inn:List Bool)(who:Int)(goal out:List Bool)(left queue:List Int)(P:Nat→Int→Bool):Prop where
 lo:out.length=n
 ll:left.length=n
 qrg: ∀i,i<queue.length→0≤gi queue i∧gi queue i<n
 qnd: ∀i j,i<j→j<queue.length→gi queue i≠gi queue j
 qout: ∀v,v<n→(gb out v=true↔∃i,i<queue.length∧gi queue i=v)
 sound: ∀v,v<n→gb out v=true→Att (pgL x) who (inD n inn) (fun v=>gb goal v=true) v
 base: ∀v,v<n→gb inn v=true→gb goal v=true→gb out v=true
 own: ∀v,v<n→gb inn v=true→gb out v=false→gi x.owner v=who→∀j,j<(gl x.next v).length→edB x v (gi (gl x.next v) j)=true→gb inn (gi (gl x.next v) j).toNat=true→P v (gi (gl x.next v) j)=false
 opp: ∀v,v<n→gb inn v=true→gb out v=false→¬gi x.owner v=who→(∃j,j<(gl x.next v).length∧edB x v (gi (gl x.next v) j)=true∧gb inn (gi (gl x.next v) j).toNat=true∧P v (gi (gl x.next v) j)=true)→gi left v≠0
 cnt: ∀v,v<n→gb inn v=true→gb out v=false→gi left v=xy x inn v (P v) (gl x.next v).length
 psub: ∀v,v<n→∀j,j<(gl x.next v).length→P v (gi (gl x.next v) j)=true→gb out (gi (gl x.next v) j).toNat=true
variable {inn goal out:List Bool} {who:Int} {left queue:List Int} {P Q:Nat→Int→Bool}
theorem AtI.cong (h:AtI x n inn who goal out left queue P)(hPQ: ∀v,v<n→∀j,j<(gl x.next v).length→P v (gi (gl x.next v) j)=Q v (gi (gl x.next v) j)):AtI x n inn who goal out left queue Q:=
 ⟨h.lo,h.ll,h.qrg,h.qnd,h.qout,h.sound,h.base,fun v hv h1 h2 h3 j hj h4 h5=>by rw [←hPQ v hv j hj];exact h.own v hv h1 h2 h3 j hj h4 h5,
  fun v hv h1 h2 h3 ⟨j,hj,h4,h5,h6⟩=>h.opp v hv h1 h2 h3 ⟨j,hj,h4,h5,by rw [hPQ v hv j hj];exact h6⟩,
  fun v hv h1 h2=>by rw [h.cnt v hv h1 h2];exact ZE x inn v _ fun j hj _ _=>hPQ v hv j hj,
  fun v hv j hj h1=>h.psub v hv j hj (by rw [hPQ v hv j hj];exact h1)⟩
theorem AtI.skip (h:AtI x n inn who goal out left queue P){v0:Nat}(hv0:v0<n){u0:Int}(hu0:gb out u0.toNat=true)(hs:gb inn v0=false∨gb out v0=true∨edB x v0 u0=false)
  (hQ: ∀v u,Q v u=(P v u||(decide (v=v0)&&decide (u=u0)))):AtI x n inn who goal out left queue Q:=by
 have key: ∀v,v<n→gb inn v=true→gb out v=false→∀j,j<(gl x.next v).length→edB x v (gi (gl x.next v) j)=true→Q v (gi (gl x.next v) j)=P v (gi (gl x.next v) j):=fun v hv h1 h2 j hj h3=>by
  rw [hQ]
  by_cases e:v=v0∧gi (gl x.next v) j=u0
  ·exfalso
   obtain⟨rfl,e2⟩:=e
   rw [e2]at h3
   rcases hs with h|h|h
   ·rw [h]at h1;cases h1
   ·rw [h]at h2;cases h2
   ·rw [h]at h3;cases h3
  ·have :(decide (v=v0)&&decide (gi (gl x.next v) j=u0))=false:=by
    rw [Bool.and_eq_false_iff,decide_eq_false_iff_not,decide_eq_false_iff_not]
    omega
   rw [this,Bool.or_false]
 refine⟨h.lo,h.ll,h.qrg,h.qnd,h.qout,h.sound,h.base,fun v hv h1 h2 h3 j hj h4 h5=>by rw [key v hv h1 h2 j hj h4];exact h.own v hv h1 h2 h3 j hj h4 h5,
  fun v hv h1 h2 h3 ⟨j,hj,h4,h5,h6⟩=>h.opp v hv h1 h2 h3 ⟨j,hj,h4,h5,by rw [←key v hv h1 h2 j hj h4];exact h6⟩,
  fun v hv h1 h2=>by rw [h.cnt v hv h1 h2];exact ZE x inn v _ fun j hj _ h4=>(key v hv h1 h2 j hj h4).symm,
  fun v hv j hj h1=> ?_⟩
 rw [hQ,Bool.or_eq_true,Bool.and_eq_true,decide_eq_true_eq,decide_eq_true_eq]at h1
 rcases h1 with h1|⟨-,h1⟩
 ·exact h.psub v hv j hj h1
 ·rw [h1];exact hu0
theorem vM {c:List Int}{v u:Nat}{y:Int}(hv:v<c.length):gi (c.set v y) u=if u=v then y else gi c u:=by
 unfold gi
 rw [List.getD_eq_getElem?_getD,List.getElem?_set]
 split
 ·rename_i h;subst h;simp [hv]
 ·rename_i h;rw [if_neg (by omega),List.getD_eq_getElem?_getD]
theorem xI {c:List Bool}{v u:Nat}{y:Bool}(hv:v<c.length):gb (c.set v y) u=if u=v then y else gb c u:=by
 unfold gb
 rw [List.getD_eq_getElem?_getD,List.getElem?_set]
 split
 ·rename_i h;subst h;simp [hv]
 ·rename_i h;rw [if_neg (by omega),List.getD_eq_getElem?_getD]
theorem AtI.step (hx:x.Ok n)(h:AtI x n inn who goal out left queue P){v0:Nat}(hv0:v0<n){u0:Int}(hu:0≤u0∧u0<n)(hu0:gb out u0.toNat=true)(hui:gb inn u0.toNat=true)(h1:gb inn v0=true)(h2:gb out v0=false)(h3:edB x v0 u0=true)
  (hj: ∃j,j<(gl x.next v0).length∧gi (gl x.next v0) j=u0) (hP:P v0 u0=false) (hQ: ∀v u,Q v u=(P v u||(decide (v=v0)&&decide (u=u0)))):
  (¬(gi x.owner v0=who∨gi left v0 - 1=0)→AtI x n inn who goal out (left.set v0 (gi left v0 - 1)) queue Q)∧
  ((gi x.owner v0=who∨gi left v0 - 1=0)→AtI x n inn who goal (out.set v0 true) (left.set v0 (gi left v0 - 1)) (queue++ [(v0:Int)]) Q):=by
 have hother: ∀v,v≠v0→∀u,Q v u=P v u:=fun v hv u=>by rw [hQ,decide_eq_false hv,Bool.false_and,Bool.or_false]
 have hQ1:Q v0 u0=true:=by rw [hQ];simp
 have hQ2: ∀u,u≠u0→Q v0 u=P v0 u:=fun u hu=>by rw [hQ,decide_eq_false hu,Bool.and_false,Bool.or_false]
 have hcount:xy x inn v0 (Q v0) (gl x.next v0).length=gi left v0 - 1:=by
  rw [h.cnt v0 hv0 h1 h2]
  exact zAS x inn v0 hP hQ1 hui h3 _ (fun j hj hne=>(hQ2 _ hne).symm) (fun i j a b=>hx.nd v0 hv0 i j a b) hj
 have hps: ∀v,v<n→∀j,j<(gl x.next v).length→Q v (gi (gl x.next v) j)=true→gb out (gi (gl x.next v) j).toNat=true:=fun v hv j hj h5=>by
  rw [hQ,Bool.or_eq_true,Bool.and_eq_true,decide_eq_true_eq,decide_eq_true_eq]at h5
  rcases h5 with h5|⟨-,h5⟩
  ·exact h.psub v hv j hj h5
  ·rw [h5];exact hu0
 have hll:v0<left.length:=by rw [h.ll];exact hv0
 have hlo:v0<out.length:=by rw [h.lo];exact hv0
 constructor
 ·intro hno
  refine⟨h.lo,by rw [List.length_set];exact h.ll,h.qrg,h.qnd,h.qout,h.sound,h.base,fun v hv a b c j hj' d e=> ?_,fun v hv a b c hex=> ?_,fun v hv a b=> ?_,hps⟩
  ·by_cases ev:v=v0
   ·exfalso;rw [ev]at c;exact hno (.inl c)
   ·rw [hother v ev];exact h.own v hv a b c j hj' d e
  ·rw [vM hll]
   split
   ·exact fun e=>hno (.inr e)
   ·rename_i ev
    obtain⟨j,hj',d,e,f⟩:=hex
    exact h.opp v hv a b c ⟨j,hj',d,e,by rw [←hother v ev];exact f⟩
  ·rw [vM hll]
   split
   ·rename_i ev;rw [ev];exact hcount.symm
   ·rename_i ev
    rw [h.cnt v hv a b]
    exact ZE x inn v _ fun j _ _ _=>(hother v ev _).symm
 ·intro hyes
  have hnew: ∀i,i<queue.length→gi queue i≠(v0:Int):=fun i hi e=>by
   have :=(h.qout v0 hv0).2 ⟨i,hi,e⟩
   rw [this]at h2;cases h2
  have hql:(queue++ [(v0:Int)]).length=queue.length+1:=by simp
  have hqs: ∀j,j<queue.length+1→gi (queue++ [(v0:Int)]) j=if j=queue.length then(v0:Int)else gi queue j:=fun j hj=>by
   split
   ·rename_i e;rw [e];unfold gi;rw [List.getD_eq_getElem?_getD,List.getElem?_append_right (Nat.le_refl _)];simp
   ·unfold gi;rw [List.getD_eq_getElem?_getD,List.getElem?_append_left (by omega),List.getD_eq_getElem?_getD]
  have hup: ∀v,gb out v=true→gb (out.set v0 true) v=true:=fun v hv=>by
   rw [xI hlo]
   split
   ·rfl
   ·exact hv
  have hdown: ∀v,gb (out.set v0 true) v=false→v≠v0∧gb out v=false:=fun v hv=>by
   rw [xI hlo]at hv
   split at hv
   ·cases hv
   ·rename_i e;exact⟨e,hv⟩
  refine⟨by rw [List.length_set];exact h.lo,by rw [List.length_set];exact h.ll,fun i hi=> ?_,fun i j hij hj'=> ?_,fun v hv=> ?_,fun v hv hb=> ?_,fun v hv a b=>hup v (h.base v hv a b),fun v hv a b c j hj' d e=> ?_,fun v hv a b c hex=> ?_,fun v hv a b=> ?_,fun v hv j hj' h5=>hup _ (hps v hv j hj' h5)⟩
  ·rw [hql]at hi
   rw [hqs i hi]
   split
   ·omega
   ·exact h.qrg i (by omega)
  ·rw [hql]at hj'
   rw [hqs i (by omega),hqs j hj',if_neg (by omega)]
   split
   ·exact hnew i (by omega)
   ·exact h.qnd i j hij (by omega)
  ·rw [xI hlo,hql]
   constructor
   ·intro hb
    split at hb
    ·rename_i e;exact⟨queue.length,by omega,by rw [hqs _ (by omega),if_pos rfl,e]⟩
    ·obtain⟨i,hi,e⟩:=(h.qout v hv).1 hb
     exact⟨i,by omega,by rw [hqs i (by omega),if_neg (by omega)];exact e⟩
   ·rintro⟨i,hi,e⟩
    rw [hqs i hi]at e
    split at e
    ·rw [if_pos (by omega)]
    ·split
     ·rfl
     ·exact(h.qout v hv).2 ⟨i,by omega,e⟩
  ·rw [xI hlo]at hb
   split at hb
   ·rename_i e
    subst e
    have hE:(pgL x).E v u0.toNat:=(pgL_E hx hv hu.1).2 ⟨hj,h3⟩
    have hAu:=h.sound u0.toNat (by omega) hu0
    by_cases ho:gi x.owner v=who
    ·exact Att.own ⟨hv,h1⟩ (by rw [Qj hx hv];exact ho) hE hAu
    ·have hz:xy x inn v (Q v) (gl x.next v).length=0:=by rw [hcount];exact hyes.resolve_left ho
     refine Att.opp (fun a b=>JR hx a b) ⟨hv,h1⟩ (by rw [Qj hx hv];exact ho) ⟨_,hE,by omega,hui⟩ fun u he hd=> ?_
     obtain⟨-,j,hj',e1,e2⟩:=he
     have hq:=uR x inn v (Q v) _ hz j hj' (by rw [e1];exact hd.2) e2
     have :=hps v hv j hj' hq
     rw [e1]at this
     exact h.sound u hd.1 this
   ·exact h.sound v hv hb
  ·obtain⟨b1,b2⟩:=hdown v b
   rw [hother v b1];exact h.own v hv a b2 c j hj' d e
  ·obtain⟨b1,b2⟩:=hdown v b
   rw [vM hll,if_neg b1]
   obtain⟨j,hj',d,e,f⟩:=hex
   exact h.opp v hv a b2 c ⟨j,hj',d,e,by rw [←hother v b1];exact f⟩
  ·obtain⟨b1,b2⟩:=hdown v b
   rw [vM hll,if_neg b1,h.cnt v hv a b2]
   exact ZE x inn v _ fun j _ _ _=>(hother v b1 _).symm
theorem AtI.done (hx:x.Ok n)(h:AtI x n inn who goal out left queue P)(hP: ∀v,v<n→∀j,j<(gl x.next v).length→gb out (gi (gl x.next v) j).toNat=true→P v (gi (gl x.next v) j)=true){v:Nat}(hv:v<n):gb out v=true↔Att (pgL x) who (inD n inn) (fun v=>gb goal v=true) v:=by
 refine⟨h.sound v hv,fun⟨k,hk⟩=> ?_⟩
 have key: ∀k v,v<n→qZ (pgL x) who (inD n inn) (fun v=>gb goal v=true) k v→gb out v=true:=by
  intro k
  induction k with
  |zero=>exact fun v hv hk=>h.base v hv hk.1.2 hk.2
  |succ k ih=>
   intro v hv hk
   rcases hk with hk|⟨hD,hk⟩
   ·exact ih v hv hk
   ·cases hb:gb out v
    ·exfalso
     rcases hk with⟨ho,u,he,hu⟩|⟨ho,⟨u,he,hud⟩,ha⟩
     ·have hun:=JR hx v u he
      have hub:=ih u hun hu
      have huD:=hu.inD
      obtain⟨-,j,hj,e1,e2⟩:=he
      rw [Qj hx hv]at ho
      have h6:=h.own v hv hD.2 hb ho j hj e2 (by rw [e1];exact huD.2)
      have h7:=hP v hv j hj (by rw [e1];exact hub)
      rw [h6]at h7;cases h7
     ·rw [Qj hx hv]at ho
      have hz:xy x inn v (P v) (gl x.next v).length=0:=by
       have hall: ∀j,j<(gl x.next v).length→gb inn (gi (gl x.next v) j).toNat=true→edB x v (gi (gl x.next v) j)=true→P v (gi (gl x.next v) j)=true:=fun j hj a b=>by
        have hto:=hx.to v hv j hj
        have hE:(pgL x).E v (gi (gl x.next v) j).toNat:=⟨by rw [hx.ho];exact hv,j,hj,rfl,b⟩
        exact hP v hv j hj (ih _ (by omega) (ha _ hE ⟨by omega,a⟩))
       have : ∀m,m≤(gl x.next v).length→xy x inn v (P v) m=0:=by
        intro m
        induction m with
        |zero=>intro _;rfl
        |succ m ihm=>
         intro hm
         unfold xy
         rw [ihm (by omega),if_neg]
         intro hc
         simp only [Bool.and_eq_true,Bool.not_eq_true']at hc
         have :=hall m (by omega) hc.1.1 hc.1.2
         rw [this]at hc
         cases hc.2
       exact this _ (Nat.le_refl _)
      have hc:=h.cnt v hv hD.2 hb
      rw [hz]at hc
      obtain⟨-,j,hj,e1,e2⟩:=he
      have hE:(pgL x).E v u:=⟨by rw [hx.ho];exact hv,j,hj,e1,e2⟩
      have hub:=ih u hud.1 (ha u hE hud)
      exact h.opp v hv hD.2 hb ho ⟨j,hj,e2,by rw [e1];exact hud.2,hP v hv j hj (by rw [e1];exact hub)⟩ hc
    ·rfl
 exact key k v hv hk
open Classical in
noncomputable def xg (x:L7)(n:Nat)(inn:List Bool)(who:Int)(goal:List Bool):List Bool:=(List.range n).map fun v=>decide (Att (pgL x) who (inD n inn) (fun v=>gb goal v=true) v)
theorem zGe (x:L7)(n:Nat)(inn:List Bool)(who:Int)(goal:List Bool):(xg x n inn who goal).length=n:=by simp [xg]
open Classical in
theorem Ym {v:Nat}(hv:v<n):gb (xg x n inn who goal) v=true↔Att (pgL x) who (inD n inn) (fun v=>gb goal v=true) v:=by
 unfold xg
 rw [YR hv]
 exact decide_eq_true_iff
theorem JG {a b:List Bool}(hl:a.length=b.length)(h: ∀v,v<a.length→gb a v=gb b v):a=b:=by
 refine List.ext_getElem? fun i=> ?_
 by_cases hi:i<a.length
 ·rw [zH5 hi,zH5 (by omega),h i hi]
 ·rw [List.getElem?_eq_none (by omega),List.getElem?_eq_none (by omega)]
theorem AtI.result (hx:x.Ok n)(h:AtI x n inn who goal out left queue P)(hP: ∀v,v<n→∀j,j<(gl x.next v).length→gb out (gi (gl x.next v) j).toNat=true→P v (gi (gl x.next v) j)=true):out=xg x n inn who goal:=by
 refine JG (by rw [zGe];exact h.lo) fun v hv=> ?_
 rw [h.lo]at hv
 rw [Bool.eq_iff_iff,h.done hx hP hv,Ym hv]
structure At0 (x:L7)(n:Nat)(inn goal:List Bool)(k:Nat)(out:List Bool)(left queue:List Int):Prop where
 lo:out.length=n
 ll:left.length=n
 lq:queue.length≤k
 qrg: ∀i,i<queue.length→0≤gi queue i∧gi queue i<k
 qnd: ∀i j,i<j→j<queue.length→gi queue i≠gi queue j
 qout: ∀v,v<n→(gb out v=true↔∃i,i<queue.length∧gi queue i=v)
 outs: ∀v,v<n→gb out v=(decide (v<k)&&(gb inn v&&gb goal v))
 lef: ∀v,v<k→gb inn v=true→gi left v=Zr x inn v
theorem At0.start (n:Nat)(inn goal:List Bool):At0 x n inn goal 0 (List.replicate n false) (List.replicate n 0) []:=by
 have h0: ∀v,gb (List.replicate n false) v=false:=fun v=>by
  unfold gb
  rw [List.getD_eq_getElem?_getD,List.getElem?_replicate]
  split<;>rfl
 refine⟨by simp,by simp,by simp,fun i hi=>(by simp at hi),fun i j _ hj=>(by simp at hj),fun v _=> ?_,fun v _=>(by rw [h0];rfl),fun v hv=>(by omega)⟩
 rw [h0]
 exact⟨fun h=>(by cases h),fun⟨i,hi,_⟩=>(by simp at hi)⟩
end
def Zb (x:L7)(inn:List Bool)(top:Int)(v:Nat):Bool:=gb inn v&&(gi x.prio v==top)
def wV (rest low:List Bool)(who:Int)(v:Nat):Bool:=gb rest v&&(gb low v !=(who==0))
def jv (l:List Bool):Nat→Bool
 |0=>false
 |k+1=>jv l k||gb l k
def KZ (inn:List Bool)(who:Int)(v:Nat):Bool:=gb inn v&&(who==0)
def Ka (again away:List Bool)(who:Int)(v:Nat):Bool:=gb again v||(gb away v&&(who==1))
def xG (n:Nat)(f:Nat→Bool):List Bool:=(List.range n).map f
theorem zG9 (n:Nat)(f:Nat→Bool):(xG n f).length=n:=by simp [xG]
theorem zJK (n:Nat)(f:Nat→Bool):mkB n f n=xG n f:=zIF n f
theorem qn {n:Nat}{f:Nat→Bool}{v:Nat}(h:v<n):gb (xG n f) v=f v:=YR h
theorem YQ (a b:List Bool):(xP a b).length=a.length:=by simp [xP]
theorem Zv {a b:List Bool}{v:Nat}(h:v<a.length):gb (xP a b) v=(gb a v&& !gb b v):=YR h
def yj (l:List Bool):Nat→Nat
 |0=>0
 |k+1=>if gb l k then yj l k+1 else yj l k
theorem ZY (l:List Bool)(k:Nat):yj l (k+1)=if gb l k=true then yj l k+1 else yj l k:=rfl
theorem zCe {a b:List Bool}: ∀k,(∀v,v<k→gb a v=true→gb b v=true)→yj a k≤yj b k
 |0,_=>Nat.le_refl _
 |k+1,h=>by
  have ih:=zCe k fun v hv=>h v (by omega)
  have hk:=h k (by omega)
  rw [ZY,ZY]
  split
  ·rename_i e;rw [if_pos (hk e)];omega
  ·split<;>omega
theorem zCf {a b:List Bool}: ∀k,(∀v,v<k→gb a v=true→gb b v=true)→(∃v,v<k∧gb a v=false∧gb b v=true)→yj a k<yj b k
 |0,_,⟨v,hv,_⟩=>absurd hv (Nat.not_lt_zero _)
 |k+1,h,⟨v,hv,h1,h2⟩=>by
  have hk:=h k (by omega)
  have hle:=zCe k fun v hv=>h v (by omega)
  rw [ZY,ZY]
  by_cases e:v=k
  ·subst e;rw [h1,h2];exact Nat.lt_succ_of_le hle
  ·have ih:=zCf k (fun v hv=>h v (by omega)) ⟨v,by omega,h1,h2⟩
   split
   ·rename_i e;rw [if_pos (hk e)];omega
   ·split<;>omega
theorem wx (l:List Bool): ∀k,yj l k≤k
 |0=>Nat.le_refl _
 |k+1=>by
  have :=wx l k
  rw [ZY]
  split<;>omega
theorem Jw {l:List Bool}: ∀{k:Nat},(jv l k=true↔∃v,v<k∧gb l v=true)
 |0=>⟨fun h=>(by cases h),fun⟨v,h,_⟩=>absurd h (Nat.not_lt_zero _)⟩
 |k+1=>by
  show(jv l k||gb l k)=true↔_
  rw [Bool.or_eq_true,Jw]
  constructor
  ·rintro(⟨v,hv,h⟩|h)
   ·exact⟨v,by omega,h⟩
   ·exact⟨k,by omega,h⟩
  ·rintro⟨v,hv,h⟩
   by_cases e:v=k
   ·subst e;exact .inr h
   ·exact .inl ⟨v,by omega,h⟩
noncomputable def qC (x:L7)(n:Nat):Nat→List Bool→List Bool
 |0,_=>List.replicate n false
 |f+1,inn=>
  if xY x inn n<0 then List.replicate n false else
  if jv (xG n (wV (xP inn (xg x n inn (Int.tmod (xY x inn n) 2) (xG n (Zb x inn (xY x inn n))))) (qC x n f (xP inn (xg x n inn (Int.tmod (xY x inn n) 2) (xG n (Zb x inn (xY x inn n)))))) (Int.tmod (xY x inn n) 2))) n=true then
   xG n (Ka (qC x n f (xP inn (xg x n inn (1 - Int.tmod (xY x inn n) 2) (xG n (wV (xP inn (xg x n inn (Int.tmod (xY x inn n) 2) (xG n (Zb x inn (xY x inn n))))) (qC x n f (xP inn (xg x n inn (Int.tmod (xY x inn n) 2) (xG n (Zb x inn (xY x inn n)))))) (Int.tmod (xY x inn n) 2))))))
    (xg x n inn (1 - Int.tmod (xY x inn n) 2) (xG n (wV (xP inn (xg x n inn (Int.tmod (xY x inn n) 2) (xG n (Zb x inn (xY x inn n))))) (qC x n f (xP inn (xg x n inn (Int.tmod (xY x inn n) 2) (xG n (Zb x inn (xY x inn n)))))) (Int.tmod (xY x inn n) 2)))) (Int.tmod (xY x inn n) 2))
  else xG n (KZ inn (Int.tmod (xY x inn n) 2))
theorem zGM (x:L7)(n f:Nat)(inn:List Bool){top who:Int}{goal rest low lost away:List Bool}(hT:xY x inn n=top)(hW:Int.tmod top 2=who)(hG:xG n (Zb x inn top)=goal)(hR:xP inn (xg x n inn who goal)=rest)(hLo:qC x n f rest=low)(hL:xG n (wV rest low who)=lost)(hA2:xg x n inn (1 - who) lost=away):
  qC x n (f+1) inn=if top<0 then List.replicate n false else if jv lost n=true then xG n (Ka (qC x n f (xP inn away)) away who)else xG n (KZ inn who):=by
 subst hT hW hG hR hLo hL hA2
 rfl
theorem zGH (x:L7)(inn:List Bool)(k:Nat):xY x inn (k+1)=if gb inn k=true then max (xY x inn k) (gi x.prio k)else xY x inn k:=rfl
theorem zDJ {x:L7}{inn:List Bool}: ∀k,∀v,v<k→gb inn v=true→gi x.prio v≤xY x inn k
 |0,v,h,_=>absurd h (Nat.not_lt_zero _)
 |k+1,v,hv,hb=>by
  rw [zGH]
  by_cases e:v=k
  ·subst e;rw [if_pos hb];omega
  ·have :=zDJ (x:=x) k v (by omega) hb
   split<;>omega
theorem zGI {x:L7}{n:Nat}(hx:x.Ok n){inn:List Bool}: ∀k,k≤n→xY x inn k= -1∨∃v,v<k∧gb inn v=true∧gi x.prio v=xY x inn k
 |0,_=> .inl rfl
 |k+1,hk=>by
  have ih:=zGI hx (inn:=inn) k (by omega)
  have hp:=hx.pr k (by omega)
  rw [zGH]
  by_cases e:gb inn k=true
  ·rw [if_pos e]
   rcases Int.le_total (xY x inn k) (gi x.prio k)with h|h
   ·exact .inr ⟨k,by omega,e,by omega⟩
   ·rcases ih with h2|⟨v,hv,h2,h3⟩
    ·exact .inr ⟨k,by omega,e,by omega⟩
    ·exact .inr ⟨v,by omega,h2,by omega⟩
  ·rw [if_neg e]
   rcases ih with h2|⟨v,hv,h2,h3⟩
   ·exact .inl h2
   ·exact .inr ⟨v,by omega,h2,h3⟩
section
variable {x:L7} {n:Nat} {inn:List Bool}
theorem zGf {who:Int}{goal:List Bool}{v:Nat}(hv:v<n)(h:gb (xg x n inn who goal) v=true):gb inn v=true:=((Ym hv).1 h).inD.2
theorem zBf : ∀f inn,inn.length=n→∀v,v<n→gb (qC x n f inn) v=true→gb inn v=true
 |0,inn,_,v,hv,h=>by
  unfold qC at h
  rw [show gb (List.replicate n false) v=false from by unfold gb;rw [List.getD_eq_getElem?_getD,List.getElem?_replicate];split<;>rfl]at h
  cases h
 |f+1,inn,hi,v,hv,h=>by
  rw [zGM x n f inn rfl rfl rfl rfl rfl rfl rfl]at h
  split at h
  ·rw [show gb (List.replicate n false) v=false from by unfold gb;rw [List.getD_eq_getElem?_getD,List.getElem?_replicate];split<;>rfl]at h
   cases h
  ·split at h
   ·rw [qn hv]at h
    unfold Ka at h
    rw [Bool.or_eq_true,Bool.and_eq_true]at h
    rcases h with h|h
    ·have :=zBf f _ (by rw [YQ];exact hi) v hv h
     rw [Zv (by omega),Bool.and_eq_true]at this
     exact this.1
    ·exact zGf hv h.1
   ·rw [qn hv]at h
    unfold KZ at h
    rw [Bool.and_eq_true]at h
    exact h.1
end
theorem Yz {g:PG}{who:Int}{D goal goal':Nat→Prop}(h: ∀v,D v→(goal v↔goal' v))(v:Nat):Att g who D goal v↔Att g who D goal' v:=by
 have hk: ∀k v,qZ g who D goal k v↔qZ g who D goal' k v:=by
  intro k
  induction k with
  |zero=>exact fun v=>⟨fun⟨a,b⟩=>⟨a,(h v a).1 b⟩,fun⟨a,b⟩=>⟨a,(h v a).2 b⟩⟩
  |succ k ih=>
   have e:qZ g who D goal k=qZ g who D goal' k:=funext fun v=>propext (ih v)
   intro v
   show(_∨_)↔(_∨_)
   rw [e]
 exact⟨fun⟨k,a⟩=>⟨k,(hk k v).1 a⟩,fun⟨k,a⟩=>⟨k,(hk k v).2 a⟩⟩
theorem wJ (g:PG)(who:Int)(D U:Nat→Prop)(h: ∀v,¬U v): ∃s,xr g who D U s:=
 ⟨fun _=>0,⟨fun v a=>absurd a (h v),fun v a=>absurd a (h v),fun v u a=>absurd a (h v),fun v t w=>by
  cases w with
  |one a=>exact absurd a.1 (h v)
  |cons a _=>exact absurd a.1 (h v)⟩⟩
theorem jE {n v:Nat}:gb (List.replicate n false) v=false:=by
 unfold gb;rw [List.getD_eq_getElem?_getD,List.getElem?_replicate];split<;>rfl
section
variable {x:L7} {n:Nat}
theorem Qn {inn:List Bool}(hi:inn.length=n){who:Int}{goal:List Bool}(v:Nat):inD n (xP inn (xg x n inn who goal)) v↔inD n inn v∧¬Att (pgL x) who (inD n inn) (fun v=>gb goal v=true) v:=by
 unfold inD
 constructor
 ·rintro⟨h1,h2⟩
  rw [Zv (by omega),Bool.and_eq_true]at h2
  refine⟨⟨h1,h2.1⟩,fun h=> ?_⟩
  rw [(Ym h1).2 h]at h2
  cases h2.2
 ·rintro⟨⟨h1,h2⟩,h3⟩
  refine⟨h1,?_⟩
  rw [Zv (by omega),h2,Bool.eq_false_iff.2 fun e=>h3 ((Ym h1).1 e)]
  rfl
theorem kj {inn:List Bool}(hi:inn.length=n){who:Int}{goal:List Bool}{w:Nat}(hw:w<n)(h1:gb inn w=true)(h2:gb goal w=true):yj (xP inn (xg x n inn who goal)) n<yj inn n:=by
 refine zCf n (fun v hv h=> ?_) ⟨w,hw,?_,h1⟩
 ·rw [Zv (by omega),Bool.and_eq_true]at h;exact h.1
 ·rw [Zv (by omega),(Ym hw).2 (.base ⟨hw,h1⟩ h2),h1];rfl
theorem zIO {t:Int}(h:0≤t):Int.tmod t 2=t%2:=Int.tmod_eq_emod_of_nonneg h
theorem ku (hx:x.Ok n): ∀f inn,inn.length=n→yj inn n<f→ZL (pgL x) (inD n inn)→
  (∃s,xr (pgL x) 0 (inD n inn) (fun v=>inD n inn v∧gb (qC x n f inn) v=true) s)∧∃s,xr (pgL x) 1 (inD n inn) (fun v=>inD n inn v∧gb (qC x n f inn) v=false) s
 |0,inn,_,h,_=>absurd h (Nat.not_lt_zero _)
 |f+1,inn,hi,hc,hl=>by
  have hn: ∀v u,(pgL x).E v u→u<n:=JR hx
  obtain⟨top,hT⟩: ∃t,xY x inn n=t:=⟨_,rfl⟩
  obtain⟨who,hW⟩: ∃t,Int.tmod top 2=t:=⟨_,rfl⟩
  obtain⟨goal,hG⟩: ∃t,xG n (Zb x inn top)=t:=⟨_,rfl⟩
  obtain⟨rest,hR⟩: ∃t,xP inn (xg x n inn who goal)=t:=⟨_,rfl⟩
  obtain⟨low,hLo⟩: ∃t,qC x n f rest=t:=⟨_,rfl⟩
  obtain⟨lost,hL⟩: ∃t,xG n (wV rest low who)=t:=⟨_,rfl⟩
  obtain⟨away,hA⟩: ∃t,xg x n inn (1 - who) lost=t:=⟨_,rfl⟩
  rw [zGM x n f inn hT hW hG hR hLo hL hA]
  have hmax:=fun v hv hb=>zDJ (x:=x) (inn:=inn) n v hv hb
  have hex:=zGI hx (inn:=inn) n (Nat.le_refl _)
  rw [hT]at hmax hex
  by_cases ht:top<0
  ·have hno: ∀v,¬inD n inn v:=fun v hv=>by
    have :=hmax v hv.1 hv.2
    have :=hx.pr v hv.1
    omega
   exact⟨wJ _ _ _ _ fun v h=>hno v h.1,wJ _ _ _ _ fun v h=>hno v h.1⟩
  rw [if_neg ht]
  have hw2:who=0∨who=1:=by rw [zIO (by omega)]at hW;omega
  have hgoal: ∀v,inD n inn v→(gb goal v=true↔(pgL x).pr v=top.toNat):=fun v hv=>by
   rw [←hG,qn hv.1]
   unfold Zb
   rw [hv.2,Bool.true_and,beq_iff_eq]
   have :=hx.pr v hv.1
   show _↔(gi x.prio v).toNat=top.toNat
   omega
  obtain⟨w,hw,hw3,hw4⟩:=hex.resolve_left (by omega)
  have hrl:rest.length=n:=by rw [←hR,YQ];exact hi
  have hRD: ∀v,inD n rest v↔inD n inn v∧¬Att (pgL x) who (inD n inn) (fun v=>gb goal v=true) v:=fun v=>by rw [←hR];exact Qn hi v
  have hlt:yj rest n<f:=by
   have :yj rest n<yj inn n:=by
    rw [←hR]
    refine kj hi hw hw3 ((hgoal w ⟨hw,hw3⟩).2 ?_)
    show(gi x.prio w).toNat=_
    rw [hw4]
   omega
  have hlr:ZL (pgL x) (inD n rest):=by
   have :=Xe (who:=who) (goal:=fun v=>gb goal v=true) hn hl
   rw [show inD n rest=_ from funext fun v=>propext (hRD v)]
   exact this
  have ih:=ku hx f rest hrl hlt hlr
  rw [hLo]at ih
  have hlost: ∀v,v<n→(gb lost v=true↔gb rest v=true∧(gb low v=true↔¬who=0)):=fun v hv=>by
   rw [←hL,qn hv]
   unfold wV
   rw [Bool.and_eq_true]
   rcases hw2 with e|e<;>rw [e]<;>cases gb low v<;>simp
  by_cases ha:jv lost n=true
  ·rw [if_pos ha]
   obtain⟨a,ha1,ha2⟩:=Jw.1 ha
   obtain⟨rest2,hR2⟩: ∃t,xP inn away=t:=⟨_,rfl⟩
   obtain⟨again,hAg⟩: ∃t,qC x n f rest2=t:=⟨_,rfl⟩
   rw [hR2,hAg]
   have hr2l:rest2.length=n:=by rw [←hR2,YQ];exact hi
   have hai:gb inn a=true:=((hRD a).1 ⟨ha1,((hlost a ha1).1 ha2).1⟩).1.2
   have hRD2: ∀v,inD n rest2 v↔inD n inn v∧¬Att (pgL x) (1 - who) (inD n inn) (fun v=>gb lost v=true) v:=fun v=>by rw [←hR2,←hA];exact Qn hi v
   have hlt2:yj rest2 n<f:=by
    have :yj rest2 n<yj inn n:=by rw [←hR2,←hA];exact kj hi ha1 hai ha2
    omega
   have hlr2:ZL (pgL x) (inD n rest2):=by
    have :=Xe (who:=1 - who) (goal:=fun v=>gb lost v=true) hn hl
    rw [show inD n rest2=_ from funext fun v=>propext (hRD2 v)]
    exact this
   have ih2:=ku hx f rest2 hr2l hlt2 hlr2
   have hsub:=fun v hv=>zBf (x:=x) f rest2 hr2l v hv
   rw [hAg]at ih2 hsub
   have haw: ∀v,v<n→(gb away v=true↔Att (pgL x) (1 - who) (inD n inn) (fun v=>gb lost v=true) v):=fun v hv=>by rw [←hA];exact Ym hv
   have hnot: ∀v,v<n→gb away v=true→gb again v=false:=fun v hv h=>Bool.eq_false_iff.2 fun e=>((hRD2 v).1 ⟨hv,hsub v hv e⟩).2 ((haw v hv).1 h)
   have hown:=Vd hx
   rcases hw2 with e|e
   ·subst e
    have hop:((1:Int) - 0)=1:=rfl
    rw [hop]at hRD2 haw
    obtain⟨-,⟨s1,hs1⟩⟩:=ih
    obtain⟨⟨m0,hm0⟩,⟨m1,hm1⟩⟩:=ih2
    have hLs: ∀v,inD n inn v→(gb lost v=true↔inD n rest v∧gb low v=false):=fun v hv=>by
     rw [hlost v hv.1]
     constructor
     ·rintro⟨h1,h2⟩
      exact⟨⟨hv.1,h1⟩,Bool.eq_false_iff.2 fun h3=>h2.1 h3 rfl⟩
     ·rintro⟨h1,h2⟩
      exact⟨h1.2,by rw [h2];simp⟩
    have hatt:=fun v=>Yz (g:=pgL x) (who:=1) hLs v
    obtain⟨s',hs'⟩:=kx (who:=0) (opp:=1) hown (by decide) (yJ hs1 hRD fun v=>Iff.rfl) (yJ hm1 (fun v=>by rw [hRD2 v,hatt v]) fun v=>Iff.rfl)
    have hz:=ky (who:=0) (opp:=1) hown (yJ hm0 hRD2 fun v=>Iff.rfl)
    have hres: ∀v,v<n→gb (xG n (Ka again away 0)) v=gb again v:=fun v hv=>by
     rw [qn hv];unfold Ka;rw [show((0:Int)==1)=false from rfl,Bool.and_false,Bool.or_false]
    refine⟨⟨m0,yJ hz (fun v=>Iff.rfl) fun v=> ?_⟩,⟨s',yJ hs' (fun v=>Iff.rfl) fun v=> ?_⟩⟩
    ·constructor
     ·rintro⟨h1,h2⟩
      exact⟨((hRD2 v).1 h1).1,by rw [hres v h1.1];exact h2⟩
     ·rintro⟨h1,h2⟩
      rw [hres v h1.1]at h2
      exact⟨⟨h1.1,hsub v h1.1 h2⟩,h2⟩
    ·rw [←hatt v]
     constructor
     ·rintro(⟨h1,h2⟩|h)
      ·exact⟨((hRD2 v).1 h1).1,by rw [hres v h1.1];exact h2⟩
      ·have hv:=h.inD
       exact⟨hv,by rw [hres v hv.1];exact hnot v hv.1 ((haw v hv.1).2 h)⟩
     ·rintro⟨h1,h2⟩
      rw [hres v h1.1]at h2
      by_cases h3:Att (pgL x) 1 (inD n inn) (fun v=>gb lost v=true) v
      ·exact .inr h3
      ·exact .inl ⟨(hRD2 v).2 ⟨h1,h3⟩,h2⟩
   ·subst e
    have hop:((1:Int) - 1)=0:=rfl
    rw [hop]at hRD2 haw
    obtain⟨⟨s1,hs1⟩,-⟩:=ih
    obtain⟨⟨m0,hm0⟩,⟨m1,hm1⟩⟩:=ih2
    have hLs: ∀v,inD n inn v→(gb lost v=true↔inD n rest v∧gb low v=true):=fun v hv=>by
     rw [hlost v hv.1]
     constructor
     ·rintro⟨h1,h2⟩
      exact⟨⟨hv.1,h1⟩,h2.2 (by decide)⟩
     ·rintro⟨h1,h2⟩
      exact⟨h1.2,by rw [h2];simp⟩
    have hatt:=fun v=>Yz (g:=pgL x) (who:=0) hLs v
    have hown2: ∀v,(pgL x).own v=1∨(pgL x).own v=0:=fun v=>(hown v).symm
    obtain⟨s',hs'⟩:=kx (who:=1) (opp:=0) hown2 (by decide) (yJ hs1 hRD fun v=>Iff.rfl) (yJ hm0 (fun v=>by rw [hRD2 v,hatt v]) fun v=>Iff.rfl)
    have hz:=ky (who:=1) (opp:=0) hown2 (yJ hm1 hRD2 fun v=>Iff.rfl)
    have hres: ∀v,v<n→gb (xG n (Ka again away 1)) v=(gb again v||gb away v):=fun v hv=>by
     rw [qn hv];unfold Ka;rw [show((1:Int)==1)=true from rfl,Bool.and_true]
    refine⟨⟨s',yJ hs' (fun v=>Iff.rfl) fun v=> ?_⟩,⟨m1,yJ hz (fun v=>Iff.rfl) fun v=> ?_⟩⟩
    ·rw [←hatt v]
     constructor
     ·rintro(⟨h1,h2⟩|h)
      ·exact⟨((hRD2 v).1 h1).1,by rw [hres v h1.1,h2];rfl⟩
      ·have hv:=h.inD
       exact⟨hv,by rw [hres v hv.1,(haw v hv.1).2 h,Bool.or_true]⟩
     ·rintro⟨h1,h2⟩
      rw [hres v h1.1,Bool.or_eq_true]at h2
      rcases h2 with h2|h2
      ·exact .inl ⟨⟨h1.1,hsub v h1.1 h2⟩,h2⟩
      ·exact .inr ((haw v h1.1).1 h2)
    ·constructor
     ·rintro⟨h1,h2⟩
      have h3:=(hRD2 v).1 h1
      refine⟨h3.1,?_⟩
      rw [hres v h1.1,h2,Bool.eq_false_iff.2 fun e=>h3.2 ((haw v h1.1).1 e)]
      rfl
     ·rintro⟨h1,h2⟩
      rw [hres v h1.1,Bool.or_eq_false_iff]at h2
      refine⟨(hRD2 v).2 ⟨h1,fun h=> ?_⟩,h2.1⟩
      have :=(haw v h1.1).2 h
      rw [h2.2]at this
      cases this
  ·rw [if_neg ha]
   have hnl: ∀v,v<n→¬gb lost v=true:=fun v hv h=>ha (Jw.2 ⟨v,hv,h⟩)
   have hall: ∀s,xr (pgL x) who (inD n rest) (inD n rest) s→∃s',xr (pgL x) who (inD n inn) (inD n inn) s':=fun s h=>by
    refine zDR (top:=top.toNat) hn hl (fun v hv=> ?_) ?_ (s:=s) ?_
    ·have :=hmax v hv.1 hv.2
     have :=hx.pr v hv.1
     show(gi x.prio v).toNat≤_
     omega
    ·rw [←hW,zIO (by omega)];omega
    ·refine yJ h (fun v=> ?_) (fun v=> ?_)<;>(rw [hRD,Yz fun v hv=>hgoal v hv])
   rcases hw2 with e|e
   ·subst e
    obtain⟨⟨s,hs⟩,-⟩:=ih
    obtain⟨s',hs'⟩:=hall s (yJ hs (fun v=>Iff.rfl) fun v=>⟨fun h=>h.1,fun h=>⟨h,by have :=hnl v h.1;rw [hlost v h.1]at this;have h5:=h.2;cases hlv:gb low v<;>simp_all⟩⟩)
    refine⟨⟨s',yJ hs' (fun v=>Iff.rfl) fun v=>⟨fun h=>⟨h,by rw [qn h.1];unfold KZ;rw [h.2];rfl⟩,fun h=>h.1⟩⟩,wJ _ _ _ _ fun v h=> ?_⟩
    have h5:=h.2
    rw [qn h.1.1]at h5
    unfold KZ at h5
    rw [h.1.2]at h5
    cases h5
   ·subst e
    obtain⟨-,⟨s,hs⟩⟩:=ih
    obtain⟨s',hs'⟩:=hall s (yJ hs (fun v=>Iff.rfl) fun v=>⟨fun h=>h.1,fun h=>⟨h,by have :=hnl v h.1;rw [hlost v h.1]at this;have h5:=h.2;cases hlv:gb low v<;>simp_all⟩⟩)
    refine⟨wJ _ _ _ _ fun v h=> ?_,⟨s',yJ hs' (fun v=>Iff.rfl) fun v=>⟨fun h=>⟨h,by rw [qn h.1];unfold KZ;rw [h.2];rfl⟩,fun h=>h.1⟩⟩⟩
    have h5:=h.2
    rw [qn h.1.1]at h5
    unfold KZ at h5
    rw [h.1.2]at h5
    cases h5
end
section
variable {x:L7} {n:Nat} {inn goal out:List Bool} {who:Int} {left queue:List Int}
theorem At0.next {k:Nat}(h:At0 x n inn goal k out left queue)(hk:k<n):
  (gb inn k=false→At0 x n inn goal (k+1) out left queue)∧(gb inn k=true→gb goal k=false→At0 x n inn goal (k+1) out (left.set k (Zr x inn k)) queue)∧
  (gb inn k=true→gb goal k=true→At0 x n inn goal (k+1) (out.set k true) (left.set k (Zr x inn k)) (queue++ [(k:Int)])):=by
 have hll:k<left.length:=by rw [h.ll];exact hk
 have hlo:k<out.length:=by rw [h.lo];exact hk
 have hlef:gb inn k=true→∀v,v<k+1→gb inn v=true→gi (left.set k (Zr x inn k)) v=Zr x inn v:=fun _ v hv hb=>by
  rw [vM hll]
  split
  ·rename_i e;rw [e]
  ·exact h.lef v (by omega) hb
 have hq2: ∀i,i<queue.length→0≤gi queue i∧gi queue i<((k+1:Nat):Int):=fun i hi=>by have :=h.qrg i hi;omega
 have hstay:(gb inn k&&gb goal k)=false→∀v,v<n→gb out v=(decide (v<k+1)&&(gb inn v&&gb goal v)):=fun hb v hv=>by
  rw [h.outs v hv]
  by_cases e:v=k
  ·rw [e,hb,Bool.and_false,Bool.and_false]
  ·have :decide (v<k)=decide (v<k+1):=decide_eq_decide.2 (by omega)
   rw [this]
 refine⟨fun h1=>⟨h.lo,h.ll,by have :=h.lq;omega,hq2,h.qnd,h.qout,hstay (by rw [h1];rfl),fun v hv hb=> ?_⟩,fun h1 h2=>⟨h.lo,by rw [List.length_set];exact h.ll,by have :=h.lq;omega,hq2,h.qnd,h.qout,hstay (by rw [h2,Bool.and_false]),hlef h1⟩,fun h1 h2=> ?_⟩
 ·refine h.lef v ?_ hb
  rcases Nat.lt_or_ge v k with h5|h5
  ·exact h5
  ·rw [show v=k by omega,h1]at hb;cases hb
 ·have hql:(queue++ [(k:Int)]).length=queue.length+1:=by simp
  have hqs: ∀j,j<queue.length+1→gi (queue++ [(k:Int)]) j=if j=queue.length then(k:Int)else gi queue j:=fun j hj=>by
   split
   ·rename_i e;rw [e];unfold gi;rw [List.getD_eq_getElem?_getD,List.getElem?_append_right (Nat.le_refl _)];simp
   ·unfold gi;rw [List.getD_eq_getElem?_getD,List.getElem?_append_left (by omega),List.getD_eq_getElem?_getD]
  refine⟨by rw [List.length_set];exact h.lo,by rw [List.length_set];exact h.ll,by rw [hql];have :=h.lq;omega,fun i hi=> ?_,fun i j hij hj=> ?_,fun v hv=> ?_,fun v hv=> ?_,hlef h1⟩
  ·rw [hql]at hi
   rw [hqs i hi]
   split
   ·omega
   ·exact hq2 i (by omega)
  ·rw [hql]at hj
   rw [hqs i (by omega),hqs j hj,if_neg (by omega)]
   split
   ·have :=h.qrg i (by omega);omega
   ·exact h.qnd i j hij (by omega)
  ·rw [xI hlo,hql]
   constructor
   ·intro hb
    split at hb
    ·rename_i e;exact⟨queue.length,by omega,by rw [hqs _ (by omega),if_pos rfl,e]⟩
    ·obtain⟨i,hi,e⟩:=(h.qout v hv).1 hb
     exact⟨i,by omega,by rw [hqs i (by omega),if_neg (by omega)];exact e⟩
   ·rintro⟨i,hi,e⟩
    rw [hqs i hi]at e
    split at e
    ·rw [if_pos (by omega)]
    ·split
     ·rfl
     ·exact(h.qout v hv).2 ⟨i,by omega,e⟩
  ·rw [xI hlo]
   split
   ·rename_i e;rw [e,h1,h2,decide_eq_true (by omega)];rfl
   ·rename_i e
    rw [h.outs v hv]
    have :decide (v<k)=decide (v<k+1):=decide_eq_decide.2 (by omega)
    rw [this]
end
end Go.Proofs.Ytggpbepdeilpgaa
