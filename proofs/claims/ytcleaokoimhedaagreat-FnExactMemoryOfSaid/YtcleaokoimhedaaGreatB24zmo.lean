/- The program's plan is the reference's: plain. -/
import Derived.Test.YtcleaokoimhedaaGreatB20zmo
import Derived.Test.YtcleaokoimhedaaGreatB23zmo
import Derived.Test.YtcleaokoimhedaaGreatB19zmo
namespace Go.Proofs.YtcleaokoimhedaaGreat
open Go.RowKit
set_option linter.unusedVariables false
set_option linter.unusedSimpArgs false
def xC (g:Pa)(p:List Int):Pa:=⟨kn g.a p,g.prio⟩
structure uT (g:Pa)(p:List Int):Prop where
 len:p.length=g.a.owner.length
 has: ∀v,v<g.a.owner.length→0≤gi p v→yI (gl g.a.next v) (gi p v)=true
section
variable {g:Pa} {p:List Int}
theorem Kk (g:Pa)(p:List Int):(xC g p).a.owner.length=g.a.owner.length:=rfl
theorem JF (h:yL g=true){v:Nat}(hv:v<g.a.owner.length):gl (xC g p).a.next v=if 0≤gi p v then [gi p v]else gl g.a.next v:=by
 have hal:=yQ (yJ h).1
 show gl (wM g.a.next p (fun j=>gi p j) g.a.next.length) v=_
 rw [zLM (by omega)]
 rfl
theorem Kl (h:yL g=true)(hp:uT g p):yL (xC g p)=true:=by
 obtain⟨h1,h2,h3⟩:=yJ h
 have hal:=yQ h1
 refine XO (XH ⟨hal.1,hal.2.1,?_⟩ fun v hv=> ?_) h2 fun k hk=>h3 k (by have hk:k<g.prio.length:=hk;omega)
 ·show(wM g.a.next p (fun j=>gi p j) g.a.next.length).length=_
  rw [Zv (Nat.le_refl _)]
  exact hal.2.2
 ·have hv:v<g.a.owner.length:=hv
  have h4:=yl h1 hv
  have h5:=JF (p:=p) h hv
  unfold vb VQ
  rw [Bool.and_eq_true,decide_eq_true_eq]
  by_cases hc:0≤gi p v
  ·rw [if_pos hc]at h5
   rw [h5]
   have h6:=hp.has v hv hc
   rw [xe]at h6
   have h7:=zMA h4.2.2.2.2 h6
   exact⟨⟨h4.1,h4.2.1,Nat.le_refl 1,(by show 1≤16;decide)⟩,zBa (List.pairwise_singleton _ _) fun x hx=>by
    have hx:x=gi p v:=by simpa using hx
    subst hx
    exact h7⟩
  ·rw [if_neg hc]at h5
   rw [h5]
   exact⟨⟨h4.1,h4.2.1,h4.2.2.1,h4.2.2.2.1⟩,h4.2.2.2.2⟩
theorem zFQ (h:yL g=true)(hp:uT g p):pgL (l7G (xC g p) (noP g.a.owner.length))=pgL (l7G g p):=by
 have e:=UY (xC g p)
 rw [Kk]at e
 rw [e]
 unfold qW pgL
 congr 1
 funext v u
 refine propext ⟨?_,?_⟩
 ·rintro⟨h1,j,h2,h3⟩
  have h1:v<g.a.owner.length:=h1
  have h5:=JF (p:=p) h h1
  rw [h5]at h2 h3
  by_cases hc:0≤gi p v
  ·rw [if_pos hc]at h2 h3
   have hj:j=0:=by simp at h2;exact h2
   subst hj
   have h3:(gi p v).toNat=u:=h3
   obtain⟨i,hi,ei⟩:=xt.1 (hp.has v h1 hc)
   exact⟨h1,i,hi,by show(gi (gl g.a.next v) i).toNat=u;rw [ei];exact h3,decide_eq_true (.inr (by show gi p (v:Int).toNat=_;rw [Int.toNat_natCast];exact ei.symm))⟩
  ·rw [if_neg hc]at h2 h3
   exact⟨h1,j,h2,h3,decide_eq_true (.inl (by show gi p (v:Int).toNat<0;rw [Int.toNat_natCast];omega))⟩
 ·rintro⟨h1,j,h2,h3,h4⟩
  have h1:v<g.a.owner.length:=h1
  have h5:=JF (p:=p) h h1
  have h4:decide (gi p (v:Int).toNat<0∨gi p (v:Int).toNat=gi (gl g.a.next v) j)=true:=h4
  rw [decide_eq_true_eq,Int.toNat_natCast]at h4
  by_cases hc:0≤gi p v
  ·rw [if_pos hc]at h5
   refine⟨h1,0,by rw [h5];exact Nat.zero_lt_one,?_⟩
   rw [h5]
   show(gi p v).toNat=u
   rcases h4 with h4|h4
   ·omega
   ·rw [h4];exact h3
  ·rw [if_neg hc]at h5
   exact⟨h1,j,by rw [h5];exact h2,by rw [h5];exact h3⟩
theorem zHb (h:yL g=true)(hp:uT g p){M:List Bool}(hM:M.length=g.a.owner.length)(hl:vX (pgL (l7G g p)) (inD g.a.owner.length M)){who:Int}(hw:who=0∨who=1):
  (yT (wiG (xC g p) M (1 - who)) g.a.owner.length).length=0↔Xu M (yV (l7G g p) M.length (M.length+1) M) who=true:=by
 have hx:=WS h hp.len
 have hx':(l7G (xC g p) (noP g.a.owner.length)).Ok g.a.owner.length:=WS (Kl h hp) (xy g.a.owner.length)
 obtain⟨⟨s,a⟩,⟨t,b⟩⟩:=jr hx hM hl hw
 have hpg:=zFQ h hp
 have key: ∀v,inD g.a.owner.length M v→(wiB (l7G (xC g p) (noP g.a.owner.length)) g.a.owner.length M who v=true↔gb (yV (l7G g p) g.a.owner.length (g.a.owner.length+1) M) v=(who==0)):=fun v hv=>by
  rw [zAh hx' hM (by rw [hpg];exact hl) hw (U:=fun v=>inD g.a.owner.length M v∧gb (yV (l7G g p) g.a.owner.length (g.a.owner.length+1) M) v=(who==0)) (s:=s) (t:=t) (by rw [hpg];exact a) (by
   rw [hpg]
   refine yP b (fun v=>Iff.rfl) fun v=> ?_
   constructor
   ·rintro⟨h1,h2⟩
    refine⟨h1,fun h3=> ?_⟩
    rw [h3.2]at h2
    cases hq:(who==0)<;>rw [hq]at h2<;>cases h2
   ·rintro⟨h1,h2⟩
    refine⟨h1,?_⟩
    cases hq:(who==0)<;>cases hq2:gb (yV (l7G g p) g.a.owner.length (g.a.owner.length+1) M) v<;>first|rfl|exact absurd ⟨h1,by rw [hq2,hq]⟩ h2) hv]
  exact⟨fun h=>h.2,fun h=>⟨hv,h⟩⟩
 have other: ∀v,inD g.a.owner.length M v→(gb (wiG (xC g p) M (1 - who)) v=true↔¬wiB (l7G (xC g p) (noP g.a.owner.length)) g.a.owner.length M who v=true):=fun v hv=>by
  have e:gb (wiG (xC g p) M (1 - who)) v=wiB (l7G (xC g p) (noP g.a.owner.length)) g.a.owner.length M (1 - who) v:=yX hv.1
  rw [e]
  unfold wiB
  rw [hv.2]
  rcases hw with rfl|rfl<;>cases gb (yV (l7G (xC g p) (noP g.a.owner.length)) g.a.owner.length (g.a.owner.length+1) M) v<;>simp
 rw [hM]
 constructor
 ·intro h0
  have h1:=zJE (List.eq_nil_of_length_eq_zero h0)
  refine zBD fun v hv=> ?_
  rw [hM]at hv
  unfold yN
  cases hm:gb M v with
  |false=>rfl
  |true=>
   have h2:=h1 v hv
   have h3:wiB (l7G (xC g p) (noP g.a.owner.length)) g.a.owner.length M who v=true:=Classical.byContradiction fun h4=>by
    rw [(other v ⟨hv,hm⟩).2 h4]at h2;cases h2
   rw [(key v ⟨hv,hm⟩).1 h3]
   simp
 ·intro h0
  rw [KT]
  ·rfl
  ·intro v hv
   cases hb:gb (wiG (xC g p) M (1 - who)) v with
   |false=>rfl
   |true=>
    exfalso
    have hm:gb M v=true:=by
     have e:gb (wiG (xC g p) M (1 - who)) v=wiB (l7G (xC g p) (noP g.a.owner.length)) g.a.owner.length M (1 - who) v:=yX hv
     rw [e]at hb
     unfold wiB at hb
     rw [Bool.and_eq_true]at hb
     exact hb.1
    have h1:=(other v ⟨hv,hm⟩).1 hb
    have h2: ¬gb (yV (l7G g p) g.a.owner.length (g.a.owner.length+1) M) v=(who==0):=fun h3=>h1 ((key v ⟨hv,hm⟩).2 h3)
    have h3:yN M (yV (l7G g p) g.a.owner.length (g.a.owner.length+1) M) who v=true:=by
     unfold yN
     rw [hm,Bool.true_and,bne_iff_ne]
     exact h2
    rw [zDA (by rw [hM];exact hv) h3]at h0
    cases h0
end
section
variable {g:Pa}
theorem Yx {won:List Int}{w:Int}{v:Nat}(hv:v<won.length):gb (yS won w) v=(gi won v==w):=yX hv
theorem WM {c:List Int}{v u:Nat}{x:Int}(hv:v<c.length):gi (c.set v x) u=if u=v then x else gi c u:=by
 unfold gi
 rw [List.getD_eq_getElem?_getD,List.getD_eq_getElem?_getD,List.getElem?_set]
 by_cases e:v=u
 ·subst e;simp [hv]
 ·rw [if_neg e,if_neg (fun h=>e h.symm)]
structure QX (g:Pa)(p:List Int):Prop extends uT g p where
 inn: ∀v,v<g.a.owner.length→0≤gi p v→gi (zj g) v=gi g.a.owner v∧gi (zj g) (gi p v).toNat=gi (zj g) v
theorem zNg (g:Pa):QX g (noP g.a.owner.length):=⟨⟨xy _,fun v hv h=>by rw [Yf _ _ hv]at h;omega⟩,fun v hv h=>by rw [Yf _ _ hv]at h;omega⟩
theorem QX.set (h:yL g=true){p:List Int}(hp:QX g p){v:Nat}(hv:v<g.a.owner.length)(ho:gi (zj g) v=gi g.a.owner v){u:Int}(hu:yI (gl g.a.next v) u=true)(hw:gi (zj g) u.toNat=gi (zj g) v):QX g (p.set v u):=by
 refine⟨⟨by rw [List.length_set];exact hp.len,fun x hx h0=> ?_⟩,fun x hx h0=> ?_⟩
 ·rw [WM (by rw [hp.len];exact hv)]at h0⊢
  split
  ·rename_i e;subst e;exact hu
  ·rename_i e;rw [if_neg e]at h0;exact hp.has x hx h0
 ·rw [WM (by rw [hp.len];exact hv)]at h0⊢
  split
  ·rename_i e;subst e;exact⟨ho,hw⟩
  ·rename_i e;rw [if_neg e]at h0;exact hp.inn x hx h0
theorem zBR (h:yL g=true){p:List Int}(hp:QX g p){w:Int}(hw:w=0∨w=1):vX (pgL (l7G g p)) (inD g.a.owner.length (yS (zj g) w)):=by
 intro v hv
 have hwl:=qL g
 have hv1:=hv.1
 have hv2:gi (zj g) v=w:=by
  have :=hv.2
  rw [Yx (by omega),beq_iff_eq]at this
  exact this
 have inR: ∀u,u<g.a.owner.length→gi (zj g) u=w→inD g.a.owner.length (yS (zj g) w) u:=fun u hu e=>⟨hu,by rw [Yx (by omega),beq_iff_eq];exact e⟩
 have hrow:=yl (yJ h).1 hv1
 have edge: ∀j,j<(gl g.a.next v).length→(gi p v<0∨gi p v=gi (gl g.a.next v) j)→(pgL (l7G g p)).E v (gi (gl g.a.next v) j).toNat:=fun j hj hc=>⟨hv1,j,hj,rfl,decide_eq_true (by show gi p (v:Int).toNat<0∨_;rw [Int.toNat_natCast];exact hc)⟩
 by_cases hc:0≤gi p v
 ·obtain⟨e1,e2⟩:=hp.inn v hv1 hc
  obtain⟨j,hj,ej⟩:=xt.1 (hp.has v hv1 hc)
  have hb:=qf hrow.2.2.2.2 hj
  refine⟨(gi (gl g.a.next v) j).toNat,edge j hj (.inr ej.symm),inR _ (by omega) ?_⟩
  rw [ej,e2];exact hv2
 ·obtain⟨⟨s,a⟩,⟨t,b⟩⟩:=zMV h
  have side: ∃s,xi (qW g) w (fun v=>v<g.a.owner.length) (fun v=>v<g.a.owner.length∧gi (zj g) v=w) s:=by
   rcases hw with rfl|rfl
   ·exact⟨s,yP a (fun v=>Iff.rfl) fun v=>by
     constructor
     ·rintro⟨x1,x2⟩;exact⟨x1,by rw [XC x1,x2];rfl⟩
     ·rintro⟨x1,x2⟩;exact⟨x1,by rw [XC x1]at x2;cases hq:gb (Xl g) v<;>rw [hq]at x2<;>first|rfl|cases x2⟩⟩
   ·exact⟨t,yP b (fun v=>Iff.rfl) fun v=>by
     constructor
     ·rintro⟨x1,x2⟩;exact⟨x1,by rw [XC x1,x2];rfl⟩
     ·rintro⟨x1,x2⟩;exact⟨x1,by rw [XC x1]at x2;cases hq:gb (Xl g) v<;>rw [hq]at x2<;>first|rfl|cases x2⟩⟩
  obtain⟨s,W⟩:=side
  have ho:(qW g).own v=gi g.a.owner v:=if_pos hv1
  by_cases e:gi g.a.owner v=w
  ·obtain⟨⟨-,j,hj,ej⟩,k2⟩:=W.own v ⟨hv1,hv2⟩ (by rw [ho];exact e)
   refine⟨(gi (gl g.a.next v) j).toNat,edge j hj (.inl (by omega)),?_⟩
   rw [ej]
   exact inR _ k2.1 k2.2
  ·have hb:=qf hrow.2.2.2.2 (j:=0) (by omega)
   have k2:=W.opp v (gi (gl g.a.next v) 0).toNat ⟨hv1,hv2⟩ (by rw [ho];exact e) ⟨hv1,0,by omega,rfl⟩ (by omega)
   exact⟨_,edge 0 (by omega) (.inl (by omega)),inR _ k2.1 k2.2⟩
theorem zMR (h:yL g=true){p:List Int}(hp:QX g p){v i:Nat}(hv:v<g.a.owner.length)(hi:i<(gl g.a.next v).length)(ho:gi (zj g) v=gi g.a.owner v){w:Int}(hw:gi (zj g) v=w)(hw2:w=0∨w=1)(hin:gi (zj g) (gi (gl g.a.next v) i).toNat=w):
  (yT (wiG (xC g (p.set v (gi (gl g.a.next v) i))) (yS (zj g) w) (1 - w)) g.a.owner.length).length=0↔qt (l7G g p) (yS (zj g) w) v i=true:=by
 have hwl:=qL g
 have hhas:yI (gl g.a.next v) (gi (gl g.a.next v) i)=true:=xt.2 ⟨i,hi,rfl⟩
 have hp2:=hp.set h hv ho hhas (by rw [hin,hw])
 have h1:=zHb h hp2.touT (M:=yS (zj g) w) (by rw [Qx,hwl]) (zBR h hp2 hw2) hw2
 rw [h1]
 have hb:=qf (yl (yJ h).1 hv).2.2.2.2 hi
 have hgb:gb (yS (zj g) w) (gi (gl g.a.next v) i).toNat=true:=by rw [Yx (by omega),beq_iff_eq];exact hin
 unfold qt
 rw [show gb (yS (zj g) w) (gi (gl (l7G g p).next v) i).toNat=true from hgb,Bool.true_and,show gi (l7G g p).owner v=w from by rw [←hw,ho];rfl]
 exact Iff.rfl
theorem zFl {p:List Int}{v i:Nat}{w:Int}(hg:(gi (gl g.a.next v) i).toNat<g.a.owner.length)(hin: ¬gi (zj g) (gi (gl g.a.next v) i).toNat=w):qt (l7G g p) (yS (zj g) w) v i=false:=by
 refine zIT ?_
 show gb (yS (zj g) w) (gi (gl g.a.next v) i).toNat=false
 rw [Yx (by rw [qL];exact hg)]
 exact beq_eq_false_iff_ne.2 hin
theorem JZ {v i:Nat}(h1: ¬0≤gi (zt g v) v)(h2:gi (zj g) v=gi g.a.owner v){w:Int}(hw:gi (zj g) v=w)(hi:i<(gl g.a.next v).length)(hno: ∀j,j<i→qt (l7G g (zt g v)) (yS (zj g) w) v j=false)(hyes:qt (l7G g (zt g v)) (yS (zj g) w) v i=true):zt g (v+1)=(zt g v).set v (gi (gl g.a.next v) i):=by
 obtain⟨r,hr⟩: ∃r,qB (l7G g (zt g v)) (yS (zj g) w) v ((gl g.a.next v).length - 0) 0=r:=⟨_,rfl⟩
 have hst: ∀j,j≤i→qB (l7G g (zt g v)) (yS (zj g) w) v ((gl g.a.next v).length - j) j=r:=fun j=>by
  induction j with
  |zero=>exact fun _=>hr
  |succ j ih=>exact fun hj=>JY (by omega) (ih (by omega)) (hno j (by omega))
 have h5:=zBQ hi (hst i (Nat.le_refl _)) hyes
 rw [←Xc h1 h2 hw hr,h5]
 show((zt g v).set v _).set v _=_
 rw [List.set_set]
 rfl
theorem zBS {v:Nat}(h1: ¬0≤gi (zt g v) v)(h2:gi (zj g) v=gi g.a.owner v){w:Int}(hw:gi (zj g) v=w)(hno: ∀j,j<(gl g.a.next v).length→qt (l7G g (zt g v)) (yS (zj g) w) v j=false):zt g (v+1)=(zt g v).set v (-1):=by
 obtain⟨r,hr⟩: ∃r,qB (l7G g (zt g v)) (yS (zj g) w) v ((gl g.a.next v).length - 0) 0=r:=⟨_,rfl⟩
 have hst: ∀j,j≤(gl g.a.next v).length→qB (l7G g (zt g v)) (yS (zj g) w) v ((gl g.a.next v).length - j) j=r:=fun j=>by
  induction j with
  |zero=>exact fun _=>hr
  |succ j ih=>exact fun hj=>JY (by omega) (ih (by omega)) (hno j (by omega))
 have h5:=zBP (hst _ (Nat.le_refl _))
 rw [←Xc h1 h2 hw hr,h5]
 exact Ko _ _ _ _ _
theorem zMX (g:Pa){v:Nat}(hv:v<g.a.owner.length):gi (zj g) v=0∨gi (zj g) v=1:=by rw [XC hv];exact zFA _
theorem zDe (g:Pa): ∀v u,v≤u→u<g.a.owner.length→gi (zt g v) u= -1
 |0,u,_,hu=>Yf _ _ hu
 |v+1,u,hvu,hu=>by
  have ih:=zDe g v u (by omega) hu
  have hl:=vk g v
  by_cases h:0≤gi (zt g v) v∨¬gi (zj g) v=gi g.a.owner v
  ·rw [←Qw h];exact ih
  ·obtain⟨r,hr⟩: ∃r,qB (l7G g (zt g v)) (yS (zj g) (gi (zj g) v)) v (gl g.a.next v).length 0=r:=⟨_,rfl⟩
   rw [←Xc (fun h1=>h (.inl h1)) (Classical.not_not.1 fun h1=>h (.inr h1)) rfl hr]
   have hrl:r.2.length=g.a.owner.length:=by rw [←hr,Xb];exact hl
   rw [WM (by omega),if_neg (by omega),←hr,Vu _ _ _ _ (by omega)]
   exact ih
theorem uB (h:yL g=true): ∀v,v≤g.a.owner.length→QX g (zt g v)
 |0,_=>zNg g
 |v+1,hv=>by
  have ih:=uB h v (by omega)
  by_cases hc:0≤gi (zt g v) v∨¬gi (zj g) v=gi g.a.owner v
  ·rw [←Qw hc];exact ih
  ·have h1: ¬0≤gi (zt g v) v:=fun h1=>hc (.inl h1)
   have h2:gi (zj g) v=gi g.a.owner v:=Classical.not_not.1 fun h1=>hc (.inr h1)
   rcases Classical.em (∃i,i<(gl g.a.next v).length∧qt (l7G g (zt g v)) (yS (zj g) (gi (zj g) v)) v i=true)with hex|hno
   ·obtain⟨n,hn1,hn2⟩:=hex
    obtain⟨i,⟨hi1,hi2⟩,hi3⟩:=KX (P:=fun i=>i<(gl g.a.next v).length∧qt (l7G g (zt g v)) (yS (zj g) (gi (zj g) v)) v i=true) n ⟨hn1,hn2⟩
    rw [JZ h1 h2 rfl hi1 (fun j hj=>by
     cases hb:qt (l7G g (zt g v)) (yS (zj g) (gi (zj g) v)) v j with
     |false=>rfl
     |true=>exact absurd ⟨by omega,hb⟩ (hi3 j hj)) hi2]
    have hb:=qf (yl (yJ h).1 (v:=v) (by omega)).2.2.2.2 hi1
    refine ih.set h (by omega) h2 (xt.2 ⟨i,hi1,rfl⟩) ?_
    refine Classical.byContradiction fun h9=> ?_
    rw [zFl (by omega) h9]at hi2
    cases hi2
   ·rw [zBS h1 h2 rfl fun j hj=>by
     cases hb:qt (l7G g (zt g v)) (yS (zj g) (gi (zj g) v)) v j with
     |false=>rfl
     |true=>exact absurd ⟨j,hj,hb⟩ hno]
    have hlv:v<(zt g v).length:=by rw [ih.len];omega
    refine⟨⟨by rw [List.length_set];exact ih.len,fun x hx h0=> ?_⟩,fun x hx h0=> ?_⟩
    ·rw [WM hlv]at h0⊢
     split
     ·rename_i e;rw [if_pos e]at h0;omega
     ·rename_i e;rw [if_neg e]at h0;exact ih.has x hx h0
    ·rw [WM hlv]at h0⊢
     split
     ·rename_i e;rw [if_pos e]at h0;omega
     ·rename_i e;rw [if_neg e]at h0;exact ih.inn x hx h0
end
open Nat renaming reduceMod → zA, reduceMul → zB, reduceDiv → zC, reduceAdd → zD, reduceSub → zE, reduceEqDiff → zF, reduceBEq → zG, reduceLT → zH, reduceLeDiff → zI
theorem zJk {g:Pa}(hg:g.Ln 1048576)(h:yL g=true){p:List Int}:(xC g p).Ln 1048576:=by
 have hal:=yQ (yJ h).1
 refine⟨⟨hg.a.owner,?_⟩,hg.prio⟩
 have hl:(xC g p).a.next.length=g.a.next.length:=Zv (Nat.le_refl _)
 refine⟨by rw [hl];exact hg.a.next.1,fun r hr=> ?_⟩
 obtain⟨v,hv,rfl⟩:=List.mem_iff_getElem.1 hr
 rw [hl]at hv
 have h5:=JF (p:=p) h (v:=v) (by omega)
 rw [WN (by omega)]at h5
 rw [h5]
 split
 ·exact(by decide:1≤1048576)
 ·exact Xs hg.a.next v
theorem zJb {l:List Bool}{n k:Nat}(hl:l.length=n)(hk:k=n):mkS n (yT l k) (yT l k).length=l:=by
 subst hk
 refine wa (by rw [vd];exact hl.symm) fun v hv=> ?_
 rw [vd]at hv
 rw [UM hv,List.take_length,Bool.eq_iff_iff,xe,vv]
 constructor
 ·rintro⟨x,h1,h2,h3⟩
  have :v=x:=by omega
  subst this;exact h2
 ·intro h;exact⟨v,hv,h,rfl⟩
set_option maxRecDepth 20000 in
set_option maxHeartbeats 4000000 in
theorem XD (won pl:List Int)(hl:won.length≤256)(hpl:pl.length≤1048576)(w:Int):Fn Tryz.prog tyT 87 [.agg [DI won,DI pl], .c (.int .i64 w)] [.c (DI (yT (yS won w) won.length))]:=by
 refine θH (ts:= [4]) Tryz.func87 Tryz.ntmps87 ?_
 push_cast
 refine θA ?_
 refine zL fun K1 hK1=> ?_
 refine θA ?_
 refine zT rfl (fun hc=> ?_) (fun hc=> ?_)
 skip
 ·exfalso;first|(cases hc;done)|(simp only [push_cast]at hc;done)|(simp only [push_cast]at hc;omega)|omega
 refine zU (hK1 _ ?_)
 refine θA ?_
 refine zL fun K2 hK2=> ?_
 refine θA ?_
 refine zV ?_
 refine zg [5,6,7,16,17,18,19,20,21,22,23,24,25,26,27,28] [80] (fun(k:Nat)=> [(16, .int .i64 k),(5, .sl 80 [] 0 (yT (yS won w) k).length 2)]) (fun k=> []) (fun k=> [(80,⟨.ex,2,dI (yT (yS won w) k),none⟩)]) (fun k=>k≤won.length) (fun k=>won.length - k) 0 ?_ (by omega) ?_
 ·
  rw [show yT (yS won w) 0= []from rfl,show dI []= []from rfl]
  exact θX
 ·rintro k hk KL0 hL0
  have hil:=xp (yS won w) k
  push_cast
  refine θA ?_
  refine zL fun K3 hK3=> ?_
  refine θU (fun hc=> ?_) fun hc=> ?_
  ·
   refine zU (hK3 _ ?_)
   refine zL fun K4 hK4=> ?_
   refine zV ?_
   refine θA ?_
   refine θA ?_
   refine θU (fun hc=> ?_) fun hc=> ?_
   ·
    refine θB ?_
    refine hK4 _ ?_
    refine θB ?_
    refine hL0 _ ⟨k+1,by omega,by omega,?_⟩
    rw [Ql (show gb (yS won w) k=true by rw [Yx (by omega),beq_iff_eq];first|exact hc|(simpa using hc))]
    refine zY rfl ?_ ?_ ?_<;>push_cast [zb,za]
    all_goals first|(rw [List.length_append];rfl)|exact rfl|skip
   ·
    refine zU (hK4 _ ?_)
    refine θB ?_
    refine hL0 _ ⟨k+1,by omega,by omega,?_⟩
    rw [QK (show gb (yS won w) k=false by rw [Yx (by omega),beq_eq_false_iff_ne];first|exact hc|(simpa using hc))]
    exact θX
    all_goals first|(rw [List.length_append];rfl)|exact rfl|skip
  ·
   refine zh ?_
   have hkk:k=won.length:=by omega
   subst hkk
   refine hK2 _ ?_
   refine θA ?_
   refine zZ ⟨Or.inl rfl,?_⟩
   push_cast [zd]
set_option maxRecDepth 20000 in
set_option maxHeartbeats 4000000 in
theorem zHy (g:Pa)(hg:g.Ln 1048576)(hnl:g.a.next.length=g.a.owner.length)(p:List Int)(hp:p.length=g.a.owner.length):Fn Tryz.prog tyT 88 [.agg (dPa g), .c (DI p)] [.agg (dPa (xC g p))]:=by
 have h1:=hg.a.owner
 have h2:=hg.a.next.1
 have h3:=hg.prio
 unfold LnI at h1 h3
 have hF:=zGF g.a hg.a hnl p hp
 have hfl:(kn g.a p).next.length=g.a.next.length:=Zv (Nat.le_refl _)
 have hfo:(kn g.a p).owner.length=g.a.owner.length:=rfl
 have hoG:xC g p=⟨kn g.a p,g.prio⟩:=rfl
 rw [hoG]
 generalize kn g.a p=fx at*
 unfold dAr at hF
 unfold dPa
 refine qm (fn:=Tryz.f88) (rs:= [.cell 4 50]) zO zN Tryz.func88 (by kernel_rfl) rfl rfl (by rw [Tryz.ntmps88];exact Nat.le_of_ble_eq_true rfl) rfl (by simp only [szA,List.mem_cons,List.not_mem_nil,or_false,forall_eq_or_imp,forall_eq,VT.cells,szL];try decide) ?_
 rw [Tryz.ntmps88]
 push_cast
 refine θA ?_
 refine zL fun K hK=> ?_
 refine zx false zO zN ya ?_ rfl ?_
 ·kernel_rfl
 intro E hE
 all_goals refine yb 4 (by decide) fun K9 hK9=> ?_
 all_goals push_cast
 all_goals repeat'(first|(apply zP<;>(intro hg;push_cast at hg))|(refine⟨_,hF,?_⟩;push_cast)|apply And.intro|(intro hg;push_cast at hg))
 all_goals try exact gA
 refine hK9 _ _ ?_;clear hK9 K9
 all_goals push_cast
 all_goals repeat'(first|(apply zP<;>(intro hg;push_cast at hg))|(refine⟨_,hF,?_⟩;push_cast)|apply And.intro|(intro hg;push_cast at hg))
 all_goals first|exact gA|(refine hE _ _ ?_ ?_;kernel_rfl)|skip
 all_goals clear hE E
 refine hK _ ?_;clear hK K
 refine zZ ⟨Or.inl rfl,?_⟩
 push_cast [zd,zo,yA]
 all_goals first|rfl|decide|(simp;done)
set_option maxRecDepth 20000 in
set_option maxHeartbeats 8000000 in
theorem zEd (g:Pa)(hgl9:g.Ln 1048576)(hok:yL g=true):Fn Tryz.prog tyT 67 [.agg (dPa g), .c (DI (noP g.a.owner.length)), .c (DI (zj g))] [.agg [DI (zj g),DI (vK g)]]:=by
 have h1:=hgl9.a.owner
 have h2:=hgl9.a.next.1
 have h3:=hgl9.prio
 have hrw: ∀v,(gl g.a.next v).length≤1048576:=fun v=>Xs hgl9.a.next v
 unfold LnI at h1 h3
 obtain⟨hao,hpl,hpr⟩:=yJ hok
 have hal:=yQ hao
 have hnl:=xy g.a.owner.length
 have hWl:=qL g
 have hKl:=vk g
 have hGl:=VR g
 have hPG:vK g=zt g g.a.owner.length:=rfl
 unfold dPa
 refine qm (fn:=Tryz.f67) (rs:= [.cell 6 55]) zO zN Tryz.func67 (by kernel_rfl) rfl rfl (by rw [Tryz.ntmps67];exact Nat.le_of_ble_eq_true rfl) rfl (by simp only [szA,List.mem_cons,List.not_mem_nil,or_false,forall_eq_or_imp,forall_eq,VT.cells,szL];try decide) ?_
 rw [Tryz.ntmps67]
 push_cast
 refine θA ?_
 refine θA ?_
 refine zL fun K1 hK1=> ?_
 refine θA ?_
 refine zV ?_
 refine zg [8,9,11,12,13,19,20,21,22,23,24,25,26,27,28,29,30,31,32,33,34,35,36,37,38,39,40,41,42,43,44,45,46,47,48,49,50,51,52,53,54,55,56,57,58,59,60,61,62,63,64,65,66,67,68,69,70,71,72,73,74,75,76,77,78,79,80,81,82,83,84,85,86,87,88,89,90,91,92,93,94,95,96,97,98,99,100,101,102,103,104,105] [112] (fun(v:Nat)=> [(19, .int .i64 v),(7, .sl 112 [] 0 g.a.owner.length 2)]) (fun v=> []) (fun v=> [(112,⟨.ex,2,dI (zt g v),none⟩)]) (fun v=>v≤g.a.owner.length) (fun v=>g.a.owner.length - v) 0 ?_ (by omega) ?_
 ·
  rw [zFU]
  refine zY rfl ?_ ?_ ?_<;>push_cast [zb,za]
  all_goals first|rfl|(simp only [hnl];done)|skip
 ·rintro v hv KL0 hL0
  push_cast
  refine θA ?_
  refine zL fun K2 hK2=> ?_
  refine θU (fun hc=> ?_) fun hc=> ?_
  ·
   refine zU (hK2 _ ?_)
   refine zL fun K3 hK3=> ?_
   refine zV ?_
   have hrow:=yl hao (v:=v) (by omega)
   have hw01:=zMX g (v:=v) (by omega)
   have hpm:=zDe g v v (Nat.le_refl _) (by omega)
   have hlv:=hKl v
   have hself:(zt g v).set v (-1)=zt g v:=by have h9:=zJB (c:=zt g v) (v:=v) (by omega);rw [hpm]at h9;exact h9
   refine θA ?_
   refine zL fun K4 hK4=> ?_
   rcases(show(¬gi g.a.owner v=gi (zj g) v)∨gi g.a.owner v=gi (zj g) v from by omega)with how|how
   ·
    refine zL fun K hK=> ?_
    refine zx false zO zN ya ?_ rfl ?_
    ·kernel_rfl
    intro E hE
    all_goals push_cast
    all_goals repeat'(first|(apply zP<;>(intro hg;push_cast at hg))|apply And.intro|(intro hg;push_cast at hg))
    all_goals first|exact gA|(refine hE _ _ ?_ ?_;kernel_rfl)|skip
    all_goals clear hE E
    refine hK _ ?_;clear hK K
    all_goals(
      refine zT rfl (fun hc=> ?_) (fun hc=> ?_)
      rotate_left
      ·exfalso;first|(cases hc;done)|(simp only [push_cast]at hc;done)|(simp only [push_cast]at hc;omega)|omega
      refine zh (hK3 _ ?_)
      refine θB ?_
      refine hL0 _ ⟨v+1,by omega,by omega,?_⟩
      rw [←Qw (.inr (fun e9=>how e9.symm))]
      refine zY rfl ?_ ?_ ?_<;>push_cast [zb,za]
      all_goals first|rfl|(simp only [hnl];done)|(simp only [List.length_set];done)|(simp only [List.length_set,hlv];done)|skip)
   ·
    refine zL fun K hK=> ?_
    refine zx false zO zN ya ?_ rfl ?_
    ·kernel_rfl
    intro E hE
    all_goals push_cast
    all_goals repeat'(first|(apply zP<;>(intro hg;push_cast at hg))|apply And.intro|(intro hg;push_cast at hg))
    all_goals first|exact gA|(refine hE _ _ ?_ ?_;kernel_rfl)|skip
    all_goals clear hE E
    refine hK _ ?_;clear hK K
    all_goals(
      refine zT rfl (fun hc=> ?_) (fun hc=> ?_)
      skip
      ·exfalso;first|(cases hc;done)|(simp only [push_cast]at hc;done)|(simp only [push_cast]at hc;omega)|omega
      refine zU (hK4 _ ?_)
      have hown:gi (zj g) v=gi g.a.owner v:=how.symm
      have hRg:=XD (zj g) [] (by omega) (Nat.zero_le _) (gi (zj g) v)
      rw [show DI []=D.lst 2 []from rfl]at hRg
      have hxl:=xp (yS (zj g) (gi (zj g) v)) (zj g).length
      refine θL fun K hK=> ?_
      refine θD 7 ?_
      refine θE hK ?_
      refine θA ?_
      refine zV ?_
      refine zg [11,12,13,33,54,55,56,57,58,59,60,61,62,63,64,65,66,67,68,69,70,71,72,73,74,75,76,77,78,79,80,81,82,83,84,85,86,87,88,89,90,91,92,93,94,95,96,97,98,99,100,101,102,103,104] [112] (fun(i:Nat)=> [(54, .int .i64 i),(7, .sl 112 [] 0 g.a.owner.length 2)]) (fun i=> []) (fun i=> [(112,⟨.ex,2,dI (zt g v),none⟩)]) (fun i=>i≤(gl g.a.next v).length∧∀j,j<i→qt (l7G g (zt g v)) (yS (zj g) (gi (zj g) v)) v j=false) (fun i=>(gl g.a.next v).length - i) 0 ?_ ⟨by omega,fun j hj=>absurd hj (Nat.not_lt_zero j)⟩ ?_
      ·
       refine zY rfl ?_ ?_ ?_<;>push_cast [zb,za]
       all_goals first|rfl|(simp only [hnl];done)|skip
      ·rintro i ⟨hi,hall⟩ KL1 hL1
       push_cast
       refine θA ?_
       refine zL fun K5 hK5=> ?_
       refine θU (fun hc=> ?_) fun hc=> ?_
       ·
        refine zU (hK5 _ ?_)
        refine zL fun K6 hK6=> ?_
        refine zV ?_
        have hub:=qf hrow.2.2.2.2 (j:=i) (by omega)
        refine θA ?_
        refine zL fun K7 hK7=> ?_
        rcases(show(¬gi (zj g) (gi (gl g.a.next v) i).toNat=gi (zj g) v)∨gi (zj g) (gi (gl g.a.next v) i).toNat=gi (zj g) v from by omega)with hwu|hwu
        ·
         refine zL fun K hK=> ?_
         refine xY false zO zN ya ?_ rfl ?_
         ·kernel_rfl
         intro C hC
         push_cast
         repeat' apply And.intro
         all_goals first|omega|with_reducible assumption|(refine hC _ ?_;kernel_rfl)|(simp only [List.length_set,List.length_append,List.length_replicate,List.length_cons,List.length_nil];omega)|skip
         all_goals first|(refine hK _ ?_;clear hC C hK K)|(simp only [push_cast];done)
         all_goals(
           refine zT rfl (fun hc=> ?_) (fun hc=> ?_)
           rotate_left
           ·exfalso;first|(cases hc;done)|(simp only [push_cast]at hc;done)|(simp only [push_cast]at hc;omega)|omega
           refine zh (hK6 _ ?_)
           refine θB ?_
           refine hL1 _ ⟨i+1,⟨by omega,fun j hj=>by
            rcases Nat.lt_or_ge j i with h9|h9
            ·exact hall j h9
            ·have :j=i:=by omega
             subst this;exact zFl (by omega) hwu⟩,by omega,?_⟩
           refine zY rfl ?_ ?_ ?_<;>push_cast [zb,za]
           all_goals first|rfl|(simp only [hnl];done)|(simp only [List.length_set];done)|(simp only [List.length_set,hlv];done)|skip)
        ·
         refine zL fun K hK=> ?_
         refine xY false zO zN ya ?_ rfl ?_
         ·kernel_rfl
         intro C hC
         push_cast
         repeat' apply And.intro
         all_goals first|omega|with_reducible assumption|(refine hC _ ?_;kernel_rfl)|(simp only [List.length_set,List.length_append,List.length_replicate,List.length_cons,List.length_nil];omega)|skip
         all_goals first|(refine hK _ ?_;clear hC C hK K)|(simp only [push_cast];done)
         all_goals(
           refine zT rfl (fun hc=> ?_) (fun hc=> ?_)
           skip
           ·exfalso;first|(cases hc;done)|(simp only [push_cast]at hc;done)|(simp only [push_cast]at hc;omega)|omega
           refine zU (hK7 _ ?_)
           refine θA ?_
           have hin:gi (zj g) (gi (gl g.a.next v) i).toNat=gi (zj g) v:=hwu
           have hhas:yI (gl g.a.next v) (gi (gl g.a.next v) i)=true:=xt.2 ⟨i,by omega,rfl⟩
           have hpi:=(uB hok v (by omega)).set hok (by omega) hown hhas hin
           have hpl2:=hpi.len
           have hOB:=zHy g hgl9 (by omega) ((zt g v).set v (gi (gl g.a.next v) i)) hpl2
           have hgp:=Kl hok hpi.touT
           have hgL:(xC g ((zt g v).set v (gi (gl g.a.next v) i))).Ln 1048576:=zJk hgl9 hok
           have hlive:=zBR hok hpi hw01
           rw [←zFQ hok hpi.touT]at hlive
           have hne9: ∃x,x<g.a.owner.length∧gb (yS (zj g) (gi (zj g) v)) x=true:=⟨v,by omega,by rw [Yx (by omega),beq_iff_eq]⟩
           have hWI:=zD9 (xC g ((zt g v).set v (gi (gl g.a.next v) i))) hgL hgp (yT (yS (zj g) (gi (zj g) v)) (zj g).length) (by omega) (fun j hj=>by have :=Yu hj;rw [Kk];exact⟨this.1,by omega⟩) (yS (zj g) (gi (zj g) v)) (zJb (by rw [Qx];exact hWl) hWl) hlive hne9
           have hti:=zMR hok (uB hok v (by omega)) (v:=v) (i:=i) (by omega) (by omega) hown rfl hw01 hin
           rw [Kk]at hWI
           have ht0:gi (zj g) v=0→((yT (wiG (xC g ((zt g v).set v (gi (gl g.a.next v) i))) (yS (zj g) (gi (zj g) v)) 1) g.a.owner.length).length=0↔qt (l7G g (zt g v)) (yS (zj g) (gi (zj g) v)) v i=true):=fun e=>by have h9:=hti;rw [show(1:Int) - gi (zj g) v=1 by omega]at h9;exact h9
           have ht1:gi (zj g) v=1→((yT (wiG (xC g ((zt g v).set v (gi (gl g.a.next v) i))) (yS (zj g) (gi (zj g) v)) 0) g.a.owner.length).length=0↔qt (l7G g (zt g v)) (yS (zj g) (gi (zj g) v)) v i=true):=fun e=>by have h9:=hti;rw [show(1:Int) - gi (zj g) v=0 by omega]at h9;exact h9
           clear hti
           have hol0:=xp (wiG (xC g ((zt g v).set v (gi (gl g.a.next v) i))) (yS (zj g) (gi (zj g) v)) 0) g.a.owner.length
           have hol1:=xp (wiG (xC g ((zt g v).set v (gi (gl g.a.next v) i))) (yS (zj g) (gi (zj g) v)) 1) g.a.owner.length
           have hoGo:(xC g ((zt g v).set v (gi (gl g.a.next v) i))).a.owner.length=g.a.owner.length:=rfl
           have hoGp:(xC g ((zt g v).set v (gi (gl g.a.next v) i))).prio=g.prio:=rfl
           have hoGn:=(yQ (yJ hgp).1).2.2
           rw [hoGo]at hoGn
           generalize yT (wiG (xC g ((zt g v).set v (gi (gl g.a.next v) i))) (yS (zj g) (gi (zj g) v)) 0) g.a.owner.length=EV at*
           generalize yT (wiG (xC g ((zt g v).set v (gi (gl g.a.next v) i))) (yS (zj g) (gi (zj g) v)) 1) g.a.owner.length=OD at*
           generalize xC g ((zt g v).set v (gi (gl g.a.next v) i))=G9 at*
           have htk:List.take g.a.owner.length ((zt g v).set v (gi (gl g.a.next v) i))=((zt g v).set v (gi (gl g.a.next v) i)):=List.take_of_length_le (by rw [List.length_set];omega)
           rw [←htk]at hOB
           unfold dPa at hOB hWI
           refine θL fun K hK=> ?_
           refine θD 3 ?_
           refine θD 2 ?_
           refine θE hK ?_
           refine zL fun K8 hK8=> ?_
           rcases(show(gi (zj g) v=0∧qt (l7G g (zt g v)) (yS (zj g) (gi (zj g) v)) v i=true∧OD.length=0)∨(gi (zj g) v=0∧qt (l7G g (zt g v)) (yS (zj g) (gi (zj g) v)) v i=false∧¬OD.length=0)∨(gi (zj g) v=1∧qt (l7G g (zt g v)) (yS (zj g) (gi (zj g) v)) v i=true∧EV.length=0)∨(gi (zj g) v=1∧qt (l7G g (zt g v)) (yS (zj g) (gi (zj g) v)) v i=false∧¬EV.length=0)from by
            rcases hw01 with e|e
            ·have h9:=ht0 e
             cases hb:qt (l7G g (zt g v)) (yS (zj g) (gi (zj g) v)) v i with
             |true=>exact .inl ⟨e,rfl,h9.2 hb⟩
             |false=>exact .inr (.inl ⟨e,rfl,fun h8=>by rw [h9.1 h8]at hb;cases hb⟩)
            ·have h9:=ht1 e
             cases hb:qt (l7G g (zt g v)) (yS (zj g) (gi (zj g) v)) v i with
             |true=>exact .inr (.inr (.inl ⟨e,rfl,h9.2 hb⟩))
             |false=>exact .inr (.inr (.inr ⟨e,rfl,fun h8=>by rw [h9.1 h8]at hb;cases hb⟩)))with⟨hwv,htb,hle⟩|⟨hwv,htb,hle⟩|⟨hwv,htb,hle⟩|⟨hwv,htb,hle⟩
           ·
            refine zL fun K hK=> ?_
            refine zf false zO zN ?_ rfl ?_
            ·kernel_rfl
            all_goals push_cast
            all_goals repeat'(first|(apply zP<;>(intro hg;push_cast at hg))|apply And.intro|(intro hg;push_cast at hg))
            all_goals try exact gA
            refine hK _ ?_;clear hK K
            all_goals(
              refine zT rfl (fun hc=> ?_) (fun hc=> ?_)
              rotate_left
              ·exfalso;first|(cases hc;done)|(simp only [push_cast]at hc;done)|(simp only [push_cast]at hc;omega)|omega
              refine zh (hK3 _ ?_)
              have hown:gi (zj g) v=gi g.a.owner v:=how.symm
              have hRg:=XD (zj g) [] (by omega) (Nat.zero_le _) (gi (zj g) v)
              rw [show DI []=D.lst 2 []from rfl]at hRg
              have hxl:=xp (yS (zj g) (gi (zj g) v)) (zj g).length
              refine θB ?_
              refine hL0 _ ⟨v+1,by omega,by omega,?_⟩
              rw [JZ (by omega) hown rfl (by omega) hall htb]
              refine zY rfl ?_ ?_ ?_<;>push_cast [zb,za]
              all_goals first|rfl|(simp only [hnl];done)|(simp only [List.length_set];done)|(simp only [List.length_set,hlv];done)|skip)
           ·
            refine zL fun K hK=> ?_
            refine zf false zO zN ?_ rfl ?_
            ·kernel_rfl
            all_goals push_cast
            all_goals repeat'(first|(apply zP<;>(intro hg;push_cast at hg))|apply And.intro|(intro hg;push_cast at hg))
            all_goals try exact gA
            refine hK _ ?_;clear hK K
            all_goals(
              refine zT rfl (fun hc=> ?_) (fun hc=> ?_)
              skip
              ·exfalso;first|(cases hc;done)|(simp only [push_cast]at hc;done)|(simp only [push_cast]at hc;omega)|omega
              refine zU (hK8 _ ?_)
              refine θB ?_
              refine hK6 _ ?_
              refine θB ?_
              refine hL1 _ ⟨i+1,⟨by omega,fun j hj=>by
               rcases Nat.lt_or_ge j i with h9|h9
               ·exact hall j h9
               ·have :j=i:=by omega
                subst this;exact htb⟩,by omega,?_⟩
              rw [List.set_set,hself]
              refine zY rfl ?_ ?_ ?_<;>push_cast [zb,za]
              all_goals first|rfl|(simp only [hnl];done)|(simp only [List.length_set];done)|(simp only [List.length_set,hlv];done)|skip)
           ·
            refine zL fun K hK=> ?_
            refine zf false zO zN ?_ rfl ?_
            ·kernel_rfl
            all_goals push_cast
            all_goals repeat'(first|(apply zP<;>(intro hg;push_cast at hg))|apply And.intro|(intro hg;push_cast at hg))
            all_goals try exact gA
            refine hK _ ?_;clear hK K
            all_goals(
              refine zT rfl (fun hc=> ?_) (fun hc=> ?_)
              rotate_left
              ·exfalso;first|(cases hc;done)|(simp only [push_cast]at hc;done)|(simp only [push_cast]at hc;omega)|omega
              refine zh (hK3 _ ?_)
              have hown:gi (zj g) v=gi g.a.owner v:=how.symm
              have hRg:=XD (zj g) [] (by omega) (Nat.zero_le _) (gi (zj g) v)
              rw [show DI []=D.lst 2 []from rfl]at hRg
              have hxl:=xp (yS (zj g) (gi (zj g) v)) (zj g).length
              refine θB ?_
              refine hL0 _ ⟨v+1,by omega,by omega,?_⟩
              rw [JZ (by omega) hown rfl (by omega) hall htb]
              refine zY rfl ?_ ?_ ?_<;>push_cast [zb,za]
              all_goals first|rfl|(simp only [hnl];done)|(simp only [List.length_set];done)|(simp only [List.length_set,hlv];done)|skip)
           ·
            refine zL fun K hK=> ?_
            refine zf false zO zN ?_ rfl ?_
            ·kernel_rfl
            all_goals push_cast
            all_goals repeat'(first|(apply zP<;>(intro hg;push_cast at hg))|apply And.intro|(intro hg;push_cast at hg))
            all_goals try exact gA
            refine hK _ ?_;clear hK K
            all_goals(
              refine zT rfl (fun hc=> ?_) (fun hc=> ?_)
              skip
              ·exfalso;first|(cases hc;done)|(simp only [push_cast]at hc;done)|(simp only [push_cast]at hc;omega)|omega
              refine zU (hK8 _ ?_)
              refine θB ?_
              refine hK6 _ ?_
              refine θB ?_
              refine hL1 _ ⟨i+1,⟨by omega,fun j hj=>by
               rcases Nat.lt_or_ge j i with h9|h9
               ·exact hall j h9
               ·have :j=i:=by omega
                subst this;exact htb⟩,by omega,?_⟩
              rw [List.set_set,hself]
              refine zY rfl ?_ ?_ ?_<;>push_cast [zb,za]
              all_goals first|rfl|(simp only [hnl];done)|(simp only [List.length_set];done)|(simp only [List.length_set,hlv];done)|skip))
       ·
        refine zh (hK3 _ ?_)
        have hown:gi (zj g) v=gi g.a.owner v:=how.symm
        have hRg:=XD (zj g) [] (by omega) (Nat.zero_le _) (gi (zj g) v)
        rw [show DI []=D.lst 2 []from rfl]at hRg
        have hxl:=xp (yS (zj g) (gi (zj g) v)) (zj g).length
        refine θB ?_
        refine hL0 _ ⟨v+1,by omega,by omega,?_⟩
        rw [zBS (by omega) hown rfl (fun j hj=>hall j (by omega)),hself]
        refine zY rfl ?_ ?_ ?_<;>push_cast [zb,za]
        all_goals first|rfl|(simp only [hnl];done)|(simp only [List.length_set];done)|(simp only [List.length_set,hlv];done)|skip)
  ·
   refine zh ?_
   have hvv:v=g.a.owner.length:=by omega
   subst hvv
   refine hK1 _ ?_
   rw [←hPG]
   refine θA ?_
   refine zZ ⟨Or.inl rfl,?_⟩
   push_cast [zd,zo,yA]
   all_goals first|rfl|exact⟨rfl,rfl⟩|exact hGl.symm|exact⟨rfl,hGl.symm⟩|skip
end Go.Proofs.YtcleaokoimhedaaGreat
