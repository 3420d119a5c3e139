/- FnFamily, plain: the game of pairs, the game of their family and the turned game of the other family have the same winner. -/
import Derived.Test.YthepmdkpbjfdcaaGreatB14zff
import Derived.Test.YthepmdkpbjfdcaaGreatB15zff
import Derived.Test.YthepmdkpbjfdcaaGreatB16zff
import Derived.Test.YthepmdkpbjfdcaaGreatB17zff
import Derived.Test.YthepmdkpbjfdcaaGreatB24zff
import Derived.Test.YthepmdkpbjfdcaaGreatB7zff
import Derived.Test.YthepmdkpbjfdcaaGreatVazff
namespace Go.Proofs.YthepmdkpbjfdcaaGreat
open Go.RowKit
set_option linter.unusedVariables false
set_option linter.unusedSimpArgs false
theorem zEU {g:Pa}(h:qI g=true){w:Int}(h0:0<g.a.owner.length)(e:gi (wB g) 0=w): ∃U s,xt (qm g) w (fun v=>v<g.a.owner.length) U s∧U 0:=by
 obtain⟨⟨s,a⟩,⟨t,b⟩⟩:=zMc h
 rw [zAo h0]at e
 cases hb:gb (Xp g) 0 with
 |true=>
  rw [hb]at e
  have e:(0:Int)=w:=e
  subst e
  exact⟨_,s,a,h0,hb⟩
 |false=>
  rw [hb]at e
  have e:(1:Int)=w:=e
  subst e
  exact⟨_,t,b,h0,hb⟩
def LawP (a:Ar)(rc:Plc→List Int)(pr:Plc→Int)(p0:Plc)(C:Nat→(Nat→Int)→Prop):Prop:=
 ∀(L:Nat) (q:Nat→Plc),0<L→(∀t,q t∈plA a rc p0)→(∀t,(q (t+1)).record=rc (q t))→(∀t,q (t+L)=q t)→∀M:Int,(∃T,T<L∧pr (q T)=M)→(∀t,t<L→pr (q t)≤M)→(M%2=0↔C L fun t=>(q t).at_)
theorem zIa {a1 a2:Ar}{rc1 rc2:Plc→List Int}{pr1 pr2:Plc→Int}{p1 p2:Plc}{w1 w2:Int}{C1 C2:Nat→(Nat→Int)→Prop}(hnx:a2.next=a1.next)(hok1:okQ (usA a1) rc1 p1=true)(hok2:okQ (usA a2) rc2 p2=true)(hat:p1.at_=p2.at_)
  (hpr1: ∀v,v<(plA a1 rc1 p1).length→0≤pr1 (gq (plA a1 rc1 p1) v)) (hpr2: ∀v,v<(plA a2 rc2 p2).length→0≤pr2 (gq (plA a2 rc2 p2) v))
  (hin: ∀p∈plA a1 rc1 p1,p.at_.toNat<a1.owner.length) (hsplit: ∀v,v<a1.owner.length→(gi a2.owner v=w2↔¬gi a1.owner v=w1))
  (g1:qI (gmA a1 rc1 pr1 p1 (plA a1 rc1 p1).length)=true) (g2:qI (gmA a2 rc2 pr2 p2 (plA a2 rc2 p2).length)=true)
  (l1:LawP a1 rc1 pr1 p1 C1) (l2:LawP a2 rc2 pr2 p2 C2)
  (e1:gi (wB (gmA a1 rc1 pr1 p1 (plA a1 rc1 p1).length)) 0=w1) (e2:gi (wB (gmA a2 rc2 pr2 p2 (plA a2 rc2 p2).length)) 0=w2):
  ∃L v,0<L∧(w1=0↔C1 L v)∧(w2=0↔C2 L v):=by
 have z1:=(wL (n:=(plA a1 rc1 p1).length) hok1 rfl).2.2.1
 have z2:=(wL (n:=(plA a2 rc2 p2).length) hok2 rfl).2.2.1
 obtain⟨U1,s1,h1,u1⟩:=zEU g1 (by rw [Zh];omega) e1
 obtain⟨U2,s2,h2,u2⟩:=zEU g2 (by rw [Zh];omega) e2
 rw [Zh]at h1 h2
 obtain⟨L,q1,q2,hJ⟩:=joint hnx hok1 hok2 hat hpr1 hpr2 hin hsplit h1 h2 u1 u2
 obtain⟨M1,m1,t1,k1⟩:=hJ.top1
 obtain⟨M2,m2,t2,k2⟩:=hJ.top2
 have c1:=l1 L q1 hJ.pos hJ.in1 hJ.nx1 hJ.per1 M1 t1 k1
 have c2:=l2 L q2 hJ.pos hJ.in2 hJ.nx2 hJ.per2 M2 t2 k2
 rw [show(fun t=>(q2 t).at_)=fun t=>(q1 t).at_ from funext fun t=>(hJ.at_ t).symm]at c2
 rw [m1]at c1
 rw [m2]at c2
 exact⟨L,_,hJ.pos,c1,c2⟩
def kY (ps:List Pr)(L:Nat)(v:Nat→Int):Prop:= ∀x,x<ps.length→(∃t,t<L∧zr (gp ps x).ask (v t)=true)→∃t,t<L∧zr (gp ps x).give (v t)=true
def jW (f:Fm)(L:Nat)(v:Nat→Int):Prop:=xn f.sets (ya f.names ((List.range L).map v))=true
theorem lawR {a:Ar}{ps:List Pr}{s:Int}(hc:rgC a ps s=true):LawP a (rcR ps) (prR ps) ⟨s,zT ps.length⟩ (kY ps):=by
 intro L q hL hin hnx hper M hT hM
 obtain⟨k1,k2,k3⟩:=vN hc
 have hall:=vD k1 k3 257
 have hR:vF ps L (fun t=>(q t).record) (fun t=>(q t).at_):=⟨hL,fun t=>(hall _ (hin t)).2.2,fun t=>hnx t,fun t=>by show(q (t+L)).record=_;rw [hper],fun t=>by show(q (t+L)).at_=_;rw [hper]⟩
 exact hR.law hT hM
theorem lawV {a:Ar}{f:Fm}{s:Int}(hc:fgC a f s=true):LawP a rcF (prF f) ⟨s,f.names⟩ (jW f):=by
 intro L q hL hin hnx hper M hT hM
 obtain⟨k1,k2,k3⟩:=vK hc
 have hall:=vD k1 k3 257
 have hR:qg f L (fun t=>(q t).record) (fun t=>(q t).at_):=⟨hL,fun t=>(hall _ (hin t)).2.2,fun t=>hnx t,fun t=>by show(q (t+L)).record=_;rw [hper],fun t=>by show(q (t+L)).at_=_;rw [hper]⟩
 refine hR.law hT hM fun x _=> ?_
 rw [yD,List.mem_map]
 constructor
 ·rintro⟨t,ht,e⟩;exact⟨t,List.mem_range.1 ht,e⟩
 ·rintro⟨t,ht,e⟩;exact⟨t,List.mem_range.2 ht,e⟩
theorem kH (q:Int→Bool): ∀xs:List Int,∃b,b<2^xs.length∧xQ xs b=xs.filter q
 | []=>⟨0,by decide,rfl⟩
 |x::xs=>by
  obtain⟨b,h1,h2⟩:=kH q xs
  have hp:2^(xs.length+1)=2^xs.length*2:=Nat.pow_succ ..
  cases hq:q x with
  |true=>
   refine⟨2*b+1,by show _<2^(xs.length+1);omega,?_⟩
   rw [xQ,if_pos (by omega),show(2*b+1) / 2=b by omega,h2,List.filter_cons,if_pos hq]
  |false=>
   refine⟨2*b,by show _<2^(xs.length+1);omega,?_⟩
   rw [xQ,if_neg (by omega),show 2*b / 2=b by omega,h2,List.filter_cons,if_neg (by rw [hq];decide)]
theorem zBd {xs s:List Int}:s∈yM xs↔∃b,b<2^xs.length∧xQ xs b=s:=by
 unfold yM wV
 rw [List.mem_map]
 constructor
 ·rintro⟨b,h,e⟩;exact⟨b,List.mem_range.1 h,e⟩
 ·rintro⟨b,h,e⟩;exact⟨b,List.mem_range.2 h,e⟩
theorem zIX (xs met:List Int):ya xs met∈yM xs:=by
 rw [zBd]
 exact kH _ xs
theorem uF : ∀(xs:List Int) (b:Nat),(xQ xs b).Sublist xs
 | [],_=>List.Sublist.slnil
 |x::xs,b=>by
  have :=uF xs (b / 2)
  rw [xQ]
  split
  ·exact this.cons_cons x
  ·exact this.cons x
theorem uE : ∀(xs:List Int),xs.Nodup→∀b c,b<2^xs.length→c<2^xs.length→xQ xs b=xQ xs c→b=c
 | [],_,b,c,hb,hc,_=>by
  have hb:b<1:=hb
  have hc:c<1:=hc
  omega
 |x::xs,hn,b,c,hb,hc,e=>by
  have hp:2^(xs.length+1)=2^xs.length*2:=Nat.pow_succ ..
  have hb:b<2^(xs.length+1):=hb
  have hc:c<2^(xs.length+1):=hc
  rw [List.nodup_cons]at hn
  have hno: ∀j,x∉xQ xs j:=fun j h=>hn.1 ((uF xs j).subset h)
  rw [xQ,xQ]at e
  by_cases h1:b%2=1<;>by_cases h2:c%2=1
  ·rw [if_pos h1,if_pos h2]at e
   have :=uE xs hn.2 (b / 2) (c / 2) (by omega) (by omega) (List.cons.inj e).2
   omega
  ·rw [if_pos h1,if_neg h2]at e
   exact absurd (e ▸ List.mem_cons_self) (hno (c / 2))
  ·rw [if_neg h1,if_pos h2]at e
   exact absurd (e.symm ▸ List.mem_cons_self) (hno (b / 2))
  ·rw [if_neg h1,if_neg h2]at e
   have :=uE xs hn.2 (b / 2) (c / 2) (by omega) (by omega) e
   omega
theorem zHD {xs:List Int}(h:xs.Nodup):(yM xs).Nodup:=by
 unfold yM wV
 rw [List.Nodup,List.pairwise_map]
 refine List.Pairwise.imp_of_mem (fun{b c} hb hc hbc e=> ?_) List.pairwise_lt_range
 have :=uE xs h b c (List.mem_range.1 hb) (List.mem_range.1 hc) e
 omega
theorem zDH {xs:List Int}{n:Int}(hs:zv xs n=true)(hl:xs.length≤4)(q:List Int→Bool):xg ⟨xs,(yM xs).filter q⟩ n=true:=by
 have hp:=Ye hs
 have h16:=Yz hl
 have hnd:((yM xs).filter q).Nodup:=List.Nodup.sublist (List.filter_sublist ..) (zHD (JW hp))
 have hlen:((yM xs).filter q).length≤16:=Nat.le_trans (List.length_filter_le ..) (by rw [Xg];exact h16)
 refine ki hs ⟨hl,hlen⟩ fun i hi=> ?_
 have hi:i<((yM xs).filter q).length:=hi
 have hm:=zID hi
 obtain⟨b,-,e⟩:=zBd.1 (List.mem_filter.1 hm).1
 have hsub:(gl ((yM xs).filter q) i).Sublist xs:=by rw [←e];exact uF xs b
 refine KK ?_ ?_ ?_
 ·exact Xf (hp.sublist hsub) fun x hx=>QX hs (hsub.subset hx)
 ·exact KW.2 fun x hx=>hsub.subset hx
 ·rw [Bool.eq_false_iff]
  intro h9
  have h9:=JN.1 h9
  have h8:gl ((yM xs).filter q) i∈((yM xs).filter q).take i:=h9
  obtain⟨j,hj,ej⟩:=List.mem_iff_getElem.1 h8
  rw [List.length_take]at hj
  rw [List.getElem_take]at ej
  have hg:gl ((yM xs).filter q) i=((yM xs).filter q)[i]:=by
   unfold gl
   rw [List.getD_eq_getElem?_getD,List.getElem?_eq_getElem hi]
   rfl
  rw [hg]at ej
  have :=List.pairwise_iff_getElem.1 hnd j i (by omega) hi (by omega)
  exact this ej
theorem zBf {ps:List Pr}{n:Int}(h:vy ps n=true){i:Nat}(hi:i<ps.length){x:Int}(hx:x∈(gp ps i).ask∨x∈(gp ps i).give):x∈yd ps n:=by
 obtain⟨h1,h2,h3⟩:=VQ h
 unfold yd
 rw [WQ]
 have hr:0≤x∧x<n:=by
  rcases hx with hx|hx
  ·exact QX (h3 i hi).1 hx
  ·exact QX (h3 i hi).2 hx
 refine⟨by omega,zLo hi ?_⟩
 rw [yD,yD]
 exact hx
theorem zBe {a b:List Int}:vg a b=true↔∃x,x∈a∧x∈b:=by
 unfold vg
 rw [List.any_eq_true]
 constructor
 ·rintro⟨x,h1,h2⟩;exact⟨x,h1,(yD _ _).1 h2⟩
 ·rintro⟨x,h1,h2⟩;exact⟨x,h1,(yD _ _).2 h2⟩
theorem zJz {a b:List Int}{x:Int}:x∈ya a b↔x∈a∧x∈b:=by
 unfold ya
 rw [List.mem_filter,yD]
theorem zDG {ps:List Pr}{n:Int}(h:vy ps n=true)(met:List Int):Vm ps (ya (yd ps n) met)=true↔(bkN ps met ps.length).length=0:=by
 unfold Vm
 rw [decide_eq_true_eq,Uz,Uz]
 have key: ∀x,x<ps.length→(vg (gp ps x).ask (ya (yd ps n) met)=true↔vg (gp ps x).ask met=true)∧(vg (gp ps x).give (ya (yd ps n) met)=true↔vg (gp ps x).give met=true):=fun x hx=>by
  simp only [zBe,zJz]
  exact⟨⟨fun⟨y,a,b⟩=>⟨y,a,b.2⟩,fun⟨y,a,b⟩=>⟨y,a,zBf h hx (.inl a),b⟩⟩,⟨fun⟨y,a,b⟩=>⟨y,a,b.2⟩,fun⟨y,a,b⟩=>⟨y,a,zBf h hx (.inr a),b⟩⟩⟩
 constructor
 ·intro h9 x hx ha;exact(key x hx).2.1 (h9 x hx ((key x hx).1.2 ha))
 ·intro h9 x hx ha;exact(key x hx).2.2 (h9 x hx ((key x hx).1.1 ha))
theorem JO {xs:List Int}{q:List Int→Bool}{met:List Int}:xn ((yM xs).filter q) (ya xs met)=q (ya xs met):=by
 rw [Bool.eq_iff_iff,JN,List.mem_filter]
 exact⟨fun h=>h.2,fun h=>⟨zIX _ _,h⟩⟩
theorem zIC {ps:List Pr}{n:Int}(hb:vW ps n=true)(h:vy ps n=true)(L:Nat)(v:Nat→Int):kY ps L v↔jW (vX ps n) L v:=by
 unfold jW
 rw [Xv hb]
 show _↔xn ((yM (yd ps n)).filter (Vm ps)) (ya (yd ps n) _)=true
 rw [JO,zDG h,Uz]
 unfold kY
 have key: ∀a:List Int,(∃t,t<L∧zr a (v t)=true)↔vg a ((List.range L).map v)=true:=fun a=>by
  rw [zBe]
  constructor
  ·rintro⟨t,h1,h2⟩;exact⟨v t,(yD _ _).1 h2,List.mem_map.2 ⟨t,List.mem_range.2 h1,rfl⟩⟩
  ·rintro⟨x,h1,h2⟩
   obtain⟨t,h3,rfl⟩:=List.mem_map.1 h2
   exact⟨t,List.mem_range.1 h3,(yD _ _).2 h1⟩
 constructor
 ·intro h9 x hx ha;exact(key _).1 (h9 x hx ((key _).2 ha))
 ·intro h9 x hx ha;exact(key _).2 (h9 x hx ((key _).1 ha))
theorem zIb {f:Fm}(h:xg f 256=true)(L:Nat)(v:Nat→Int):jW (yl f) L v↔¬jW f L v:=by
 unfold jW
 rw [YX h]
 show xn ((yM f.names).filter fun s=> !xn f.sets s) (ya f.names _)=true↔_
 rw [JO]
 cases xn f.sets (ya f.names ((List.range L).map v))<;>simp
def Xl :List Int→Nat
 | []=>0
 |x::r=>x.toNat+4*Xl r
theorem zFa : ∀(r:List Int),(∀x∈r,0≤x∧x<4)→Xl r<4^r.length
 | [],_=>by decide
 |x::r,h=>by
  have h1:=zFa r fun y hy=>h y (List.mem_cons_of_mem _ hy)
  have h2:=h x List.mem_cons_self
  show x.toNat+4*Xl r<4^(r.length+1)
  rw [Nat.pow_succ]
  omega
theorem zC8 : ∀(r s:List Int),r.length=s.length→(∀x∈r,0≤x∧x<4)→(∀x∈s,0≤x∧x<4)→Xl r=Xl s→r=s
 | [],[],_,_,_,_=>rfl
 | [],_::_,h,_,_,_=>by cases h
 |_::_,[],h,_,_,_=>by cases h
 |x::r,y::s,hl,hr,hs,e=>by
  have h1:=hr x List.mem_cons_self
  have h2:=hs y List.mem_cons_self
  have e2:x.toNat+4*Xl r=y.toNat+4*Xl s:=e
  have h3:=zC8 r s (by simpa using hl) (fun z hz=>hr z (List.mem_cons_of_mem _ hz)) (fun z hz=>hs z (List.mem_cons_of_mem _ hz)) (by omega)
  rw [h3,show x=y by omega]
theorem zG5 {r s:List Int}(hp:r.Perm s)(hl:r.length≤4)(e:r.take 3=s.take 3):r=s:=by
 have h1:=hp.length_eq
 have hr:=List.take_append_drop 3 r
 have hs:=List.take_append_drop 3 s
 rw [←hr,←hs,e]at hp
 have h2:=(List.perm_append_left_iff _).1 hp
 have h3:r.drop 3=s.drop 3:=by
  have hd:(s.drop 3).length≤1:=by rw [List.length_drop];omega
  match hq:s.drop 3,hd with
  | [],_=>rw [hq]at h2;exact List.Perm.eq_nil h2
  | [x],_=>rw [hq]at h2;exact List.perm_singleton.1 h2
  |_::_::_,h9=>rw [hq]at hd;simp at hd
 rw [←hr,←hs,e,h3]
section
variable {a:Ar} {f:Fm} {s:Int}
theorem zNS (hc:fgC a f s=true)(hn:a.owner.length≤4):okQ (usA a) rcF ⟨s,f.names⟩=true:=by
 obtain⟨h1,h2,h3⟩:=vK hc
 have hall:=vD h1 h3 257
 have hnm:=(qC (fgC_n hc)).1
 have hnd:=zEJ (us:=usA a) (rc:=rcF) (p0:=⟨s,f.names⟩) 257
 have hd: ∀p∈stQ (usA a) rcF ⟨s,f.names⟩ 257,(∀x∈p.record.take 3,0≤x∧x<4)∧Xl (p.record.take 3)<64:=fun p hp=>by
  have hv:=qV (hall p hp).2.2
  have hr: ∀x∈p.record.take 3,0≤x∧x<4:=fun x hx=>by
   have :=QX hnm ((hv.2.2.2.2 x).1 (List.mem_of_mem_take hx))
   omega
  refine⟨hr,?_⟩
  have h5:=zFa _ hr
  have h6:4^(p.record.take 3).length≤4^3:=Nat.pow_le_pow_right (by decide) (by rw [List.length_take];omega)
  omega
 have hl:((stQ (usA a) rcF ⟨s,f.names⟩ 257).map fun p=>p.at_.toNat*64+Xl (p.record.take 3)).length≤256:=by
  refine JJ _ _ (List.pairwise_map.2 (List.Pairwise.imp_of_mem (fun{p q} hp hq hne e=> ?_) hnd)) fun x hx=> ?_
  ·apply hne
   have k1:=hall p hp
   have k2:=hall q hq
   have d1:=hd p hp
   have d2:=hd q hq
   have v1:=qV k1.2.2
   have v2:=qV k2.2.2
   have hper:p.record.Perm q.record:=((xE p.record).symm.trans (by rw [v1.2.1,←v2.2.1])).trans (xE q.record)
   have hle:=hper.length_eq
   have e1:Xl (p.record.take 3)=Xl (q.record.take 3):=by omega
   have e2:=zC8 _ _ (by rw [List.length_take,List.length_take];omega) d1.1 d2.1 e1
   have e3:=zG5 hper v1.2.2.1 e2
   obtain⟨pa,pr⟩:=p
   obtain⟨qa,qr⟩:=q
   simp only at e3 e k1 k2
   subst e3
   rw [show pa=qa by omega]
  ·obtain⟨p,hp,rfl⟩:=List.mem_map.1 hx
   have k1:=hall p hp
   have d1:=(hd p hp).2
   show p.at_.toNat*64+Xl (p.record.take 3)<256
   omega
 rw [List.length_map]at hl
 unfold okQ
 exact decide_eq_true (by omega)
theorem zFc (hc:fgC a f s=true)(hn:a.owner.length≤4):fgB a f s=true:=by
 unfold fgB
 rw [hc,zNS hc hn]
 rfl
end
theorem Wb (g:Pa)(h:0<g.a.owner.length):gi (wB g) 0=0∨gi (wB g) 0=1:=by
 rw [zAo h]
 cases gb (Xp g) 0<;>simp [YZ]
theorem zFr {a:Ar}(h:yK a=true){v:Nat}(hv:v<a.owner.length):gi a.owner v=0∨gi a.owner v=1:=by
 have :=xD h hv
 omega
theorem zLZ {a:Ar}(ha:yK a=true)(hn:a.owner.length≤4){ps:List Pr}(hp:arB ps a.owner.length=true)(h3:ps.length≤3){s:Int}(hs:0≤s∧s<(a.owner.length:Int)):
  vW ps a.owner.length=true∧Qk (vX ps a.owner.length) a.owner.length=true∧(yl (vX ps a.owner.length)).Ln 1048576∧fwR a (vX ps a.owner.length) s=pwR a ps s∧fwR (vq a) (yl (vX ps a.owner.length)) s=1 - pwR a ps s∧(pwR a ps s=0∨pwR a ps s=1)∧
  ∀met,zv met a.owner.length=true→XX (vX ps a.owner.length) met=decide ((bkN ps met ps.length).length=0):=by
 have hprs:vy ps a.owner.length=true:=by unfold vy;rw [hp,decide_eq_true (by omega)];rfl
 have hnl:(yd ps a.owner.length).length≤4:=by have :=zDE ps a.owner.length;omega
 have hb:=zBJ hprs hnl
 have hset:zv (yd ps a.owner.length) a.owner.length=true:=by
  unfold yd
  refine Xf (Uj _ _) fun x hx=> ?_
  have :=(WQ.1 hx).1
  omega
 obtain⟨f,hf⟩: ∃f,vX ps a.owner.length=f:=⟨_,rfl⟩
 have hfI:xg f a.owner.length=true:=by rw [←hf,Xv hb];exact zDH hset hnl _
 have hfl:f.Ln 1048576:=by rw [←hf];exact zBI _ _
 have h256:=zBG hfI (m:=256) (by omega)
 have hoI:xg (yl f) a.owner.length=true:=by
  rw [YX h256]
  exact zDH (qC hfI).1 (qC hfI).2.1 _
 have hon:(yl f).names=f.names:=by rw [YX h256]
 have hgv:=zIC hb hprs
 rw [hf]at hgv⊢
 have hB:Qk f a.owner.length=true:=by rw [ZK (by omega)];exact hfI
 have hC1:rgC a ps s=true:=zAf ha hp (by omega)
 have hC2:fgC a f s=true:=zAE ha hB (by omega)
 have hta:=zMU ha
 have htl:=uR a
 have hC3:fgC (vq a) (yl f) s=true:=zAE hta (by rw [htl,ZK (by omega)];exact hoI) (by omega)
 have hB1:=zMH hC1 (by omega) h3
 have hB2:=zFc hC2 hn
 have hB3:=zFc hC3 (by rw [htl];exact hn)
 have g1:=Xe hB1
 have g2:=VH hB2
 have g3:=VH hB3
 obtain⟨k1,k2,k3⟩:=vN hC1
 obtain⟨m1,m2,m3⟩:=vK hC2
 obtain⟨n1,n2,n3⟩:=vK hC3
 have o1:=(Kn hB1).2
 have o2:=(VG hB2).2
 have o3:=(VG hB3).2
 have all1:=vD k1 k3 257
 have all2:=vD m1 m3 257
 have all3:=vD n1 n3 257
 have hA:fwR a f s=pwR a ps s:=by
  rw [jN hB2,je hB1]
  rw [(zD6 hB1).1]at g1⊢
  rw [(UC hB2).1]at g2⊢
  have z1:=(wL (n:=(plA a (rcR ps) ⟨s,zT ps.length⟩).length) o1 rfl).2.2.1
  have z2:=(wL (n:=(plA a rcF ⟨s,f.names⟩).length) o2 rfl).2.2.1
  have r1:=Wb (gmA a (rcR ps) (prR ps) ⟨s,zT ps.length⟩ (plA a (rcR ps) ⟨s,zT ps.length⟩).length) (by rw [Zh];omega)
  have r2:=Wb (gmA a rcF (prF f) ⟨s,f.names⟩ (plA a rcF ⟨s,f.names⟩).length) (by rw [Zh];omega)
  refine Classical.byContradiction fun hne=> ?_
  obtain⟨w1,e1⟩: ∃w,gi (wB (gmA a (rcR ps) (prR ps) ⟨s,zT ps.length⟩ (plA a (rcR ps) ⟨s,zT ps.length⟩).length)) 0=w:=⟨_,rfl⟩
  obtain⟨w2,e2⟩: ∃w,gi (wB (gmA a rcF (prF f) ⟨s,f.names⟩ (plA a rcF ⟨s,f.names⟩).length)) 0=w:=⟨_,rfl⟩
  obtain⟨L,v,hL,c1,c2⟩:=zIa (a1:=a) (a2:=a) (w1:=w1) (w2:=w2) rfl o1 o2 rfl (fun v hv=>(zKw (all1 _ (vC hv)).2.2).1) (fun v hv=>(zCD (all2 _ (vC hv)).2.2).1) (fun p hp=>by have :=all1 p hp;omega)
   (fun v hv=>by have :=zFr ha hv;omega) g1 g2 (lawR hC1) (lawV hC2) e1 e2
  have h9:=hgv L v
  rw [←c1,←c2]at h9
  omega
 have hB':fwR (vq a) (yl f) s=1 - fwR a f s:=by
  rw [jN hB3,jN hB2]
  rw [(UC hB2).1]at g2⊢
  rw [(UC hB3).1]at g3⊢
  have z2:=(wL (n:=(plA a rcF ⟨s,f.names⟩).length) o2 rfl).2.2.1
  have z3:=(wL (n:=(plA (vq a) rcF ⟨s,(yl f).names⟩).length) o3 rfl).2.2.1
  have r2:=Wb (gmA a rcF (prF f) ⟨s,f.names⟩ (plA a rcF ⟨s,f.names⟩).length) (by rw [Zh];omega)
  have r3:=Wb (gmA (vq a) rcF (prF (yl f)) ⟨s,(yl f).names⟩ (plA (vq a) rcF ⟨s,(yl f).names⟩).length) (by rw [Zh];omega)
  refine Classical.byContradiction fun hne=> ?_
  obtain⟨w2,e2⟩: ∃w,gi (wB (gmA a rcF (prF f) ⟨s,f.names⟩ (plA a rcF ⟨s,f.names⟩).length)) 0=w:=⟨_,rfl⟩
  obtain⟨w3,e3⟩: ∃w,gi (wB (gmA (vq a) rcF (prF (yl f)) ⟨s,(yl f).names⟩ (plA (vq a) rcF ⟨s,(yl f).names⟩).length)) 0=w:=⟨_,rfl⟩
  obtain⟨L,v,hL,c1,c2⟩:=zIa (a1:=a) (a2:=vq a) (w1:=w2) (w2:=w3) rfl o2 o3 rfl (fun v hv=>(zCD (all2 _ (vC hv)).2.2).1) (fun v hv=>(zCD (all3 _ (vC hv)).2.2).1) (fun p hp=>by have :=all2 p hp;omega)
   (fun v hv=>by have :=zFr ha hv;rw [zGA hv];omega) g2 g3 (lawV hC2) (lawV hC3) e2 e3
  rw [zIb h256,←c1]at c2
  omega
 have hR01:pwR a ps s=0∨pwR a ps s=1:=by
  rw [je hB1,(zD6 hB1).1]
  have z1:=(wL (n:=(plA a (rcR ps) ⟨s,zT ps.length⟩).length) o1 rfl).2.2.1
  exact Wb _ (by rw [Zh];omega)
 refine⟨hb,hB,zDF hfl,hA,by rw [hB',hA],hR01,?_⟩
 ·intro met hm
  rw [UB h256 (uO hm (by omega)),←hf,Xv hb]
  show xn ((yM (yd ps a.owner.length)).filter (Vm ps)) (ya (yd ps a.owner.length) met)=_
  rw [JO,Bool.eq_iff_iff,zDG hprs,decide_eq_true_eq]
open Nat renaming reduceMod → zA, reduceMul → zB, reduceDiv → zC, reduceAdd → zD, reduceSub → zE, reduceEqDiff → zF, reduceBEq → zG, reduceLT → zH, reduceLeDiff → zI
theorem Kp {xs:List Int}{n m:Int}(h:zv xs n=true)(hm:n≤m):zv xs m=true:=by
 refine qG fun k hk=> ?_
 have :=xl h hk
 unfold xp at this⊢
 have :=of_decide_eq_true this
 exact decide_eq_true (by omega)
theorem zHh {ps:List Pr}{n m:Int}(h:arB ps n=true)(hn:n≤m):arB ps m=true:=by
 unfold arB at h⊢
 rw [Bool.and_eq_true]at h⊢
 refine⟨h.1,qG fun k hk=> ?_⟩
 have :=xl h.2 hk
 unfold wK at this⊢
 rw [Bool.and_eq_true]at this⊢
 exact⟨Kp this.1 hn,Kp this.2 hn⟩
set_option maxRecDepth 20000 in
set_option maxHeartbeats 4000000 in
theorem zGK (ps:List Pr)(hp:PLn 1048576 ps)(har:arB ps 256=true)(met:List Int)(hm:met.length≤1048576)(hs:zv met 256=true):Fn Tryz.prog tyT 29 [.c (.lst 93 (dII (ilv ps))), .c (DI met)] [.c (.bool (decide ((bkN ps met ps.length).length=0)))]:=by
 have hR:=Vf ps hp 256
 rw [har]at hR
 have hI:=yP met 256 hm
 rw [hs]at hI
 have hpf:=VQ (ps:=ps) (n:=256) (by unfold vy;rw [har];rfl)
 have hB:=Vj ps hp 256 hpf.2.2 met hm
 have hbl:(bkN ps met ps.length).length≤ps.length:=by unfold bkN;rw [List.length_map];exact Nat.le_trans (List.length_filter_le _ _) (by simp)
 have hli:=xV ps
 have hpl:=hp.1
 refine θH (ts:= [4]) Tryz.func29 Tryz.ntmps29 ?_
 push_cast
 refine θA ?_
 refine zL fun K hK=> ?_
 refine zc false zQ zN ?_ rfl ?_
 ·kernel_rfl
 all_goals refine zm 2 fun K9 hK9=> ?_
 all_goals push_cast
 all_goals repeat'(first|(apply zO<;>(intro hg;push_cast at hg))|(refine⟨_,hR,?_⟩;push_cast)|apply And.intro|(intro hg;push_cast at hg))
 all_goals try exact gA
 refine hK9 _ ?_;clear hK9 K9
 all_goals refine zm 3 fun K9 hK9=> ?_
 all_goals push_cast
 all_goals repeat'(first|(apply zO<;>(intro hg;push_cast at hg))|(refine⟨_,hI,?_⟩;push_cast)|apply And.intro|(intro hg;push_cast at hg))
 all_goals try exact gA
 refine hK9 _ ?_;clear hK9 K9
 all_goals refine zm 5 fun K9 hK9=> ?_
 all_goals push_cast
 all_goals repeat'(first|(apply zO<;>(intro hg;push_cast at hg))|(refine⟨_,hB,?_⟩;push_cast)|apply And.intro|(intro hg;push_cast at hg))
 all_goals try exact gA
 refine hK9 _ ?_;clear hK9 K9
 all_goals push_cast
 all_goals repeat'(first|(apply zO<;>(intro hg;push_cast at hg))|(refine⟨_,hR,?_⟩;push_cast)|(refine⟨_,hI,?_⟩;push_cast)|(refine⟨_,hB,?_⟩;push_cast)|apply And.intro|(intro hg;push_cast at hg))
 all_goals try exact gA
 refine hK _ ?_;clear hK K
 all_goals(
   refine zY ⟨Or.inl rfl,?_⟩
   push_cast [zd]
   all_goals(rw [Bool.eq_iff_iff,beq_iff_eq,decide_eq_true_eq];omega))
theorem zMx {a:Ar}(h:yK a=true):a.Ln 1048576:=by
 have hl:=yO h
 refine⟨by unfold LnI;omega,by omega,fun r hr=> ?_⟩
 obtain⟨v,hv,rfl⟩:=Kc hr
 have :=(xD h (v:=v) (by omega)).2.2.2.1
 omega
theorem zGD (code:List Int)(seed:Int)(n j:Nat): ∀t,∀p∈wpL code seed n j t,p.ask.length≤n∧p.give.length≤n
 |0,p,h=>by rw [zHL]at h;cases h
 |t+1,p,h=>by
  rw [zCO,List.mem_append,List.mem_singleton]at h
  rcases h with h|rfl
  ·exact zGD code seed n j t p h
  ·exact⟨Qv _ _ _ _,Qv _ _ _ _⟩
theorem zOQ {code:List Int}(hby:qF code)(seed:Int)(j:Nat){n:Nat}(hn:n≤256){most:Int}(hm:0≤most∧most≤4):PLn 1048576 (wpP code seed n j most)∧(wpP code seed n j most).length≤most.toNat:=by
 have h1:=XK hby seed j (n:=most+1) (by omega)
 have h2:(wpP code seed n j most).length=wpK code seed j most:=jm ..
 have h3:wpK code seed j most≤most.toNat:=by unfold wpK;omega
 refine⟨⟨by omega,fun p hp=> ?_⟩,by omega⟩
 have :=zGD code seed n (j+1) _ p hp
 exact⟨by show p.ask.length≤_;omega,by show p.give.length≤_;omega⟩
def zDT (q:Nat→Bool)(rows:List (List Int))(k:Nat):List D:=(List.range k).map (fun i=>if q i then D.hole else .lst 2 (dI (gl rows i)))++dII (rows.drop k)
theorem zAM (q:Nat→Bool)(rows:List (List Int))(k:Nat):(zDT q rows k)[k]? =(dII rows)[k]? :=by
 unfold zDT dII
 have hl:((List.range k).map (fun i=>if q i then D.hole else .lst 2 (dI (gl rows i)))).length=k:=by simp
 rw [List.getElem?_append_right (by omega),hl,Nat.sub_self,List.getElem?_map,List.getElem?_map,List.getElem?_drop]
 rfl
theorem zH6 (q:Nat→Bool)(rows:List (List Int))(k:Nat):xh (zDT q rows k) k=dI (gl rows k):=by
 rw [←ko]
 unfold xh
 rw [zAM]
theorem zHO (q:Nat→Bool)(rows:List (List Int))(k:Nat):xq (.sl 2) (zDT q rows k) k=(k<rows.length):=by
 rw [←kU]
 unfold xq
 rw [zAM]
theorem zEz (q:Nat→Bool)(rows:List (List Int))(k:Nat):zo (zDT q rows k) [k]=(k<rows.length):=by
 rw [←JK]
 unfold zo
 rw [zAM]
attribute [push_cast] zH6 zHO zEz
end Go.Proofs.YthepmdkpbjfdcaaGreat
