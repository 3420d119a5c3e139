/- Functions whose result is a struct with cells of the first argument: their contracts; such calls in drawn regions. -/
import Derived.Test.YthepmdkpbjfdcaaGreatGEzff
import Derived.Test.YthepmdkpbjfdcaaGreatB15zff
import Derived.Lib.SliceRun
import Derived.Test.YthepmdkpbjfdcaaGreatVazff
import Derived.Test.YthepmdkpbjfdcaaGreatB10zff
import Derived.Test.YthepmdkpbjfdcaaGreatB11zff
import Derived.Test.YthepmdkpbjfdcaaGreatB14zff
import Derived.Test.YthepmdkpbjfdcaaGreatB5zff
import Derived.Test.YthepmdkpbjfdcaaGreatB12zff
namespace Go.Proofs.YthepmdkpbjfdcaaGreat
open Go.RowKit
set_option linter.unusedVariables false
set_option linter.unusedSimpArgs false
section
variable {P:Program} {np:Bool} {τ:Ty} {lo:Nat} {w0:Fz} {ow:Nat→Option Pl} {hd:Nat→Value} {bk:Nat→Nat} {st:St} {a:Act} {w:World}
def Ja (τ:Ty)(st:St):List Nat→List AV→Prop
 | [],us=>us= []
 |_::_,[]=>False
 |i::pm,u::us=>(match u with
  | .sl d [] 0 len e=>d=zb 0 i∧(match lk st.r d with|some R=>R.pin=some d∧R.e=e∧len*sz τ e=R.xs.length|none=>False)∧0<sz τ e
  |_=>False)∧Ja τ st pm us
theorem kN (h:zk τ lo w0 ow hd bk st a w){pin:Nat→Value}(hpin: ∀id,w0.pin id=some (pin id)): ∀{pm:List Nat} {us:List AV} {cs:List Value},Ja τ st pm us→za τ w st.r st.b hd bk us cs→cs.length=pm.length∧∀(i j:Nat) (c:Value),pm[i]? =some j→cs[i]? =some c→c=pin (zb 0 j)
 | [],us,cs,ho,hv=>by
  simp only [Ja]at ho
  subst ho
  simp only [za]at hv
  subst hv
  exact⟨rfl,fun i j c h=>by simp at h⟩
 |j0::pm,[],cs,ho,hv=>by simp only [Ja]at ho
 |j0::pm,u::us,cs,ho,hv=>by
  simp only [za]at hv
  obtain⟨c0,cs',rfl,h1,h2⟩:=hv
  simp only [Ja]at ho
  obtain⟨k1,k2⟩:=kN h hpin ho.2 h2
  refine⟨by simp [k1],fun i j c hj hc=> ?_⟩
  cases i with
  |succ i=>exact k2 i j c (by simpa using hj) (by simpa using hc)
  |zero=>
   simp at hc hj
   subst hc;subst hj
   have ho1:=ho.1
   split at ho1
   ·rename_i d len e
    obtain⟨rfl,q1,q2⟩:=ho1
    split at q1
    ·rename_i R hR
     obtain⟨p1,p2,p3⟩:=q1
     simp only [AvR]at h1
     obtain⟨-,hx⟩:=h1
     obtain⟨hv2,hin,A,n,c,A',c',hnw,e1,e2,hle,hlc,hmx,hf0,hA⟩:=hx R hR (by simp [zo])
     simp only [yI,Option.some.injEq]at hin
     obtain⟨rfl,rfl⟩:=hf0 rfl
     have hp:=h.pin _ R _ hR p1
     rw [hpin]at hp
     have hp':pin (zb 0 j0)=hd (zb 0 j0):=Option.some.inj hp
     have hroot:=h.root _ R hR
     rw [hin,e1]at hroot
     obtain⟨A2,n2,c2,hf,hlen,-⟩:=xK hroot
     cases hf
     rw [p2]at hlen
     have :len=n:=Nat.eq_of_mul_eq_mul_right q2 (by omega)
     subst this
     rw [hp',hin,e1,e2]
    ·exact q1.elim
   ·exact ho1.elim
def RetT (τ:Ty)(rs:List ResultVar)(pm:List Nat)(ress:List D)(e:Exit)(st:St):Prop:=(e= .ret∨e= .normal)∧
 match zt τ st rs with
 |some ([.agg us],ob)=>ob∧pm.length≤us.length∧Ja τ st pm (us.take pm.length)∧(match vZ τ st ress (us.drop pm.length)with|some (is,ob2)=>XN is=true∧ob2|none=>False)
 |_=>False
theorem zMi (hτ:yA P τ)(hpos:yR τ){f:FuncId}{fn:Func}{c:Code}{rs:List ResultVar}{ds0:List D}{args:List VT}{pm:List Nat}{ress:List D}(hfn:P.funcs[f]? =some fn)(hname:(fn.name== "runtime.NumGoroutine")=false)(hb:fn.body=some c)(hres:fn.results=rs.toArray)(hn:(.agg ds0::args:List VT).length≤fn.ntmps)(hfew:few (.agg ds0::args)=true)(hs:szA τ (.agg ds0::args))(hm:(pm.all fun i=>decide (i<ds0.length))=true)
  (h:awp P τ c (RetT τ rs pm ress) (wY τ fn.ntmps (.agg ds0::args))):FnT P τ f (.agg ds0::args) pm ress:=by
 refine⟨⟨fn,hfn,hname,by rw [hb];rfl⟩,fun w cargs hargs=> ?_⟩
 have hstart:Rel τ w.heap.size _ (wY τ fn.ntmps (.agg ds0::args)) {tmps:=cargs.toArray++Array.replicate (fn.ntmps - cargs.toArray.size) undef,defers:= []} w:=⟨_,_,_,Jw hs hfew hn hargs⟩
 obtain⟨v0,vs0,hc0,⟨cs0,rfl,hr0⟩,-⟩:=id hargs
 refine calls_of_wp hfn hb (Go.wp_mono (h w.heap.size _ _ w hstart) fun e a' w' ⟨st',⟨ow,hd,bk,hr⟩,he,hret0⟩=> ?_)
 have hpost:a'.defers= []∧∃v,(results fn a'.tmps).run P w'= .ok v w'∧zGL τ w pm ress cargs (.returned v) w':=by
  split at hret0
  ·rename_i us ob0 hrv
   obtain⟨hob0,hml,hsh,hret⟩:=hret0
   obtain⟨xs,hrun,hv⟩:=qn hτ hpos hr hres hrv hob0
   simp only [za,AvR]at hv
   obtain⟨x,xs',rfl,⟨cs,rfl,hcs⟩,rfl⟩:=hv
   refine⟨hr.defers,_,hrun,?_⟩
   obtain⟨s1,s2⟩:=uV pm.length hcs
   obtain⟨p1,p2⟩:=kN hr (fun id=>rfl) hsh s1
   split at hret
   ·rename_i is ob hcells
    obtain⟨m1,m2⟩:=vS hr hcells hret.2 hret.1 s2
    have hlen0:cs0.length=ds0.length:=by
     have key: ∀(ds:List D) (cs:List Value),RpS (sz τ) w.heap.size w (fun _=>none) ds cs→cs.length=ds.length:=by
      intro ds
      induction ds with
      |nil=>intro cs h;simp only [RpS]at h;subst h;rfl
      |cons d ds ih=>intro cs h;simp only [RpS]at h;obtain⟨c,cs',rfl,-,h2⟩:=h;simp [ih cs' h2]
     exact key _ _ hr0
    have htake:cs.take pm.length=Zb pm undef cs0:=by
     refine List.ext_getElem? fun i=> ?_
     rcases Nat.lt_or_ge i pm.length with hi|hi
     ·have hu:(cs.take pm.length)[i]? =some ((cs.take pm.length)[i]'(by omega)):=List.getElem?_eq_getElem _
      have hpi:pm[i]? =some pm[i]:=List.getElem?_eq_getElem hi
      have :=p2 i _ _ hpi hu
      have hlt:pm[i]<ds0.length:=by simpa using List.all_eq_true.1 hm pm[i] (List.getElem_mem hi)
      have hsel:(Zb pm undef cs0)[i]? =some (cs0.getD pm[i] undef):=by unfold Zb;rw [List.getElem?_map,hpi];rfl
      rw [hu,this,hsel]
      have h16:ds0.length≤16:=by exact of_decide_eq_true (List.all_eq_true.1 hfew (.agg ds0) (by simp))
      have e1:zb 0 pm[i] / 16=0:=by unfold zb;omega
      have e2:zb 0 pm[i]%16=pm[i]:=by unfold zb;omega
      simp only [yJ,e1,e2,hc0,List.getElem?_cons_zero]
      have hic:pm[i]<cs0.length:=by omega
      rw [List.getD_eq_getElem?_getD,List.getElem?_eq_getElem hic]
      simp [hic]
     ·rw [List.getElem?_eq_none (by omega),List.getElem?_eq_none (by unfold Zb;rw [List.length_map];exact hi)]
    refine⟨cs0,cs.drop pm.length,xY ow is,by rw [hc0];rfl,by rw [←htake,List.take_append_drop];rfl,⟨hr.below.os,hr.below.tape,hr.below.output,hr.below.size,fun b hb=>hr.below.block b hb trivial⟩,fun b hlt=> ?_,fun b p hp=> ?_,zHV m1 fun i d c hd hc=>by rw [Nat.zero_add];exact m2 i d c hd hc⟩
    ·unfold xY
     split
     ·rename_i d q ho
      have :=(hr.ge b _ (by have :=hr.below.size;simp only at this;omega) ho (by simp)).1
      omega
     ·rfl
    ·unfold xY at hp
     split at hp
     ·rename_i d q ho
      split at hp
      ·cases hp
       refine⟨?_,by simp⟩
       rcases Nat.lt_or_ge b w'.heap.size with h'|h'
       ·exact h'
       ·rw [hr.new b h']at ho;cases ho
      ·cases hp
     ·cases hp
   ·exact hret.elim
  ·exact hret0.elim
 rcases he with rfl|rfl<;>exact hpost
def zB7 (P:Program)(τ:Ty)(o:Oper)(st:St)(K:Dl→Prop):Prop:=
 match yG o with
 |some (f,args,ts)=>
  match yv τ st ts.toList (args.toList.map (ev st)),args.toList.map (ev st)with
  |some (as9,ob), .agg us::_=>ob∧∃pm ress,FnT P τ f as9 pm ress∧(pm.all fun i=>decide (i<us.length))=true∧szL τ ress∧ress.length≤16∧K ⟨.agg (Zb pm .dead us++yX τ (zw o) 0 ress),qy (zw o) 0 ress,[],[]⟩
  |_,_=>False
 |none=>False
theorem zHa {o:Oper}{K:Dl→Prop}(h:zB7 P τ o st K): ∃δ,vE P np τ o st δ∧K δ:=by
 unfold zB7 at h
 cases hc:yG o with
 |none=>rw [hc]at h;exact h.elim
 |some x=>
  obtain⟨f,args,ts⟩:=x
  rw [hc]at h
  simp only at h
  split at h
  ·rename_i as9 ob us vs hargs hevs
   obtain⟨hob,pm,ress,h1,h2,h3,h4,h5⟩:=h
   refine⟨_, .inr (.inl ?_),h5⟩
   unfold kP
   rw [hc]
   simp only
   rw [hargs,hevs]
   exact⟨hob,pm,ress,h1,fun i hi=>by simpa using List.all_eq_true.1 h2 i hi,h3,h4,rfl⟩
  ·exact h.elim
theorem zCt (hτ:yA P τ)(hpos:yR τ)(hmix:P.follows .mixedOrders=true){A:List (List Nat)}{Q:Exit→St→Prop}{id:Nat}{ops:List Oper}(hs:Yg np ops A=true)(hd:yr st.n ops=true)(hlex':kx P np τ ops A (fun st'=> ∃s,Eqv st' s∧Q .normal s) ops 0 [] (st.start np ops)):awp P τ (.region id ops.toArray true) Q st:=fun lo w0 a w hr=>by
 simp only [Yg,Bool.and_eq_true]at hs
 obtain⟨h1,h2,h3⟩:=hs
 have hn:a.tmps.size=st.n:=by obtain⟨ow,hd,bk,h⟩:=hr;exact h.size
 have hrc:Rel τ lo w0 (st.clean np ops) a {w with drawn:=w.drawn+1}:=by
  obtain⟨ow,hd,bk,h⟩:=kX hr (fun d=>((ops.filter (yu np)).map zw).contains (d / 16)) (fun t=>((ops.filter (yu np)).map zw).contains t)
  exact⟨ow,hd,bk,Jq h⟩
 have hr':Rel τ lo w0 (st.start np ops) a {w with drawn:=w.drawn+1}:=by
  unfold St.start
  split
  ·exact Ur hrc
  ·exact hrc
 have hpf:np=true→PF (st.start np ops):=fun e=>by unfold St.start;rw [if_pos e];exact WG _
 refine wp_region_any hmix ?_
 have hany:=Qe (fun st st' he ⟨s,h1,h2⟩=>⟨s,he.symm.trans h1,h2⟩) h1 ops 0 [] (Array.replicate ops.length false) _ (by simp) (fun j o _ hj=>by
  rw [Array.getD_eq_getD_getElem?,Array.getElem?_replicate]at hj
  split at hj<;>simp at hj) h3 hlex'
 have :=YQ (Q':=fun e a' w'=> ∃st',Rel τ lo w0 st' a' w'∧Q e st') hτ hpos h2 (fun st' a w ⟨s,he,hq⟩ hr=>⟨s,xy hr he.cov,hq⟩) ops.length [] (Array.replicate ops.length false) (st.start np ops) a {w with drawn:=w.drawn+1} (by rw [hn];exact hd) (fun j o ho _ hm=>by
  have hfc:yQ (own (zw o)) (st.clean np ops):=by
   refine Xm (fun d hdt=> ?_) (YD ho hm)
   rw [hdt];exact YD ho hm
  unfold St.start
  split
  ·exact kc hfc
  ·exact hfc) hpf hr' hany
 simpa using this
end
def vQ (st:St)(ls:List xG):St:={st with r:=VL ls st.r}
section
variable {P:Program} {np:Bool} {τ:Ty} {lo:Nat} {w0:Fz} {ow:Nat→Option Pl} {hd:Nat→Value} {bk:Nat→Nat} {st:St} {a:Act} {w:World}
theorem zBx (h:zk τ lo w0 ow hd bk st a w){vs:List AV}{cv:List Value}(hv:za τ w st.r st.b hd bk vs cv){own:List Nat}{outs:List Out}{ls:List xG}{ob2:Prop}
  (hbad: ∀d,(∃x∈ls,x.d=d)→XG d st) (hl:qf τ st vs outs own=some (ls,ob2)) (hob2:ob2) (hsep:vb ls) (hnd:own.Nodup) {t:Nat} {w':World} {ow':Nat→Option Pl}
  (hk:xS ⟨w,fun b=>yz ow ls b=none,fun _=>none⟩ w') (hlow: ∀b,b<w.heap.size→yz ow ls b=none→ow' b=none) (hnew: ∀b p,ow' b=some p→b<w'.heap.size∧lo≤b∧∃d q,p= .root d q)
  (hout: ∀x∈outs,Rp (sz τ) lo w' ow' (.ex (ZS x.1) []) (.lst x.2.1 x.2.2) (yJ cv x.1)):
  zk τ lo w0 (xP ow ls w.heap.size t ow') hd bk (vQ st ls) a w':=by
 obtain⟨l1,l2⟩:=QA hl hob2
 have hok: ∀x∈ls,∃len R,uY τ st vs outs x len R:=fun x hx=>by
  obtain⟨ob,e1,e2⟩:=l1 x hx;exact KU e1 e2
 have hids:(ls.map (·.id)).Nodup:=by rw [l2];exact hnd
 have old: ∀b,b<w.heap.size→yz ow ls b=none→w'.heap[b]? =w.heap[b]? ∧xP ow ls w.heap.size t ow' b=ow b:=fun b hb hn=>
  ⟨hk.block b hb hn,by unfold xP;rw [if_pos ⟨hb,by rw [hn];rfl⟩]⟩
 have back: ∀x∈ls,∀b q,ow' b=some (.root (ZS x.id) q)→xP ow ls w.heap.size t ow' b=some (.root x.d (x.p++q)):=fun x hx b q hb=>by
  have : ¬(b<w.heap.size∧(yz ow ls b).isNone=true):=fun⟨h1,h2⟩=>by
   rw [hlow b h1 (by cases ho:yz ow ls b with|none=>rfl|some p=>rw [ho]at h2;cases h2)]at hb;cases hb
  unfold xP
  rw [if_neg this,hb]
  simp only
  rw [if_pos (by unfold ZS;omega),show ZS x.id - 1000000=x.id from by unfold ZS;omega]
  exact ka hids x hx
 have hge: ∀b p,xP ow ls w.heap.size t ow' b=some p→p≠ .ext→b<w'.heap.size→lo≤b∧w0.fre b:=fun b p hb hp hlt=>by
  by_cases hc:b<w.heap.size∧(yz ow ls b).isNone=true
  ·unfold xP at hb;rw [if_pos hc]at hb;exact h.ge b p hc.1 hb hp
  ·unfold xP at hb
   rw [if_neg hc]at hb
   have ho': ∃p',ow' b=some p':=by
    cases ho:ow' b with
    |none=>rw [ho]at hb;cases hb
    |some p'=>exact⟨p',rfl⟩
   obtain⟨p',ho'⟩:=ho'
   refine⟨(hnew b p' ho').2.1,fun hlt0=> ?_⟩
   have hbw:b<w.heap.size:=Nat.lt_of_lt_of_le hlt0 h.below.size
   cases hoi:yz ow ls b with
   |none=>exact absurd ⟨hbw,by rw [hoi];rfl⟩ hc
   |some p2=>
    obtain⟨d,q,ho,-⟩:=ql hoi
    exact(h.ge b _ hbw ho (by simp)).2 hlt0
 have hc:=h
 have hr: ∀d,lk (vQ st ls).r d=if wi d ls=true then none else(lk st.r d).map fun R=>{R with xs:=qt d R.xs ls}:=fun d=>JD ls st.r d
 have hrel: ∀(d:Nat) (R:zq),(∀x∈ls,x.d≠d)→∀b,b<w.heap.size→rel (md R.o d) (ow b)→w'.heap[b]? =w.heap[b]? ∧xP ow ls w.heap.size t ow' b=ow b:=fun d R hn b hb hr=>old b hb (JQ hn hr)
 have h0: ∀d,(∃x∈ls,x.d=d)→We st.r (vQ st ls).r hd hd d:=fun d _ R' hR'=>by
  rw [hr]at hR'
  split at hR'
  ·cases hR'
  ·cases hx:lk st.r d with
   |none=>rw [hx]at hR';cases hR'
   |some R=>exact⟨R,rfl,rfl⟩
 have hD: ∀d,¬(∃x∈ls,x.d=d)→xM w w' st.r (vQ st ls).r hd hd d:=fun d hn R' hR'=>by
  have hn': ∀x∈ls,x.d≠d:=fun x hx e=>hn ⟨x,hx,e⟩
  rw [hr,kq hn']at hR'
  simp only [Bool.false_eq_true,if_false]at hR'
  cases hx:lk st.r d with
  |none=>rw [hx]at hR';cases hR'
  |some R=>
   rw [hx]at hR'
   simp only [Option.map_some,Option.some.injEq]at hR'
   subst hR'
   refine⟨R,rfl,rfl,fun p hp=> ?_⟩
   simp only [Qs hn']at hp⊢
   exact⟨hp,xx p _ _ _ _ (h.root d R hx) hp (fun b o A n c hb hrl hcell=>by
    rw [qT (hrel d R hn' b hb hrl).1];exact hcell)⟩
 have hB: ∀t,xL st.b (vQ st ls).b bk bk t:=fun t hl=>⟨hl,rfl⟩
 refine⟨h.big,h.defers,h.size,Nat.le_trans h.low hk.size,h.below.step hk.os hk.tape hk.output hk.size (fun b hb hf=> ?_),fun b p hlt hb hp=>hge b p hb hp hlt,fun b hb=> ?_,fun k v hv'=> ?_,fun d R' hR'=> ?_,fun k us hv'=> ?_,fun d R' i hR' hp=> ?_⟩
 ·refine hk.block b hb ?_
  show yz ow ls b=none
  cases hoi:yz ow ls b with
  |none=>rfl
  |some p=>
   obtain⟨d,q,ho,-⟩:=ql hoi
   exact absurd (h.ge b _ hb ho (by simp)).2 hf
 ·have hb':w.heap.size≤b:=Nat.le_trans hk.size hb
  unfold xP
  rw [if_neg (fun hh=>by omega)]
  cases ho:ow' b with
  |none=>rfl
  |some p=>have :=(hnew b p ho).1;omega
 ·exact Jm h0 hD hB v _ (fun d hd' hb=>(hbad d hb).s k v hv' hd') (hc.slot k v hv')
 ·rw [hr]at hR'
  split at hR'
  ·cases hR'
  ·rename_i hg
   have hg:wi d ls=false:=by simpa using hg
   cases hx:lk st.r d with
   |none=>rw [hx]at hR';cases hR'
   |some R=>
    rw [hx]at hR'
    simp only [Option.map_some,Option.some.injEq]at hR'
    subst hR'
    by_cases hin: ∃x∈ls,x.d=d
    ·have hex:R.o= .ex:=by
      obtain⟨x,hxm,rfl⟩:=hin
      obtain⟨len,R2,ho⟩:=hok x hxm
      have :=ho.root;rw [hx]at this;cases this
      exact ho.ex
     simp only [hex]
     by_cases hroot: ∃x∈ls,x.d=d∧x.p= []
     ·obtain⟨x,hxm,rfl,hp⟩:=hroot
      obtain⟨ys,hys⟩:=Ws hg x hxm rfl
      obtain⟨len,R2,ho⟩:=hok x hxm
      have :=ho.root;rw [hx]at this;cases this
      obtain⟨q1,-⟩:=Qq h hv ho
      rw [hp]at q1
      simp only [yI,Option.some.injEq]at q1
      have he:=ho.elem
      rw [hp]at he
      simp only [vo]at he
      simp only [JI hsep x hxm rfl hp hys]
      have :=hout _ (ho.out ys hys)
      simp only at this
      rw [←q1,←he]at this
      exact qP _ _ _ _ _ [] [] _ (fun b q _ hb=>by
       have :=back x hxm b q (by simpa using hb)
       rw [hp]at this
       simpa using this) this
     ·have hone: ∀x∈ls,x.d=d→∃j ys,x.p= [j]∧x.out=some ys:=fun x hxm e=>by
       obtain⟨len,R2,ho⟩:=hok x hxm
       rcases ho.short with hs|hs
       ·exact absurd ⟨x,hxm,e,hs⟩ hroot
       ·exact hs
      have hone': ∀x∈ls,x.d=d→∃j,x.p= [j]:=fun x hxm e=>by obtain⟨j,ys,h1,-⟩:=hone x hxm e;exact⟨j,h1⟩
      have hrt:=h.root d R hx
      rw [hex]at hrt
      obtain⟨zs,k1,k5⟩:=(yC _ _).1 hrt
      have hlen:(qt d R.xs ls).length=R.xs.length:=VO hone'
      have hnil: ∀b,ow b=some (.root d [])→yz ow ls b=none:=fun b hb=>by
       cases hoi:yz ow ls b with
       |none=>rfl
       |some p=>
        obtain⟨d',q,h1,x,hxm,h2,q',h3,-⟩:=ql hoi
        rw [hb]at h1;cases h1
        obtain⟨j,hj⟩:=hone' x hxm h2
        rw [hj]at h3;simp at h3
      have k1':Hd (sz τ) lo w' (xP ow ls w.heap.size t ow') (.ex d []) R.e (hd d) R.xs.length zs:=by
       obtain⟨m1,N,m2,m3,m4⟩:=k1
       refine⟨m1,N,m2,⟨m3.1,?_⟩,fun b hb=> ?_⟩
       ·rcases m3.2 with hn|⟨g,cap,cur,hv2,hb2,hg2,rest⟩
        ·exact .inl hn
        ·have hgo:=m4 g (by rw [hv2];rfl)
         have hglt:g<w.heap.size:=(Array.getElem?_eq_some_iff.1 hg2).1
         exact .inr ⟨g,cap,cur,hv2,hb2,by rw [(old g hglt (hnil g hgo)).1];exact hg2,rest⟩
       ·have hgo:=m4 b hb
        rw [(old b (m3.lt b hb).2 (hnil b hgo)).2];exact hgo
      refine(yC _ _).2 ⟨zs,by rw [hlen];exact k1',fun i y u hy hu=> ?_⟩
      have hi:i<R.xs.length:=by rw [←hlen];exact(List.getElem?_eq_some_iff.1 hy).1
      by_cases hsel: ∃x∈ls,x.d=d∧x.p= [i]
      ·obtain⟨x,hxm,rfl,hp⟩:=hsel
       obtain⟨j,ys,hj,hys⟩:=hone x hxm rfl
       obtain⟨len,R2,ho⟩:=hok x hxm
       have :=ho.root;rw [hx]at this;cases this
       rw [uB hi hsep hone' x hxm rfl hp hys]at hy
       cases hy
       obtain⟨q1,-⟩:=Qq h hv ho
       rw [hp]at q1
       obtain⟨b1,o1,n1,c1,hv',hN,hb1,hr1,hc1⟩:=qb k1 hu
       rw [hv']at q1
       simp only [yI,hc1,Option.bind_some,Option.some.injEq]at q1
       have :=hout _ (ho.out ys hys)
       simp only at this
       rw [←q1]at this
       refine qP _ _ _ _ _ [] ([]++ [i]) _ (fun b q _ hb=> ?_) this
       have :=back x hxm b q (by simpa using hb)
       rw [hp]at this
       simpa using this
      ·rw [Kf (fun x hxm e=>by
        obtain⟨j,hj⟩:=hone' x hxm e
        exact⟨j,hj,fun e2=>hsel ⟨x,hxm,e,by rw [hj,e2]⟩⟩)]at hy
       refine yL _ _ hk.size _ _ _ (fun b hb hr=>old b hb ?_) (k5 i y u hy hu)
       obtain⟨q,hq⟩:=hr
       cases hoi:yz ow ls b with
       |none=>rfl
       |some p=>
        obtain⟨d',q',h1,x,hxm,h2,q2,h3,-⟩:=ql hoi
        rw [hq]at h1
        simp only [Option.some.injEq,Pl.root.injEq,List.nil_append]at h1
        obtain⟨rfl,rfl⟩:=h1
        obtain⟨j,hj⟩:=hone' x hxm h2
        rw [hj]at h3
        simp only [List.cons_append,List.nil_append,List.cons.injEq]at h3
        exact absurd ⟨x,hxm,h2,by rw [hj,h3.1]⟩ hsel
    ·have hn': ∀x∈ls,x.d≠d:=fun x hx e=>hin ⟨x,hx,e⟩
     simp only [Qs hn']
     exact yL _ _ hk.size _ _ _ (fun b hb hr=>hrel d R hn' b hb hr) (h.root d R hx)
 ·obtain⟨cs,ty,q1,q2,q3⟩:=hc.box k us hv'
  have hlt:bk k<w.heap.size:=(Array.getElem?_eq_some_iff.1 q1).1
  have hno:yz ow ls (bk k)=none:=by unfold yz;rw [q2]
  exact⟨cs,ty,by rw [(old _ hlt hno).1];exact q1,by rw [(old _ hlt hno).2];exact q2,ZB h0 hD hB us cs (fun d hd' hb=>(hbad d hb).b k us hv' hd') q3⟩
 ·rw [hr]at hR'
  split at hR'
  ·cases hR'
  ·cases hx:lk st.r d with
   |none=>rw [hx]at hR';cases hR'
   |some R=>
    rw [hx]at hR'
    simp only [Option.map_some,Option.some.injEq]at hR'
    subst hR'
    exact h.pin d R i hx hp
theorem zD0 (h:zk τ lo w0 ow hd bk st a w){vs:List AV}{cv:List Value}(hv:za τ w st.r st.b hd bk vs cv){own:List Nat}{outs:List Out}{ls:List xG}{ob2:Prop}
  (hbad: ∀d,(∃x∈ls,x.d=d)→XG d st) (hl:qf τ st vs outs own=some (ls,ob2)) (hob2:ob2) (hsep:vb ls) (hnd:own.Nodup) {t:Nat} {ress:List VT} (hs:szL τ (zu ress)) (hfl:(zu ress).length≤1000000) {e:Ending} {w':World} (hp:zB4 τ lo w (yz ow ls) outs ress cv e w'):
  ∃z ow' hd',e= .returned z∧zk τ lo w0 ow' hd' bk (yi t 0 (zu ress) (vQ st ls)) a w'∧AvR τ w' (yi t 0 (zu ress) (vQ st ls)).r (yi t 0 (zu ress) (vQ st ls)).b hd' bk (qo (xi τ t 0 ress)) z:=by
 obtain⟨rs,ow',he,hk,hlow,hnew,hres,hout⟩:=hp
 have h1:=zBx h hv hbad hl hob2 hsep hnd (t:=t) hk hlow hnew hout
 have e2: ∀b j q,j<1000000→ow' b=some (.root j q)→xP ow ls w.heap.size t ow' b=some (.root (zb t j) q):=fun b j q hj hq=>by
  have : ¬(b<w.heap.size∧(yz ow ls b).isNone=true):=fun⟨h1,h2⟩=>by
   rw [hlow b h1 (by cases ho:yz ow ls b with|none=>rfl|some p=>rw [ho]at h2;cases h2)]at hq;cases hq
  unfold xP
  rw [if_neg this,hq]
  simp only
  rw [if_neg (by omega)]
 obtain⟨cs,k1,k2,k3⟩:=XS (bk:=bk) (τ:=τ) (rr:=(yi t 0 (zu ress) (vQ st ls)).r) (bb:=(yi t 0 (zu ress) (vQ st ls)).b) (t:=t) hres
 have k2': ∀(i:Nat) (d:D) (c:Value),(zu ress)[i]? =some d→cs[i]? =some c→Rp (sz τ) lo w' (xP ow ls w.heap.size t ow') (.ex (zb t (0+i)) []) d c:=fun i d c hd hc=>by
  have hi:i<1000000:=Nat.lt_of_lt_of_le (List.getElem?_eq_some_iff.1 hd).1 hfl
  exact qP _ _ _ _ _ [] [] _ (fun b q _ e=>e2 b _ q (by omega) e) (k2 i d c hd hc)
 obtain⟨hd',r1,r2,r3⟩:=QF t (zu ress) 0 (vQ st ls) hd cs h1 k1 k2'
 exact⟨we rs,_,hd',he,r1,QG (k3 w' hd' (vI (ow:=xP ow ls w.heap.size t ow') (lo:=lo) t (zu ress) 0 cs k1 hs (fun i d c h1 h2=>⟨_,k2' i d c h1 h2⟩) (fun i e xs c h1 h2=>(r3 i e xs c h1 h2).2)))⟩
def inDl :List Nat→Option Tmp→Bool
 |x::xs,some d=>if x=d then true else inDl xs (some d)
 |_,_=>false
def wJ (X:Oper→St→(Dl→Prop)→Prop)(P:Program)(np:Bool)(τ:Ty)(t:List Nat)(all:List Oper)(E:List Rec→St→Prop):List Oper→Nat→List Rec→St→Prop
 | [],_,cs,st=>E cs st
 |o::os,k,cs,st=>
  match o.guard with
  |none=>if inDl t o.dst=true then X o st fun δ=>wJ X P np τ t all E os (k+1) (⟨k,fp o st,δ.wr⟩::cs) (st.app o.dst δ)else ZY P np τ o st fun δ=>wJ X P np τ t all E os (k+1) (⟨k,fp o st,δ.wr⟩::cs) (st.app o.dst δ)
  |some _=>False
theorem KZ {X:Oper→St→(Dl→Prop)→Prop}(hX: ∀o st K,X o st K→∃δ,vE P np τ o st δ∧K δ){t:List Nat}{all:List Oper}{A:List (List Nat)}{Q:St→Prop}: ∀(os:List Oper) (k:Nat) (cs:List Rec) (st:St),wJ X P np τ t all (fun cs st=>chk all A cs=true∧Q st) os k cs st→chk all A cs=true∧kx P np τ all A (fun st'=> ∃s,Eqv st' s∧Q s) os k cs st
 | [],k,cs,st,h=>⟨h.1,st,Eqv.refl _,h.2⟩
 |o::os,k,cs,st,h=>by
  have go:(∃δ,xr P np τ all o st δ∧wJ X P np τ t all (fun cs st=>chk all A cs=true∧Q st) os (k+1) (⟨k,fp o st,δ.wr⟩::cs) (st.app o.dst δ))→chk all A cs=true∧kx P np τ all A (fun st'=> ∃s,Eqv st' s∧Q s) (o::os) k cs st:=by
   rintro⟨δ,h1,h2⟩
   obtain⟨h3,h4⟩:=KZ hX os _ _ _ h2
   simp only [chk,Bool.and_eq_true]at h3
   exact⟨h3.2,δ,h1,h3.1,h4⟩
  simp only [wJ]at h
  split at h
  ·rename_i hg
   split at h
   ·obtain⟨δ,h1,h2⟩:=hX _ _ _ h
    exact go ⟨δ,by unfold xr;rw [hg];exact h1,h2⟩
   ·obtain⟨δ,h1,h2⟩:=Zp h
    exact go ⟨δ,by unfold xr;rw [hg];exact h1,h2⟩
  ·exact h.elim
theorem zDe {X:Oper→St→(Dl→Prop)→Prop}{t:List Nat}{all:List Oper}(E:List Rec→St→Prop)(l2:List Oper): ∀(l1:List Oper) (k:Nat) (cs:List Rec) (st:St),wJ X P np τ t all E (l1++l2) k cs st=wJ X P np τ t all (fun cs st=>wJ X P np τ t all E l2 (k+l1.length) cs st) l1 k cs st
 | [],k,cs,st=>rfl
 |o::os,k,cs,st=>by
  have e: ∀cs st,wJ X P np τ t all E (os++l2) (k+1) cs st=wJ X P np τ t all (fun cs st=>wJ X P np τ t all E l2 (k+(o::os).length) cs st) os (k+1) cs st:=fun cs st=>by
   rw [zDe E l2 os (k+1) cs st,List.length_cons,show k+1+os.length=k+(os.length+1)from by omega]
  simp only [List.cons_append,wJ,e]
theorem ky (n:Nat){X:Oper→St→(Dl→Prop)→Prop}{t:List Nat}{all:List Oper}{E:List Rec→St→Prop}{os:List Oper}{k:Nat}{cs:List Rec}{st:St}(hn:n≤os.length)(h: ∀K:List Rec→St→Prop,(∀cs st,wJ X P np τ t all E (os.drop n) (k+n) cs st→K cs st)→wJ X P np τ t all K (os.take n) k cs st):wJ X P np τ t all E os k cs st:=by
 have :=h _ fun _ _ h=>h
 have hl:(os.take n).length=n:=by rw [List.length_take];omega
 have e:wJ X P np τ t all (fun cs st=>wJ X P np τ t all E (os.drop n) (k+(os.take n).length) cs st) (os.take n) k cs st:=by rw [hl];exact this
 rw [←zDe,List.take_append_drop]at e
 exact e
theorem zCs (np:Bool)(X:Oper→St→(Dl→Prop)→Prop)(t:List Nat)(hX: ∀o st K,X o st K→∃δ,vE P np τ o st δ∧K δ){Q:Exit→St→Prop}{st:St}(hτ:yA P τ)(hpos:yR τ)(hmix:P.follows .mixedOrders=true){id:Nat}{ops:List Oper}(hs:Yg np ops (ZZ ops)=true)(hd:yr st.n ops=true)(h: ∀E:List Rec→St→Prop,(∀cs st,chk ops (ZZ ops) cs=true→Q .normal st→E cs st)→wJ X P np τ t ops E ops 0 [] (st.start np ops)):awp P τ (.region id ops.toArray true) Q st:=
 zCt hτ hpos hmix hs hd (KZ hX (Q:=Q .normal) ops 0 [] _ (h _ fun cs st h1 h2=>⟨h1,h2⟩)).2
end
attribute [push_cast] zB7 inDl wJ Zb
section
variable {P:Program} {all:List Oper} {T:List (List Nat)} {c:Nat} {Q':Exit→Act→World→Prop}
def zCC (all:List Oper)(T:List (List Nat))(c:Nat):Bool:=(List.range all.length).all fun j=>decide (j<c)||(List.range c).all fun i=>KB T j i
def jY (all:List Oper):Bool:=all.all fun o=>o.guard.isNone
def jL (all:List Oper):Bool:=(List.range all.length).all fun j=>match all[j]? with|some o=>o.after.toList.all fun e=> !(Region.binds .any e)||decide (e.on<j)|none=>true
def qE (N:Nat)(l:Array Bool):Array Bool:=l++Array.replicate (N - l.size) false
theorem Qj {N:Nat}{l:Array Bool}(i:Nat):(qE N l).getD i false=l.getD i false:=by
 unfold qE
 rw [Array.getD_eq_getD_getElem?,Array.getD_eq_getD_getElem?]
 rcases Nat.lt_or_ge i l.size with h|h
 ·rw [Array.getElem?_append_left h]
 ·rw [Array.getElem?_append_right h,Array.getElem?_eq_none h,Array.getElem?_replicate]
  split<;>rfl
theorem zNR {N:Nat}{l:Array Bool}{i:Nat}(h:i<l.size):(qE N l).getD i true=l.getD i true:=by
 unfold qE
 rw [Array.getD_eq_getD_getElem?,Array.getD_eq_getD_getElem?,Array.getElem?_append_left h]
theorem zDB {N:Nat}{l:Array Bool}{i:Nat}(h:i<l.size):(qE N l).setIfInBounds i true=qE N (l.setIfInBounds i true):=by
 unfold qE
 refine Array.ext_getElem? fun j=> ?_
 rw [Array.getElem?_setIfInBounds]
 have e1:(l.setIfInBounds i true).size=l.size:=Array.size_setIfInBounds ..
 rw [e1,Array.getElem?_append,Array.getElem?_append,e1]
 rcases Nat.lt_or_ge j l.size with hj|hj
 ·rw [if_pos hj,if_pos hj,Array.getElem?_setIfInBounds]
  split
  ·rename_i e
   rw [if_pos (by rw [Array.size_append];omega)]
  ·rfl
 ·rw [if_neg (by omega),if_neg (by omega),if_neg (by omega)]
theorem zKm {l:Array Bool}{i:Nat}(h:i<l.size):l.getD i true=l.getD i false:=by
 rw [Array.getD_eq_getD_getElem?,Array.getD_eq_getD_getElem?,Array.getElem?_eq_getElem h]
 rfl
theorem jK (hlt:jL all=true){j:Nat}{o:Oper}(ho:all[j]? =some o){e:Edge}(he:e∈o.after)(hb:Region.binds .any e=true):e.on<j:=by
 have hj:=(List.getElem?_eq_some_iff.1 ho).1
 have h1:=List.all_eq_true.1 hlt j (List.mem_range.2 hj)
 rw [ho]at h1
 have h2:=List.all_eq_true.1 h1 e (by simpa using he)
 simpa [hb]using h2
theorem zEV {md:Region.Mode}{ops:Array Oper}{Q:Exit→Act→World→Prop}: ∀(f:Nat) (l:Array Bool) (a:Act) (w:World),wpAny P md ops Q f l a w→wpAny P md ops Q (f+1) l a w
 |0,l,a,w,h=>⟨fun _=>h.2,fun i hi=>by rw [h.1]at hi;cases hi⟩
 |f+1,l,a,w,h=>⟨h.1,fun i hi=>wpOp_mono (fun a w h=>zEV f _ a w h) (h.2 i hi)⟩
theorem zBt {md:Region.Mode}{ops:Array Oper}{Q:Exit→Act→World→Prop}{f:Nat}{l:Array Bool}{a:Act}{w:World}(h:wpAny P md ops Q f l a w): ∀k,wpAny P md ops Q (f+k) l a w
 |0=>h
 |k+1=>zEV _ _ _ _ (zBt h k)
def jj (P:Program)(all:List Oper)(Q':Exit→Act→World→Prop)(f:Nat)(l:Array Bool):Exit→Act→World→Prop
 | .normal,a,w=>wpAny P .any all.toArray Q' f l a w
 |e,a,w=>Q' e a w
theorem zMd {o:Oper}{a:Act}{w:World}{K:Act→World→Prop}{f:Nat}{l:Array Bool}(h:o.wp P a w K (jj P all Q' f l)):o.wp P a w K Q':=by
 unfold Oper.wp at*
 generalize (execOp a.eval o).run P w=r at*
 cases r with
 |ok n w'=>cases n<;>exact h
 |halt b w'=>cases b<;>exact h
theorem Ua (hng:jY all=true){l1:Array Bool}(hs:l1.size=c){j:Nat}(hj:j<c)(hc:c≤all.length):j∈Region.ready .any all.toArray (qE all.length l1)↔j∈Region.ready .any (all.take c).toArray l1:=by
 rw [mem_ready,mem_ready,zNR (by omega)]
 simp only [Qj,List.getElem?_toArray,List.getElem?_take,if_pos hj]
theorem zHK (hA:VB all T=true)(hc:c≤all.length)(hcut:zCC all T c=true)(hng:jY all=true)(hlt:jL all=true){f2:Nat}:
  ∀(f1:Nat) (l1:Array Bool) (a:Act) (w:World),l1.size=c→kS all (qE all.length l1)→wpAny P .any (all.take c).toArray (jj P all Q' f2 (qE all.length (Array.replicate c true))) f1 l1 a w→wpAny P .any all.toArray Q' (f1+f2) (qE all.length l1) a w:=by
 have full: ∀l1:Array Bool,l1.size=c→(∀i,i<c→l1.getD i false=true)→l1=Array.replicate c true:=fun l1 hs h=>by
  refine Array.ext_getElem? fun i=> ?_
  rw [Array.getElem?_replicate]
  split
  ·rename_i hi
   have h1:=h i hi
   rw [Array.getD_eq_getD_getElem?]at h1
   cases hx:l1[i]? with
   |none=>rw [hx]at h1;simp at h1
   |some b=>rw [hx]at h1;simp at h1;rw [h1]
  ·rw [Array.getElem?_eq_none (by omega)]
 have least: ∀l1:Array Bool,l1.size=c→¬(∀i,i<c→l1.getD i false=true)→∃i,i<c∧l1.getD i false=false∧∀k,k<i→l1.getD k false=true:=fun l1 hs h=>by
  have key: ∀n,n≤c→(∀i,i<n→l1.getD i false=true)∨∃i,i<c∧l1.getD i false=false∧∀k,k<i→l1.getD k false=true:=by
   intro n
   induction n with
   |zero=>exact fun _=> .inl fun i hi=>absurd hi (Nat.not_lt_zero i)
   |succ n ih=>
    intro hn
    rcases ih (by omega)with h1|h1
    ·cases hx:l1.getD n false with
     |true=>
      refine .inl fun i hi=> ?_
      by_cases e:i=n
      ·rw [e];exact hx
      ·exact h1 i (by omega)
     |false=>exact .inr ⟨n,by omega,hx,h1⟩
    ·exact .inr h1
  exact(key c (Nat.le_refl _)).resolve_left h
 have rdy: ∀l1:Array Bool,l1.size=c→∀i,i<c→l1.getD i false=false→(∀k,k<i→l1.getD k false=true)→i∈Region.ready .any (all.take c).toArray l1:=fun l1 hs i hi h0 hk=>by
  rw [mem_ready,zKm (by omega)]
  have ho:all[i]? =some (all[i]'(by omega)):=List.getElem?_eq_getElem (by omega)
  exact⟨h0,_,by rw [List.getElem?_toArray,List.getElem?_take,if_pos hi];exact ho,fun e he hb=>hk _ (jK hlt ho he hb)⟩
 intro f1
 induction f1 with
 |zero=>
  intro l1 a w hs hdn h
  by_cases hall: ∀i,i<c→l1.getD i false=true
  ·rw [full l1 hs hall,Nat.zero_add]
   exact h.2
  ·obtain⟨i,hi,h0,hk⟩:=least l1 hs hall
   have :=rdy l1 hs i hi h0 hk
   rw [h.1]at this
   cases this
 |succ f1 ih=>
  intro l1 a w hs hdn h
  by_cases hall: ∀i,i<c→l1.getD i false=true
  ·have hn:Region.ready .any (all.take c).toArray l1= []:=by
    refine List.eq_nil_iff_forall_not_mem.2 fun j hj=> ?_
    obtain⟨h1,o,h2,-⟩:=mem_ready.1 hj
    have hjc:j<c:=by
     rw [List.getElem?_toArray]at h2
     have :=(List.getElem?_eq_some_iff.1 h2).1
     rw [List.length_take]at this
     omega
    rw [zKm (by omega),hall j hjc]at h1
    cases h1
   have h3:=h.1 hn
   have h4:wpAny P .any all.toArray Q' f2 (qE all.length (Array.replicate c true)) a w:=h3
   rw [full l1 hs hall,show f1+1+f2=f2+(f1+1)from by omega]
   exact zBt h4 _
  ·obtain⟨i,hi,h0,hk⟩:=least l1 hs hall
   rw [show f1+1+f2=(f1+f2)+1 from by omega]
   refine⟨fun hn=> ?_,fun j hj=> ?_⟩
   ·have :=(Ua hng hs hi hc).2 (rdy l1 hs i hi h0 hk)
    rw [hn]at this
    cases this
   ·have hjc:j<c:=by
     rcases Nat.lt_or_ge j c with h1|h1
     ·exact h1
     ·exfalso
      obtain⟨-,o,ho,-⟩:=mem_ready.1 hj
      rw [List.getElem?_toArray]at ho
      have hjl:=(List.getElem?_eq_some_iff.1 ho).1
      have h2:=List.all_eq_true.1 hcut j (List.mem_range.2 hjl)
      rw [Bool.or_eq_true,decide_eq_true_eq]at h2
      have h3:=List.all_eq_true.1 (h2.resolve_left (by omega)) i (List.mem_range.2 hi)
      have h4:=Wo hA hdn j i (.inr hj) h3
      rw [Qj,h0]at h4
      cases h4
    have hjA:=(Ua hng hs hjc hc).1 hj
    have h5:=h.2 j hjA
    have ho:all[j]? =some (all[j]'(by omega)):=List.getElem?_eq_getElem (by omega)
    have hg:(all[j]'(by omega)).guard=none:=by
     have :=List.all_eq_true.1 hng _ (List.mem_of_getElem? ho)
     simpa using this
    unfold wpOp at h5⊢
    rw [List.getElem?_toArray,List.getElem?_take,if_pos hjc,ho]at h5
    rw [List.getElem?_toArray,ho]
    simp only at h5⊢
    rw [if_pos (by simp [Region.wanted,hg])]at h5⊢
    have hnext: ∀a w,wpAny P .any (all.take c).toArray (jj P all Q' f2 (qE all.length (Array.replicate c true))) f1 (l1.setIfInBounds j true) a w→wpAny P .any all.toArray Q' (f1+f2) ((qE all.length l1).setIfInBounds j true) a w:=fun a w h6=>by
     rw [zDB (by omega)]
     refine ih _ a w (by simpa using hs) ?_ h6
     rw [←zDB (by omega)]
     exact kg hdn hj
    rcases h5 with h5|⟨h5,h6⟩
    ·exact .inl (zMd (Oper.wp_mono hnext h5))
    ·exact .inr ⟨h5,h6⟩
theorem zI6 (hA:VB all T=true)(hcut:zCC all T (c+1)=true)(hng:jY all=true)(hlt:jL all=true){oc:Oper}(hoc:all[c]? =some oc){f:Nat}{a:Act}{w:World}
  (h:oc.wp P a w (wpAny P .any all.toArray Q' f (qE all.length (Array.replicate (c+1) true))) Q'):wpAny P .any all.toArray Q' (f+1) (qE all.length (Array.replicate c true)) a w:=by
 have hcl:=(List.getElem?_eq_some_iff.1 hoc).1
 have hl: ∀i,i<c→(qE all.length (Array.replicate c true)).getD i false=true:=fun i hi=>by
  rw [Qj,Array.getD_eq_getD_getElem?,Array.getElem?_replicate,if_pos hi];rfl
 have hu:(qE all.length (Array.replicate c true)).getD c true=false:=by
  unfold qE
  rw [Array.getD_eq_getD_getElem?,Array.getElem?_append_right (by simp),Array.getElem?_replicate,if_pos (by simp;omega)]
  rfl
 have hset:(qE all.length (Array.replicate c true)).setIfInBounds c true=qE all.length (Array.replicate (c+1) true):=by
  unfold qE
  refine Array.ext_getElem? fun j=> ?_
  rw [Array.getElem?_setIfInBounds,Array.getElem?_append,Array.getElem?_append]
  simp only [Array.size_replicate,Array.getElem?_replicate,Array.size_append]
  repeat' split
  all_goals first|rfl|omega
 have hr:c∈Region.ready .any all.toArray (qE all.length (Array.replicate c true)):=by
  rw [mem_ready]
  exact⟨hu,oc,by rw [List.getElem?_toArray];exact hoc,fun e he hb=>hl _ (jK hlt hoc he hb)⟩
 refine⟨fun hn=>(by rw [hn]at hr;cases hr),fun j hj=> ?_⟩
 have hdn:kS all (qE all.length (Array.replicate c true)):=fun k o ho hk e he hb=>by
  rw [Qj,Array.getD_eq_getD_getElem?,Array.getElem?_replicate]at hk
  split at hk
  ·have :=jK hlt ho he hb
   exact hl _ (by omega)
  ·simp at hk
 have hjc:j=c:=by
  obtain⟨h1,o,ho,-⟩:=mem_ready.1 hj
  rw [List.getElem?_toArray]at ho
  have hjl:=(List.getElem?_eq_some_iff.1 ho).1
  rcases Nat.lt_trichotomy j c with h2|h2|h2
  ·have h3:=jO (hl j h2)
   rw [h1]at h3;cases h3
  ·exact h2
  ·have h3:=List.all_eq_true.1 hcut j (List.mem_range.2 hjl)
   rw [Bool.or_eq_true,decide_eq_true_eq]at h3
   have h4:=List.all_eq_true.1 (h3.resolve_left (by omega)) c (List.mem_range.2 (by omega))
   have h5:=jO (Wo hA hdn j c (.inr hj) h4)
   rw [hu]at h5;cases h5
 subst hjc
 have hg:oc.guard=none:=by
  have :=List.all_eq_true.1 hng _ (List.mem_of_getElem? hoc)
  simpa using this
 unfold wpOp
 rw [List.getElem?_toArray,hoc]
 simp only
 rw [if_pos (by simp [Region.wanted,hg]),hset]
 exact .inl h
end
section
variable {P:Program} {τ:Ty} {lo:Nat} {w0:Fz} {st:St} {a:Act} {w:World}
def zKz (npA npB:Bool)(ops:List Oper)(c:Nat):Bool:=
 Yg npA (ops.take c) (ZZ (ops.take c))&&(VB ops (ZZ ops)&&(Zs npB ops&&(decide (c<ops.length)&&(zCC ops (ZZ ops) c&&(zCC ops (ZZ ops) (c+1)&&(jY ops&&(jL ops&&QR ops (ops.drop (c+1)).length (c+1) (qE ops.length (Array.replicate (c+1) true)))))))))
theorem Vh (npA npB:Bool)(c:Nat)(XA:Oper→St→(Dl→Prop)→Prop)(tA:List Nat)(hXA: ∀o st K,XA o st K→∃δ,vE P npA τ o st δ∧K δ)(X:Oper→(St→Prop)→St→Prop)
  (hX: ∀(lo:Nat) (w0:Fz) (st:St) (a:Act) (w:World) (o:Oper) (K:St→Prop) (Q:Exit→Act→World→Prop) (K':Act→World→Prop),(∀k,o.dst=some k→k<a.tmps.size)→Rel τ lo w0 st a w→X o K st→(∀st' x w',K st'→Rel τ lo w0 st' (a.put o.dst x) w'→K' (a.put o.dst x) w')→o.wp P a w K' Q)
  (hτ:yA P τ) (hpos:yR τ) (hmix:P.follows .mixedOrders=true) {Q:Exit→St→Prop} {id:Nat} {ops:List Oper} (hs:zKz npA npB ops c=true) (hd:yr st.n ops=true) {oc:Oper} (hoc:ops[c]? =some oc)
  (h: ∀EA:List Rec→St→Prop,(∀cs st1,chk (ops.take c) (ZZ (ops.take c)) cs=true→yr st1.n ops=true→X oc (fun st2=> ∀EB:List Rec→St→Prop,(∀cs st3,chk ops (ZZ ops) cs=true→Q .normal st3→EB cs st3)→vH P npB τ ops EB (ops.drop (c+1)) (c+1) [] (st2.start npB (ops.drop (c+1)))) st1→EA cs st1)→
   wJ XA P npA τ tA (ops.take c) EA (ops.take c) 0 [] (st.start npA (ops.take c))):awp P τ (.region id ops.toArray true) Q st:=fun lo w0 a w hr=>by
 simp only [zKz,Yg,Bool.and_eq_true,decide_eq_true_eq]at hs
 obtain⟨⟨a1,a2,a3⟩,b1,b2,hcl,c1,c2,hng,hlt,b3⟩:=hs
 have hn:a.tmps.size=st.n:=by obtain⟨ow,hd,bk,h⟩:=hr;exact h.size
 have hdr:Rel τ lo w0 st a {w with drawn:=w.drawn+1}:=by
  obtain⟨ow,hd,bk,h⟩:=hr
  exact⟨ow,hd,bk,Jq h⟩
 have hr':=Qy (np:=npA) hdr (ops.take c)
 refine wp_region_any hmix ?_
 have htake:(ops.take c).length=c:=by rw [List.length_take];omega
 have hdsub: ∀(l:List Oper),(∀o∈l,o∈ops)→∀m,yr m ops=true→yr m l=true:=fun l hl m hm=>List.all_eq_true.2 fun o ho=>List.all_eq_true.1 hm o (hl o ho)
 -- the first part
 have hlex:=(KZ hXA (A:=ZZ (ops.take c)) (Q:=fun st1=>yr st1.n ops=true∧X oc (fun st2=> ∀EB:List Rec→St→Prop,(∀cs st3,chk ops (ZZ ops) cs=true→Q .normal st3→EB cs st3)→vH P npB τ ops EB (ops.drop (c+1)) (c+1) [] (st2.start npB (ops.drop (c+1)))) st1) (ops.take c) 0 [] _ (h _ fun cs st h1 h2 h3=>⟨h1,h2,h3⟩)).2
 have hany:=Qe (fun st st' he ⟨s,h1,h2⟩=>⟨s,he.symm.trans h1,h2⟩) a1 (ops.take c) 0 [] (Array.replicate (ops.take c).length false) _ (by simp) (fun j o _ hj=>by
  rw [Array.getD_eq_getD_getElem?,Array.getElem?_replicate]at hj
  split at hj<;>simp at hj) a3 hlex
 have hfirst:=YQ (Q':=jj P ops (fun e a' w'=> ∃st',Rel τ lo w0 st' a' w'∧Q e st') (ops.length - c) (qE ops.length (Array.replicate c true))) hτ hpos a2 (fun st1 a1 w1 hq hr1=>by
   obtain⟨s,he,hds,hx⟩:=hq
   have hrs:Rel τ lo w0 s a1 w1:=xy hr1 he.cov
   show wpAny P .any ops.toArray _ (ops.length - c) _ a1 w1
   rw [show ops.length - c=(ops.length - c - 1)+1 from by omega]
   refine zI6 b1 c2 hng hlt hoc ?_
   have hna:a1.tmps.size=s.n:=by obtain⟨ow,hd,bk,h⟩:=hrs;exact h.size
   have hdo: ∀k,oc.dst=some k→k<a1.tmps.size:=fun k hk=>by
    have :=List.all_eq_true.1 hds oc (List.mem_of_getElem? hoc)
    rw [hk]at this
    rw [hna]
    simpa using this
   refine hX lo w0 s a1 w1 oc _ _ _ hdo hrs hx fun st2 x w2 hK hr2=> ?_
   have hr2':=Qy (np:=npB) hr2 (ops.drop (c+1))
   have hB:=hK (fun cs st=>chk ops (ZZ ops) cs=true∧Q .normal st) fun cs st h1 h2=>⟨h1,h2⟩
   rw [zAS (fun cs=>chk ops (ZZ ops) cs=true) (Q .normal)]at hB
   have hlexB:=(KY (ops.drop (c+1)) (c+1) [] _ _ (Eqv.refl _) hB).2
   have hlf: ∀i,i<c+1→(qE ops.length (Array.replicate (c+1) true)).getD i false=true:=fun i hi=>by
    rw [Qj,Array.getD_eq_getD_getElem?,Array.getElem?_replicate,if_pos hi];rfl
   have hanyB:=Qe (fun st st' he ⟨s,h1,h2⟩=>⟨s,he.symm.trans h1,h2⟩) b1 (ops.drop (c+1)) (c+1) [] (qE ops.length (Array.replicate (c+1) true)) _ (fun j=>by rw [List.getElem?_drop]) (fun j o ho hj e he hb=>by
    rw [Qj,Array.getD_eq_getD_getElem?,Array.getElem?_replicate]at hj
    split at hj
    ·have :=jK hlt ho he hb
     exact hlf _ (by omega)
    ·simp at hj) b3 hlexB
   have hlast:=YQ (Q':=fun e a' w'=> ∃st',Rel τ lo w0 st' a' w'∧Q e st') hτ hpos b2 (fun st' a w ⟨s,he,hq⟩ hr=>⟨s,xy hr he.cov,hq⟩) (ops.drop (c+1)).length [] (qE ops.length (Array.replicate (c+1) true)) (st2.start npB (ops.drop (c+1))) (a1.put oc.dst x) w2 (by rw [xB,hna];exact hds) (fun j o ho hj hm=>by
    have hjc:c+1≤j:=by
     rcases Nat.lt_or_ge j (c+1)with h1|h1
     ·have :=jO (hlf j h1)
      rw [hj]at this;cases this
     ·exact h1
    exact QI (j:=j - (c+1)) (by rw [List.getElem?_drop,show c+1+(j - (c+1))=j from by omega];exact ho) hm) (fun e=>by unfold St.start;rw [if_pos e];exact WG _) hr2' hanyB
   rw [show ops.length - c - 1=(ops.drop (c+1)).length from by rw [List.length_drop];omega]
   exact hlast) (ops.take c).length [] (Array.replicate (ops.take c).length false) (st.start npA (ops.take c)) a {w with drawn:=w.drawn+1} (by rw [hn];exact hdsub _ (fun o ho=>List.mem_of_mem_take ho) _ hd) (fun j o ho _ hm=>QI ho hm) (fun e=>by unfold St.start;rw [if_pos e];exact WG _) hr' hany
 have hpart:=zHK (P:=P) (Q':=fun e a' w'=> ∃st',Rel τ lo w0 st' a' w'∧Q e st') b1 (by omega) c1 hng hlt (f2:=ops.length - c) c (Array.replicate c false) a {w with drawn:=w.drawn+1} (by simp) (fun k o ho hk=>by
  rw [Qj,Array.getD_eq_getD_getElem?,Array.getElem?_replicate]at hk
  split at hk<;>simp at hk) (by rw [htake]at hfirst;exact hfirst)
 rw [show c+(ops.length - c)=ops.length from by omega]at hpart
 have hrep:qE ops.length (Array.replicate c false)=Array.replicate ops.toArray.size false:=by
  unfold qE
  refine Array.ext_getElem? fun j=> ?_
  rw [Array.getElem?_append]
  simp only [Array.size_replicate,Array.getElem?_replicate,List.size_toArray]
  repeat' split
  all_goals first|rfl|omega
 rw [hrep]at hpart
 simpa using hpart
variable {np:Bool} {ow:Nat→Option Pl} {hd:Nat→Value} {bk:Nat→Nat} {st':St}
def zDz :AV→Bool
 | .fn _ _=>false
 | .bp _ _=>false
 |_=>true
theorem zGW {e1:TypeId}{t:TypeId}{v:AV}(hp:zDz v=true)(h:AgV st st' v):Yr τ e1 st' t v=Yr τ e1 st t v:=by
 cases v<;>simp only [Yr]<;>first|(cases hp;done)|skip
 all_goals first
  |(rw [Uw h];done)
  |(
   rename_i d p i
   simp only [ZG]
   have :=h.1 d (by simp [AV.nm])
   cases p with
   |cons _ _=>rfl
   |nil=>cases i with
    |succ _=>rfl
    |zero=>simp only [this])
theorem zHm {e1:TypeId}{v:AV}(h:AgV st st' v)(hb: ∀T i cs,v= .bp T i→lk st.b T=some cs→AgV st st' (.agg cs)):ZG τ e1 st' v=ZG τ e1 st v:=by
 cases v<;>simp only [ZG]
 ·rename_i d p i
  have :=h.1 d (by simp [AV.nm])
  cases p with
  |cons _ _=>rfl
  |nil=>cases i with
   |succ _=>rfl
   |zero=>simp only [this]
 ·rename_i T i
  have h2:=h.2 T (by simp [AV.nm])
  cases i with
  |succ _=>rfl
  |zero=>
   simp only [h2]
   cases hx:lk st.b T with
   |none=>rfl
   |some cs=>simp only [YW (hb T 0 cs rfl hx)]
theorem zJQ {e1:TypeId}{t:TypeId}{v:AV}(hf:(match v with| .fn _ _=>false|_=>true)=true)(h:AgV st st' v)(hb: ∀T i cs,v= .bp T i→lk st.b T=some cs→AgV st st' (.agg cs)):Yr τ e1 st' t v=Yr τ e1 st t v:=by
 cases v<;>simp only [Yr]<;>first|(cases hf;done)|skip
 all_goals first
  |(rw [Uw h];done)
  |(rw [zHm h hb])
theorem ur {e1:TypeId}: ∀{vs:List AV} {ts:List TypeId},(∀v∈vs,∀t,Yr τ e1 st' t v=Yr τ e1 st t v)→ZF τ e1 st' ts vs=ZF τ e1 st ts vs
 | [],ts,_=>rfl
 |v::vs,ts,h=>by
  simp only [ZF]
  rw [h v List.mem_cons_self,ur (vs:=vs) fun u hu=>h u (List.mem_cons_of_mem _ hu)]
def jB (P:Program)(τ:Ty)(e1:TypeId)(o:Oper)(st:St)(K:Dl→Prop):Prop:=
 match mkF o with
 |some (f,caps)=>K ⟨.fn f (caps.map (ev st)),[],[],[]⟩
 |none=>
  match yG o with
  |some _=>False
  |none=>
   match Zm st o with
   |some (f,vs,ts)=>
    match ZF τ e1 st ts vs with
    |some (as9,ob)=>vs.all (fun v=>match v with| .fn _ _=>false|_=>true)=true∧((vs.take (vs.length - (vi o st).length)).all zDz=true)∧ob∧∃k n,FnX P τ f as9 [.c (.int k n)]∧K ⟨.int k n,[],[],[]⟩
    |none=>False
   |none=>False
theorem zJU {o:Oper}{f:FuncId}{vs:List AV}{ts:List TypeId}(hc:Zm st o=some (f,vs,ts)): ∃(args:List Operand),vs=args.map (ev st)++vi o st∧(∀x∈args,x∈ve o.op):=by
 unfold Zm at hc
 unfold vi
 cases ho:o.op with
 |call c=>
  rw [ho]at hc
  obtain⟨callee,args,ats⟩:=c
  cases callee with
  |value x=>
   simp only at hc⊢
   split at hc
   ·rename_i f' us hx
    cases hc
    rw [hx]
    exact⟨args.toList,rfl,fun y hy=>by simp [ve,Op.operands,Call.operands];exact .inr (by simpa using hy)⟩
   ·cases hc
  |_=>simp at hc
 |_=>rw [ho]at hc;simp at hc
theorem zLJ {o:Oper}(h:qK o st st'):Zm st' o=Zm st o:=by
 have he:=h.e
 unfold Zm
 cases ho:o.op with
 |call c=>
  rw [ho]at he
  obtain⟨callee,args,ats⟩:=c
  cases callee with
  |value x=>
   simp only
   rw [he x (by simp [Op.operands,Call.operands]),List.map_congr_left fun y hy=>he y (by simp [Op.operands,Call.operands];exact .inr (by simpa using hy))]
  |_=>rfl
 |_=>rfl
theorem Ju {e1:TypeId}(h1:sz τ e1=1){o:Oper}{K:Dl→Prop}(h:jB P τ e1 o st K): ∃δ,vE P np τ o st δ∧K δ:=by
 unfold jB at h
 cases hm:mkF o with
 |some y=>
  obtain⟨f,caps⟩:=y
  rw [hm]at h
  have hops: ∀x∈caps,x∈ve o.op:=fun x hx=>by
   unfold mkF at hm
   split at hm
   ·rename_i f' first caps' ho
    split at hm
    ·cases hm
     rw [ho]
     simp only [ve,Op.operands,Array.toList_append,List.mem_append]
     exact .inr hx
    ·cases hm
   ·cases hm
  refine⟨_, .inl ⟨trivial,trivial, .inr ⟨f,caps,rfl,hops⟩,rfl,rfl, .inl rfl,fun st' hag hpf lo w0 a w Q K' hdn hrel hK'=> ?_⟩,h⟩
  obtain⟨ow,hd,bk,hr⟩:=hrel
  obtain⟨z,hz,hv⟩:=Ke (P:=P) hr hm
  rw [List.map_congr_left fun x hx=>hag.e x (VP (hops x hx))]at hv
  exact zC9 hdn ⟨z,w,ow,hd,bk, .inl hz,hr,hv⟩ (wy _) hK'
 |none=>
  rw [hm]at h
  simp only at h
  cases hc:yG o with
  |some _=>rw [hc]at h;exact h.elim
  |none=>
   rw [hc]at h
   simp only at h
   cases hx:Zm st o with
   |none=>rw [hx]at h;exact h.elim
   |some y=>
    obtain⟨f,vs,ts⟩:=y
    rw [hx]at h
    simp only at h
    cases ha:ZF τ e1 st ts vs with
    |none=>rw [ha]at h;exact h.elim
    |some z=>
     obtain⟨as9,ob⟩:=z
     rw [ha]at h
     obtain⟨hnf,hpl,hob,k,n,hF,hK⟩:=h
     obtain⟨args,hvs,hargs⟩:=zJU hx
     refine⟨_, .inl ⟨trivial,trivial, .inl ⟨k,n,rfl⟩,rfl,rfl, .inl rfl,fun st' hag hpf lo w0 a w Q K' hdn hrel hK'=> ?_⟩,hK⟩
     have hax:ZF τ e1 st' ts vs=some (as9,ob):=by
      rw [←ha]
      refine ur fun v hv t=> ?_
      have hnfv:=List.all_eq_true.1 hnf v hv
      rw [hvs,List.mem_append]at hv
      rcases hv with hv|hv
      ·refine zGW ?_ ?_
       ·refine List.all_eq_true.1 hpl v ?_
        rw [hvs,List.length_append,Nat.add_sub_cancel,List.take_append_of_le_length (Nat.le_refl _),List.take_length]
        exact hv
       ·obtain⟨x,hx1,rfl⟩:=List.mem_map.1 hv
        exact hag.v (hargs x hx1)
      ·refine zJQ hnfv ?_ fun T i cs e hcs=> ?_
       ·obtain⟨x,hx1,f2,us,he,hu⟩:=ux hv
        have h2:=hag.v hx1
        rw [he]at h2
        exact⟨fun d hd=>h2.1 d (by simp only [AV.nm];exact yS.2 ⟨v,hu,hd⟩),fun t ht=>h2.2 t (by simp only [AV.nm];exact yS.2 ⟨v,hu,ht⟩)⟩
       ·subst e
        exact hag.cap hc hv hcs
     have hcall:WC P τ e1 o (fun s=>s=st'.put o.dst (.int k n)) st':=by
      unfold WC
      rw [zLJ hag,hx]
      simp only
      rw [hax]
      exact⟨hob,_,hF,by simp [szL,zu,VT.cells],rfl⟩
     exact Jt h1 hdn hrel hcall fun s x w' hs hr=>hK' x w' (xy (by rw [hs]at hr;exact hr) (wy _))
def St.cutI (ids:List Nat)(st:St):St:={st with s:=vx (AV.cut ids) st.s,b:=vx (AV.cutL ids) st.b}
theorem kb {ids:List Nat}(t:Nat)(hl: ∃cs,lk (st.cutI ids).b t=some cs): ∃cs,lk st.b t=some cs:=by
 obtain⟨cs,hcs⟩:=hl
 simp only [St.cutI,yE]at hcs
 cases hx:lk st.b t with
 |none=>rw [hx]at hcs;cases hcs
 |some u=>exact⟨u,rfl⟩
theorem zHU (h:zk τ lo w0 ow hd bk st a w)(ids:List Nat):zk τ lo w0 ow hd bk (st.cutI ids) a w:=by
 refine⟨h.big,h.defers,h.size,h.low,h.below,h.ge,h.new,fun k v hv'=> ?_,h.root,fun t vs hv'=> ?_,h.pin⟩
 ·simp only [St.cutI,yE]at hv'
  cases hx:lk st.s k with
  |none=>rw [hx]at hv';cases hv'
  |some u=>rw [hx]at hv';cases hv';exact VD (fun t=>kb t) u _ (h.slot k u hx)
 ·simp only [St.cutI,yE]at hv'
  cases hx:lk st.b t with
  |none=>rw [hx]at hv';cases hv'
  |some u=>
   rw [hx]at hv';cases hv'
   obtain⟨cs,ty,h1,h2,h3⟩:=h.box t u hx
   exact⟨cs,ty,h1,h2,wQ (fun t=>kb t) u cs h3⟩
theorem zGd {ids:List Nat}{d:Nat}(hd:d∈ids):XG d (st.cutI ids):=by
 have hc:ids.contains d=true:=by simpa using hd
 refine⟨fun k v hv hm=> ?_,fun k cs hcs hm=> ?_⟩
 ·simp only [St.cutI,yE]at hv
  cases hx:lk st.s k with
  |none=>rw [hx]at hv;cases hv
  |some u=>rw [hx]at hv;cases hv;rw [zC3 u d hm]at hc;cases hc
 ·simp only [St.cutI,yE]at hcs
  cases hx:lk st.b k with
  |none=>rw [hx]at hcs;cases hcs
  |some u=>rw [hx]at hcs;cases hcs;rw [QO u d hm]at hc;cases hc
theorem KV {ids:List Nat}{vs:List AV}{outs:List Out}: ∀{own:List Nat},qf τ (st.cutI ids) vs outs own=qf τ st vs outs own
 | []=>rfl
 |id::own=>by
  have ih:=KV (ids:=ids) (vs:=vs) (outs:=outs) (own:=own)
  simp only [qf,ih]
  rfl
def QL (P:Program)(τ:Ty)(own:List Nat)(outs:List Out)(o:Oper)(K:St→Prop)(st:St):Prop:=
 match yG o with
 |some (f,args,ts)=>
  match yv τ st ts.toList (args.toList.map (ev st)),qf τ st (args.toList.map (ev st)) outs own with
  |some (as9,ob),some (ls,ob2)=>apart (Yd own 0 (args.toList.map (ev st))) ls=true∧Xc own=true∧few as9=true∧ob∧ob2∧vb ls∧
    ∃ress,FnG P τ f as9 own outs ress∧szL τ (zu ress)∧(zu ress).length≤1000000∧K ((yi (zw o) 0 (zu ress) (vQ (st.cutI (ls.map (·.d))) ls)).put o.dst (qo (xi τ (zw o) 0 ress)))
  |_,_=>False
 |none=>False
theorem Xj {own:List Nat}{outs:List Out}{o:Oper}{K:St→Prop}{Q:Exit→Act→World→Prop}{K':Act→World→Prop}(hd: ∀k,o.dst=some k→k<a.tmps.size)(h:Rel τ lo w0 st a w)(ha:QL P τ own outs o K st)
  (hK: ∀st' x w',K st'→Rel τ lo w0 st' (a.put o.dst x) w'→K' (a.put o.dst x) w'):o.wp P a w K' Q:=by
 obtain⟨ow,hd',bk,hr⟩:=h
 unfold QL at ha
 split at ha
 ·rename_i f args ts hc
  split at ha
  ·rename_i as9 ob ls ob2 hargs hlends
   obtain⟨hap,hnd,hfew,hob,hob2,hsep,ress,⟨hcl,hcall⟩,hsz,hfl,hK1⟩:=ha
   have hev:za τ w st.r st.b hd' bk (args.toList.map (ev st)) (args.toList.map a.eval):=zp.2 ⟨by simp,fun i v x hv hx=>by
    rw [List.getElem?_map]at hv hx
    cases hk:args.toList[i]? with
    |none=>rw [hk]at hv;cases hv
    |some p=>rw [hk]at hv hx;cases hv;cases hx;exact zl hr p⟩
   have hA:=jq hr hev hargs hob hlends hob2 hsep hap hfew
   have hC:=hcall lo w (yz ow ls) _ hr.low (fun b p hb=>by
    obtain⟨d,q,ho,x,hx,-,q',-,hp⟩:=ql hb
    have hlt:b<w.heap.size:=by
     rcases Nat.lt_or_ge b w.heap.size with h'|h'
     ·exact h'
     ·rw [hr.new b h']at ho;cases ho
    exact⟨hlt,(hr.ge b _ hlt ho (by simp)).1,_,_,hp⟩) hA
   unfold Oper.wp
   rw [YV hr hc hcl]
   simp only [Oper.upon]
   refine hC.mono fun e w' hpost=> ?_
   have hev2:za τ w (st.cutI (ls.map (·.d))).r (st.cutI (ls.map (·.d))).b hd' bk (args.toList.map (ev st)) (args.toList.map a.eval):=by
    have :=yF (τ:=τ) (w:=w) (w':=w) (rr:=st.r) (rr':=st.r) (bb:=st.b) (bb':=(st.cutI (ls.map (·.d))).b) (hd:=hd') (hd':=hd') (bk:=bk) (bk':=bk) (ds:=noB) (bs:=noB) (fun d _ R hR=>⟨R,hR,rfl,fun p hp=>⟨hp,rfl⟩⟩) (fun t _ hl=>⟨kb t hl,rfl⟩) _ _ hev
    rwa [xO]at this
   obtain⟨z,ow',hd2,he,r1,r2⟩:=zD0 (zHU hr (ls.map (·.d))) hev2 (fun d ⟨x,hx,e⟩=>zGd (List.mem_map.2 ⟨x,hx,e⟩)) (by rw [KV];exact hlends) hob2 hsep (Zj hnd) (t:=zw o) hsz hfl hpost
   subst he
   exact hK _ z w' hK1 (xW r1 hd r2)
  ·exact ha.elim
 ·exact ha.elim
def WD (P:Program)(τ:Ty)(al:List Nat)(t:Nat)(own:List Nat)(outs:List Out)(all:List Oper)(K:St→Prop):List Oper→St→Prop
 | [],st=>K st
 |o::os,st=>
  match o.guard with
  |none=>if o.dst=some t then QL P τ own outs o (WD P τ al t own outs all K os) st else aop P τ al o (WD P τ al t own outs all K os) st
  |some (j,want)=>False
theorem Qf (hτ:yA P τ)(hpos:yR τ){al:List Nat}{t:Nat}{own:List Nat}{outs:List Out}{all:List Oper}{K:St→Prop}{Q:Exit→Act→World→Prop}(hQ: ∀st a w,K st→Rel τ lo w0 st a w→Q .normal a w):
  ∀(os:List Oper) (st:St) (a:Act) (w:World),yr a.tmps.size os=true→Rel τ lo w0 st a w→WD P τ al t own outs all K os st→wpList P all.toArray Q os a w
 | [],st,a,w,_,h,ha=>wpList_nil (hQ st a w ha h)
 |o::os,st,a,w,hd,h,ha=>by
  have hd1: ∀k,o.dst=some k→k<a.tmps.size:=fun k hk=>by
   have :=List.all_eq_true.1 hd o (by simp)
   rw [hk]at this
   simpa using this
  have hd2:yr a.tmps.size os=true:=List.all_eq_true.2 fun x hx=>List.all_eq_true.1 hd x (by simp [hx])
  refine wpList_step fun K' hK'=> ?_
  simp only [WD]at ha
  split at ha
  ·rename_i hg
   rw [if_pos (by simp [Region.wanted,hg])]
   split at ha
   ·exact Xj hd1 h ha fun st' x w' h1 h2=>hK' _ _ (Qf hτ hpos hQ os st' _ w' (by rw [xB];exact hd2) h2 h1)
   ·exact wN hτ hpos hd1 h ha fun st' x w' h1 h2=>hK' _ _ (Qf hτ hpos hQ os st' _ w' (by rw [xB];exact hd2) h2 h1)
  ·exact ha.elim
theorem Jz {Q:Exit→St→Prop}(t:Nat)(own:List Nat)(outs:List Out)(hτ:yA P τ)(hpos:yR τ)(al:List Nat){id:Nat}{ops:List Oper}(hd:yr st.n ops=true)(h:WD P τ al t own outs ops (Q .normal) ops st):awp P τ (.region id ops.toArray false) Q st:=fun lo w0 a w hr=>by
 have hn:a.tmps.size=st.n:=by obtain⟨ow,hd,bk,h⟩:=hr;exact h.size
 refine wp_region_lit (Qf hτ hpos (fun st a w h1 h2=>⟨st,h2,h1⟩) ops st a w (by rw [hn];exact hd) hr h)
end
attribute [push_cast] St.cutI QL WD vQ jB zDz Zm ZF Yr ZG XV mkF
section
variable {P:Program} {τ:Ty} {lo:Nat} {w0:Fz} {ow:Nat→Option Pl} {hd:Nat→Value} {bk:Nat→Nat} {st:St} {a:Act} {w:World}
def jE (P:Program)(τ:Ty)(al:List Nat)(X:Oper→(St→Prop)→St→Prop)(t:Option Nat)(K:St→Prop):List Oper→St→Prop
 | [],st=>K st
 |o::os,st=>
  match o.guard with
  |none=>if o.dst=t then X o (jE P τ al X t K os) st else aop P τ al o (jE P τ al X t K os) st
  |some (j,want)=>False
def ue (P:Program)(τ:Ty)(X:Oper→(St→Prop)→St→Prop):Prop:=
 ∀{lo:Nat} {w0:Fz} {st:St} {a:Act} {w:World} {o:Oper} {K:St→Prop} {Q:Exit→Act→World→Prop} {K':Act→World→Prop},(∀k,o.dst=some k→k<a.tmps.size)→Rel τ lo w0 st a w→X o K st→
  (∀st' x w',K st'→Rel τ lo w0 st' (a.put o.dst x) w'→K' (a.put o.dst x) w')→o.wp P a w K' Q
theorem Vc (hτ:yA P τ)(hpos:yR τ){al:List Nat}{X:Oper→(St→Prop)→St→Prop}(hX:ue P τ X){t:Option Nat}{all:List Oper}{K:St→Prop}{Q:Exit→Act→World→Prop}(hQ: ∀st a w,K st→Rel τ lo w0 st a w→Q .normal a w):
  ∀(os:List Oper) (st:St) (a:Act) (w:World),yr a.tmps.size os=true→Rel τ lo w0 st a w→jE P τ al X t K os st→wpList P all.toArray Q os a w
 | [],st,a,w,_,h,ha=>wpList_nil (hQ st a w ha h)
 |o::os,st,a,w,hd,h,ha=>by
  have hd1: ∀k,o.dst=some k→k<a.tmps.size:=fun k hk=>by
   have :=List.all_eq_true.1 hd o (by simp)
   rw [hk]at this
   simpa using this
  have hd2:yr a.tmps.size os=true:=List.all_eq_true.2 fun x hx=>List.all_eq_true.1 hd x (by simp [hx])
  refine wpList_step fun K' hK'=> ?_
  simp only [jE]at ha
  split at ha
  ·rename_i hg
   rw [if_pos (by simp [Region.wanted,hg])]
   split at ha
   ·exact hX hd1 h ha fun st' x w' h2 h3=>hK' _ _ (Vc hτ hpos @hX hQ os st' _ w' (by rw [xB];exact hd2) h3 h2)
   ·exact wN hτ hpos hd1 h ha fun st' x w' h2 h3=>hK' _ _ (Vc hτ hpos @hX hQ os st' _ w' (by rw [xB];exact hd2) h3 h2)
  ·exact ha.elim
end
theorem Qh {P:Program}{τ:Ty}{Q:Exit→St→Prop}{st:St}(X:Oper→(St→Prop)→St→Prop)(hX:ue P τ X)(t:Option Nat)(hτ:yA P τ)(hpos:yR τ)(al:List Nat){id:Nat}{ops:List Oper}(hd:yr st.n ops=true)(h:jE P τ al X t (Q .normal) ops st):awp P τ (.region id ops.toArray false) Q st:=fun lo w0 a w hr=>by
 have hn:a.tmps.size=st.n:=by obtain⟨ow,hd,bk,h⟩:=hr;exact h.size
 refine wp_region_lit (Vc hτ hpos @hX (fun st a w h1 h2=>⟨st,h2,h1⟩) ops st a w (by rw [hn];exact hd) hr h)
attribute [push_cast] jE
set_option pp.deepTerms true
set_option pp.maxSteps 1000000
def zT (k:Nat):List Int:=(List.range k).map Int.ofNat
theorem zIM (k:Nat):zT (k+1)=zT k++ [(k:Int)]:=by unfold zT;rw [List.range_succ,List.map_append];rfl
theorem Ww (k:Nat):(zT k).length=k:=by simp [zT]
theorem zJh {k:Nat}(h:k≤4):vh (zT k) (k:Int)=true:=by
 refine zIj ⟨⟨by omega,by omega⟩,by rw [Ww]⟩ (fun x hx=> ?_) ?_
 ·unfold zT at hx
  obtain⟨j,hj,rfl⟩:=List.mem_map.1 hx
  have :=List.mem_range.1 hj
  show 0≤(j:Int)∧(j:Int)<k
  omega
 ·unfold zT
  rw [List.Nodup,List.pairwise_map]
  exact List.Pairwise.imp (fun{a b} h e=>h (Int.ofNat.inj e)) List.nodup_range
def rcR (ps:List Pr)(p:Plc):List Int:=nxL ps p.record p.at_
def prR (ps:List Pr)(p:Plc):Int:=qD ps p.record p.at_
def rgC (a:Ar)(ps:List Pr)(s:Int):Bool:=yK a&&(arB ps a.owner.length&&decide (0≤s∧s≤(a.owner.length:Int) - 1))
def rgB (a:Ar)(ps:List Pr)(s:Int):Bool:=rgC a ps s&&okQ (usA a) (rcR ps) ⟨s,zT ps.length⟩
def rgG (a:Ar)(ps:List Pr)(s:Int):Pa:=gmR a (rcR ps) (prR ps) ⟨s,zT ps.length⟩ (rgC a ps s)
def rgP (a:Ar)(ps:List Pr)(s:Int):List Plc:=plR a (rcR ps) ⟨s,zT ps.length⟩ (rgC a ps s)
theorem zMv {ps:List Pr}{n:Int}(h:arB ps n=true):ps.length≤4:=by
 unfold arB at h
 rw [Bool.and_eq_true,decide_eq_true_eq]at h
 exact h.1
theorem vN {a:Ar}{ps:List Pr}{s:Int}(h:rgC a ps s=true):yK a=true∧ps.length≤4∧Qa a (rcR ps) ⟨s,zT ps.length⟩ (fun r=>vh r ps.length=true) 4:=by
 unfold rgC at h
 rw [Bool.and_eq_true,Bool.and_eq_true,decide_eq_true_eq]at h
 obtain⟨h1,h2,h3⟩:=h
 have h4:=zMv h2
 exact⟨h1,h4,⟨⟨h3.1,by show s<_;omega,zJh h4⟩,fun p _ _ h=>zKJ h,fun r hr=>by have :=(qU hr).1;omega⟩⟩
theorem zAg {a:Ar}{ps:List Pr}{s:Int}:(rgG a ps s).Ln 1048576:=zIG (V:=fun r=>vh r ps.length=true) (B:=4) fun h=>⟨(vN h).1,(vN h).2.2⟩
theorem zF0 {a:Ar}{ps:List Pr}{s:Int}:QLn 1048576 (rgP a ps s):=zIe (V:=fun r=>vh r ps.length=true) (B:=4) (by decide) fun h=>⟨(vN h).1,(vN h).2.2⟩
theorem zN3 {a:Ar}{ps:List Pr}{s:Int}(h:rgC a ps s=false):rgB a ps s=false∧rgG a ps s=⟨⟨[],[]⟩,[]⟩∧rgP a ps s= []:=by
 have :(rgC a ps s&&okQ (usA a) (rcR ps) ⟨s,zT ps.length⟩)=false:=by rw [h];rfl
 exact⟨this,KO this,Kk this⟩
theorem zIm {a:Ar}{ps:List Pr}{s:Int}(h:okQ (usA a) (rcR ps) ⟨s,zT ps.length⟩=false):rgB a ps s=false∧rgG a ps s=⟨⟨[],[]⟩,[]⟩∧rgP a ps s= []:=by
 have :(rgC a ps s&&okQ (usA a) (rcR ps) ⟨s,zT ps.length⟩)=false:=by rw [h,Bool.and_false]
 exact⟨this,KO this,Kk this⟩
theorem zFx {a:Ar}{ps:List Pr}{s:Int}(h:yK a=false):rgC a ps s=false:=by unfold rgC;rw [h];rfl
theorem zFy {a:Ar}{ps:List Pr}{s:Int}(h:arB ps a.owner.length=false):rgC a ps s=false:=by unfold rgC;rw [h,Bool.false_and,Bool.and_false]
theorem zFz {a:Ar}{ps:List Pr}{s:Int}(h: ¬(0≤s∧s≤(a.owner.length:Int) - 1)):rgC a ps s=false:=by unfold rgC;rw [decide_eq_false h,Bool.and_false,Bool.and_false]
theorem zAf {a:Ar}{ps:List Pr}{s:Int}(h1:yK a=true)(h2:arB ps a.owner.length=true)(h3:0≤s∧s≤(a.owner.length:Int) - 1):rgC a ps s=true:=by unfold rgC;rw [h1,h2,decide_eq_true h3];rfl
theorem JJ : ∀(N:Nat) (l:List Nat),l.Nodup→(∀x∈l,x<N)→l.length≤N
 |0,l,_,h=>by
  cases l with
  |nil=>simp
  |cons x l=>have :=h x List.mem_cons_self;omega
 |N+1,l,hn,h=>by
  have h1:=List.length_eq_countP_add_countP (p:=fun x=>x==N) (l:=l)
  have h2:l.countP (fun x=>x==N)≤1:=List.nodup_iff_count.1 hn N
  have h4:=JJ N (l.filter (fun x=> !(x==N))) (hn.filter _) fun x hx=>by
   have h5:=List.mem_filter.1 hx
   have h6:=h x h5.1
   have h7: ¬x=N:=by simpa using h5.2
   omega
  have h3:(l.filter (fun x=> !(x==N))).length=l.countP (fun x=> !(x==N)):=(List.countP_eq_length_filter ..).symm
  have h8:l.countP (fun x=>decide ¬(x==N)=true)=l.countP (fun x=> !(x==N)):=by
   congr 1
   funext x
   by_cases e:x=N<;>simp [e]
  omega
theorem Yt {xs:List Int}{y:Int}{j:Nat}(h:j<xs.length+1):gi (xs++ [y]) j=if j=xs.length then y else gi xs j:=by
 by_cases e:j=xs.length
 ·subst e;rw [if_pos rfl,zH8]
 ·rw [if_neg e,WH (by omega)]
def goP (a:Ar)(even odd:List Int)(v:Int):Int:=if gi a.owner v.toNat=0 then gi even v.toNat else gi odd v.toNat
structure kW (a:Ar)(even odd:List Int)(v0:Int)(met:List Int)(v:Int):Prop where
 rg: ∀j,j<met.length→0≤gi met j∧gi met j<a.owner.length
 ne: ∀j,j<met.length→∀i,i<j→¬gi met i=gi met j
 go: ∀j,j+1<met.length→gi met (j+1)=goP a even odd (gi met j)
 last:1≤met.length→v=goP a even odd (gi met (met.length - 1))
 f0:met.length=0→v=v0
 f1:1≤met.length→gi met 0=v0
 hv:0≤v∧v<a.owner.length
theorem kW.start {a:Ar}{even odd:List Int}{v0:Int}(h:0≤v0∧v0<a.owner.length):kW a even odd v0 [] v0:=
 ⟨fun j hj=>by simp at hj,fun j hj=>by simp at hj,fun j hj=>by simp at hj,fun h=>by simp at h,fun _=>rfl,fun h=>by simp at h,h⟩
theorem kW.next {a:Ar}{even odd:List Int}{v0:Int}{met:List Int}{v:Int}(h:kW a even odd v0 met v)(hn:zr met v=false)(hg:0≤goP a even odd v∧goP a even odd v<a.owner.length):kW a even odd v0 (met++ [v]) (goP a even odd v):=by
 have hne: ∀i,i<met.length→¬gi met i=v:=fun i hi e=>by
  have h1:v∈met:=by rw [←e];exact List.mem_of_getElem? (wC hi)
  rw [←yD]at h1
  rw [h1]at hn
  cases hn
 have hl:(met++ [v]).length=met.length+1:=by simp
 refine⟨fun j hj=> ?_,fun j hj i hi=> ?_,fun j hj=> ?_,fun _=> ?_,fun e=>by rw [hl]at e;omega,fun _=> ?_,hg⟩
 ·rw [hl]at hj
  rw [Yt hj]
  split
  ·exact h.hv
  ·exact h.rg j (by omega)
 ·rw [hl]at hj
  rw [Yt hj,Yt (by omega),if_neg (by omega)]
  split
  ·exact hne i (by omega)
  ·exact h.ne j (by omega) i hi
 ·rw [hl]at hj
  rw [Yt (j:=j+1) (by omega),Yt (j:=j) (by omega),if_neg (show ¬j=met.length by omega)]
  split
  ·have h5:=h.last (by omega)
   rw [show met.length - 1=j from by omega]at h5
   exact h5
  ·exact h.go j (by omega)
 ·rw [hl,Nat.add_sub_cancel,Yt (j:=met.length) (by omega),if_pos rfl]
 ·rw [Yt (by omega)]
  split
  ·exact h.f0 (by omega)
  ·exact h.f1 (by omega)
theorem zBg {f:Nat→Nat}: ∀n,(∀i j,i<j→j<n→f i≠f j)→((List.range n).map f).Nodup
 |0,_=>by simp
 |n+1,h=>by
  rw [List.range_succ,List.map_append,List.nodup_append]
  refine⟨zBg n fun i j hij hj=>h i j hij (by omega),by simp,fun x hx y hy=> ?_⟩
  obtain⟨i,hi,rfl⟩:=List.mem_map.1 hx
  have hy2:y=f n:=by simpa using hy
  rw [hy2]
  exact h i n (List.mem_range.1 hi) (by omega)
theorem kW.le {a:Ar}{even odd:List Int}{v0:Int}{met:List Int}{v:Int}(h:kW a even odd v0 met v):met.length≤a.owner.length:=by
 have hl:((List.range met.length).map fun j=>(gi met j).toNat).length=met.length:=by simp
 rw [←hl]
 refine JJ _ _ (zBg _ fun i j hij hj=> ?_) fun x hx=> ?_
 ·have h1:=h.ne j hj i hij
  have h2:=h.rg i (by omega)
  have h3:=h.rg j hj
  omega
 ·obtain⟨j,hj,rfl⟩:=List.mem_map.1 hx
  have :=h.rg j (List.mem_range.1 hj)
  omega
structure PlayP (a:Ar)(even odd:List Int)(v0:Int)(l:Ls):Prop where
 ok:zNh a l=true
 first:gi (Jf l) 0=v0
 rg: ∀i,i≤l.stem.length+l.loop.length→0≤gi (Jf l) i∧gi (Jf l) i<a.owner.length
 go: ∀i,i<l.stem.length+l.loop.length→gi (Jf l) (i+1)=goP a even odd (gi (Jf l) i)
 last:gi (Jf l) (l.stem.length+l.loop.length)=gi (Jf l) l.stem.length
 pos:1≤l.loop.length
 len:l.stem.length+l.loop.length≤a.owner.length
section
variable {a:Ar} {ps:List Pr} {s:Int}
theorem Kn (h:rgB a ps s=true):rgC a ps s=true∧okQ (usA a) (rcR ps) ⟨s,zT ps.length⟩=true:=by
 unfold rgB at h
 rw [Bool.and_eq_true]at h
 exact h
theorem zD6 (h:rgB a ps s=true):rgG a ps s=gmA a (rcR ps) (prR ps) ⟨s,zT ps.length⟩ (plA a (rcR ps) ⟨s,zT ps.length⟩).length∧rgP a ps s=plA a (rcR ps) ⟨s,zT ps.length⟩:=by
 obtain⟨h1,h2⟩:=Kn h
 unfold rgG rgP gmR plR
 rw [h1,h2,Bool.and_self,if_pos rfl,if_pos rfl]
 unfold plA
 exact⟨Eq.refl _,Eq.refl _⟩
theorem zKw {p:Plc}{k:Nat}(h:vh p.record (k:Int)=true):0≤prR ps p∧prR ps p≤40:=by
 have h1:=(qU h).1
 have h2:=zKC ps p.record p.at_
 unfold prR
 omega
theorem Xe (h:rgB a ps s=true):qI (rgG a ps s)=true:=by
 obtain⟨h1,h2⟩:=Kn h
 obtain⟨k1,k2,k3⟩:=vN h1
 rw [(zD6 h).1]
 exact zBO k1 k3 h2 fun p _ _ hp=>zKw hp
end
theorem Um (code:List Int)(seed:Int)(j:Nat): ∀n,∀x∈wsL code seed j n,0≤x∧x<(n:Int)
 |0,x,h=>by rw [zHM]at h;cases h
 |n+1,x,h=>by
  by_cases hd:dv code seed (j+n) 3=0
  ·rw [zAq hd,List.mem_append,List.mem_singleton]at h
   rcases h with h|rfl
   ·have :=Um code seed j n x h;omega
   ·omega
  ·rw [zEW hd]at h
   have :=Um code seed j n x h;omega
theorem zEX (code:List Int)(seed:Int)(j:Nat): ∀n,(wsL code seed j n).Pairwise (· < ·)
 |0=>by rw [zHM];exact List.Pairwise.nil
 |n+1=>by
  by_cases hd:dv code seed (j+n) 3=0
  ·rw [zAq hd,List.pairwise_append]
   refine⟨zEX code seed j n,List.pairwise_singleton _ _,fun x hx y hy=> ?_⟩
   have :=Um code seed j n x hx
   have hy2:y=n:=by simpa using hy
   omega
  ·rw [zEW hd];exact zEX code seed j n
theorem zAp (code:List Int)(seed:Int)(j n:Nat):zv (wsL code seed j n) (n:Int)=true:=Xf (zEX code seed j n) (Um code seed j n)
theorem zGE (code:List Int)(seed:Int)(n j:Nat): ∀t,∀p∈wpL code seed n j t,zv p.ask (n:Int)=true∧zv p.give (n:Int)=true
 |0,p,h=>by rw [zHL]at h;cases h
 |t+1,p,h=>by
  rw [zCO,List.mem_append,List.mem_singleton]at h
  rcases h with h|rfl
  ·exact zGE code seed n j t p h
  ·exact⟨zAp _ _ _ _,zAp _ _ _ _⟩
theorem zOR {code:List Int}(hby:qF code)(seed:Int)(j n:Nat){most:Int}(hm:0≤most∧most≤4):arB (wpP code seed n j most) (n:Int)=true∧(wpP code seed n j most).length≤most.toNat:=by
 have h1:=XK hby seed j (n:=most+1) (by omega)
 have h2:(wpP code seed n j most).length=wpK code seed j most:=jm ..
 have h3:wpK code seed j most≤most.toNat:=by unfold wpK;omega
 refine⟨?_,by omega⟩
 rw [Uu fun i hi=> ?_]
 ·exact decide_eq_true (by omega)
 ·have :=zGE code seed n (j+1) _ _ (zDR hi)
  exact JR this.1 this.2
theorem zLv {p:Plc→Bool}{ps:List Plc}(h:ixQ p ps<0): ∀q∈ps,p q=false:=by
 unfold ixQ at h
 split at h
 ·omega
 ·rename_i h1
  intro q hq
  cases hb:p q with
  |false=>rfl
  |true=>exact absurd (List.findIdx_lt_length.2 ⟨q,hq,hb⟩) h1
theorem zF3 {r us:List Int}{ps:List Plc}(h:ps.Nodup): ∀{k:Nat},k≤us.length→(zn r us ps k).1.Nodup
 |0,_=>h
 |k+1,hk=>by
  have ih:=zF3 (r:=r) (us:=us) h (k:=k) (by omega)
  by_cases h2:ixQ (yw (gi us k) r) (zn r us ps k).1<0
  ·rw [va (by omega) h2]
   show((zn r us ps k).1++ [_]).Nodup
   rw [List.nodup_append]
   refine⟨ih,by simp,fun x hx y hy e=> ?_⟩
   have hy2:y=⟨gi us k,r⟩:=by simpa using hy
   have h3:=zLv h2 x hx
   rw [e,hy2,zBo (p:=⟨gi us k,r⟩) (u:=gi us k) (r:=r) rfl rfl]at h3
   cases h3
  ·rw [wA (by omega) h2];exact ih
theorem zEJ {us rc:Plc→List Int}{p0:Plc}: ∀i,(stQ us rc p0 i).Nodup
 |0=>by show [p0].Nodup;simp
 |i+1=>by
  have ih:=zEJ (us:=us) (rc:=rc) (p0:=p0) i
  by_cases h:i<(stQ us rc p0 i).length
  ·rw [ZV h];exact zF3 ih (Nat.le_refl _)
  ·rw [Qu h];exact ih
def dig :List Int→Nat
 | []=>0
 |x::r=>x.toNat+3*dig r
theorem zHu : ∀(r:List Int),(∀x∈r,0≤x∧x<3)→dig r<3^r.length
 | [],_=>by decide
 |x::r,h=>by
  have h1:=zHu r fun y hy=>h y (List.mem_cons_of_mem _ hy)
  have h2:=h x List.mem_cons_self
  show x.toNat+3*dig r<3^(r.length+1)
  rw [Nat.pow_succ]
  omega
theorem zFb : ∀(r s:List Int),r.length=s.length→(∀x∈r,0≤x∧x<3)→(∀x∈s,0≤x∧x<3)→dig r=dig s→r=s
 | [],[],_,_,_,_=>rfl
 | [],_::_,h,_,_,_=>by cases h
 |_::_,[],h,_,_,_=>by cases h
 |x::r,y::s,hl,hr,hs,e=>by
  have h1:=hr x List.mem_cons_self
  have h2:=hs y List.mem_cons_self
  have e2:x.toNat+3*dig r=y.toNat+3*dig s:=e
  have h3:=zFb r s (by simpa using hl) (fun z hz=>hr z (List.mem_cons_of_mem _ hz)) (fun z hz=>hs z (List.mem_cons_of_mem _ hz)) (by omega)
  rw [h3,show x=y by omega]
theorem zGf {r:List Int}{k:Nat}(h:vh r (k:Int)=true)(hk:k≤3):dig r<27:=by
 obtain⟨h1,h2,-⟩:=Xd h
 have h3:=zHu r fun x hx=>by have :=h2 x hx;omega
 have h4:3^r.length≤3^3:=Nat.pow_le_pow_right (by decide) (by omega)
 omega
section
variable {a:Ar} {ps:List Pr} {s:Int}
theorem zN2 (hc:rgC a ps s=true)(hn:a.owner.length≤6)(hk:ps.length≤3):okQ (usA a) (rcR ps) ⟨s,zT ps.length⟩=true:=by
 obtain⟨h1,h2,h3⟩:=vN hc
 have hall:=vD h1 h3 257
 have hnd:=zEJ (us:=usA a) (rc:=rcR ps) (p0:=⟨s,zT ps.length⟩) 257
 have hl:((stQ (usA a) (rcR ps) ⟨s,zT ps.length⟩ 257).map fun p=>p.at_.toNat*27+dig p.record).length≤162:=by
  refine JJ _ _ (List.pairwise_map.2 (List.Pairwise.imp_of_mem (fun{p q} hp hq hne e=> ?_) hnd)) fun x hx=> ?_
  ·apply hne
   have k1:=hall p hp
   have k2:=hall q hq
   have d1:=zGf k1.2.2 hk
   have d2:=zGf k2.2.2 hk
   have r1:=Xd k1.2.2
   have r2:=Xd k2.2.2
   have e1:dig p.record=dig q.record:=by omega
   have e2:=zFb _ _ (by omega) (fun x hx=>by have :=r1.2.1 x hx;omega) (fun x hx=>by have :=r2.2.1 x hx;omega) e1
   obtain⟨pa,pr⟩:=p
   obtain⟨qa,qr⟩:=q
   simp only at e2 e k1 k2
   subst e2
   rw [show pa=qa by omega]
  ·obtain⟨p,hp,rfl⟩:=List.mem_map.1 hx
   have k1:=hall p hp
   have d1:=zGf k1.2.2 hk
   show p.at_.toNat*27+dig p.record<162
   omega
 rw [List.length_map]at hl
 unfold okQ
 exact decide_eq_true (by omega)
theorem zMH (hc:rgC a ps s=true)(hn:a.owner.length≤6)(hk:ps.length≤3):rgB a ps s=true:=by
 unfold rgB
 rw [hc,zN2 hc hn hk]
 rfl
theorem Uz {ps:List Pr}{met:List Int}:(bkN ps met ps.length).length=0↔∀x,x<ps.length→vg (gp ps x).ask met=true→vg (gp ps x).give met=true:=by
 unfold bkN
 rw [List.length_map,List.length_eq_zero_iff,List.filter_eq_nil_iff]
 constructor
 ·intro h x hx ha
  have :=h x (List.mem_range.2 hx)
  unfold bkB at this
  rw [ha]at this
  cases hb:vg (gp ps x).give met with
  |true=>rfl
  |false=>rw [hb]at this;exact absurd rfl this
 ·intro h x hx hb
  have hx2:=List.mem_range.1 hx
  unfold bkB at hb
  rw [Bool.and_eq_true]at hb
  rw [h x hx2 hb.1]at hb
  exact absurd hb.2 (by decide)
end
end Go.Proofs.YthepmdkpbjfdcaaGreat
