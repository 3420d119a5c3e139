/- Functions whose result is a struct with cells of the first argument: their contracts; such calls in drawn regions. -/
import Derived.Test.YthepmdkpbjfdcaaGreatGEzfw
import Derived.Test.YthepmdkpbjfdcaaGreatB9zfw
import Derived.Lib.SliceRun
import Derived.ArgAppend
namespace Go.Proofs.YthepmdkpbjfdcaaGreat
open Go.RowKit
set_option linter.unusedVariables false
set_option linter.unusedSimpArgs false
section
variable {P:Program} {np:Bool} {τ:Ty} {lo:Nat} {w0:Fz} {ow:Nat→Option Pl} {hd:Nat→Value} {bk:Nat→Nat} {st:St} {a:Act} {w:World}
def Vq (τ:Ty)(st:St):List Nat→List AV→Prop
 | [],us=>us= []
 |_::_,[]=>False
 |i::pm,u::us=>(match u with
  | .sl d [] 0 len e=>d=zY 0 i∧(match lk st.r d with|some R=>R.pin=some d∧R.e=e∧len*sz τ e=R.xs.length|none=>False)∧0<sz τ e
  |_=>False)∧Vq τ st pm us
theorem KD (h:zd τ lo w0 ow hd bk st a w){pin:Nat→Value}(hpin: ∀id,w0.pin id=some (pin id)): ∀{pm:List Nat} {us:List AV} {cs:List Value},Vq τ st pm us→zZ τ w st.r st.b hd bk us cs→cs.length=pm.length∧∀(i j:Nat) (c:Value),pm[i]? =some j→cs[i]? =some c→c=pin (zY 0 j)
 | [],us,cs,ho,hv=>by
  simp only [Vq]at ho
  subst ho
  simp only [zZ]at hv
  subst hv
  exact⟨rfl,fun i j c h=>by simp at h⟩
 |j0::pm,[],cs,ho,hv=>by simp only [Vq]at ho
 |j0::pm,u::us,cs,ho,hv=>by
  simp only [zZ]at hv
  obtain⟨c0,cs',rfl,h1,h2⟩:=hv
  simp only [Vq]at ho
  obtain⟨k1,k2⟩:=KD h hpin ho.2 h2
  refine⟨by simp [k1],fun i j c hj hc=> ?_⟩
  cases i with
  |succ i=>exact k2 i j c (by simpa using hj) (by simpa using hc)
  |zero=>
   simp at hc hj
   subst hc;subst hj
   have ho1:=ho.1
   split at ho1
   ·rename_i d len e
    obtain⟨rfl,q1,q2⟩:=ho1
    split at q1
    ·rename_i R hR
     obtain⟨p1,p2,p3⟩:=q1
     simp only [AvR]at h1
     obtain⟨-,hx⟩:=h1
     obtain⟨hv2,hin,A,n,c,A',c',hnw,e1,e2,hle,hlc,hmx,hf0,hA⟩:=hx R hR (by simp [zk])
     simp only [yC,Option.some.injEq]at hin
     obtain⟨rfl,rfl⟩:=hf0 rfl
     have hp:=h.pin _ R _ hR p1
     rw [hpin]at hp
     have hp':pin (zY 0 j0)=hd (zY 0 j0):=Option.some.inj hp
     have hroot:=h.root _ R hR
     rw [hin,e1]at hroot
     obtain⟨A2,n2,c2,hf,hlen,-⟩:=xG hroot
     cases hf
     rw [p2]at hlen
     have :len=n:=Nat.eq_of_mul_eq_mul_right q2 (by omega)
     subst this
     rw [hp',hin,e1,e2]
    ·exact q1.elim
   ·exact ho1.elim
def RetT (τ:Ty)(rs:List ResultVar)(pm:List Nat)(ress:List D)(e:Exit)(st:St):Prop:=(e= .ret∨e= .normal)∧
 match yB τ st rs with
 |some ([.agg us],ob)=>ob∧pm.length≤us.length∧Vq τ st pm (us.take pm.length)∧(match ql τ st ress (us.drop pm.length)with|some (is,ob2)=>YJ is=true∧ob2|none=>False)
 |_=>False
theorem zIc (hτ:zx P τ)(hpos:yO τ){f:FuncId}{fn:Func}{c:Code}{rs:List ResultVar}{ds0:List D}{args:List VT}{pm:List Nat}{ress:List D}(hfn:P.funcs[f]? =some fn)(hname:(fn.name== "runtime.NumGoroutine")=false)(hb:fn.body=some c)(hres:fn.results=rs.toArray)(hn:(.agg ds0::args:List VT).length≤fn.ntmps)(hfew:few (.agg ds0::args)=true)(hs:szA τ (.agg ds0::args))(hm:(pm.all fun i=>decide (i<ds0.length))=true)
  (h:awp P τ c (RetT τ rs pm ress) (wB τ fn.ntmps (.agg ds0::args))):FnT P τ f (.agg ds0::args) pm ress:=by
 refine⟨⟨fn,hfn,hname,by rw [hb];rfl⟩,fun w cargs hargs=> ?_⟩
 have hstart:Rel τ w.heap.size _ (wB τ fn.ntmps (.agg ds0::args)) {tmps:=cargs.toArray++Array.replicate (fn.ntmps - cargs.toArray.size) undef,defers:= []} w:=⟨_,_,_,zAH hs hfew hn hargs⟩
 obtain⟨v0,vs0,hc0,⟨cs0,rfl,hr0⟩,-⟩:=id hargs
 refine calls_of_wp hfn hb (Go.wp_mono (h w.heap.size _ _ w hstart) fun e a' w' ⟨st',⟨ow,hd,bk,hr⟩,he,hret0⟩=> ?_)
 have hpost:a'.defers= []∧∃v,(results fn a'.tmps).run P w'= .ok v w'∧zC6 τ w pm ress cargs (.returned v) w':=by
  split at hret0
  ·rename_i us ob0 hrv
   obtain⟨hob0,hml,hsh,hret⟩:=hret0
   obtain⟨xs,hrun,hv⟩:=qk hτ hpos hr hres hrv hob0
   simp only [zZ,AvR]at hv
   obtain⟨x,xs',rfl,⟨cs,rfl,hcs⟩,rfl⟩:=hv
   refine⟨hr.defers,_,hrun,?_⟩
   obtain⟨s1,s2⟩:=Kt pm.length hcs
   obtain⟨p1,p2⟩:=KD hr (fun id=>rfl) hsh s1
   split at hret
   ·rename_i is ob hcells
    obtain⟨m1,m2⟩:=qg hr hcells hret.2 hret.1 s2
    have hlen0:cs0.length=ds0.length:=by
     have key: ∀(ds:List D) (cs:List Value),RpS (sz τ) w.heap.size w (fun _=>none) ds cs→cs.length=ds.length:=by
      intro ds
      induction ds with
      |nil=>intro cs h;simp only [RpS]at h;subst h;rfl
      |cons d ds ih=>intro cs h;simp only [RpS]at h;obtain⟨c,cs',rfl,-,h2⟩:=h;simp [ih cs' h2]
     exact key _ _ hr0
    have htake:cs.take pm.length=wl pm undef cs0:=by
     refine List.ext_getElem? fun i=> ?_
     rcases Nat.lt_or_ge i pm.length with hi|hi
     ·have hu:(cs.take pm.length)[i]? =some ((cs.take pm.length)[i]'(by omega)):=List.getElem?_eq_getElem _
      have hpi:pm[i]? =some pm[i]:=List.getElem?_eq_getElem hi
      have :=p2 i _ _ hpi hu
      have hlt:pm[i]<ds0.length:=by simpa using List.all_eq_true.1 hm pm[i] (List.getElem_mem hi)
      have hsel:(wl pm undef cs0)[i]? =some (cs0.getD pm[i] undef):=by unfold wl;rw [List.getElem?_map,hpi];rfl
      rw [hu,this,hsel]
      have h16:ds0.length≤16:=by exact of_decide_eq_true (List.all_eq_true.1 hfew (.agg ds0) (by simp))
      have e1:zY 0 pm[i] / 16=0:=by unfold zY;omega
      have e2:zY 0 pm[i]%16=pm[i]:=by unfold zY;omega
      simp only [yE,e1,e2,hc0,List.getElem?_cons_zero]
      have hic:pm[i]<cs0.length:=by omega
      rw [List.getD_eq_getElem?_getD,List.getElem?_eq_getElem hic]
      simp [hic]
     ·rw [List.getElem?_eq_none (by omega),List.getElem?_eq_none (by unfold wl;rw [List.length_map];exact hi)]
    refine⟨cs0,cs.drop pm.length,xI ow is,by rw [hc0];rfl,by rw [←htake,List.take_append_drop];rfl,⟨hr.below.os,hr.below.tape,hr.below.output,hr.below.size,fun b hb=>hr.below.block b hb trivial⟩,fun b hlt=> ?_,fun b p hp=> ?_,zD0 m1 fun i d c hd hc=>by rw [Nat.zero_add];exact m2 i d c hd hc⟩
    ·unfold xI
     split
     ·rename_i d q ho
      have :=(hr.ge b _ (by have :=hr.below.size;simp only at this;omega) ho (by simp)).1
      omega
     ·rfl
    ·unfold xI at hp
     split at hp
     ·rename_i d q ho
      split at hp
      ·cases hp
       refine⟨?_,by simp⟩
       rcases Nat.lt_or_ge b w'.heap.size with h'|h'
       ·exact h'
       ·rw [hr.new b h']at ho;cases ho
      ·cases hp
     ·cases hp
   ·exact hret.elim
  ·exact hret0.elim
 rcases he with rfl|rfl<;>exact hpost
def UR (P:Program)(τ:Ty)(o:Oper)(st:St)(K:Dl→Prop):Prop:=
 match yA o with
 |some (f,args,ts)=>
  match yj τ st ts.toList (args.toList.map (ev st)),args.toList.map (ev st)with
  |some (as9,ob), .agg us::_=>ob∧∃pm ress,FnT P τ f as9 pm ress∧(pm.all fun i=>decide (i<us.length))=true∧szL τ ress∧ress.length≤16∧K ⟨.agg (wl pm .dead us++yM τ (zq o) 0 ress),qT (zq o) 0 ress,[],[]⟩
  |_,_=>False
 |none=>False
theorem zD6 {o:Oper}{K:Dl→Prop}(h:UR P τ o st K): ∃δ,qX P np τ o st δ∧K δ:=by
 unfold UR at h
 cases hc:yA o with
 |none=>rw [hc]at h;exact h.elim
 |some x=>
  obtain⟨f,args,ts⟩:=x
  rw [hc]at h
  simp only at h
  split at h
  ·rename_i as9 ob us vs hargs hevs
   obtain⟨hob,pm,ress,h1,h2,h3,h4,h5⟩:=h
   refine⟨_, .inr (.inl ?_),h5⟩
   unfold KG
   rw [hc]
   simp only
   rw [hargs,hevs]
   exact⟨hob,pm,ress,h1,fun i hi=>by simpa using List.all_eq_true.1 h2 i hi,h3,h4,rfl⟩
  ·exact h.elim
theorem zAL (hτ:zx P τ)(hpos:yO τ)(hmix:P.follows .mixedOrders=true){A:List (List Nat)}{Q:Exit→St→Prop}{id:Nat}{ops:List Oper}(hs:Zm np ops A=true)(hd:yz st.n ops=true)(hlex':Kh P np τ ops A (fun st'=> ∃s,Eqv st' s∧Q .normal s) ops 0 [] (st.start np ops)):awp P τ (.region id ops.toArray true) Q st:=fun lo w0 a w hr=>by
 simp only [Zm,Bool.and_eq_true]at hs
 obtain⟨h1,h2,h3⟩:=hs
 have hn:a.tmps.size=st.n:=by obtain⟨ow,hd,bk,h⟩:=hr;exact h.size
 have hrc:Rel τ lo w0 (st.clean np ops) a {w with drawn:=w.drawn+1}:=by
  obtain⟨ow,hd,bk,h⟩:=KO hr (fun d=>((ops.filter (ya np)).map zq).contains (d / 16)) (fun t=>((ops.filter (ya np)).map zq).contains t)
  exact⟨ow,hd,bk,WF h⟩
 have hr':Rel τ lo w0 (st.start np ops) a {w with drawn:=w.drawn+1}:=by
  unfold St.start
  split
  ·exact kD hrc
  ·exact hrc
 have hpf:np=true→PF (st.start np ops):=fun e=>by unfold St.start;rw [if_pos e];exact Qf _
 refine wp_region_any hmix ?_
 have hany:=XL (fun st st' he ⟨s,h1,h2⟩=>⟨s,he.symm.trans h1,h2⟩) h1 ops 0 [] (Array.replicate ops.length false) _ (by simp) (fun j o _ hj=>by
  rw [Array.getD_eq_getD_getElem?,Array.getElem?_replicate]at hj
  split at hj<;>simp at hj) h3 hlex'
 have :=Zb (Q':=fun e a' w'=> ∃st',Rel τ lo w0 st' a' w'∧Q e st') hτ hpos h2 (fun st' a w ⟨s,he,hq⟩ hr=>⟨s,xU hr he.cov,hq⟩) ops.length [] (Array.replicate ops.length false) (st.start np ops) a {w with drawn:=w.drawn+1} (by rw [hn];exact hd) (fun j o ho _ hm=>by
  have hfc:yH (own (zq o)) (st.clean np ops):=by
   refine YZ (fun d hdt=> ?_) (ZS ho hm)
   rw [hdt];exact ZS ho hm
  unfold St.start
  split
  ·exact KS hfc
  ·exact hfc) hpf hr' hany
 simpa using this
end
def qe (st:St)(ls:List yn):St:={st with r:=Xn ls st.r}
section
variable {P:Program} {np:Bool} {τ:Ty} {lo:Nat} {w0:Fz} {ow:Nat→Option Pl} {hd:Nat→Value} {bk:Nat→Nat} {st:St} {a:Act} {w:World}
theorem UG (h:zd τ lo w0 ow hd bk st a w){vs:List AV}{cv:List Value}(hv:zZ τ w st.r st.b hd bk vs cv){own:List Nat}{outs:List Out}{ls:List yn}{ob2:Prop}
  (hbad: ∀d,(∃x∈ls,x.d=d)→YB d st) (hl:qC τ st vs outs own=some (ls,ob2)) (hob2:ob2) (hsep:qm ls) (hnd:own.Nodup) {t:Nat} {w':World} {ow':Nat→Option Pl}
  (hk:xC ⟨w,fun b=>yi ow ls b=none,fun _=>none⟩ w') (hlow: ∀b,b<w.heap.size→yi ow ls b=none→ow' b=none) (hnew: ∀b p,ow' b=some p→b<w'.heap.size∧lo≤b∧∃d q,p= .root d q)
  (hout: ∀x∈outs,Rp (sz τ) lo w' ow' (.ex (wb x.1) []) (.lst x.2.1 x.2.2) (yE cv x.1)):
  zd τ lo w0 (xA ow ls w.heap.size t ow') hd bk (qe st ls) a w':=by
 obtain⟨l1,l2⟩:=Yn hl hob2
 have hok: ∀x∈ls,∃len R,Kw τ st vs outs x len R:=fun x hx=>by
  obtain⟨ob,e1,e2⟩:=l1 x hx;exact Wg e1 e2
 have hids:(ls.map (·.id)).Nodup:=by rw [l2];exact hnd
 have old: ∀b,b<w.heap.size→yi ow ls b=none→w'.heap[b]? =w.heap[b]? ∧xA ow ls w.heap.size t ow' b=ow b:=fun b hb hn=>
  ⟨hk.block b hb hn,by unfold xA;rw [if_pos ⟨hb,by rw [hn];rfl⟩]⟩
 have back: ∀x∈ls,∀b q,ow' b=some (.root (wb x.id) q)→xA ow ls w.heap.size t ow' b=some (.root x.d (x.p++q)):=fun x hx b q hb=>by
  have : ¬(b<w.heap.size∧(yi ow ls b).isNone=true):=fun⟨h1,h2⟩=>by
   rw [hlow b h1 (by cases ho:yi ow ls b with|none=>rfl|some p=>rw [ho]at h2;cases h2)]at hb;cases hb
  unfold xA
  rw [if_neg this,hb]
  simp only
  rw [if_pos (by unfold wb;omega),show wb x.id - 1000000=x.id from by unfold wb;omega]
  exact KQ hids x hx
 have hge: ∀b p,xA ow ls w.heap.size t ow' b=some p→p≠ .ext→b<w'.heap.size→lo≤b∧w0.fre b:=fun b p hb hp hlt=>by
  by_cases hc:b<w.heap.size∧(yi ow ls b).isNone=true
  ·unfold xA at hb;rw [if_pos hc]at hb;exact h.ge b p hc.1 hb hp
  ·unfold xA at hb
   rw [if_neg hc]at hb
   have ho': ∃p',ow' b=some p':=by
    cases ho:ow' b with
    |none=>rw [ho]at hb;cases hb
    |some p'=>exact⟨p',rfl⟩
   obtain⟨p',ho'⟩:=ho'
   refine⟨(hnew b p' ho').2.1,fun hlt0=> ?_⟩
   have hbw:b<w.heap.size:=Nat.lt_of_lt_of_le hlt0 h.below.size
   cases hoi:yi ow ls b with
   |none=>exact absurd ⟨hbw,by rw [hoi];rfl⟩ hc
   |some p2=>
    obtain⟨d,q,ho,-⟩:=qK hoi
    exact(h.ge b _ hbw ho (by simp)).2 hlt0
 have hc:=h
 have hr: ∀d,lk (qe st ls).r d=if vu d ls=true then none else(lk st.r d).map fun R=>{R with xs:=qP d R.xs ls}:=fun d=>Va ls st.r d
 have hrel: ∀(d:Nat) (R:zn),(∀x∈ls,x.d≠d)→∀b,b<w.heap.size→rel (md R.o d) (ow b)→w'.heap[b]? =w.heap[b]? ∧xA ow ls w.heap.size t ow' b=ow b:=fun d R hn b hb hr=>old b hb (Vj hn hr)
 have h0: ∀d,(∃x∈ls,x.d=d)→VA st.r (qe st ls).r hd hd d:=fun d _ R' hR'=>by
  rw [hr]at hR'
  split at hR'
  ·cases hR'
  ·cases hx:lk st.r d with
   |none=>rw [hx]at hR';cases hR'
   |some R=>exact⟨R,rfl,rfl⟩
 have hD: ∀d,¬(∃x∈ls,x.d=d)→yy w w' st.r (qe st ls).r hd hd d:=fun d hn R' hR'=>by
  have hn': ∀x∈ls,x.d≠d:=fun x hx e=>hn ⟨x,hx,e⟩
  rw [hr,Kb hn']at hR'
  simp only [Bool.false_eq_true,if_false]at hR'
  cases hx:lk st.r d with
  |none=>rw [hx]at hR';cases hR'
  |some R=>
   rw [hx]at hR'
   simp only [Option.map_some,Option.some.injEq]at hR'
   subst hR'
   refine⟨R,rfl,rfl,fun p hp=> ?_⟩
   simp only [XY hn']at hp⊢
   exact⟨hp,xe p _ _ _ _ (h.root d R hx) hp (fun b o A n c hb hrl hcell=>by
    rw [qH (hrel d R hn' b hb hrl).1];exact hcell)⟩
 have hB: ∀t,yx st.b (qe st ls).b bk bk t:=fun t hl=>⟨hl,rfl⟩
 refine⟨h.big,h.defers,h.size,Nat.le_trans h.low hk.size,h.below.step hk.os hk.tape hk.output hk.size (fun b hb hf=> ?_),fun b p hlt hb hp=>hge b p hb hp hlt,fun b hb=> ?_,fun k v hv'=> ?_,fun d R' hR'=> ?_,fun k us hv'=> ?_,fun d R' i hR' hp=> ?_⟩
 ·refine hk.block b hb ?_
  show yi ow ls b=none
  cases hoi:yi ow ls b with
  |none=>rfl
  |some p=>
   obtain⟨d,q,ho,-⟩:=qK hoi
   exact absurd (h.ge b _ hb ho (by simp)).2 hf
 ·have hb':w.heap.size≤b:=Nat.le_trans hk.size hb
  unfold xA
  rw [if_neg (fun hh=>by omega)]
  cases ho:ow' b with
  |none=>rfl
  |some p=>have :=(hnew b p ho).1;omega
 ·exact WD h0 hD hB v _ (fun d hd' hb=>(hbad d hb).s k v hv' hd') (hc.slot k v hv')
 ·rw [hr]at hR'
  split at hR'
  ·cases hR'
  ·rename_i hg
   have hg:vu d ls=false:=by simpa using hg
   cases hx:lk st.r d with
   |none=>rw [hx]at hR';cases hR'
   |some R=>
    rw [hx]at hR'
    simp only [Option.map_some,Option.some.injEq]at hR'
    subst hR'
    by_cases hin: ∃x∈ls,x.d=d
    ·have hex:R.o= .ex:=by
      obtain⟨x,hxm,rfl⟩:=hin
      obtain⟨len,R2,ho⟩:=hok x hxm
      have :=ho.root;rw [hx]at this;cases this
      exact ho.ex
     simp only [hex]
     by_cases hroot: ∃x∈ls,x.d=d∧x.p= []
     ·obtain⟨x,hxm,rfl,hp⟩:=hroot
      obtain⟨ys,hys⟩:=VS hg x hxm rfl
      obtain⟨len,R2,ho⟩:=hok x hxm
      have :=ho.root;rw [hx]at this;cases this
      obtain⟨q1,-⟩:=XW h hv ho
      rw [hp]at q1
      simp only [yC,Option.some.injEq]at q1
      have he:=ho.elem
      rw [hp]at he
      simp only [vF]at he
      simp only [Ve hsep x hxm rfl hp hys]
      have :=hout _ (ho.out ys hys)
      simp only at this
      rw [←q1,←he]at this
      exact xq _ _ _ _ _ [] [] _ (fun b q _ hb=>by
       have :=back x hxm b q (by simpa using hb)
       rw [hp]at this
       simpa using this) this
     ·have hone: ∀x∈ls,x.d=d→∃j ys,x.p= [j]∧x.out=some ys:=fun x hxm e=>by
       obtain⟨len,R2,ho⟩:=hok x hxm
       rcases ho.short with hs|hs
       ·exact absurd ⟨x,hxm,e,hs⟩ hroot
       ·exact hs
      have hone': ∀x∈ls,x.d=d→∃j,x.p= [j]:=fun x hxm e=>by obtain⟨j,ys,h1,-⟩:=hone x hxm e;exact⟨j,h1⟩
      have hrt:=h.root d R hx
      rw [hex]at hrt
      obtain⟨zs,k1,k5⟩:=(zu _ _).1 hrt
      have hlen:(qP d R.xs ls).length=R.xs.length:=Xq hone'
      have hnil: ∀b,ow b=some (.root d [])→yi ow ls b=none:=fun b hb=>by
       cases hoi:yi ow ls b with
       |none=>rfl
       |some p=>
        obtain⟨d',q,h1,x,hxm,h2,q',h3,-⟩:=qK hoi
        rw [hb]at h1;cases h1
        obtain⟨j,hj⟩:=hone' x hxm h2
        rw [hj]at h3;simp at h3
      have k1':Hd (sz τ) lo w' (xA ow ls w.heap.size t ow') (.ex d []) R.e (hd d) R.xs.length zs:=by
       obtain⟨m1,N,m2,m3,m4⟩:=k1
       refine⟨m1,N,m2,⟨m3.1,?_⟩,fun b hb=> ?_⟩
       ·rcases m3.2 with hn|⟨g,cap,cur,hv2,hb2,hg2,rest⟩
        ·exact .inl hn
        ·have hgo:=m4 g (by rw [hv2];rfl)
         have hglt:g<w.heap.size:=(Array.getElem?_eq_some_iff.1 hg2).1
         exact .inr ⟨g,cap,cur,hv2,hb2,by rw [(old g hglt (hnil g hgo)).1];exact hg2,rest⟩
       ·have hgo:=m4 b hb
        rw [(old b (m3.lt b hb).2 (hnil b hgo)).2];exact hgo
      refine(zu _ _).2 ⟨zs,by rw [hlen];exact k1',fun i y u hy hu=> ?_⟩
      have hi:i<R.xs.length:=by rw [←hlen];exact(List.getElem?_eq_some_iff.1 hy).1
      by_cases hsel: ∃x∈ls,x.d=d∧x.p= [i]
      ·obtain⟨x,hxm,rfl,hp⟩:=hsel
       obtain⟨j,ys,hj,hys⟩:=hone x hxm rfl
       obtain⟨len,R2,ho⟩:=hok x hxm
       have :=ho.root;rw [hx]at this;cases this
       rw [Kk hi hsep hone' x hxm rfl hp hys]at hy
       cases hy
       obtain⟨q1,-⟩:=XW h hv ho
       rw [hp]at q1
       obtain⟨b1,o1,n1,c1,hv',hN,hb1,hr1,hc1⟩:=xz k1 hu
       rw [hv']at q1
       simp only [yC,hc1,Option.bind_some,Option.some.injEq]at q1
       have :=hout _ (ho.out ys hys)
       simp only at this
       rw [←q1]at this
       refine xq _ _ _ _ _ [] ([]++ [i]) _ (fun b q _ hb=> ?_) this
       have :=back x hxm b q (by simpa using hb)
       rw [hp]at this
       simpa using this
      ·rw [Wo (fun x hxm e=>by
        obtain⟨j,hj⟩:=hone' x hxm e
        exact⟨j,hj,fun e2=>hsel ⟨x,hxm,e,by rw [hj,e2]⟩⟩)]at hy
       refine yG _ _ hk.size _ _ _ (fun b hb hr=>old b hb ?_) (k5 i y u hy hu)
       obtain⟨q,hq⟩:=hr
       cases hoi:yi ow ls b with
       |none=>rfl
       |some p=>
        obtain⟨d',q',h1,x,hxm,h2,q2,h3,-⟩:=qK hoi
        rw [hq]at h1
        simp only [Option.some.injEq,Pl.root.injEq,List.nil_append]at h1
        obtain⟨rfl,rfl⟩:=h1
        obtain⟨j,hj⟩:=hone' x hxm h2
        rw [hj]at h3
        simp only [List.cons_append,List.nil_append,List.cons.injEq]at h3
        exact absurd ⟨x,hxm,h2,by rw [hj,h3.1]⟩ hsel
    ·have hn': ∀x∈ls,x.d≠d:=fun x hx e=>hin ⟨x,hx,e⟩
     simp only [XY hn']
     exact yG _ _ hk.size _ _ _ (fun b hb hr=>hrel d R hn' b hb hr) (h.root d R hx)
 ·obtain⟨cs,ty,q1,q2,q3⟩:=hc.box k us hv'
  have hlt:bk k<w.heap.size:=(Array.getElem?_eq_some_iff.1 q1).1
  have hno:yi ow ls (bk k)=none:=by unfold yi;rw [q2]
  exact⟨cs,ty,by rw [(old _ hlt hno).1];exact q1,by rw [(old _ hlt hno).2];exact q2,wO h0 hD hB us cs (fun d hd' hb=>(hbad d hb).b k us hv' hd') q3⟩
 ·rw [hr]at hR'
  split at hR'
  ·cases hR'
  ·cases hx:lk st.r d with
   |none=>rw [hx]at hR';cases hR'
   |some R=>
    rw [hx]at hR'
    simp only [Option.map_some,Option.some.injEq]at hR'
    subst hR'
    exact h.pin d R i hx hp
theorem zBD (h:zd τ lo w0 ow hd bk st a w){vs:List AV}{cv:List Value}(hv:zZ τ w st.r st.b hd bk vs cv){own:List Nat}{outs:List Out}{ls:List yn}{ob2:Prop}
  (hbad: ∀d,(∃x∈ls,x.d=d)→YB d st) (hl:qC τ st vs outs own=some (ls,ob2)) (hob2:ob2) (hsep:qm ls) (hnd:own.Nodup) {t:Nat} {ress:List VT} (hs:szL τ (zo ress)) (hfl:(zo ress).length≤1000000) {e:Ending} {w':World} (hp:UO τ lo w (yi ow ls) outs ress cv e w'):
  ∃z ow' hd',e= .returned z∧zd τ lo w0 ow' hd' bk (yV t 0 (zo ress) (qe st ls)) a w'∧AvR τ w' (yV t 0 (zo ress) (qe st ls)).r (yV t 0 (zo ress) (qe st ls)).b hd' bk (qL (xL τ t 0 ress)) z:=by
 obtain⟨rs,ow',he,hk,hlow,hnew,hres,hout⟩:=hp
 have h1:=UG h hv hbad hl hob2 hsep hnd (t:=t) hk hlow hnew hout
 have e2: ∀b j q,j<1000000→ow' b=some (.root j q)→xA ow ls w.heap.size t ow' b=some (.root (zY t j) q):=fun b j q hj hq=>by
  have : ¬(b<w.heap.size∧(yi ow ls b).isNone=true):=fun⟨h1,h2⟩=>by
   rw [hlow b h1 (by cases ho:yi ow ls b with|none=>rfl|some p=>rw [ho]at h2;cases h2)]at hq;cases hq
  unfold xA
  rw [if_neg this,hq]
  simp only
  rw [if_neg (by omega)]
 obtain⟨cs,k1,k2,k3⟩:=YM (bk:=bk) (τ:=τ) (rr:=(yV t 0 (zo ress) (qe st ls)).r) (bb:=(yV t 0 (zo ress) (qe st ls)).b) (t:=t) hres
 have k2': ∀(i:Nat) (d:D) (c:Value),(zo ress)[i]? =some d→cs[i]? =some c→Rp (sz τ) lo w' (xA ow ls w.heap.size t ow') (.ex (zY t (0+i)) []) d c:=fun i d c hd hc=>by
  have hi:i<1000000:=Nat.lt_of_lt_of_le (List.getElem?_eq_some_iff.1 hd).1 hfl
  exact xq _ _ _ _ _ [] [] _ (fun b q _ e=>e2 b _ q (by omega) e) (k2 i d c hd hc)
 obtain⟨hd',r1,r2,r3⟩:=Yr t (zo ress) 0 (qe st ls) hd cs h1 k1 k2'
 exact⟨vr rs,_,hd',he,r1,Ys (k3 w' hd' (qZ (ow:=xA ow ls w.heap.size t ow') (lo:=lo) t (zo ress) 0 cs k1 hs (fun i d c h1 h2=>⟨_,k2' i d c h1 h2⟩) (fun i e xs c h1 h2=>(r3 i e xs c h1 h2).2)))⟩
def inDl :List Nat→Option Tmp→Bool
 |x::xs,some d=>if x=d then true else inDl xs (some d)
 |_,_=>false
def vX (X:Oper→St→(Dl→Prop)→Prop)(P:Program)(np:Bool)(τ:Ty)(t:List Nat)(all:List Oper)(E:List Rec→St→Prop):List Oper→Nat→List Rec→St→Prop
 | [],_,cs,st=>E cs st
 |o::os,k,cs,st=>
  match o.guard with
  |none=>if inDl t o.dst=true then X o st fun δ=>vX X P np τ t all E os (k+1) (⟨k,fp o st,δ.wr⟩::cs) (st.app o.dst δ)else wi P np τ o st fun δ=>vX X P np τ t all E os (k+1) (⟨k,fp o st,δ.wr⟩::cs) (st.app o.dst δ)
  |some _=>False
theorem Wj {X:Oper→St→(Dl→Prop)→Prop}(hX: ∀o st K,X o st K→∃δ,qX P np τ o st δ∧K δ){t:List Nat}{all:List Oper}{A:List (List Nat)}{Q:St→Prop}: ∀(os:List Oper) (k:Nat) (cs:List Rec) (st:St),vX X P np τ t all (fun cs st=>chk all A cs=true∧Q st) os k cs st→chk all A cs=true∧Kh P np τ all A (fun st'=> ∃s,Eqv st' s∧Q s) os k cs st
 | [],k,cs,st,h=>⟨h.1,st,Eqv.refl _,h.2⟩
 |o::os,k,cs,st,h=>by
  have go:(∃δ,xN P np τ all o st δ∧vX X P np τ t all (fun cs st=>chk all A cs=true∧Q st) os (k+1) (⟨k,fp o st,δ.wr⟩::cs) (st.app o.dst δ))→chk all A cs=true∧Kh P np τ all A (fun st'=> ∃s,Eqv st' s∧Q s) (o::os) k cs st:=by
   rintro⟨δ,h1,h2⟩
   obtain⟨h3,h4⟩:=Wj hX os _ _ _ h2
   simp only [chk,Bool.and_eq_true]at h3
   exact⟨h3.2,δ,h1,h3.1,h4⟩
  simp only [vX]at h
  split at h
  ·rename_i hg
   split at h
   ·obtain⟨δ,h1,h2⟩:=hX _ _ _ h
    exact go ⟨δ,by unfold xN;rw [hg];exact h1,h2⟩
   ·obtain⟨δ,h1,h2⟩:=ZC h
    exact go ⟨δ,by unfold xN;rw [hg];exact h1,h2⟩
  ·exact h.elim
theorem zAz {X:Oper→St→(Dl→Prop)→Prop}{t:List Nat}{all:List Oper}(E:List Rec→St→Prop)(l2:List Oper): ∀(l1:List Oper) (k:Nat) (cs:List Rec) (st:St),vX X P np τ t all E (l1++l2) k cs st=vX X P np τ t all (fun cs st=>vX X P np τ t all E l2 (k+l1.length) cs st) l1 k cs st
 | [],k,cs,st=>rfl
 |o::os,k,cs,st=>by
  have e: ∀cs st,vX X P np τ t all E (os++l2) (k+1) cs st=vX X P np τ t all (fun cs st=>vX X P np τ t all E l2 (k+(o::os).length) cs st) os (k+1) cs st:=fun cs st=>by
   rw [zAz E l2 os (k+1) cs st,List.length_cons,show k+1+os.length=k+(os.length+1)from by omega]
  simp only [List.cons_append,vX,e]
theorem Ki (n:Nat){X:Oper→St→(Dl→Prop)→Prop}{t:List Nat}{all:List Oper}{E:List Rec→St→Prop}{os:List Oper}{k:Nat}{cs:List Rec}{st:St}(hn:n≤os.length)(h: ∀K:List Rec→St→Prop,(∀cs st,vX X P np τ t all E (os.drop n) (k+n) cs st→K cs st)→vX X P np τ t all K (os.take n) k cs st):vX X P np τ t all E os k cs st:=by
 have :=h _ fun _ _ h=>h
 have hl:(os.take n).length=n:=by rw [List.length_take];omega
 have e:vX X P np τ t all (fun cs st=>vX X P np τ t all E (os.drop n) (k+(os.take n).length) cs st) (os.take n) k cs st:=by rw [hl];exact this
 rw [←zAz,List.take_append_drop]at e
 exact e
theorem zAJ (np:Bool)(X:Oper→St→(Dl→Prop)→Prop)(t:List Nat)(hX: ∀o st K,X o st K→∃δ,qX P np τ o st δ∧K δ){Q:Exit→St→Prop}{st:St}(hτ:zx P τ)(hpos:yO τ)(hmix:P.follows .mixedOrders=true){id:Nat}{ops:List Oper}(hs:Zm np ops (wj ops)=true)(hd:yz st.n ops=true)(h: ∀E:List Rec→St→Prop,(∀cs st,chk ops (wj ops) cs=true→Q .normal st→E cs st)→vX X P np τ t ops E ops 0 [] (st.start np ops)):awp P τ (.region id ops.toArray true) Q st:=
 zAL hτ hpos hmix hs hd (Wj hX (Q:=Q .normal) ops 0 [] _ (h _ fun cs st h1 h2=>⟨h1,h2⟩)).2
end
attribute [push_cast] UR inDl vX wl
section
variable {P:Program} {all:List Oper} {T:List (List Nat)} {c:Nat} {Q':Exit→Act→World→Prop}
def UW (all:List Oper)(T:List (List Nat))(c:Nat):Bool:=(List.range all.length).all fun j=>decide (j<c)||(List.range c).all fun i=>WN T j i
def JY (all:List Oper):Bool:=all.all fun o=>o.guard.isNone
def JN (all:List Oper):Bool:=(List.range all.length).all fun j=>match all[j]? with|some o=>o.after.toList.all fun e=> !(Region.binds .any e)||decide (e.on<j)|none=>true
def xY (N:Nat)(l:Array Bool):Array Bool:=l++Array.replicate (N - l.size) false
theorem XQ {N:Nat}{l:Array Bool}(i:Nat):(xY N l).getD i false=l.getD i false:=by
 unfold xY
 rw [Array.getD_eq_getD_getElem?,Array.getD_eq_getD_getElem?]
 rcases Nat.lt_or_ge i l.size with h|h
 ·rw [Array.getElem?_append_left h]
 ·rw [Array.getElem?_append_right h,Array.getElem?_eq_none h,Array.getElem?_replicate]
  split<;>rfl
theorem zJC {N:Nat}{l:Array Bool}{i:Nat}(h:i<l.size):(xY N l).getD i true=l.getD i true:=by
 unfold xY
 rw [Array.getD_eq_getD_getElem?,Array.getD_eq_getD_getElem?,Array.getElem?_append_left h]
theorem zAc {N:Nat}{l:Array Bool}{i:Nat}(h:i<l.size):(xY N l).setIfInBounds i true=xY N (l.setIfInBounds i true):=by
 unfold xY
 refine Array.ext_getElem? fun j=> ?_
 rw [Array.getElem?_setIfInBounds]
 have e1:(l.setIfInBounds i true).size=l.size:=Array.size_setIfInBounds ..
 rw [e1,Array.getElem?_append,Array.getElem?_append,e1]
 rcases Nat.lt_or_ge j l.size with hj|hj
 ·rw [if_pos hj,if_pos hj,Array.getElem?_setIfInBounds]
  split
  ·rename_i e
   rw [if_pos (by rw [Array.size_append];omega)]
  ·rfl
 ·rw [if_neg (by omega),if_neg (by omega),if_neg (by omega)]
theorem zGu {l:Array Bool}{i:Nat}(h:i<l.size):l.getD i true=l.getD i false:=by
 rw [Array.getD_eq_getD_getElem?,Array.getD_eq_getD_getElem?,Array.getElem?_eq_getElem h]
 rfl
theorem JM (hlt:JN all=true){j:Nat}{o:Oper}(ho:all[j]? =some o){e:Edge}(he:e∈o.after)(hb:Region.binds .any e=true):e.on<j:=by
 have hj:=(List.getElem?_eq_some_iff.1 ho).1
 have h1:=List.all_eq_true.1 hlt j (List.mem_range.2 hj)
 rw [ho]at h1
 have h2:=List.all_eq_true.1 h1 e (by simpa using he)
 simpa [hb]using h2
theorem zBa {md:Region.Mode}{ops:Array Oper}{Q:Exit→Act→World→Prop}: ∀(f:Nat) (l:Array Bool) (a:Act) (w:World),wpAny P md ops Q f l a w→wpAny P md ops Q (f+1) l a w
 |0,l,a,w,h=>⟨fun _=>h.2,fun i hi=>by rw [h.1]at hi;cases hi⟩
 |f+1,l,a,w,h=>⟨h.1,fun i hi=>wpOp_mono (fun a w h=>zBa f _ a w h) (h.2 i hi)⟩
theorem UE {md:Region.Mode}{ops:Array Oper}{Q:Exit→Act→World→Prop}{f:Nat}{l:Array Bool}{a:Act}{w:World}(h:wpAny P md ops Q f l a w): ∀k,wpAny P md ops Q (f+k) l a w
 |0=>h
 |k+1=>zBa _ _ _ _ (UE h k)
def Jd (P:Program)(all:List Oper)(Q':Exit→Act→World→Prop)(f:Nat)(l:Array Bool):Exit→Act→World→Prop
 | .normal,a,w=>wpAny P .any all.toArray Q' f l a w
 |e,a,w=>Q' e a w
theorem zIY {o:Oper}{a:Act}{w:World}{K:Act→World→Prop}{f:Nat}{l:Array Bool}(h:o.wp P a w K (Jd P all Q' f l)):o.wp P a w K Q':=by
 unfold Oper.wp at*
 generalize (execOp a.eval o).run P w=r at*
 cases r with
 |ok n w'=>cases n<;>exact h
 |halt b w'=>cases b<;>exact h
theorem jl (hng:JY all=true){l1:Array Bool}(hs:l1.size=c){j:Nat}(hj:j<c)(hc:c≤all.length):j∈Region.ready .any all.toArray (xY all.length l1)↔j∈Region.ready .any (all.take c).toArray l1:=by
 rw [mem_ready,mem_ready,zJC (by omega)]
 simp only [XQ,List.getElem?_toArray,List.getElem?_take,if_pos hj]
theorem zDr (hA:Xg all T=true)(hc:c≤all.length)(hcut:UW all T c=true)(hng:JY all=true)(hlt:JN all=true){f2:Nat}:
  ∀(f1:Nat) (l1:Array Bool) (a:Act) (w:World),l1.size=c→KJ all (xY all.length l1)→wpAny P .any (all.take c).toArray (Jd P all Q' f2 (xY all.length (Array.replicate c true))) f1 l1 a w→wpAny P .any all.toArray Q' (f1+f2) (xY all.length l1) a w:=by
 have full: ∀l1:Array Bool,l1.size=c→(∀i,i<c→l1.getD i false=true)→l1=Array.replicate c true:=fun l1 hs h=>by
  refine Array.ext_getElem? fun i=> ?_
  rw [Array.getElem?_replicate]
  split
  ·rename_i hi
   have h1:=h i hi
   rw [Array.getD_eq_getD_getElem?]at h1
   cases hx:l1[i]? with
   |none=>rw [hx]at h1;simp at h1
   |some b=>rw [hx]at h1;simp at h1;rw [h1]
  ·rw [Array.getElem?_eq_none (by omega)]
 have least: ∀l1:Array Bool,l1.size=c→¬(∀i,i<c→l1.getD i false=true)→∃i,i<c∧l1.getD i false=false∧∀k,k<i→l1.getD k false=true:=fun l1 hs h=>by
  have key: ∀n,n≤c→(∀i,i<n→l1.getD i false=true)∨∃i,i<c∧l1.getD i false=false∧∀k,k<i→l1.getD k false=true:=by
   intro n
   induction n with
   |zero=>exact fun _=> .inl fun i hi=>absurd hi (Nat.not_lt_zero i)
   |succ n ih=>
    intro hn
    rcases ih (by omega)with h1|h1
    ·cases hx:l1.getD n false with
     |true=>
      refine .inl fun i hi=> ?_
      by_cases e:i=n
      ·rw [e];exact hx
      ·exact h1 i (by omega)
     |false=>exact .inr ⟨n,by omega,hx,h1⟩
    ·exact .inr h1
  exact(key c (Nat.le_refl _)).resolve_left h
 have rdy: ∀l1:Array Bool,l1.size=c→∀i,i<c→l1.getD i false=false→(∀k,k<i→l1.getD k false=true)→i∈Region.ready .any (all.take c).toArray l1:=fun l1 hs i hi h0 hk=>by
  rw [mem_ready,zGu (by omega)]
  have ho:all[i]? =some (all[i]'(by omega)):=List.getElem?_eq_getElem (by omega)
  exact⟨h0,_,by rw [List.getElem?_toArray,List.getElem?_take,if_pos hi];exact ho,fun e he hb=>hk _ (JM hlt ho he hb)⟩
 intro f1
 induction f1 with
 |zero=>
  intro l1 a w hs hdn h
  by_cases hall: ∀i,i<c→l1.getD i false=true
  ·rw [full l1 hs hall,Nat.zero_add]
   exact h.2
  ·obtain⟨i,hi,h0,hk⟩:=least l1 hs hall
   have :=rdy l1 hs i hi h0 hk
   rw [h.1]at this
   cases this
 |succ f1 ih=>
  intro l1 a w hs hdn h
  by_cases hall: ∀i,i<c→l1.getD i false=true
  ·have hn:Region.ready .any (all.take c).toArray l1= []:=by
    refine List.eq_nil_iff_forall_not_mem.2 fun j hj=> ?_
    obtain⟨h1,o,h2,-⟩:=mem_ready.1 hj
    have hjc:j<c:=by
     rw [List.getElem?_toArray]at h2
     have :=(List.getElem?_eq_some_iff.1 h2).1
     rw [List.length_take]at this
     omega
    rw [zGu (by omega),hall j hjc]at h1
    cases h1
   have h3:=h.1 hn
   have h4:wpAny P .any all.toArray Q' f2 (xY all.length (Array.replicate c true)) a w:=h3
   rw [full l1 hs hall,show f1+1+f2=f2+(f1+1)from by omega]
   exact UE h4 _
  ·obtain⟨i,hi,h0,hk⟩:=least l1 hs hall
   rw [show f1+1+f2=(f1+f2)+1 from by omega]
   refine⟨fun hn=> ?_,fun j hj=> ?_⟩
   ·have :=(jl hng hs hi hc).2 (rdy l1 hs i hi h0 hk)
    rw [hn]at this
    cases this
   ·have hjc:j<c:=by
     rcases Nat.lt_or_ge j c with h1|h1
     ·exact h1
     ·exfalso
      obtain⟨-,o,ho,-⟩:=mem_ready.1 hj
      rw [List.getElem?_toArray]at ho
      have hjl:=(List.getElem?_eq_some_iff.1 ho).1
      have h2:=List.all_eq_true.1 hcut j (List.mem_range.2 hjl)
      rw [Bool.or_eq_true,decide_eq_true_eq]at h2
      have h3:=List.all_eq_true.1 (h2.resolve_left (by omega)) i (List.mem_range.2 hi)
      have h4:=VK hA hdn j i (.inr hj) h3
      rw [XQ,h0]at h4
      cases h4
    have hjA:=(jl hng hs hjc hc).1 hj
    have h5:=h.2 j hjA
    have ho:all[j]? =some (all[j]'(by omega)):=List.getElem?_eq_getElem (by omega)
    have hg:(all[j]'(by omega)).guard=none:=by
     have :=List.all_eq_true.1 hng _ (List.mem_of_getElem? ho)
     simpa using this
    unfold wpOp at h5⊢
    rw [List.getElem?_toArray,List.getElem?_take,if_pos hjc,ho]at h5
    rw [List.getElem?_toArray,ho]
    simp only at h5⊢
    rw [if_pos (by simp [Region.wanted,hg])]at h5⊢
    have hnext: ∀a w,wpAny P .any (all.take c).toArray (Jd P all Q' f2 (xY all.length (Array.replicate c true))) f1 (l1.setIfInBounds j true) a w→wpAny P .any all.toArray Q' (f1+f2) ((xY all.length l1).setIfInBounds j true) a w:=fun a w h6=>by
     rw [zAc (by omega)]
     refine ih _ a w (by simpa using hs) ?_ h6
     rw [←zAc (by omega)]
     exact KW hdn hj
    rcases h5 with h5|⟨h5,h6⟩
    ·exact .inl (zIY (Oper.wp_mono hnext h5))
    ·exact .inr ⟨h5,h6⟩
theorem zFQ (hA:Xg all T=true)(hcut:UW all T (c+1)=true)(hng:JY all=true)(hlt:JN all=true){oc:Oper}(hoc:all[c]? =some oc){f:Nat}{a:Act}{w:World}
  (h:oc.wp P a w (wpAny P .any all.toArray Q' f (xY all.length (Array.replicate (c+1) true))) Q'):wpAny P .any all.toArray Q' (f+1) (xY all.length (Array.replicate c true)) a w:=by
 have hcl:=(List.getElem?_eq_some_iff.1 hoc).1
 have hl: ∀i,i<c→(xY all.length (Array.replicate c true)).getD i false=true:=fun i hi=>by
  rw [XQ,Array.getD_eq_getD_getElem?,Array.getElem?_replicate,if_pos hi];rfl
 have hu:(xY all.length (Array.replicate c true)).getD c true=false:=by
  unfold xY
  rw [Array.getD_eq_getD_getElem?,Array.getElem?_append_right (by simp),Array.getElem?_replicate,if_pos (by simp;omega)]
  rfl
 have hset:(xY all.length (Array.replicate c true)).setIfInBounds c true=xY all.length (Array.replicate (c+1) true):=by
  unfold xY
  refine Array.ext_getElem? fun j=> ?_
  rw [Array.getElem?_setIfInBounds,Array.getElem?_append,Array.getElem?_append]
  simp only [Array.size_replicate,Array.getElem?_replicate,Array.size_append]
  repeat' split
  all_goals first|rfl|omega
 have hr:c∈Region.ready .any all.toArray (xY all.length (Array.replicate c true)):=by
  rw [mem_ready]
  exact⟨hu,oc,by rw [List.getElem?_toArray];exact hoc,fun e he hb=>hl _ (JM hlt hoc he hb)⟩
 refine⟨fun hn=>(by rw [hn]at hr;cases hr),fun j hj=> ?_⟩
 have hdn:KJ all (xY all.length (Array.replicate c true)):=fun k o ho hk e he hb=>by
  rw [XQ,Array.getD_eq_getD_getElem?,Array.getElem?_replicate]at hk
  split at hk
  ·have :=JM hlt ho he hb
   exact hl _ (by omega)
  ·simp at hk
 have hjc:j=c:=by
  obtain⟨h1,o,ho,-⟩:=mem_ready.1 hj
  rw [List.getElem?_toArray]at ho
  have hjl:=(List.getElem?_eq_some_iff.1 ho).1
  rcases Nat.lt_trichotomy j c with h2|h2|h2
  ·have h3:=JQ (hl j h2)
   rw [h1]at h3;cases h3
  ·exact h2
  ·have h3:=List.all_eq_true.1 hcut j (List.mem_range.2 hjl)
   rw [Bool.or_eq_true,decide_eq_true_eq]at h3
   have h4:=List.all_eq_true.1 (h3.resolve_left (by omega)) c (List.mem_range.2 (by omega))
   have h5:=JQ (VK hA hdn j c (.inr hj) h4)
   rw [hu]at h5;cases h5
 subst hjc
 have hg:oc.guard=none:=by
  have :=List.all_eq_true.1 hng _ (List.mem_of_getElem? hoc)
  simpa using this
 unfold wpOp
 rw [List.getElem?_toArray,hoc]
 simp only
 rw [if_pos (by simp [Region.wanted,hg]),hset]
 exact .inl h
end
section
variable {P:Program} {τ:Ty} {lo:Nat} {w0:Fz} {st:St} {a:Act} {w:World}
def zG6 (npA npB:Bool)(ops:List Oper)(c:Nat):Bool:=
 Zm npA (ops.take c) (wj (ops.take c))&&(Xg ops (wj ops)&&(ZF npB ops&&(decide (c<ops.length)&&(UW ops (wj ops) c&&(UW ops (wj ops) (c+1)&&(JY ops&&(JN ops&&XB ops (ops.drop (c+1)).length (c+1) (xY ops.length (Array.replicate (c+1) true)))))))))
theorem Jj (npA npB:Bool)(c:Nat)(XA:Oper→St→(Dl→Prop)→Prop)(tA:List Nat)(hXA: ∀o st K,XA o st K→∃δ,qX P npA τ o st δ∧K δ)(X:Oper→(St→Prop)→St→Prop)
  (hX: ∀(lo:Nat) (w0:Fz) (st:St) (a:Act) (w:World) (o:Oper) (K:St→Prop) (Q:Exit→Act→World→Prop) (K':Act→World→Prop),(∀k,o.dst=some k→k<a.tmps.size)→Rel τ lo w0 st a w→X o K st→(∀st' x w',K st'→Rel τ lo w0 st' (a.put o.dst x) w'→K' (a.put o.dst x) w')→o.wp P a w K' Q)
  (hτ:zx P τ) (hpos:yO τ) (hmix:P.follows .mixedOrders=true) {Q:Exit→St→Prop} {id:Nat} {ops:List Oper} (hs:zG6 npA npB ops c=true) (hd:yz st.n ops=true) {oc:Oper} (hoc:ops[c]? =some oc)
  (h: ∀EA:List Rec→St→Prop,(∀cs st1,chk (ops.take c) (wj (ops.take c)) cs=true→yz st1.n ops=true→X oc (fun st2=> ∀EB:List Rec→St→Prop,(∀cs st3,chk ops (wj ops) cs=true→Q .normal st3→EB cs st3)→qY P npB τ ops EB (ops.drop (c+1)) (c+1) [] (st2.start npB (ops.drop (c+1)))) st1→EA cs st1)→
   vX XA P npA τ tA (ops.take c) EA (ops.take c) 0 [] (st.start npA (ops.take c))):awp P τ (.region id ops.toArray true) Q st:=fun lo w0 a w hr=>by
 simp only [zG6,Zm,Bool.and_eq_true,decide_eq_true_eq]at hs
 obtain⟨⟨a1,a2,a3⟩,b1,b2,hcl,c1,c2,hng,hlt,b3⟩:=hs
 have hn:a.tmps.size=st.n:=by obtain⟨ow,hd,bk,h⟩:=hr;exact h.size
 have hdr:Rel τ lo w0 st a {w with drawn:=w.drawn+1}:=by
  obtain⟨ow,hd,bk,h⟩:=hr
  exact⟨ow,hd,bk,WF h⟩
 have hr':=Xd (np:=npA) hdr (ops.take c)
 refine wp_region_any hmix ?_
 have htake:(ops.take c).length=c:=by rw [List.length_take];omega
 have hdsub: ∀(l:List Oper),(∀o∈l,o∈ops)→∀m,yz m ops=true→yz m l=true:=fun l hl m hm=>List.all_eq_true.2 fun o ho=>List.all_eq_true.1 hm o (hl o ho)
 -- the first part
 have hlex:=(Wj hXA (A:=wj (ops.take c)) (Q:=fun st1=>yz st1.n ops=true∧X oc (fun st2=> ∀EB:List Rec→St→Prop,(∀cs st3,chk ops (wj ops) cs=true→Q .normal st3→EB cs st3)→qY P npB τ ops EB (ops.drop (c+1)) (c+1) [] (st2.start npB (ops.drop (c+1)))) st1) (ops.take c) 0 [] _ (h _ fun cs st h1 h2 h3=>⟨h1,h2,h3⟩)).2
 have hany:=XL (fun st st' he ⟨s,h1,h2⟩=>⟨s,he.symm.trans h1,h2⟩) a1 (ops.take c) 0 [] (Array.replicate (ops.take c).length false) _ (by simp) (fun j o _ hj=>by
  rw [Array.getD_eq_getD_getElem?,Array.getElem?_replicate]at hj
  split at hj<;>simp at hj) a3 hlex
 have hfirst:=Zb (Q':=Jd P ops (fun e a' w'=> ∃st',Rel τ lo w0 st' a' w'∧Q e st') (ops.length - c) (xY ops.length (Array.replicate c true))) hτ hpos a2 (fun st1 a1 w1 hq hr1=>by
   obtain⟨s,he,hds,hx⟩:=hq
   have hrs:Rel τ lo w0 s a1 w1:=xU hr1 he.cov
   show wpAny P .any ops.toArray _ (ops.length - c) _ a1 w1
   rw [show ops.length - c=(ops.length - c - 1)+1 from by omega]
   refine zFQ b1 c2 hng hlt hoc ?_
   have hna:a1.tmps.size=s.n:=by obtain⟨ow,hd,bk,h⟩:=hrs;exact h.size
   have hdo: ∀k,oc.dst=some k→k<a1.tmps.size:=fun k hk=>by
    have :=List.all_eq_true.1 hds oc (List.mem_of_getElem? hoc)
    rw [hk]at this
    rw [hna]
    simpa using this
   refine hX lo w0 s a1 w1 oc _ _ _ hdo hrs hx fun st2 x w2 hK hr2=> ?_
   have hr2':=Xd (np:=npB) hr2 (ops.drop (c+1))
   have hB:=hK (fun cs st=>chk ops (wj ops) cs=true∧Q .normal st) fun cs st h1 h2=>⟨h1,h2⟩
   rw [kY (fun cs=>chk ops (wj ops) cs=true) (Q .normal)]at hB
   have hlexB:=(Wi (ops.drop (c+1)) (c+1) [] _ _ (Eqv.refl _) hB).2
   have hlf: ∀i,i<c+1→(xY ops.length (Array.replicate (c+1) true)).getD i false=true:=fun i hi=>by
    rw [XQ,Array.getD_eq_getD_getElem?,Array.getElem?_replicate,if_pos hi];rfl
   have hanyB:=XL (fun st st' he ⟨s,h1,h2⟩=>⟨s,he.symm.trans h1,h2⟩) b1 (ops.drop (c+1)) (c+1) [] (xY ops.length (Array.replicate (c+1) true)) _ (fun j=>by rw [List.getElem?_drop]) (fun j o ho hj e he hb=>by
    rw [XQ,Array.getD_eq_getD_getElem?,Array.getElem?_replicate]at hj
    split at hj
    ·have :=JM hlt ho he hb
     exact hlf _ (by omega)
    ·simp at hj) b3 hlexB
   have hlast:=Zb (Q':=fun e a' w'=> ∃st',Rel τ lo w0 st' a' w'∧Q e st') hτ hpos b2 (fun st' a w ⟨s,he,hq⟩ hr=>⟨s,xU hr he.cov,hq⟩) (ops.drop (c+1)).length [] (xY ops.length (Array.replicate (c+1) true)) (st2.start npB (ops.drop (c+1))) (a1.put oc.dst x) w2 (by rw [xS,hna];exact hds) (fun j o ho hj hm=>by
    have hjc:c+1≤j:=by
     rcases Nat.lt_or_ge j (c+1)with h1|h1
     ·have :=JQ (hlf j h1)
      rw [hj]at this;cases this
     ·exact h1
    exact Yt (j:=j - (c+1)) (by rw [List.getElem?_drop,show c+1+(j - (c+1))=j from by omega];exact ho) hm) (fun e=>by unfold St.start;rw [if_pos e];exact Qf _) hr2' hanyB
   rw [show ops.length - c - 1=(ops.drop (c+1)).length from by rw [List.length_drop];omega]
   exact hlast) (ops.take c).length [] (Array.replicate (ops.take c).length false) (st.start npA (ops.take c)) a {w with drawn:=w.drawn+1} (by rw [hn];exact hdsub _ (fun o ho=>List.mem_of_mem_take ho) _ hd) (fun j o ho _ hm=>Yt ho hm) (fun e=>by unfold St.start;rw [if_pos e];exact Qf _) hr' hany
 have hpart:=zDr (P:=P) (Q':=fun e a' w'=> ∃st',Rel τ lo w0 st' a' w'∧Q e st') b1 (by omega) c1 hng hlt (f2:=ops.length - c) c (Array.replicate c false) a {w with drawn:=w.drawn+1} (by simp) (fun k o ho hk=>by
  rw [XQ,Array.getD_eq_getD_getElem?,Array.getElem?_replicate]at hk
  split at hk<;>simp at hk) (by rw [htake]at hfirst;exact hfirst)
 rw [show c+(ops.length - c)=ops.length from by omega]at hpart
 have hrep:xY ops.length (Array.replicate c false)=Array.replicate ops.toArray.size false:=by
  unfold xY
  refine Array.ext_getElem? fun j=> ?_
  rw [Array.getElem?_append]
  simp only [Array.size_replicate,Array.getElem?_replicate,List.size_toArray]
  repeat' split
  all_goals first|rfl|omega
 rw [hrep]at hpart
 simpa using hpart
variable {np:Bool} {ow:Nat→Option Pl} {hd:Nat→Value} {bk:Nat→Nat} {st':St}
def zBC :AV→Bool
 | .fn _ _=>false
 | .bp _ _=>false
 |_=>true
theorem zDG {e1:TypeId}{t:TypeId}{v:AV}(hp:zBC v=true)(h:AgV st st' v):Zv τ e1 st' t v=Zv τ e1 st t v:=by
 cases v<;>simp only [Zv]<;>first|(cases hp;done)|skip
 all_goals first
  |(rw [kI h];done)
  |(
   rename_i d p i
   simp only [wT]
   have :=h.1 d (by simp [AV.nm])
   cases p with
   |cons _ _=>rfl
   |nil=>cases i with
    |succ _=>rfl
    |zero=>simp only [this])
theorem zEE {e1:TypeId}{v:AV}(h:AgV st st' v)(hb: ∀T i cs,v= .bp T i→lk st.b T=some cs→AgV st st' (.agg cs)):wT τ e1 st' v=wT τ e1 st v:=by
 cases v<;>simp only [wT]
 ·rename_i d p i
  have :=h.1 d (by simp [AV.nm])
  cases p with
  |cons _ _=>rfl
  |nil=>cases i with
   |succ _=>rfl
   |zero=>simp only [this]
 ·rename_i T i
  have h2:=h.2 T (by simp [AV.nm])
  cases i with
  |succ _=>rfl
  |zero=>
   simp only [h2]
   cases hx:lk st.b T with
   |none=>rfl
   |some cs=>simp only [Zf (hb T 0 cs rfl hx)]
theorem zFk {e1:TypeId}{t:TypeId}{v:AV}(hf:(match v with| .fn _ _=>false|_=>true)=true)(h:AgV st st' v)(hb: ∀T i cs,v= .bp T i→lk st.b T=some cs→AgV st st' (.agg cs)):Zv τ e1 st' t v=Zv τ e1 st t v:=by
 cases v<;>simp only [Zv]<;>first|(cases hf;done)|skip
 all_goals first
  |(rw [kI h];done)
  |(rw [zEE h hb])
theorem jJ {e1:TypeId}: ∀{vs:List AV} {ts:List TypeId},(∀v∈vs,∀t,Zv τ e1 st' t v=Zv τ e1 st t v)→wS τ e1 st' ts vs=wS τ e1 st ts vs
 | [],ts,_=>rfl
 |v::vs,ts,h=>by
  simp only [wS]
  rw [h v List.mem_cons_self,jJ (vs:=vs) fun u hu=>h u (List.mem_cons_of_mem _ hu)]
def jE (P:Program)(τ:Ty)(e1:TypeId)(o:Oper)(st:St)(K:Dl→Prop):Prop:=
 match mkF o with
 |some (f,caps)=>K ⟨.fn f (caps.map (ev st)),[],[],[]⟩
 |none=>
  match yA o with
  |some _=>False
  |none=>
   match wy st o with
   |some (f,vs,ts)=>
    match wS τ e1 st ts vs with
    |some (as9,ob)=>vs.all (fun v=>match v with| .fn _ _=>false|_=>true)=true∧((vs.take (vs.length - (qu o st).length)).all zBC=true)∧ob∧∃k n,FnX P τ f as9 [.c (.int k n)]∧K ⟨.int k n,[],[],[]⟩
    |none=>False
   |none=>False
theorem zFp {o:Oper}{f:FuncId}{vs:List AV}{ts:List TypeId}(hc:wy st o=some (f,vs,ts)): ∃(args:List Operand),vs=args.map (ev st)++qu o st∧(∀x∈args,x∈qo o.op):=by
 unfold wy at hc
 unfold qu
 cases ho:o.op with
 |call c=>
  rw [ho]at hc
  obtain⟨callee,args,ats⟩:=c
  cases callee with
  |value x=>
   simp only at hc⊢
   split at hc
   ·rename_i f' us hx
    cases hc
    rw [hx]
    exact⟨args.toList,rfl,fun y hy=>by simp [qo,Op.operands,Call.operands];exact .inr (by simpa using hy)⟩
   ·cases hc
  |_=>simp at hc
 |_=>rw [ho]at hc;simp at hc
theorem zHL {o:Oper}(h:xh o st st'):wy st' o=wy st o:=by
 have he:=h.e
 unfold wy
 cases ho:o.op with
 |call c=>
  rw [ho]at he
  obtain⟨callee,args,ats⟩:=c
  cases callee with
  |value x=>
   simp only
   rw [he x (by simp [Op.operands,Call.operands]),List.map_congr_left fun y hy=>he y (by simp [Op.operands,Call.operands];exact .inr (by simpa using hy))]
  |_=>rfl
 |_=>rfl
theorem uJ {e1:TypeId}(h1:sz τ e1=1){o:Oper}{K:Dl→Prop}(h:jE P τ e1 o st K): ∃δ,qX P np τ o st δ∧K δ:=by
 unfold jE at h
 cases hm:mkF o with
 |some y=>
  obtain⟨f,caps⟩:=y
  rw [hm]at h
  have hops: ∀x∈caps,x∈qo o.op:=fun x hx=>by
   unfold mkF at hm
   split at hm
   ·rename_i f' first caps' ho
    split at hm
    ·cases hm
     rw [ho]
     simp only [qo,Op.operands,Array.toList_append,List.mem_append]
     exact .inr hx
    ·cases hm
   ·cases hm
  refine⟨_, .inl ⟨trivial,trivial, .inr ⟨f,caps,rfl,hops⟩,rfl,rfl, .inl rfl,fun st' hag hpf lo w0 a w Q K' hdn hrel hK'=> ?_⟩,h⟩
  obtain⟨ow,hd,bk,hr⟩:=hrel
  obtain⟨z,hz,hv⟩:=ur (P:=P) hr hm
  rw [List.map_congr_left fun x hx=>hag.e x (Xs (hops x hx))]at hv
  exact zAZ hdn ⟨z,w,ow,hd,bk, .inl hz,hr,hv⟩ (wJ _) hK'
 |none=>
  rw [hm]at h
  simp only at h
  cases hc:yA o with
  |some _=>rw [hc]at h;exact h.elim
  |none=>
   rw [hc]at h
   simp only at h
   cases hx:wy st o with
   |none=>rw [hx]at h;exact h.elim
   |some y=>
    obtain⟨f,vs,ts⟩:=y
    rw [hx]at h
    simp only at h
    cases ha:wS τ e1 st ts vs with
    |none=>rw [ha]at h;exact h.elim
    |some z=>
     obtain⟨as9,ob⟩:=z
     rw [ha]at h
     obtain⟨hnf,hpl,hob,k,n,hF,hK⟩:=h
     obtain⟨args,hvs,hargs⟩:=zFp hx
     refine⟨_, .inl ⟨trivial,trivial, .inl ⟨k,n,rfl⟩,rfl,rfl, .inl rfl,fun st' hag hpf lo w0 a w Q K' hdn hrel hK'=> ?_⟩,hK⟩
     have hax:wS τ e1 st' ts vs=some (as9,ob):=by
      rw [←ha]
      refine jJ fun v hv t=> ?_
      have hnfv:=List.all_eq_true.1 hnf v hv
      rw [hvs,List.mem_append]at hv
      rcases hv with hv|hv
      ·refine zDG ?_ ?_
       ·refine List.all_eq_true.1 hpl v ?_
        rw [hvs,List.length_append,Nat.add_sub_cancel,List.take_append_of_le_length (Nat.le_refl _),List.take_length]
        exact hv
       ·obtain⟨x,hx1,rfl⟩:=List.mem_map.1 hv
        exact hag.v (hargs x hx1)
      ·refine zFk hnfv ?_ fun T i cs e hcs=> ?_
       ·obtain⟨x,hx1,f2,us,he,hu⟩:=jN hv
        have h2:=hag.v hx1
        rw [he]at h2
        exact⟨fun d hd=>h2.1 d (by simp only [AV.nm];exact yI.2 ⟨v,hu,hd⟩),fun t ht=>h2.2 t (by simp only [AV.nm];exact yI.2 ⟨v,hu,ht⟩)⟩
       ·subst e
        exact hag.cap hc hv hcs
     have hcall:Qa P τ e1 o (fun s=>s=st'.put o.dst (.int k n)) st':=by
      unfold Qa
      rw [zHL hag,hx]
      simp only
      rw [hax]
      exact⟨hob,_,hF,by simp [szL,zo,VT.cells],rfl⟩
     exact WI h1 hdn hrel hcall fun s x w' hs hr=>hK' x w' (xU (by rw [hs]at hr;exact hr) (wJ _))
def St.cutI (ids:List Nat)(st:St):St:={st with s:=vN (AV.cut ids) st.s,b:=vN (AV.cutL ids) st.b}
theorem KR {ids:List Nat}(t:Nat)(hl: ∃cs,lk (st.cutI ids).b t=some cs): ∃cs,lk st.b t=some cs:=by
 obtain⟨cs,hcs⟩:=hl
 simp only [St.cutI,zv]at hcs
 cases hx:lk st.b t with
 |none=>rw [hx]at hcs;cases hcs
 |some u=>exact⟨u,rfl⟩
theorem zDz (h:zd τ lo w0 ow hd bk st a w)(ids:List Nat):zd τ lo w0 ow hd bk (st.cutI ids) a w:=by
 refine⟨h.big,h.defers,h.size,h.low,h.below,h.ge,h.new,fun k v hv'=> ?_,h.root,fun t vs hv'=> ?_,h.pin⟩
 ·simp only [St.cutI,zv]at hv'
  cases hx:lk st.s k with
  |none=>rw [hx]at hv';cases hv'
  |some u=>rw [hx]at hv';cases hv';exact Xi (fun t=>KR t) u _ (h.slot k u hx)
 ·simp only [St.cutI,zv]at hv'
  cases hx:lk st.b t with
  |none=>rw [hx]at hv';cases hv'
  |some u=>
   rw [hx]at hv';cases hv'
   obtain⟨cs,ty,h1,h2,h3⟩:=h.box t u hx
   exact⟨cs,ty,h1,h2,vd (fun t=>KR t) u cs h3⟩
theorem zDN {ids:List Nat}{d:Nat}(hd:d∈ids):YB d (st.cutI ids):=by
 have hc:ids.contains d=true:=by simpa using hd
 refine⟨fun k v hv hm=> ?_,fun k cs hcs hm=> ?_⟩
 ·simp only [St.cutI,zv]at hv
  cases hx:lk st.s k with
  |none=>rw [hx]at hv;cases hv
  |some u=>rw [hx]at hv;cases hv;rw [zAU u d hm]at hc;cases hc
 ·simp only [St.cutI,zv]at hcs
  cases hx:lk st.b k with
  |none=>rw [hx]at hcs;cases hcs
  |some u=>rw [hx]at hcs;cases hcs;rw [Yy u d hm]at hc;cases hc
theorem Wh {ids:List Nat}{vs:List AV}{outs:List Out}: ∀{own:List Nat},qC τ (st.cutI ids) vs outs own=qC τ st vs outs own
 | []=>rfl
 |id::own=>by
  have ih:=Wh (ids:=ids) (vs:=vs) (outs:=outs) (own:=own)
  simp only [qC,ih]
  rfl
def QZ (P:Program)(τ:Ty)(own:List Nat)(outs:List Out)(o:Oper)(K:St→Prop)(st:St):Prop:=
 match yA o with
 |some (f,args,ts)=>
  match yj τ st ts.toList (args.toList.map (ev st)),qC τ st (args.toList.map (ev st)) outs own with
  |some (as9,ob),some (ls,ob2)=>apart (Zk own 0 (args.toList.map (ev st))) ls=true∧YV own=true∧few as9=true∧ob∧ob2∧qm ls∧
    ∃ress,FnG P τ f as9 own outs ress∧szL τ (zo ress)∧(zo ress).length≤1000000∧K ((yV (zq o) 0 (zo ress) (qe (st.cutI (ls.map (·.d))) ls)).put o.dst (qL (xL τ (zq o) 0 ress)))
  |_,_=>False
 |none=>False
theorem Vy {own:List Nat}{outs:List Out}{o:Oper}{K:St→Prop}{Q:Exit→Act→World→Prop}{K':Act→World→Prop}(hd: ∀k,o.dst=some k→k<a.tmps.size)(h:Rel τ lo w0 st a w)(ha:QZ P τ own outs o K st)
  (hK: ∀st' x w',K st'→Rel τ lo w0 st' (a.put o.dst x) w'→K' (a.put o.dst x) w'):o.wp P a w K' Q:=by
 obtain⟨ow,hd',bk,hr⟩:=h
 unfold QZ at ha
 split at ha
 ·rename_i f args ts hc
  split at ha
  ·rename_i as9 ob ls ob2 hargs hlends
   obtain⟨hap,hnd,hfew,hob,hob2,hsep,ress,⟨hcl,hcall⟩,hsz,hfl,hK1⟩:=ha
   have hev:zZ τ w st.r st.b hd' bk (args.toList.map (ev st)) (args.toList.map a.eval):=zm.2 ⟨by simp,fun i v x hv hx=>by
    rw [List.getElem?_map]at hv hx
    cases hk:args.toList[i]? with
    |none=>rw [hk]at hv;cases hv
    |some p=>rw [hk]at hv hx;cases hv;cases hx;exact ze hr p⟩
   have hA:=Jh hr hev hargs hob hlends hob2 hsep hap hfew
   have hC:=hcall lo w (yi ow ls) _ hr.low (fun b p hb=>by
    obtain⟨d,q,ho,x,hx,-,q',-,hp⟩:=qK hb
    have hlt:b<w.heap.size:=by
     rcases Nat.lt_or_ge b w.heap.size with h'|h'
     ·exact h'
     ·rw [hr.new b h']at ho;cases ho
    exact⟨hlt,(hr.ge b _ hlt ho (by simp)).1,_,_,hp⟩) hA
   unfold Oper.wp
   rw [Yj hr hc hcl]
   simp only [Oper.upon]
   refine hC.mono fun e w' hpost=> ?_
   have hev2:zZ τ w (st.cutI (ls.map (·.d))).r (st.cutI (ls.map (·.d))).b hd' bk (args.toList.map (ev st)) (args.toList.map a.eval):=by
    have :=zz (τ:=τ) (w:=w) (w':=w) (rr:=st.r) (rr':=st.r) (bb:=st.b) (bb':=(st.cutI (ls.map (·.d))).b) (hd:=hd') (hd':=hd') (bk:=bk) (bk':=bk) (ds:=noB) (bs:=noB) (fun d _ R hR=>⟨R,hR,rfl,fun p hp=>⟨hp,rfl⟩⟩) (fun t _ hl=>⟨KR t hl,rfl⟩) _ _ hev
    rwa [yv]at this
   obtain⟨z,ow',hd2,he,r1,r2⟩:=zBD (zDz hr (ls.map (·.d))) hev2 (fun d ⟨x,hx,e⟩=>zDN (List.mem_map.2 ⟨x,hx,e⟩)) (by rw [Wh];exact hlends) hob2 hsep (wu hnd) (t:=zq o) hsz hfl hpost
   subst he
   exact hK _ z w' hK1 (xV r1 hd r2)
  ·exact ha.elim
 ·exact ha.elim
def Qc (P:Program)(τ:Ty)(al:List Nat)(t:Nat)(own:List Nat)(outs:List Out)(all:List Oper)(K:St→Prop):List Oper→St→Prop
 | [],st=>K st
 |o::os,st=>
  match o.guard with
  |none=>if o.dst=some t then QZ P τ own outs o (Qc P τ al t own outs all K os) st else aop P τ al o (Qc P τ al t own outs all K os) st
  |some (j,want)=>False
theorem XM (hτ:zx P τ)(hpos:yO τ){al:List Nat}{t:Nat}{own:List Nat}{outs:List Out}{all:List Oper}{K:St→Prop}{Q:Exit→Act→World→Prop}(hQ: ∀st a w,K st→Rel τ lo w0 st a w→Q .normal a w):
  ∀(os:List Oper) (st:St) (a:Act) (w:World),yz a.tmps.size os=true→Rel τ lo w0 st a w→Qc P τ al t own outs all K os st→wpList P all.toArray Q os a w
 | [],st,a,w,_,h,ha=>wpList_nil (hQ st a w ha h)
 |o::os,st,a,w,hd,h,ha=>by
  have hd1: ∀k,o.dst=some k→k<a.tmps.size:=fun k hk=>by
   have :=List.all_eq_true.1 hd o (by simp)
   rw [hk]at this
   simpa using this
  have hd2:yz a.tmps.size os=true:=List.all_eq_true.2 fun x hx=>List.all_eq_true.1 hd x (by simp [hx])
  refine wpList_step fun K' hK'=> ?_
  simp only [Qc]at ha
  split at ha
  ·rename_i hg
   rw [if_pos (by simp [Region.wanted,hg])]
   split at ha
   ·exact Vy hd1 h ha fun st' x w' h1 h2=>hK' _ _ (XM hτ hpos hQ os st' _ w' (by rw [xS];exact hd2) h2 h1)
   ·exact ZK hτ hpos hd1 h ha fun st' x w' h1 h2=>hK' _ _ (XM hτ hpos hQ os st' _ w' (by rw [xS];exact hd2) h2 h1)
  ·exact ha.elim
theorem zAK {Q:Exit→St→Prop}(t:Nat)(own:List Nat)(outs:List Out)(hτ:zx P τ)(hpos:yO τ)(al:List Nat){id:Nat}{ops:List Oper}(hd:yz st.n ops=true)(h:Qc P τ al t own outs ops (Q .normal) ops st):awp P τ (.region id ops.toArray false) Q st:=fun lo w0 a w hr=>by
 have hn:a.tmps.size=st.n:=by obtain⟨ow,hd,bk,h⟩:=hr;exact h.size
 refine wp_region_lit (XM hτ hpos (fun st a w h1 h2=>⟨st,h2,h1⟩) ops st a w (by rw [hn];exact hd) hr h)
end
attribute [push_cast] St.cutI QZ Qc qe jE zBC wy wS Zv wT YO mkF
section
variable {P:Program} {τ:Ty} {lo:Nat} {w0:Fz} {ow:Nat→Option Pl} {hd:Nat→Value} {bk:Nat→Nat} {st:St} {a:Act} {w:World}
def JG (P:Program)(τ:Ty)(al:List Nat)(X:Oper→(St→Prop)→St→Prop)(t:Option Nat)(K:St→Prop):List Oper→St→Prop
 | [],st=>K st
 |o::os,st=>
  match o.guard with
  |none=>if o.dst=t then X o (JG P τ al X t K os) st else aop P τ al o (JG P τ al X t K os) st
  |some (j,want)=>False
def jA (P:Program)(τ:Ty)(X:Oper→(St→Prop)→St→Prop):Prop:=
 ∀{lo:Nat} {w0:Fz} {st:St} {a:Act} {w:World} {o:Oper} {K:St→Prop} {Q:Exit→Act→World→Prop} {K':Act→World→Prop},(∀k,o.dst=some k→k<a.tmps.size)→Rel τ lo w0 st a w→X o K st→
  (∀st' x w',K st'→Rel τ lo w0 st' (a.put o.dst x) w'→K' (a.put o.dst x) w')→o.wp P a w K' Q
theorem QD (hτ:zx P τ)(hpos:yO τ){al:List Nat}{X:Oper→(St→Prop)→St→Prop}(hX:jA P τ X){t:Option Nat}{all:List Oper}{K:St→Prop}{Q:Exit→Act→World→Prop}(hQ: ∀st a w,K st→Rel τ lo w0 st a w→Q .normal a w):
  ∀(os:List Oper) (st:St) (a:Act) (w:World),yz a.tmps.size os=true→Rel τ lo w0 st a w→JG P τ al X t K os st→wpList P all.toArray Q os a w
 | [],st,a,w,_,h,ha=>wpList_nil (hQ st a w ha h)
 |o::os,st,a,w,hd,h,ha=>by
  have hd1: ∀k,o.dst=some k→k<a.tmps.size:=fun k hk=>by
   have :=List.all_eq_true.1 hd o (by simp)
   rw [hk]at this
   simpa using this
  have hd2:yz a.tmps.size os=true:=List.all_eq_true.2 fun x hx=>List.all_eq_true.1 hd x (by simp [hx])
  refine wpList_step fun K' hK'=> ?_
  simp only [JG]at ha
  split at ha
  ·rename_i hg
   rw [if_pos (by simp [Region.wanted,hg])]
   split at ha
   ·exact hX hd1 h ha fun st' x w' h2 h3=>hK' _ _ (QD hτ hpos @hX hQ os st' _ w' (by rw [xS];exact hd2) h3 h2)
   ·exact ZK hτ hpos hd1 h ha fun st' x w' h2 h3=>hK' _ _ (QD hτ hpos @hX hQ os st' _ w' (by rw [xS];exact hd2) h3 h2)
  ·exact ha.elim
end
theorem XP {P:Program}{τ:Ty}{Q:Exit→St→Prop}{st:St}(X:Oper→(St→Prop)→St→Prop)(hX:jA P τ X)(t:Option Nat)(hτ:zx P τ)(hpos:yO τ)(al:List Nat){id:Nat}{ops:List Oper}(hd:yz st.n ops=true)(h:JG P τ al X t (Q .normal) ops st):awp P τ (.region id ops.toArray false) Q st:=fun lo w0 a w hr=>by
 have hn:a.tmps.size=st.n:=by obtain⟨ow,hd,bk,h⟩:=hr;exact h.size
 refine wp_region_lit (QD hτ hpos @hX (fun st a w h1 h2=>⟨st,h2,h1⟩) ops st a w (by rw [hn];exact hd) hr h)
attribute [push_cast] JG
section
variable {P:Program} {τ:Ty} {lo:Nat} {w0:Fz} {ow:Nat→Option Pl} {hd:Nat→Value} {bk:Nat→Nat} {st:St} {a:Act} {w:World}
theorem zHN {w:World}{g i:Nat}{cur:Array Value}{e:TypeId}(h:w.heap[g]? =some (.cells cur e (0,0)))(hi:i<cur.size):(w.cell? ⟨g,i,none⟩).isSome=true∧w.frozen? ⟨g,i,none⟩=false:=by
 constructor
 ·simp [World.cell?,h,hi]
 ·simp [World.frozen?,h]
theorem zGh (hτ:zx P τ)(h:zd τ lo w0 ow hd bk st a w){d k:Nat}{e:TypeId}{xs:List D}{pin:Option Nat}(hR:lk st.r d=some ⟨.ex,e,xs,pin⟩){off len m:Nat}{v:Value}(hsub:Sub (sz τ e) (hd d) off len v)(hfull:off+len=xs.length){t ty:TypeId}{bt by_:Nat}{ck:CK}(ht:tk τ t=some (.sc (.sl e),bt))(he:tk τ e=some (.sc ck,by_))(hall:xs.all xP=true)
  (newD:List D) (news:List Value) (src:Value) (hsrc: ∃ad c2,src= .slice (some ad) m c2∧∀(j:Nat) (u:Value),news[j]? =some u→w.cell? (ad.add j)=some u) (hm:0<m) (hnl:news.length=m) (hdl:newD.length=m) (h1: ∀u∈news,u.oneCell'=true)
  (hN: ∀(i:Nat) (x:D) (u:Value),newD[i]? =some x→news[i]? =some u→xP x=true∧∃mo,Rp (sz τ) lo w ow mo x u) (h63:len+m≤1073741824) (hoff:xs.length≤1073741824) (hby:by_≤64):
  ∃v' w' ow' hd' pre,(pre= []∨pre=xs.take off)∧(Builtin.append_ #[t,t] ty #[v,src]).run P w= .ok v' w'∧zd τ lo w0 ow' hd' bk (st.appG St.delR d k ⟨.ex,e,pre++(xs.drop off++newD),none⟩) a w'∧
   AvR τ w' (st.appG St.delR d k ⟨.ex,e,pre++(xs.drop off++newD),none⟩).r (st.appG St.delR d k ⟨.ex,e,pre++(xs.drop off++newD),none⟩).b hd' bk (.sl k [] pre.length (len+m) e) v':=by
 have hsz:sz τ e=1:=Yu he
 have hu:P.underlying t=some (.slice e):=(yQ hτ ht).1
 obtain⟨i0,hi0,hs0,hz0,hb0⟩:=XC hτ he
 obtain⟨A,n,c,A',c',hnw,hhd,hval,hle,hlc,hmx,hf0,hA⟩:=hsub
 obtain⟨vs,⟨k1,N,k2,k3⟩,k5⟩:=(zu _ _).1 (h.root d _ hR)
 have hH0:Hd (sz τ) lo w ow (md .ex d) e (hd d) xs.length vs:=⟨k1,N,k2,k3⟩
 have k1:vs.length=xs.length:=k1
 have k2:xs.length=N*sz τ e:=k2
 simp only [md]at k3
 obtain⟨hown,hlab⟩:=k3
 rw [hsz,Nat.mul_one]at k2
 rw [hhd]at hown hlab
 rw [hsz]at hown hnw hA
 have hNn:N=n:=by
  rcases hown.2 with⟨hv,h0⟩|⟨g,cap,cur,hv,_⟩
  ·cases hv;exact h0
  ·cases hv;rfl
 subst hNn
 by_cases hroom:len+m≤c'
 ·-- there is room
  obtain⟨g,cap,cur,hv,hg,hb,hnc,hcm,hcs,htk⟩: ∃g cap cur,Value.slice A N c= .slice (some ⟨g,0,none⟩) N cap∧lo≤g∧w.heap[g]? =some (.cells cur e (0,0))∧N≤cap∧cap≤maxLen∧cur.size=cap*1∧cur.toList.take (N*1)=vs:=by
   rcases hown.2 with⟨hv,h0⟩|h9
   ·cases hv;exfalso;omega
   ·exact h9
  cases hv
  have hA':=hnw.2 g 0 rfl (by omega)
  rw [Nat.zero_add,Nat.mul_one]at hA'
  subst hA'
  have hw9:=hnw.1
  have hNm:N+m≤c:=by omega
  obtain⟨ad,c2,rfl,hcells⟩:=hsrc
  have hcells2: ∀j,j<news.length→(w.cell? ⟨g,N+j,none⟩).isSome=true∧w.frozen? ⟨g,N+j,none⟩=false:=fun j hj=>zHN hb (by omega)
  obtain⟨v1,w1,ow1,hrun1,hrel⟩:=QF (P:=P) hτ h (ZI h d) (by simp [St.delR,xH,is1]) (k:=k) (len:=N) (d:=d) hR (by simp) hhd (Nat.le_refl _) (ty:=ty) ht he (by show 0<sz τ e;omega) newD news (.slice (some ad) m c2) (m:=m) (.inl ⟨ad,c2,rfl,hcells⟩) (by rw [hsz,Nat.mul_one];exact hnl) (by omega) h1 (fun i x u hx hu=>by
   obtain⟨s1,mo,s2⟩:=hN i x u hx hu
   exact Yg s1 s2) (by omega) (by
   have :(N+m)*by_≤2147483648*64:=Nat.mul_le_mul (by omega) hby
   omega)
  have hr1:=run_append_room_cells (P:=P) (w:=w) t ty e i0 hu hi0 g 0 N c ad m c2 news (by rw [hs0,Nat.mul_one];exact hnl) hcells h1 (by omega) (fun j hj=>by rw [hs0,Nat.mul_one,Nat.zero_add];exact(hcells2 j hj).1) (fun j hj=>by rw [hs0,Nat.mul_one,Nat.zero_add];exact(hcells2 j hj).2)
  have hr2:=run_append_room_cells (P:=P) (w:=w) t ty e i0 hu hi0 g off len c' ad m c2 news (by rw [hs0,Nat.mul_one];exact hnl) hcells h1 hroom (fun j hj=>by rw [hs0,Nat.mul_one,show off+len=N by omega];exact(hcells2 j hj).1) (fun j hj=>by rw [hs0,Nat.mul_one,show off+len=N by omega];exact(hcells2 j hj).2)
  rw [hs0,Nat.mul_one,Nat.zero_add]at hr1
  rw [hs0,Nat.mul_one,show off+len=N by omega]at hr2
  rw [hr1]at hrun1
  cases hrun1
  have exs:xs.take off++(xs.drop off++newD)=xs.take (N*sz τ e)++newD:=by
   rw [←List.append_assoc,List.take_append_drop,hsz,Nat.mul_one,List.take_of_length_le (by omega)]
  refine⟨_,_,_,_,xs.take off, .inr rfl,by rw [hval];exact hr2,by rw [exs];exact hrel,?_⟩
  have hlo:(xs.take off).length=off:=by rw [List.length_take];omega
  rw [hlo]
  simp only [AvR]
  refine⟨⟨_,_,_,rfl⟩,fun R' hR' hp=>⟨.slice (some ⟨g,0,none⟩) (N+m) c,by simp only [yC,zw],some ⟨g,0,none⟩,N+m,c,some ⟨g,off,none⟩,c',⟨hnw.1,fun b o e9 _=> ?_⟩,rfl,rfl,by omega,hroom,hmx,hf0,fun _=>⟨g,0,rfl,by rw [hsz,Nat.mul_one,Nat.zero_add]⟩⟩⟩
  cases e9
  rw [hsz,Nat.mul_one,Nat.zero_add]
 ·-- a new row
  have hdr:(vs.drop off).length=len:=by rw [List.length_drop];omega
  obtain⟨v',w',hrun,hown',hg⟩: ∃v' w',(Builtin.append_ #[t,t] ty #[v,src]).run P w= .ok v' w'∧w'.ownsRow w.heap.size e 1 v' (len+m) (vs.drop off++news)∧w.grownBy w' none:=by
   obtain⟨ad,c2,rfl,hcells⟩:=hsrc
   have hbytes:(len+m)*by_≤140737488355328:=by
    have :(len+m)*by_≤1073741824*64:=Nat.mul_le_mul h63 hby
    omega
   have hmax:len+m≤maxLen:=by unfold maxLen;omega
   rw [hval]
   cases A' with
   |some ad'=>
    refine run_append_arg_grows (P:=P) (w:=w) t ty e i0 ck.zero 1 by_ hu hi0 hz0 hs0 hb0 (by cases ck<;>rfl) (by decide) ad' len c' (vs.drop off) (by rw [Nat.mul_one];exact hdr) (fun j u hj=> ?_) ad m c2 news (by rw [Nat.mul_one];exact hnl) hcells (by omega) hmax hbytes
    have hjl:=(List.getElem?_eq_some_iff.1 hj).1
    rw [List.getElem?_drop]at hj
    obtain⟨b1,o1,n1,c1,hv1,-,-,-,hc1⟩:=xz hH0 hj
    rw [hhd]at hv1
    cases hv1
    obtain⟨b2,o2,e1,e2⟩:=hA (by omega)
    cases e1
    rw [Nat.mul_one]at e2
    cases e2
    rw [Addr.add_lit,Nat.add_assoc]
    exact hc1
   |none=>
    have hl0:len=0:=by
     rcases Nat.eq_zero_or_pos len with h9|h9
     ·exact h9
     ·obtain⟨b2,o2,e1,e2⟩:=hA (by omega)
      cases e2
    have hc0:c'=0:=by
     rcases Nat.eq_zero_or_pos c' with h9|h9
     ·exact h9
     ·rcases hown.2 with⟨hv,h0⟩|⟨g,cap,cur,hv,_⟩
      ·cases hv;omega
      ·cases hv
       have :=hnw.2 g 0 rfl (by omega)
       cases this
    subst hl0
    subst hc0
    have hnil:vs.drop off= []:=List.eq_nil_of_length_eq_zero hdr
    rw [hnil]
    obtain⟨v',w',r1,r2,r3,-,r5⟩:=run_append_own_at (P:=P) w w.heap.size t ty e i0 ck.zero 1 by_ hu hi0 hz0 hs0 hb0 (by cases ck<;>rfl) (by decide) (.slice none 0 0) 0 [] ⟨rfl, .inl ⟨rfl,rfl⟩⟩ ad m c2 news (by rw [Nat.mul_one];exact hnl) hcells h1 hmax hbytes (Nat.le_refl _)
    exact⟨v',w',r1,r2,r3⟩
  have hvlt: ∀b,v'.ownBlock=some b→w.heap.size≤b∧b<w'.heap.size:=fun b hb=>⟨(hown'.lt b hb).1,(hown'.lt b hb).2⟩
  have s1:=ZI (ZI h d) k
  have hnew: ∀b,b<w.heap.size→¬v'.ownBlock=some b:=fun b hb e9=>by have :=(hvlt b e9).1;omega
  have s2:=Xb s1 (w':=w') (ow':=fun b=>if v'.ownBlock=some b then some (.root k [])else ow b) hg.size (fun b hb=>⟨hg.block b hb (by simp),if_neg (hnew b hb)⟩) (h.below.grown hg (fun b hb=>by cases hb)) (fun b p hle hp hne=>by
   refine⟨Nat.le_trans h.low hle,fun hlt=>by have :=h.below.size;omega⟩) (fun b hle=>by
   have h9: ¬v'.ownBlock=some b:=fun e9=>by have :=(hvlt b e9).2;omega
   simp only [h9,if_false]
   exact h.new b (by have :=hg.size;omega))
  have hxl:(xs.drop off).length=len:=by rw [List.length_drop];omega
  have hownlo:w'.ownsRow lo e 1 v' (len+m) (vs.drop off++news):=⟨hown'.1,hown'.2.imp id fun⟨g,cap,cur,q1,q2,q3⟩=>⟨g,cap,cur,q1,Nat.le_trans h.low q2,q3⟩⟩
  have hroot:Rp (sz τ) lo w' (fun b=>if v'.ownBlock=some b then some (.root k [])else ow b) (md .ex k) (.lst e (xs.drop off++newD)) v':=by
   refine(zu _ _).2 ⟨vs.drop off++news,⟨by rw [List.length_append,List.length_append,hdr,hxl,hnl,hdl],len+m,by rw [hsz,Nat.mul_one,List.length_append,hxl,hdl],?_⟩,fun i x u hx hu=> ?_⟩
   ·simp only [md]
    rw [hsz]
    exact⟨hownlo,fun b hb=>by simp only [hb,if_true]⟩
   ·rcases Nat.lt_or_ge i len with hi|hi
    ·rw [List.getElem?_append_left (by omega),List.getElem?_drop]at hx hu
     exact Yg (List.all_eq_true.1 hall x (List.mem_of_getElem? hx)) (k5 _ x u hx hu)
    ·rw [List.getElem?_append_right (by omega)]at hx hu
     rw [hxl]at hx
     rw [hdr]at hu
     obtain⟨s3,mo,s4⟩:=hN _ x u hx hu
     exact Yg s3 s4
  have s3:=qF s2 k ⟨.ex,e,xs.drop off++newD,none⟩ v' hroot
  refine⟨v',w',_,_,[], .inl rfl,hrun,s3,?_⟩
  obtain⟨A2,n2,c2,hv',hlen',hnc2,hm2⟩:=xG hroot
  have hn2:n2=len+m:=by
   rw [List.length_append,hxl,hdl,hsz,Nat.mul_one]at hlen'
   omega
  subst hn2
  subst hv'
  simp only [AvR,List.length_nil,List.nil_append]
  refine⟨⟨_,_,_,rfl⟩,fun R' hR' hp=>⟨.slice A2 (len+m) c2,by simp only [yC,zw],A2,len+m,c2,A2,c2,nw0,rfl,rfl,by omega,hnc2,hm2,fun _=>⟨rfl,rfl⟩,fun hne0=> ?_⟩⟩
  rcases hown'.2 with⟨hv9,h0⟩|⟨g,cap,cur,hv9,_⟩
  ·omega
  ·cases hv9
   exact⟨g,0,rfl,by rw [Nat.zero_mul]⟩
def Uw (τ:Ty)(o:Oper)(K:St→Prop)(st:St):Prop:=
 match o.op,o.dst with
 | .call c,some t=>
  match c.callee with
  | .builtin .append=>
   match c.args.toList,c.argTypes.toList with
   | [X,Y],[t1,t2]=>
    match ev st X,ev st Y,tk τ t1 with
    | .sl d [] off len e, .sl d2 p2 off2 len2 e2,some (.sc (.sl e'),_)=>
     match lk st.r d,lk st.r d2,tk τ e with
     |some R,some R2,some (.sc ck,by_)=>t1=t2∧e'=e∧e2=e∧R.o= .ex∧R.e=e∧(by_≤64)∧off+len=R.xs.length∧R.xs.all xP=true∧zk R2.xs p2∧vF R2.e R2.xs p2=e∧(((yL R2.xs p2).drop off2).take len2).all xP=true∧0<len2∧len+len2≤1073741824∧R.xs.length≤1073741824∧
      ∀pre:List D,(pre= []∨pre=R.xs.take off)→K ((st.appG St.delR d (zY t 0) ⟨.ex,e,pre++(R.xs.drop off++((yL R2.xs p2).drop off2).take len2),none⟩).put (some t) (.sl (zY t 0) [] pre.length (len+len2) e))
     |_,_,_=>False
    |_,_,_=>False
   |_,_=>False
  |_=>False
 |_,_=>False
theorem jB (hτ:zx P τ):jA P τ (Uw τ):=by
 intro lo w0 st a w o K Q K' hd9 h ha hK
 obtain⟨ow,hd,bk,hr⟩:=h
 obtain⟨dst,op,oty,pos,after,guard⟩:=o
 unfold Uw at ha
 cases op<;>simp only at ha
 rename_i c
 obtain⟨callee,args,argTypes⟩:=c
 cases dst with
 |none=>simp only at ha
 |some t=>
 simp only at ha
 split at ha
 rotate_left
 ·exact ha.elim
 split at ha
 rotate_left
 ·exact ha.elim
 rename_i X Y t1 t2 h1 h2
 split at ha
 rotate_left
 ·exact ha.elim
 rename_i d off len e d2 p2 off2 len2 e2 e' bt hX hY ht1
 split at ha
 rotate_left
 ·exact ha.elim
 rename_i R R2 ck by_ hR hR2 hte
 obtain⟨rfl,rfl,rfl,hex,hRe,hb64,hfull,hall,hp2,hnode,hall2,hlen2,hbd,hbd2,hK1⟩:=ha
 obtain⟨ro,re,rx,rp⟩:=R
 simp only at hex hRe hfull hall hbd2 hK1
 subst hex;subst hRe
 have e1:args= #[X,Y]:=by cases args;simp at h1;subst h1;rfl
 have e2:argTypes= #[t1,t1]:=by cases argTypes;simp at h2;subst h2;rfl
 subst e1;subst e2
 have hx:=ze hr X
 have hy:=ze hr Y
 rw [hX]at hx
 rw [hY]at hy
 simp only [AvR]at hx hy
 obtain⟨hv,hin,hsub⟩:=hx.2 _ hR (by simp only [zk])
 simp only [yC,Option.some.injEq]at hin
 subst hin
 have hsz1:=Yu hte
 obtain⟨hv2,hin2,hsub2⟩:=hy.2 R2 hR2 hp2
 have hview:=Yv hr hR2 hp2 hin2 hsub2 hnode lo
 rw [hsz1,Nat.mul_one,Nat.mul_one]at hview
 obtain⟨vs,⟨k1,N,k2,A3,c3,k3,k4,k5,k6⟩,k7⟩:=(zu _ _).1 hview
 obtain⟨A4,n4,c4,A5,c5,hnw5,e4,e5,hle4,-⟩:=hsub2
 rw [k3]at e5
 cases e5
 rw [hsz1,Nat.mul_one]at k2
 obtain⟨b,oo,hA,hb,-,hcell⟩:=k6 (by omega)
 subst hA
 have hsc: ∀(i:Nat) (x:D) (u:Value),(((yL R2.xs p2).drop off2).take len2)[i]? =some x→vs[i]? =some u→xP x=true∧∃mo,Rp (sz τ) lo w ow mo x u:=fun i x u hx hu=>
  ⟨List.all_eq_true.1 hall2 x (List.mem_of_getElem? hx), .sh,Yg (m':= .sh) (List.all_eq_true.1 hall2 x (List.mem_of_getElem? hx)) (k7 i x u hx hu)⟩
 have hone: ∀u∈vs,u.oneCell'=true:=fun u hu=>by
  obtain⟨j,hj⟩:=List.getElem?_of_mem hu
  have hjl:=(List.getElem?_eq_some_iff.1 hj).1
  obtain⟨s1,mo,s2⟩:=hsc j _ u (List.getElem?_eq_getElem (by omega)) hj
  cases hd':(((yL R2.xs p2).drop off2).take len2)[j]'(by omega)with
  |int k n=>rw [hd']at s2;simp only [Rp]at s2;subst s2;rfl
  |bool b=>rw [hd']at s2;simp only [Rp]at s2;subst s2;rfl
  |hole=>rw [hd']at s1;cases s1
  |lst e xs=>rw [hd']at s1;cases s1
 obtain⟨v',w',ow',hd',pre,r1,r2,r3,r4⟩:=zGh (P:=P) hτ hr (k:=zY t 0) hR hsub hfull (ty:=oty) ht1 hte hall _ vs (a.eval Y) ⟨_,c3,k3,fun j u hu=>by rw [Addr.add_lit];exact hcell j u hu⟩ hlen2 (by rw [k1,k2]) k2 hone hsc hbd hbd2 hb64
 unfold Oper.wp
 have hexec:(execOp a.eval ⟨some t, .call ⟨.builtin .append,#[X,Y],#[t1,t1]⟩,oty,pos,after,guard⟩).run P w= .ok (.value v') w':=by
  simp [execOp,resolve,invoke,builtin,r2]
 rw [hexec]
 exact hK _ v' _ (hK1 pre r1) (xV r3 hd9 r4)
end
attribute [push_cast] Uw
end Go.Proofs.YthepmdkpbjfdcaaGreat
