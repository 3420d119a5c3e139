/- Calls of one kind of their own in regions: those whose result shares cells with the first argument (plain regions), those that change one object of the caller's and say a number (drawn regions). -/
import Derived.Test.YtdbecmmeifdafaaB11zbr
import Derived.Test.YtdbecmmeifdafaaB4zbr
import Derived.Test.YtdbecmmeifdafaaB9zbr
import Derived.Test.YtdbecmmeifdafaaGWzbr
import Derived.Test.YtdbecmmeifdafaaGKzbr
namespace Go.Proofs.Ytdbecmmeifdafaa
open Go.RowKit
set_option linter.unusedVariables false
set_option linter.unusedSimpArgs false
def xz (st:St)(ls:List yq):St:={st with r:=Xi ls st.r}
section
variable {P:Program} {np:Bool} {τ:Ty} {lo:Nat} {w0:Fz} {ow:Nat→Option Pl} {hd:Nat→Value} {bk:Nat→Nat} {st:St} {a:Act} {w:World}
theorem UJ (h:zj τ lo w0 ow hd bk st a w)(hpf:PF st){vs:List AV}{cv:List Value}(hv:zY τ w st.r st.b hd bk vs cv){own:List Nat}{outs:List Out}{ls:List yq}{ob2:Prop}
  (hl:vv τ st vs outs own=some (ls,ob2)) (hob2:ob2) (hsep:vm ls) (hnd:own.Nodup) {t:Nat} {w':World} {ow':Nat→Option Pl}
  (hk:xW ⟨w,fun b=>qO ow ls b=none,fun _=>none⟩ w') (hlow: ∀b,b<w.heap.size→qO ow ls b=none→ow' b=none) (hnew: ∀b p,ow' b=some p→b<w'.heap.size∧lo≤b∧∃d q,p= .root d q)
  (hout: ∀x∈outs,Rp (sz τ) lo w' ow' (.ex (VH x.1) []) (.lst x.2.1 x.2.2) (yC cv x.1)):
  zj τ lo w0 (vf ow ls w.heap.size t ow') hd bk (xz st ls) a w':=by
 obtain⟨l1,l2⟩:=VD hl hob2
 have hok: ∀x∈ls,∃len R,zBH τ st vs outs x len R:=fun x hx=>by
  obtain⟨ob,e1,e2⟩:=l1 x hx;exact uC e1 e2
 have hids:(ls.map (·.id)).Nodup:=by rw [l2];exact hnd
 have old: ∀b,b<w.heap.size→qO ow ls b=none→w'.heap[b]? =w.heap[b]? ∧vf ow ls w.heap.size t ow' b=ow b:=fun b hb hn=>
  ⟨hk.block b hb hn,by unfold vf;rw [if_pos ⟨hb,by rw [hn];rfl⟩]⟩
 have back: ∀x∈ls,∀b q,ow' b=some (.root (VH x.id) q)→vf ow ls w.heap.size t ow' b=some (.root x.d (x.p++q)):=fun x hx b q hb=>by
  have : ¬(b<w.heap.size∧(qO ow ls b).isNone=true):=fun⟨h1,h2⟩=>by
   rw [hlow b h1 (by cases ho:qO ow ls b with|none=>rfl|some p=>rw [ho]at h2;cases h2)]at hb;cases hb
  unfold vf
  rw [if_neg this,hb]
  simp only
  rw [if_pos (by unfold VH;omega),show VH x.id - 1000000=x.id from by unfold VH;omega]
  exact Uf hids x hx
 have hge: ∀b p,vf ow ls w.heap.size t ow' b=some p→p≠ .ext→b<w'.heap.size→lo≤b∧w0.fre b:=fun b p hb hp hlt=>by
  by_cases hc:b<w.heap.size∧(qO ow ls b).isNone=true
  ·unfold vf at hb;rw [if_pos hc]at hb;exact h.ge b p hc.1 hb hp
  ·unfold vf at hb
   rw [if_neg hc]at hb
   have ho': ∃p',ow' b=some p':=by
    cases ho:ow' b with
    |none=>rw [ho]at hb;cases hb
    |some p'=>exact⟨p',rfl⟩
   obtain⟨p',ho'⟩:=ho'
   refine⟨(hnew b p' ho').2.1,fun hlt0=> ?_⟩
   have hbw:b<w.heap.size:=Nat.lt_of_lt_of_le hlt0 h.below.size
   cases hoi:qO ow ls b with
   |none=>exact absurd ⟨hbw,by rw [hoi];rfl⟩ hc
   |some p2=>
    obtain⟨d,q,ho,-⟩:=ZG hoi
    exact(h.ge b _ hbw ho (by simp)).2 hlt0
 have hc:=h
 have hr: ∀d,lk (xz st ls).r d=if vy d ls=true then none else(lk st.r d).map fun R=>{R with xs:=qI d R.xs ls}:=fun d=>Qq ls st.r d
 have hrel: ∀(d:Nat) (R:zq),(∀x∈ls,x.d≠d)→∀b,b<w.heap.size→rel (md R.o d) (ow b)→w'.heap[b]? =w.heap[b]? ∧vf ow ls w.heap.size t ow' b=ow b:=fun d R hn b hb hr=>old b hb (jU hn hr)
 have h0: ∀d,(∃x∈ls,x.d=d)→Wx st.r (xz st ls).r hd hd d:=fun d _ R' hR'=>by
  rw [hr]at hR'
  split at hR'
  ·cases hR'
  ·cases hx:lk st.r d with
   |none=>rw [hx]at hR';cases hR'
   |some R=>exact⟨R,rfl,rfl⟩
 have hD: ∀d,¬(∃x∈ls,x.d=d)→xF w w' st.r (xz st ls).r hd hd d:=fun d hn R' hR'=>by
  have hn': ∀x∈ls,x.d≠d:=fun x hx e=>hn ⟨x,hx,e⟩
  rw [hr,zAn hn']at hR'
  simp only [Bool.false_eq_true,if_false]at hR'
  cases hx:lk st.r d with
  |none=>rw [hx]at hR';cases hR'
  |some R=>
   rw [hx]at hR'
   simp only [Option.map_some,Option.some.injEq]at hR'
   subst hR'
   refine⟨R,rfl,rfl,fun p hp=> ?_⟩
   simp only [KJ hn']at hp⊢
   exact⟨hp,xP p _ _ _ _ (h.root d R hx) hp (fun b o A n c hb hrl hcell=>by
    rw [qB (hrel d R hn' b hb hrl).1];exact hcell)⟩
 have hB: ∀t,xB st.b (xz st ls).b bk bk t:=fun t hl=>⟨hl,rfl⟩
 have hbad: ∀d,(∃x∈ls,x.d=d)→VQ d st:=fun d ⟨x,hx,e⟩=>by
  obtain⟨len,R,ho⟩:=hok x hx
  subst e
  exact hpf x.d R ho.root ho.ex
 refine⟨h.big,h.defers,h.size,Nat.le_trans h.low hk.size,h.below.step hk.os hk.tape hk.output hk.size (fun b hb hf=> ?_),fun b p hlt hb hp=>hge b p hb hp hlt,fun b hb=> ?_,fun k v hv'=> ?_,fun d R' hR'=> ?_,fun k us hv'=> ?_,fun d R' i hR' hp=> ?_⟩
 ·refine hk.block b hb ?_
  show qO ow ls b=none
  cases hoi:qO ow ls b with
  |none=>rfl
  |some p=>
   obtain⟨d,q,ho,-⟩:=ZG hoi
   exact absurd (h.ge b _ hb ho (by simp)).2 hf
 ·have hb':w.heap.size≤b:=Nat.le_trans hk.size hb
  unfold vf
  rw [if_neg (fun hh=>by omega)]
  cases ho:ow' b with
  |none=>rfl
  |some p=>have :=(hnew b p ho).1;omega
 ·exact uR h0 hD hB v _ (fun d hd' hb=>(hbad d hb).s k v hv' hd') (hc.slot k v hv')
 ·rw [hr]at hR'
  split at hR'
  ·cases hR'
  ·rename_i hg
   have hg:vy d ls=false:=by simpa using hg
   cases hx:lk st.r d with
   |none=>rw [hx]at hR';cases hR'
   |some R=>
    rw [hx]at hR'
    simp only [Option.map_some,Option.some.injEq]at hR'
    subst hR'
    by_cases hin: ∃x∈ls,x.d=d
    ·have hex:R.o= .ex:=by
      obtain⟨x,hxm,rfl⟩:=hin
      obtain⟨len,R2,ho⟩:=hok x hxm
      have :=ho.root;rw [hx]at this;cases this
      exact ho.ex
     simp only [hex]
     by_cases hroot: ∃x∈ls,x.d=d∧x.p= []
     ·obtain⟨x,hxm,rfl,hp⟩:=hroot
      obtain⟨ys,hys⟩:=Jp hg x hxm rfl
      obtain⟨len,R2,ho⟩:=hok x hxm
      have :=ho.root;rw [hx]at this;cases this
      obtain⟨q1,-⟩:=KS h hv ho
      rw [hp]at q1
      simp only [yF,Option.some.injEq]at q1
      have he:=ho.elem
      rw [hp]at he
      simp only [ve]at he
      simp only [jl hsep x hxm rfl hp hys]
      have :=hout _ (ho.out ys hys)
      simp only at this
      rw [←q1,←he]at this
      exact qe _ _ _ _ _ [] [] _ (fun b q _ hb=>by
       have :=back x hxm b q (by simpa using hb)
       rw [hp]at this
       simpa using this) this
     ·have hone: ∀x∈ls,x.d=d→∃j ys,x.p= [j]∧x.out=some ys:=fun x hxm e=>by
       obtain⟨len,R2,ho⟩:=hok x hxm
       rcases ho.short with hs|hs
       ·exact absurd ⟨x,hxm,e,hs⟩ hroot
       ·exact hs
      have hone': ∀x∈ls,x.d=d→∃j,x.p= [j]:=fun x hxm e=>by obtain⟨j,ys,h1,-⟩:=hone x hxm e;exact⟨j,h1⟩
      have hrt:=h.root d R hx
      rw [hex]at hrt
      obtain⟨zs,k1,k5⟩:=(zx _ _).1 hrt
      have hlen:(qI d R.xs ls).length=R.xs.length:=Wo hone'
      have hnil: ∀b,ow b=some (.root d [])→qO ow ls b=none:=fun b hb=>by
       cases hoi:qO ow ls b with
       |none=>rfl
       |some p=>
        obtain⟨d',q,h1,x,hxm,h2,q',h3,-⟩:=ZG hoi
        rw [hb]at h1;cases h1
        obtain⟨j,hj⟩:=hone' x hxm h2
        rw [hj]at h3;simp at h3
      have k1':Hd (sz τ) lo w' (vf ow ls w.heap.size t ow') (.ex d []) R.e (hd d) R.xs.length zs:=by
       obtain⟨m1,N,m2,m3,m4⟩:=k1
       refine⟨m1,N,m2,⟨m3.1,?_⟩,fun b hb=> ?_⟩
       ·rcases m3.2 with hn|⟨g,cap,cur,hv2,hb2,hg2,rest⟩
        ·exact .inl hn
        ·have hgo:=m4 g (by rw [hv2];rfl)
         have hglt:g<w.heap.size:=(Array.getElem?_eq_some_iff.1 hg2).1
         exact .inr ⟨g,cap,cur,hv2,hb2,by rw [(old g hglt (hnil g hgo)).1];exact hg2,rest⟩
       ·have hgo:=m4 b hb
        rw [(old b (m3.lt b hb).2 (hnil b hgo)).2];exact hgo
      refine(zx _ _).2 ⟨zs,by rw [hlen];exact k1',fun i y u hy hu=> ?_⟩
      have hi:i<R.xs.length:=by rw [←hlen];exact(List.getElem?_eq_some_iff.1 hy).1
      by_cases hsel: ∃x∈ls,x.d=d∧x.p= [i]
      ·obtain⟨x,hxm,rfl,hp⟩:=hsel
       obtain⟨j,ys,hj,hys⟩:=hone x hxm rfl
       obtain⟨len,R2,ho⟩:=hok x hxm
       have :=ho.root;rw [hx]at this;cases this
       rw [zAN hi hsep hone' x hxm rfl hp hys]at hy
       cases hy
       obtain⟨q1,-⟩:=KS h hv ho
       rw [hp]at q1
       obtain⟨b1,o1,n1,c1,hv',hN,hb1,hr1,hc1⟩:=qu k1 hu
       rw [hv']at q1
       simp only [yF,hc1,Option.bind_some,Option.some.injEq]at q1
       have :=hout _ (ho.out ys hys)
       simp only at this
       rw [←q1]at this
       refine qe _ _ _ _ _ [] ([]++ [i]) _ (fun b q _ hb=> ?_) this
       have :=back x hxm b q (by simpa using hb)
       rw [hp]at this
       simpa using this
      ·rw [uQ (fun x hxm e=>by
        obtain⟨j,hj⟩:=hone' x hxm e
        exact⟨j,hj,fun e2=>hsel ⟨x,hxm,e,by rw [hj,e2]⟩⟩)]at hy
       refine yJ _ _ hk.size _ _ _ (fun b hb hr=>old b hb ?_) (k5 i y u hy hu)
       obtain⟨q,hq⟩:=hr
       cases hoi:qO ow ls b with
       |none=>rfl
       |some p=>
        obtain⟨d',q',h1,x,hxm,h2,q2,h3,-⟩:=ZG hoi
        rw [hq]at h1
        simp only [Option.some.injEq,Pl.root.injEq,List.nil_append]at h1
        obtain⟨rfl,rfl⟩:=h1
        obtain⟨j,hj⟩:=hone' x hxm h2
        rw [hj]at h3
        simp only [List.cons_append,List.nil_append,List.cons.injEq]at h3
        exact absurd ⟨x,hxm,h2,by rw [hj,h3.1]⟩ hsel
    ·have hn': ∀x∈ls,x.d≠d:=fun x hx e=>hin ⟨x,hx,e⟩
     simp only [KJ hn']
     exact yJ _ _ hk.size _ _ _ (fun b hb hr=>hrel d R hn' b hb hr) (h.root d R hx)
 ·obtain⟨cs,ty,q1,q2,q3⟩:=hc.box k us hv'
  have hlt:bk k<w.heap.size:=(Array.getElem?_eq_some_iff.1 q1).1
  have hno:qO ow ls (bk k)=none:=by unfold qO;rw [q2]
  exact⟨cs,ty,by rw [(old _ hlt hno).1];exact q1,by rw [(old _ hlt hno).2];exact q2,Zi h0 hD hB us cs (fun d hd' hb=>(hbad d hb).b k us hv' hd') q3⟩
 ·rw [hr]at hR'
  split at hR'
  ·cases hR'
  ·cases hx:lk st.r d with
   |none=>rw [hx]at hR';cases hR'
   |some R=>
    rw [hx]at hR'
    simp only [Option.map_some,Option.some.injEq]at hR'
    subst hR'
    exact h.pin d R i hx hp
theorem zAC (h:zj τ lo w0 ow hd bk st a w)(hpf:PF st){vs:List AV}{cv:List Value}(hv:zY τ w st.r st.b hd bk vs cv){own:List Nat}{outs:List Out}{ls:List yq}{ob2:Prop}
  (hl:vv τ st vs outs own=some (ls,ob2)) (hob2:ob2) (hsep:vm ls) (hnd:own.Nodup) {t:Nat} {ress:List VT} (hs:szL τ (zr ress)) (hfl:(zr ress).length≤1000000) {e:Ending} {w':World} (hp:zDp τ lo w (qO ow ls) outs ress cv e w'):
  ∃z ow' hd',e= .returned z∧zj τ lo w0 ow' hd' bk (yf t 0 (zr ress) (xz st ls)) a w'∧AvR τ w' (yf t 0 (zr ress) (xz st ls)).r (yf t 0 (zr ress) (xz st ls)).b hd' bk (qV (xE τ t 0 ress)) z:=by
 obtain⟨rs,ow',he,hk,hlow,hnew,hres,hout⟩:=hp
 have h1:=UJ h hpf hv hl hob2 hsep hnd (t:=t) hk hlow hnew hout
 have e2: ∀b j q,j<1000000→ow' b=some (.root j q)→vf ow ls w.heap.size t ow' b=some (.root (zZ t j) q):=fun b j q hj hq=>by
  have : ¬(b<w.heap.size∧(qO ow ls b).isNone=true):=fun⟨h1,h2⟩=>by
   rw [hlow b h1 (by cases ho:qO ow ls b with|none=>rfl|some p=>rw [ho]at h2;cases h2)]at hq;cases hq
  unfold vf
  rw [if_neg this,hq]
  simp only
  rw [if_neg (by omega)]
 obtain⟨cs,k1,k2,k3⟩:=Xc (bk:=bk) (τ:=τ) (rr:=(yf t 0 (zr ress) (xz st ls)).r) (bb:=(yf t 0 (zr ress) (xz st ls)).b) (t:=t) hres
 have k2': ∀(i:Nat) (d:D) (c:Value),(zr ress)[i]? =some d→cs[i]? =some c→Rp (sz τ) lo w' (vf ow ls w.heap.size t ow') (.ex (zZ t (0+i)) []) d c:=fun i d c hd hc=>by
  have hi:i<1000000:=Nat.lt_of_lt_of_le (List.getElem?_eq_some_iff.1 hd).1 hfl
  exact qe _ _ _ _ _ [] [] _ (fun b q _ e=>e2 b _ q (by omega) e) (k2 i d c hd hc)
 obtain⟨hd',r1,r2,r3⟩:=VL t (zr ress) 0 (xz st ls) hd cs h1 k1 k2'
 exact⟨wh rs,_,hd',he,r1,jB (k3 w' hd' (qy (ow:=vf ow ls w.heap.size t ow') (lo:=lo) t (zr ress) 0 cs k1 hs (fun i d c h1 h2=>⟨_,k2' i d c h1 h2⟩) (fun i e xs c h1 h2=>(r3 i e xs c h1 h2).2)))⟩
def Kq (P:Program)(τ:Ty)(id:Nat)(o:Oper)(st:St)(K:Dl→Prop):Prop:=
 match zz o with
 |some (f,args,ts)=>
  match ye τ st ts.toList (args.toList.map (ev st)),cellAt (args.toList.map (ev st)) id with
  |some (as9,ob), .sl d [] 0 len e=>
   match lk st.r d with
   |some R=>R.o.isEx=true∧(0<sz τ e∧R.e=e∧len*sz τ e=R.xs.length)∧(ZN [id] 0 (args.toList.map (ev st))).all (fun n=> !(2*d==n))=true∧few as9=true∧ob∧∃k n ys,FnG P τ f as9 [id] [(id,e,ys)] [.c (.int k n)]∧K ⟨.int k n,[(d,{R with xs:=ys})],[],[]⟩
   |none=>False
  |_,_=>False
 |none=>False
theorem zEW {vs:List AV}{id d len:Nat}{e:TypeId}(h:cellAt vs id= .sl d [] 0 len e):2*d∈AV.nmL vs:=by
 unfold cellAt at h
 have get: ∀(us:List AV) (i:Nat),us.getD i .dead= .sl d [] 0 len e→AV.sl d [] 0 len e∈us:=fun us i h=>by
  rw [List.getD_eq_getElem?_getD]at h
  cases hu:us[i]? with
  |none=>rw [hu]at h;cases h
  |some u=>rw [hu]at h;simp only [Option.getD_some]at h;subst h;exact List.mem_of_getElem? hu
 have top: ∀(us:List AV) (i:Nat) (v:AV),us.getD i .dead=v→v≠ .dead→v∈us:=fun us i v h hn=>by
  rw [List.getD_eq_getElem?_getD]at h
  cases hu:us[i]? with
  |none=>rw [hu]at h;exact absurd h.symm hn
  |some u=>rw [hu]at h;simp only [Option.getD_some]at h;subst h;exact List.mem_of_getElem? hu
 split at h
 ·rename_i us hv
  exact zy.2 ⟨_,top _ _ _ hv (by simp),by simp only [AV.nm];exact zy.2 ⟨_,get _ _ h,by simp [AV.nm]⟩⟩
 ·rename_i f us hv
  exact zy.2 ⟨_,top _ _ _ hv (by simp),by simp only [AV.nm];exact zy.2 ⟨_,get _ _ h,by simp [AV.nm]⟩⟩
 ·split at h
  ·exact zy.2 ⟨_,get _ _ h,by simp [AV.nm]⟩
  ·cases h
theorem ut {id:Nat}{o:Oper}{K:Dl→Prop}(h:Kq P τ id o st K): ∃δ,qL P true τ o st δ∧K δ:=by
 unfold Kq at h
 cases hc:zz o with
 |none=>rw [hc]at h;exact h.elim
 |some x=>
  obtain⟨f,args,ts⟩:=x
  rw [hc]at h
  simp only at h
  split at h
  rotate_left
  ·exact h.elim
  rename_i as9 ob d len e hargs hcell
  split at h
  rotate_left
  ·exact h.elim
  rename_i R hR
  obtain⟨h1,⟨h2,h3,h4⟩,h5,h6,h7,k,n,ys,hF,hK⟩:=h
  have hex:R.o= .ex:=by cases ho:R.o<;>rw [ho]at h1<;>first|rfl|cases h1
  have hin:2*d∈fp o st:=by
   obtain⟨v,hv,hm⟩:=zy.1 (zEW hcell)
   obtain⟨x,hx,rfl⟩:=List.mem_map.1 hv
   exact List.mem_append_left _ (zy.2 ⟨_,List.mem_map.2 ⟨x,qa hc x (by simpa using hx),rfl⟩,hm⟩)
  refine⟨_, .inl ⟨rfl,⟨_,hc⟩,⟨k,n,rfl⟩,rfl,rfl,⟨d,{R with xs:=ys},R,rfl,hR,rfl,hin⟩,fun st' hag hpf lo w0 a w Q K' hdn hrel hK'=> ?_⟩,hK⟩
  have h2v:AgV st st' (.agg (args.toList.map (ev st))):=by
   refine⟨fun d hd=> ?_,fun t ht=> ?_⟩
   ·obtain⟨v,hv,hm⟩:=zy.1 hd
    obtain⟨x,hx,rfl⟩:=List.mem_map.1 hv
    exact(hag.v (qa hc x (by simpa using hx))).1 d hm
   ·obtain⟨v,hv,hm⟩:=zy.1 ht
    obtain⟨x,hx,rfl⟩:=List.mem_map.1 hv
    exact(hag.v (qa hc x (by simpa using hx))).2 t hm
  have hargs':ye τ st' ts.toList (args.toList.map (ev st'))=some (as9,ob):=by rw [hag.args hc,XG h2v];exact hargs
  have hcell':cellAt (args.toList.map (ev st')) id= .sl d [] 0 len e:=by rw [hag.args hc];exact hcell
  have hR':lk st'.r d=some R:=by rw [hag.r d hin];exact hR
  have hlend:vv τ st' (args.toList.map (ev st')) [(id,e,ys)] [id]=some ([⟨id,d,[],e,some ys⟩],(R.e=e∧len*sz τ e=R.xs.length∧e=e)∧True):=by
   simp only [vv,XL,hcell',hR',h1,h2,JI,if_true,and_self]
  have hap:apart (ZN [id] 0 (args.toList.map (ev st'))) [⟨id,d,[],e,some ys⟩]=true:=by
   unfold apart
   rw [hag.args hc]
   rw [List.all_eq_true]at h5⊢
   intro n hn
   have :=h5 n hn
   simpa using this
  have hob2:(R.e=e∧len*sz τ e=R.xs.length∧e=e)∧True:=⟨⟨h3,h4,rfl⟩,trivial⟩
  have hsep:vm [(⟨id,d,[],e,some ys⟩:yq)]:=⟨trivial,trivial⟩
  obtain⟨ow,hd',bk,hr⟩:=hrel
  have hev:zY τ w st'.r st'.b hd' bk (args.toList.map (ev st')) (args.toList.map a.eval):=zn.2 ⟨by simp,fun i v x hv hx=>by
   rw [List.getElem?_map]at hv hx
   cases hk:args.toList[i]? with
   |none=>rw [hk]at hv;cases hv
   |some p=>rw [hk]at hv hx;cases hv;cases hx;exact zi hr p⟩
  have hA:=zBm hr hev hargs' h7 hlend hob2 hsep hap h6
  obtain⟨hcl,hcall⟩:=hF
  have hC:=hcall lo w (qO ow [⟨id,d,[],e,some ys⟩]) _ hr.low (fun b p hb=>by
   obtain⟨d,q,ho,x,hx,-,q',-,hp⟩:=ZG hb
   have hlt:b<w.heap.size:=by
    rcases Nat.lt_or_ge b w.heap.size with h'|h'
    ·exact h'
    ·rw [hr.new b h']at ho;cases ho
   exact⟨hlt,(hr.ge b _ hlt ho (by simp)).1,_,_,hp⟩) hA
  unfold Oper.wp
  rw [VA hr hc hcl]
  simp only [Oper.upon]
  refine hC.mono fun e' w' hpost=> ?_
  obtain⟨z,ow',hd2,he,r1,r2⟩:=zAC hr hpf hev hlend hob2 hsep (by simp) (t:=zo o) (by simp [szL,zr,VT.cells]) (by simp [zr,VT.cells]) hpost
  subst he
  have hrel:=qc r1 hdn r2
  refine hK' z w' (qg hrel ⟨?_,fun k2 v hv=> .inr ?_,fun k2 us hus=> ?_,fun k2 R2 hR2=> ?_⟩)
  ·rw [Wu,zDY];rfl
  ·rw [wu]at hv
   cases hdd:o.dst with
   |none=>rw [hdd]at hv;simpa [St.put,yf,zr,VT.cells,xz]using hv
   |some d0=>
    rw [hdd]at hv
    simp only [St.put,zh,yf,zr,VT.cells,xz,xE,yO,qV,List.append_nil,List.nil_append,List.headD_cons]
    simpa using hv
  ·rw [wC]at hus
   have e0:lk ((yf (zo o) 0 (zr [.c (.int k n)]) (xz st' [⟨id,d,[],e,some ys⟩])).put o.dst (qV (xE τ (zo o) 0 [.c (.int k n)]))).b k2=lk st'.b k2:=by
    cases o.dst<;>rfl
   rw [e0]
   simpa [yw]using hus
  ·rw [vw]at hR2
   have e0:lk ((yf (zo o) 0 (zr [.c (.int k n)]) (xz st' [⟨id,d,[],e,some ys⟩])).put o.dst (qV (xE τ (zo o) 0 [.c (.int k n)]))).r k2=lk (Xi [⟨id,d,[],e,some ys⟩] st'.r) k2:=by
    cases o.dst<;>rfl
   rw [e0,Qq]
   by_cases hk2:d=k2
   ·subst hk2
    simp only [zh,if_true,Option.some_or,Option.some.injEq]at hR2
    subst hR2
    simp [vy,qI,hR']
   ·have h9: ¬k2=d:=fun e=>hk2 e.symm
    simp [zh,yw,hk2,h9]at hR2
    simp [vy,qI,hk2,h9,hR2]
def vk (X:Oper→St→(Dl→Prop)→Prop)(P:Program)(np:Bool)(τ:Ty)(t:Nat)(all:List Oper)(E:List Rec→St→Prop):List Oper→Nat→List Rec→St→Prop
 | [],_,cs,st=>E cs st
 |o::os,k,cs,st=>
  match o.guard with
  |none=>if o.dst=some t then X o st fun δ=>vk X P np τ t all E os (k+1) (⟨k,fp o st,δ.wr⟩::cs) (st.app o.dst δ)else we P np τ o st fun δ=>vk X P np τ t all E os (k+1) (⟨k,fp o st,δ.wr⟩::cs) (st.app o.dst δ)
  |some _=>False
theorem uf {X:Oper→St→(Dl→Prop)→Prop}(hX: ∀o st K,X o st K→∃δ,qL P np τ o st δ∧K δ){t:Nat}{all:List Oper}{A:List (List Nat)}{Q:St→Prop}: ∀(os:List Oper) (k:Nat) (cs:List Rec) (st:St),vk X P np τ t all (fun cs st=>chk all A cs=true∧Q st) os k cs st→chk all A cs=true∧KE P np τ all A (fun st'=> ∃s,Eqv st' s∧Q s) os k cs st
 | [],k,cs,st,h=>⟨h.1,st,Eqv.refl _,h.2⟩
 |o::os,k,cs,st,h=>by
  have go:(∃δ,xp P np τ all o st δ∧vk X P np τ t all (fun cs st=>chk all A cs=true∧Q st) os (k+1) (⟨k,fp o st,δ.wr⟩::cs) (st.app o.dst δ))→chk all A cs=true∧KE P np τ all A (fun st'=> ∃s,Eqv st' s∧Q s) (o::os) k cs st:=by
   rintro⟨δ,h1,h2⟩
   obtain⟨h3,h4⟩:=uf hX os _ _ _ h2
   simp only [chk,Bool.and_eq_true]at h3
   exact⟨h3.2,δ,h1,h3.1,h4⟩
  simp only [vk]at h
  split at h
  ·rename_i hg
   split at h
   ·obtain⟨δ,h1,h2⟩:=hX _ _ _ h
    exact go ⟨δ,by unfold xp;rw [hg];exact h1,h2⟩
   ·obtain⟨δ,h1,h2⟩:=YC h
    exact go ⟨δ,by unfold xp;rw [hg];exact h1,h2⟩
  ·exact h.elim
theorem zAQ {X:Oper→St→(Dl→Prop)→Prop}{t:Nat}{all:List Oper}(E:List Rec→St→Prop)(l2:List Oper): ∀(l1:List Oper) (k:Nat) (cs:List Rec) (st:St),vk X P np τ t all E (l1++l2) k cs st=vk X P np τ t all (fun cs st=>vk X P np τ t all E l2 (k+l1.length) cs st) l1 k cs st
 | [],k,cs,st=>rfl
 |o::os,k,cs,st=>by
  have e: ∀cs st,vk X P np τ t all E (os++l2) (k+1) cs st=vk X P np τ t all (fun cs st=>vk X P np τ t all E l2 (k+(o::os).length) cs st) os (k+1) cs st:=fun cs st=>by
   rw [zAQ E l2 os (k+1) cs st,List.length_cons,show k+1+os.length=k+(os.length+1)from by omega]
  simp only [List.cons_append,vk,e]
theorem XQ (n:Nat){X:Oper→St→(Dl→Prop)→Prop}{t:Nat}{all:List Oper}{E:List Rec→St→Prop}{os:List Oper}{k:Nat}{cs:List Rec}{st:St}(hn:n≤os.length)(h: ∀K:List Rec→St→Prop,(∀cs st,vk X P np τ t all E (os.drop n) (k+n) cs st→K cs st)→vk X P np τ t all K (os.take n) k cs st):vk X P np τ t all E os k cs st:=by
 have :=h _ fun _ _ h=>h
 have hl:(os.take n).length=n:=by rw [List.length_take];omega
 have e:vk X P np τ t all (fun cs st=>vk X P np τ t all E (os.drop n) (k+(os.take n).length) cs st) (os.take n) k cs st:=by rw [hl];exact this
 rw [←zAQ,List.take_append_drop]at e
 exact e
theorem XM (np:Bool)(X:Oper→St→(Dl→Prop)→Prop)(t:Nat)(hX: ∀o st K,X o st K→∃δ,qL P np τ o st δ∧K δ){Q:Exit→St→Prop}{st:St}(hτ:yB P τ)(hpos:yd τ)(hmix:P.follows .mixedOrders=true){id:Nat}{ops:List Oper}(hs:XN np ops (jq ops)=true)(hd:qW st.n ops=true)(h: ∀E:List Rec→St→Prop,(∀cs st,chk ops (jq ops) cs=true→Q .normal st→E cs st)→vk X P np τ t ops E ops 0 [] (st.start np ops)):awp P τ (.region id ops.toArray true) Q st:=
 Ux hτ hpos hmix hs hd (uf hX (Q:=Q .normal) ops 0 [] _ (h _ fun cs st h1 h2=>⟨h1,h2⟩)).2
def KG (X:Oper→St→(Dl→Prop)→Prop)(P:Program)(np:Bool)(τ:Ty)(t:Nat)(all:List Oper)(Q:St→Prop):List Oper→St→Prop
 | [],st=>Q st
 |o::os,st=>
  match o.guard with
  |none=>if o.dst=some t then X o st fun δ=>KG X P np τ t all Q os (st.app o.dst δ)else we P np τ o st fun δ=>KG X P np τ t all Q os (st.app o.dst δ)
  |some _=>False
theorem Km (hτ:yB P τ)(hpos:yd τ){X:Oper→St→(Dl→Prop)→Prop}(hX: ∀o st K,X o st K→∃δ,qL P np τ o st δ∧K δ){t:Nat}{all:List Oper}(hm:Zy np all=true){Q:St→Prop}{Q':Exit→Act→World→Prop}(hQ: ∀st a w,Q st→Rel τ lo w0 st a w→Q' .normal a w):
  ∀(os:List Oper) (k:Nat) (st:St) (a:Act) (w:World),(∀j,os[j]? =all[k+j]?)→qW a.tmps.size all=true→(∀j o,k≤j→all[j]? =some o→yv np o=true→yR (own (zo o)) st)→(np=true→PF st)→Rel τ lo w0 st a w→KG X P np τ t all Q os st→wpList P all.toArray Q' os a w
 | [],k,st,a,w,_,_,_,_,hr,h=>wpList_nil (hQ _ _ _ h hr)
 |o::os,k,st,a,w,hl,hd,hinv,hpf,hr,h=>by
  have ho:all[k]? =some o:=by simpa using (hl 0).symm
  have hd1: ∀j,o.dst=some j→j<a.tmps.size:=fun j hj=>by
   have :=List.all_eq_true.1 hd o (List.mem_of_getElem? ho)
   rw [hj]at this
   simpa using this
  refine wpList_step fun K' hK'=> ?_
  simp only [KG]at h
  split at h
  rotate_left
  ·exact h.elim
  rename_i hg
  obtain⟨δ,h1,h2⟩: ∃δ,qL P np τ o st δ∧KG X P np τ t all Q os (st.app o.dst δ):=by
   split at h
   ·exact hX _ _ _ h
   ·exact YC h
  rw [if_pos (by simp [Region.wanted,hg])]
  have hf:yv np o=true→yR (own (zo o)) st:=hinv k o (Nat.le_refl _) ho
  have hstep:xp P np τ all o st δ:=by unfold xp;rw [hg];exact h1
  refine VX hτ hpos hd1 hr hf hpf h1 fun x w' hr'=>hK' _ _ (Km hτ hpos hX hm hQ os (k+1) _ _ w' (fun j=>by have :=hl (j+1);simpa [Nat.add_assoc,Nat.add_comm 1 j]using this) (by rw [vY];exact hd) (fun j oj hkj hj hmk=> ?_) (fun e=>by subst e;exact jo (hpf rfl) hf hstep) hr' h2)
  refine WF (hinv j oj (by omega) hj hmk) (fun hmo n hn=> ?_) hstep
  have hkl:k<all.length:=(List.getElem?_eq_some_iff.1 ho).1
  have hjl:j<all.length:=(List.getElem?_eq_some_iff.1 hj).1
  have h1:=List.all_eq_true.1 (List.all_eq_true.1 hm k (List.mem_range.2 hkl)) j (List.mem_range.2 hjl)
  rw [ho,hj]at h1
  simp only [hmo,hmk,Bool.and_self,Bool.not_true,Bool.or_false,Bool.or_eq_true,beq_iff_eq,bne_iff_ne,ne_eq]at h1
  rcases h1 with h1|h1
  ·omega
  ·exact zAJ h1 n hn
theorem Uh (np:Bool)(X:Oper→St→(Dl→Prop)→Prop)(t:Nat)(hX: ∀o st K,X o st K→∃δ,qL P np τ o st δ∧K δ)(hτ:yB P τ)(hpos:yd τ){Q:Exit→St→Prop}{id:Nat}{ops:List Oper}(hs:Zy np ops=true)(hd:qW st.n ops=true)(h:KG X P np τ t ops (Q .normal) ops (st.start np ops)):awp P τ (.region id ops.toArray false) Q st:=fun lo w0 a w hr=>by
 have hn:a.tmps.size=st.n:=by obtain⟨ow,hd,bk,h⟩:=hr;exact h.size
 refine wp_region_lit (Km (np:=np) hτ hpos hX hs (fun st a w h1 h2=>⟨st,h2,h1⟩) ops 0 (st.start np ops) a w (by simp) (by rw [hn];exact hd) (fun j o _ ho hm=>je ho hm) (fun e=>by unfold St.start;rw [if_pos e];exact Ka _) (uj hr ops) h)
end
attribute [push_cast] jn Kq vk KG wa
open Go Go.RowKit
def St.settleBA (al:List Nat)(ks:List CK)(b:Nat)(st:St):St:=
 match lk st.b b with
 |none=>st
 |some cells=>
  match lk (qP al ks st (zZ b 0) [] cells).1.b b with
  |none=>st
  |some cells'=>if cells'.length=(qP al ks st (zZ b 0) [] cells).2.length then(qP al ks st (zZ b 0) [] cells).1.setB b (qP al ks st (zZ b 0) [] cells).2 else st
theorem XK {P:Program}{τ:Ty}(al:List Nat)(ks:List CK)(b:Nat){c:Code}{Q:Exit→St→Prop}{st:St}(h:awp P τ c Q (st.settleBA al ks b)):awp P τ c Q st:=by
 unfold St.settleBA at h
 split at h
 ·exact h
 ·rename_i cells hl
  split at h
  ·exact h
  ·rename_i cells' hl'
   split at h
   ·rename_i hlen
    intro lo w0 a w hr
    obtain⟨ow,hd,bk,hrr⟩:=hr
    obtain⟨cs,ty,g1,g2,g3⟩:=hrr.box b cells hl
    obtain⟨ow1,hd1,r1,r2⟩:=Yg al ks st ow hd (zZ b 0) [] cells [] cs hrr (by simp [zY]) g3
    obtain⟨cs0,ty0,k1,k2,k3⟩:=r1.box b cells' hl'
    rw [List.nil_append]at r2
    have e0:cs0=cs:=by
     rw [g1]at k1
     simp only [Option.some.injEq,Obj.cells.injEq]at k1
     have :=k1.1
     simpa using this.symm
    subst e0
    have hrel:=XX r1 hl' k1 (i:=0) (by omega) k3 r2
    rw [JJ rfl,JJ hlen.symm,setRow_self w _ _ _ _ k1]at hrel
    exact h lo w0 a w ⟨ow1,hd1,bk,hrel⟩
   ·exact h
attribute [push_cast] St.settleBA
open Nat renaming reduceMod → zA, reduceMul → zB, reduceDiv → zC, reduceAdd → zD, reduceSub → zE, reduceEqDiff → zF, reduceBEq → zG, reduceLT → zH, reduceLeDiff → zI
theorem noP_s (k:Nat):noP (k+1)=noP k++ [-1]:=List.replicate_succ'
def pkI (n v:Nat):List Int:=List.replicate v (-1)++List.replicate (n - v) 0
theorem zB6 {n v:Nat}(h:v≤n):(pkI n v).length=n:=by unfold pkI;simp;omega
theorem pkI_0 (n:Nat):pkI n 0=List.replicate n 0:=by simp [pkI]
theorem pkI_n (n:Nat):pkI n n=noP n:=by simp [pkI,noP]
theorem zIX {n v:Nat}(h:v<n):(pkI n v).set v (-1)=pkI n (v+1):=by
 unfold pkI
 rw [List.set_append_right _ _ (by simp),List.length_replicate,Nat.sub_self,show n - v=(n - (v+1))+1 from by omega,List.replicate_succ,List.set_cons_zero,List.replicate_succ',List.append_assoc]
 rfl
def Us (won:List Int)(who:Int)(v:Nat):Bool:=gi won v==who
def Vs (won:List Int)(who:Int):List Bool:=yu won.length (Us won who)
def Xe (region win:List Bool)(who:Int):Bool:= !vJ (yu region.length (yx region win who)) region.length
theorem zFa {region win:List Bool}{who:Int}(h: ∀v,v<region.length→yx region win who v=false):Xe region win who=true:=by
 unfold Xe
 rw [Bool.not_eq_true',Bool.eq_false_iff]
 intro e
 obtain⟨v,hv,e2⟩:=Zw.1 e
 rw [xu hv,h v hv]at e2
 cases e2
theorem zG1 {region win:List Bool}{who:Int}{v:Nat}(hv:v<region.length)(h:yx region win who v=true):Xe region win who=false:=by
 unfold Xe
 rw [Bool.not_eq_false',Zw]
 exact⟨v,hv,by rw [xu hv];exact h⟩
theorem zHp {rest low:List Bool}{who:Int}{v:Nat}(h:gb rest v=false):yx rest low who v=false:=by unfold yx;rw [h];rfl
theorem KI {a b:List Int}(h:a.length=b.length)(h2: ∀k,k<a.length→gi a k=gi b k):a=b:=by
 refine List.ext_getElem? fun k=> ?_
 by_cases hk:k<a.length
 ·rw [vb hk,vb (by omega),h2 k hk]
 ·rw [List.getElem?_eq_none (by omega),List.getElem?_eq_none (by omega)]
theorem zGO {P:List (List Int)}{u m:Nat}{r:List Int}(hu:u<P.length)(hm:r.length≤m):List.take u ((dII P).set u D.hole)++ [D.lst 2 (dI (List.take m r))]++List.drop (u+1) ((dII P).set u D.hole)=dII (P.set u r):=by
 have e:dII (P.set u r)=(dII P).set u (D.lst 2 (dI r)):=by unfold dII;rw [List.map_set]
 have hl:u<(dII P).length:=by rw [YH];exact hu
 rw [e,List.take_of_length_le hm,List.take_set,List.set_eq_of_length_le (by simp;omega),List.drop_set_of_lt (by omega),List.set_eq_take_append_cons_drop,if_pos hl]
 simp
set_option maxRecDepth 20000 in
set_option maxHeartbeats 4000000 in
theorem zEX (n:Nat)(hn:n≤1048576):Fn Try.prog tyT 100 [.c (.int .i64 n)] [.c (DI (noP n))]:=by
 refine zt (fn:=Try.f100) (ts:= [2]) Try.func100 (by kernel_rfl) rfl rfl (by rw [Try.ntmps100];exact Nat.le_of_ble_eq_true rfl) rfl (by simp only [szA,List.mem_cons,List.not_mem_nil,or_false,forall_eq_or_imp,forall_eq,VT.cells,szL];try decide) ?_
 rw [Try.ntmps100]
 simp only [push_cast,↓zK,↓zJ,↓reduceIte,zA,zB,zC,zD,zE,zF,zG,zH,zI,reduceCtorEq]
 refine zL fun K hK=> ?_
 refine zM zP zN [] rfl ?_
 simp only [push_cast,↓zK,↓zJ,↓reduceIte,zA,zB,zC,zD,zE,zF,zG,zH,zI,reduceCtorEq]
 repeat' apply And.intro
 all_goals try exact gB
 all_goals first|(refine hK _ ?_;clear hK K)|(simp only [push_cast];done)
 refine zL fun K hK=> ?_
 refine zM zP zN [] rfl ?_
 simp only [push_cast,↓zK,↓zJ,↓reduceIte,zA,zB,zC,zD,zE,zF,zG,zH,zI,reduceCtorEq]
 repeat' apply And.intro
 all_goals try exact gB
 all_goals first|(refine hK _ ?_;clear hK K)|(simp only [push_cast];done)
 refine zL fun K1 hK1=> ?_
 refine zL fun K hK=> ?_
 refine zM zP zN [] rfl ?_
 simp only [push_cast,↓zK,↓zJ,↓reduceIte,zA,zB,zC,zD,zE,zF,zG,zH,zI,reduceCtorEq]
 repeat' apply And.intro
 all_goals try exact gB
 all_goals first|(refine hK _ ?_;clear hK K)|(simp only [push_cast];done)
 refine zT ?_
 refine zd [3,4,6,7,8,9,10,11,12,13] [48] (fun(k:Nat)=> [(4, .int .i64 k),(3, .sl 48 [] 0 k 2)]) (fun k=> []) (fun k=> [(48,⟨.ex,2,dI (noP k),none⟩)]) (fun k=>k≤n) (fun k=>n - k) 0 ?_ (by omega) ?_
 ·
  rw [show dI (noP 0)= []from rfl]
  refine zW rfl ?_ ?_ ?_<;>simp only [zc,zb,push_cast,↓zK,↓zJ,↓reduceIte,zA,zB,zC,zD,zE,zF,zG,zH,zI,reduceCtorEq]
 ·rintro k hk KL0 hL0
  have hfl:=qw k
  simp only [push_cast,↓zK,↓zJ,↓reduceIte,zA,zB,zC,zD,zE,zF,zG,zH,zI,reduceCtorEq]
  refine zL fun K2 hK2=> ?_
  refine zL fun K hK=> ?_
  refine zM zP zN [] rfl ?_
  simp only [push_cast,↓zK,↓zJ,↓reduceIte,zA,zB,zC,zD,zE,zF,zG,zH,zI,reduceCtorEq]
  repeat' apply And.intro
  all_goals try exact gB
  all_goals first|(refine hK _ ?_;clear hK K)|(simp only [push_cast];done)
  refine zU rfl (fun hc=> ?_) (fun hc=> ?_)<;>(try simp only [push_cast]at hc)
  ·
   refine zV ?_
   (try simp only [zR,zS,reduceIte,zF]);refine hK2 _ ?_
   refine zL fun K3 hK3=> ?_
   refine zT ?_
   refine zM zP zN [] rfl ?_
   simp only [push_cast,↓zK,↓zJ,↓reduceIte,zA,zB,zC,zD,zE,zF,zG,zH,zI,reduceCtorEq]
   repeat' apply And.intro
   all_goals try exact gB
   (try simp only [zR,zS,reduceIte,zF]);refine hK3 _ ?_
   refine zM zP zN [] rfl ?_
   simp only [push_cast,↓zK,↓zJ,↓reduceIte,zA,zB,zC,zD,zE,zF,zG,zH,zI,reduceCtorEq]
   repeat' apply And.intro
   all_goals try exact gB
   refine hL0 _ ⟨k+1,by omega,by omega,?_⟩
   (try rw [List.take_of_length_le (l:=noP k) (by omega)])
   rw [noP_s]
   refine zW rfl ?_ ?_ ?_<;>simp only [zc,zb,push_cast,↓zK,↓zJ,↓reduceIte,zA,zB,zC,zD,zE,zF,zG,zH,zI,reduceCtorEq]
  ·
   refine ze ?_
   have hkk:k=n:=by omega
   subst hkk
   (try simp only [zR,zS,reduceIte,zF]);refine hK1 _ ?_
   refine zL fun K hK=> ?_
   refine zM zP zN [] rfl ?_
   simp only [push_cast,↓zK,↓zJ,↓reduceIte,zA,zB,zC,zD,zE,zF,zG,zH,zI,reduceCtorEq]
   repeat' apply And.intro
   all_goals try exact gB
   all_goals first|(refine hK _ ?_;clear hK K)|(simp only [push_cast];done)
   refine zX ?_
   (try simp only [zR,zS])
   refine⟨Or.inl rfl,?_⟩
   simp only [zg,push_cast,↓zK,↓zJ,↓reduceIte,zA,zB,zC,zD,zE,zF,zG,zH,zI,reduceCtorEq]
   all_goals first|rfl|exact⟨rfl,by simp [qw]⟩|(simp [qw];done)
set_option maxRecDepth 20000 in
set_option maxHeartbeats 4000000 in
theorem zBs (won:List Int)(hn:won.length≤256)(who:Int):Fn Try.prog tyT 132 [.c (DI won), .c (.int .i64 who)] [.c (.lst 4 (dB (Vs won who)))]:=by
 refine zt (fn:=Try.f132) (ts:= [4]) Try.func132 (by kernel_rfl) rfl rfl (by rw [Try.ntmps132];exact Nat.le_of_ble_eq_true rfl) rfl (by simp only [szA,List.mem_cons,List.not_mem_nil,or_false,forall_eq_or_imp,forall_eq,VT.cells,szL];try decide) ?_
 rw [Try.ntmps132]
 simp only [push_cast,↓zK,↓zJ,↓reduceIte,zA,zB,zC,zD,zE,zF,zG,zH,zI,reduceCtorEq]
 refine zL fun K hK=> ?_
 refine zM zP zN [] rfl ?_
 simp only [push_cast,↓zK,↓zJ,↓reduceIte,zA,zB,zC,zD,zE,zF,zG,zH,zI,reduceCtorEq]
 repeat' apply And.intro
 all_goals try exact gB
 all_goals first|(refine hK _ ?_;clear hK K)|(simp only [push_cast];done)
 refine zL fun K hK=> ?_
 refine zM zP zN [] rfl ?_
 simp only [push_cast,↓zK,↓zJ,↓reduceIte,zA,zB,zC,zD,zE,zF,zG,zH,zI,reduceCtorEq]
 repeat' apply And.intro
 all_goals try exact gB
 all_goals first|(refine hK _ ?_;clear hK K)|(simp only [push_cast];done)
 refine zL fun K1 hK1=> ?_
 refine zL fun K hK=> ?_
 refine zM zP zN [] rfl ?_
 simp only [push_cast,↓zK,↓zJ,↓reduceIte,zA,zB,zC,zD,zE,zF,zG,zH,zI,reduceCtorEq]
 repeat' apply And.intro
 all_goals try exact gB
 all_goals first|(refine hK _ ?_;clear hK K)|(simp only [push_cast];done)
 refine zT ?_
 refine zd [6,10,11,12,13,14,15,16,17,18,19,20,21,22,23,24] [80] (fun(k:Nat)=> [(6, .int .i64 k),(5, .sl 80 [] 0 won.length 4)]) (fun k=> []) (fun k=> [(80,⟨.ex,4,dB (mkB won.length (Us won who) k),none⟩)]) (fun k=>k≤won.length) (fun k=>won.length - k) 0 ?_ (by omega) ?_
 ·
  rw [Vg]
  refine zW rfl ?_ ?_ ?_<;>simp only [zc,zb,push_cast,↓zK,↓zJ,↓reduceIte,zA,zB,zC,zD,zE,zF,zG,zH,zI,reduceCtorEq]
 ·rintro k hk KL0 hL0
  have hml:=ZF (f:=Us won who) hk
  simp only [push_cast,↓zK,↓zJ,↓reduceIte,zA,zB,zC,zD,zE,zF,zG,zH,zI,reduceCtorEq]
  refine zL fun K2 hK2=> ?_
  refine zL fun K hK=> ?_
  refine zM zP zN [] rfl ?_
  simp only [push_cast,↓zK,↓zJ,↓reduceIte,zA,zB,zC,zD,zE,zF,zG,zH,zI,reduceCtorEq]
  repeat' apply And.intro
  all_goals try exact gB
  all_goals first|(refine hK _ ?_;clear hK K)|(simp only [push_cast];done)
  refine zU rfl (fun hc=> ?_) (fun hc=> ?_)<;>(try simp only [push_cast]at hc)
  ·
   refine zV ?_
   (try simp only [zR,zS,reduceIte,zF]);refine hK2 _ ?_
   refine zL fun K3 hK3=> ?_
   refine zT ?_
   refine zM zP zN [] rfl ?_
   simp only [push_cast,↓zK,↓zJ,↓reduceIte,zA,zB,zC,zD,zE,zF,zG,zH,zI,reduceCtorEq]
   repeat' apply And.intro
   all_goals try exact gB
   (try simp only [zR,zS,reduceIte,zF]);refine hK3 _ ?_
   refine zM zP zN [] rfl ?_
   simp only [push_cast,↓zK,↓zJ,↓reduceIte,zA,zB,zC,zD,zE,zF,zG,zH,zI,reduceCtorEq]
   repeat' apply And.intro
   all_goals try exact gB
   refine hL0 _ ⟨k+1,by omega,by omega,?_⟩
   rw [show(mkB won.length (Us won who) k).set k (gi won k==who)=mkB won.length (Us won who) (k+1)from qd (by omega)]
   refine zW rfl ?_ ?_ ?_<;>simp only [zc,zb,push_cast,↓zK,↓zJ,↓reduceIte,zA,zB,zC,zD,zE,zF,zG,zH,zI,reduceCtorEq]
  ·
   refine ze ?_
   have hkk:k=won.length:=by omega
   subst hkk
   (try simp only [zR,zS,reduceIte,zF]);refine hK1 _ ?_
   refine zL fun K hK=> ?_
   refine zM zP zN [] rfl ?_
   simp only [push_cast,↓zK,↓zJ,↓reduceIte,zA,zB,zC,zD,zE,zF,zG,zH,zI,reduceCtorEq]
   repeat' apply And.intro
   all_goals try exact gB
   all_goals first|(refine hK _ ?_;clear hK K)|(simp only [push_cast];done)
   refine zX ?_
   (try simp only [zR,zS])
   refine⟨Or.inl rfl,?_⟩
   simp only [zg,push_cast,↓zK,↓zJ,↓reduceIte,zA,zB,zC,zD,zE,zF,zG,zH,zI,reduceCtorEq]
   rw [QX]
   unfold Vs
   all_goals first|rfl|exact⟨rfl,by simp [yu]⟩|(simp [yu];done)
set_option maxRecDepth 20000 in
set_option maxHeartbeats 4000000 in
theorem zE7 (a b:List Int)(ha:a.length≤1048576)(hb:b.length≤1048576):Fn Try.prog tyT 146 [.c (DI a), .c (DI b)] [.c (.bool (decide (a=b)))]:=by
 refine zt (fn:=Try.f146) (ts:= [4]) Try.func146 (by kernel_rfl) rfl rfl (by rw [Try.ntmps146];exact Nat.le_of_ble_eq_true rfl) rfl (by simp only [szA,List.mem_cons,List.not_mem_nil,or_false,forall_eq_or_imp,forall_eq,VT.cells,szL];try decide) ?_
 rw [Try.ntmps146]
 simp only [push_cast,↓zK,↓zJ,↓reduceIte,zA,zB,zC,zD,zE,zF,zG,zH,zI,reduceCtorEq]
 refine zL fun K hK=> ?_
 refine zM zP zN [] rfl ?_
 simp only [push_cast,↓zK,↓zJ,↓reduceIte,zA,zB,zC,zD,zE,zF,zG,zH,zI,reduceCtorEq]
 repeat' apply And.intro
 all_goals try exact gB
 all_goals first|(refine hK _ ?_;clear hK K)|(simp only [push_cast];done)
 refine zL fun K1 hK1=> ?_
 refine zL fun K hK=> ?_
 refine zM zP zN [] rfl ?_
 simp only [push_cast,↓zK,↓zJ,↓reduceIte,zA,zB,zC,zD,zE,zF,zG,zH,zI,reduceCtorEq]
 repeat' apply And.intro
 all_goals try exact gB
 all_goals first|(refine hK _ ?_;clear hK K)|(simp only [push_cast];done)
 refine zU rfl (fun hc=> ?_) (fun hc=> ?_)<;>(try simp only [push_cast]at hc)
 ·
  refine zL fun K hK=> ?_
  refine zM zP zN [] rfl ?_
  simp only [push_cast,↓zK,↓zJ,↓reduceIte,zA,zB,zC,zD,zE,zF,zG,zH,zI,reduceCtorEq]
  repeat' apply And.intro
  all_goals try exact gB
  all_goals first|(refine hK _ ?_;clear hK K)|(simp only [push_cast];done)
  refine zX ?_
  (try simp only [zR,zS])
  refine⟨Or.inl rfl,?_⟩
  simp only [zg,push_cast,↓zK,↓zJ,↓reduceIte,zA,zB,zC,zD,zE,zF,zG,zH,zI,reduceCtorEq]
  symm;exact decide_eq_false fun e=>by subst e;omega
 ·
  refine zV ?_
  (try simp only [zR,zS,reduceIte,zF]);refine hK1 _ ?_
  refine zL fun K2 hK2=> ?_
  refine zL fun K hK=> ?_
  refine zM zP zN [] rfl ?_
  simp only [push_cast,↓zK,↓zJ,↓reduceIte,zA,zB,zC,zD,zE,zF,zG,zH,zI,reduceCtorEq]
  repeat' apply And.intro
  all_goals try exact gB
  all_goals first|(refine hK _ ?_;clear hK K)|(simp only [push_cast];done)
  refine zT ?_
  refine zd [4,5,11,12,13,14,15,16,17,18,19,20,21,22,23,24,25] [] (fun(k:Nat)=> [(5, .int .i64 k)]) (fun k=> []) (fun k=> []) (fun k=>k≤a.length∧∀j,j<k→gi a j=gi b j) (fun k=>a.length - k) 0 ?_ ⟨by omega,fun j hj=>by omega⟩ ?_
  ·
   refine zW rfl ?_ ?_ ?_<;>simp only [zc,zb,push_cast,↓zK,↓zJ,↓reduceIte,zA,zB,zC,zD,zE,zF,zG,zH,zI,reduceCtorEq]
  ·rintro k ⟨hk,hall⟩ KL0 hL0
   simp only [push_cast,↓zK,↓zJ,↓reduceIte,zA,zB,zC,zD,zE,zF,zG,zH,zI,reduceCtorEq]
   refine zL fun K3 hK3=> ?_
   refine zL fun K hK=> ?_
   refine zM zP zN [] rfl ?_
   simp only [push_cast,↓zK,↓zJ,↓reduceIte,zA,zB,zC,zD,zE,zF,zG,zH,zI,reduceCtorEq]
   repeat' apply And.intro
   all_goals try exact gB
   all_goals first|(refine hK _ ?_;clear hK K)|(simp only [push_cast];done)
   refine zU rfl (fun hc=> ?_) (fun hc=> ?_)<;>(try simp only [push_cast]at hc)
   ·
    refine zV ?_
    (try simp only [zR,zS,reduceIte,zF]);refine hK3 _ ?_
    refine zL fun K4 hK4=> ?_
    refine zT ?_
    refine zL fun K hK=> ?_
    refine qD false zP zN yj ?_ rfl ?_
    ·kernel_rfl
    intro C hC
    simp only [push_cast,↓zK,↓zJ,↓reduceIte,zA,zB,zC,zD,zE,zF,zG,zH,zI,reduceCtorEq]
    repeat' apply And.intro
    all_goals first|omega|with_reducible assumption|(refine hC _ ?_;kernel_rfl)|(simp only [List.length_set,List.length_append,List.length_replicate,List.length_cons,List.length_nil];omega)|skip
    all_goals first|(refine hK _ ?_;clear hC C hK K)|(simp only [push_cast];done)
    refine zU rfl (fun hc=> ?_) (fun hc=> ?_)<;>(try simp only [push_cast]at hc)
    ·
     refine zL fun K hK=> ?_
     refine zM zP zN [] rfl ?_
     simp only [push_cast,↓zK,↓zJ,↓reduceIte,zA,zB,zC,zD,zE,zF,zG,zH,zI,reduceCtorEq]
     repeat' apply And.intro
     all_goals try exact gB
     all_goals first|(refine hK _ ?_;clear hK K)|(simp only [push_cast];done)
     refine zX ?_
     (try simp only [zR,zS])
     refine⟨Or.inl rfl,?_⟩
     simp only [zg,push_cast,↓zK,↓zJ,↓reduceIte,zA,zB,zC,zD,zE,zF,zG,zH,zI,reduceCtorEq]
     symm;exact decide_eq_false fun e=>by subst e;omega
    ·
     refine zV ?_
     (try simp only [zR,zS,reduceIte,zF]);refine hK4 _ ?_
     refine zM zP zN [] rfl ?_
     simp only [push_cast,↓zK,↓zJ,↓reduceIte,zA,zB,zC,zD,zE,zF,zG,zH,zI,reduceCtorEq]
     repeat' apply And.intro
     all_goals try exact gB
     refine hL0 _ ⟨k+1,⟨by omega,fun j hj=>by
       by_cases hjk:j=k
       ·subst hjk;omega
       ·exact hall j (by omega)⟩,by omega,?_⟩
     refine zW rfl ?_ ?_ ?_<;>simp only [zc,zb,push_cast,↓zK,↓zJ,↓reduceIte,zA,zB,zC,zD,zE,zF,zG,zH,zI,reduceCtorEq]
   ·
    refine ze ?_
    (try simp only [zR,zS,reduceIte,zF]);refine hK2 _ ?_
    refine zL fun K hK=> ?_
    refine zM zP zN [] rfl ?_
    simp only [push_cast,↓zK,↓zJ,↓reduceIte,zA,zB,zC,zD,zE,zF,zG,zH,zI,reduceCtorEq]
    repeat' apply And.intro
    all_goals try exact gB
    all_goals first|(refine hK _ ?_;clear hK K)|(simp only [push_cast];done)
    refine zX ?_
    (try simp only [zR,zS])
    refine⟨Or.inl rfl,?_⟩
    simp only [zg,push_cast,↓zK,↓zJ,↓reduceIte,zA,zB,zC,zD,zE,zF,zG,zH,zI,reduceCtorEq]
    symm;exact decide_eq_true (KI (by omega) fun k2 hk2=>hall k2 (by omega))
set_option maxRecDepth 20000 in
set_option maxHeartbeats 4000000 in
theorem zDc (x:L7)(inn:List Bool)(hx:x.Ok inn.length)(f:Nat)(hf:xC inn inn.length<f)(who:Int):Fn Try.prog tyT 150 [.agg (dL7 x), .c (.lst 4 (dB inn)), .c (.int .i64 who)] [.c (.bool (Xe inn (qK x inn.length f inn) who))]:=by
 have hn1:=hx.hn
 have hW:=Qm x f inn hx hf
 have hwl:=VY x inn.length f inn
 generalize qK x inn.length f inn=win at hW hwl⊢
 unfold dL7 at hW⊢
 refine zt (fn:=Try.f150) (ts:= [6]) Try.func150 (by kernel_rfl) rfl rfl (by rw [Try.ntmps150];exact Nat.le_of_ble_eq_true rfl) rfl (by simp only [szA,List.mem_cons,List.not_mem_nil,or_false,forall_eq_or_imp,forall_eq,VT.cells,szL];try decide) ?_
 rw [Try.ntmps150]
 simp only [push_cast,↓zK,↓zJ,↓reduceIte,zA,zB,zC,zD,zE,zF,zG,zH,zI,reduceCtorEq]
 refine zL fun K hK=> ?_
 refine zM zP zN [] rfl ?_
 simp only [push_cast,↓zK,↓zJ,↓reduceIte,zA,zB,zC,zD,zE,zF,zG,zH,zI,reduceCtorEq]
 repeat' apply And.intro
 all_goals try exact gB
 all_goals first|(refine hK _ ?_;clear hK K)|(simp only [push_cast];done)
 refine zL fun K hK=> ?_
 refine zM zP zN [] rfl ?_
 all_goals refine zm 3 fun K9 hK9=> ?_
 all_goals simp only [push_cast,↓zK,↓zJ,↓reduceIte,zA,zB,zC,zD,zE,zF,zG,zH,zI,reduceCtorEq]
 all_goals repeat'(first|(apply zO<;>(intro hg;(try simp only [push_cast]at hg)))|(refine⟨_,hW,?_⟩;simp only [push_cast,↓zK,↓zJ,↓reduceIte,zA,zB,zC,zD,zE,zF,zG,zH,zI,reduceCtorEq])|apply And.intro|(intro hg;(try simp only [push_cast]at hg)))
 all_goals first|exact gA|(rw [List.take_length];exact hW)|skip
 all_goals first|(refine hK9 _ ?_;clear hK9 K9)|(simp only [push_cast];done)
 all_goals simp only [push_cast,↓zK,↓zJ,↓reduceIte,zA,zB,zC,zD,zE,zF,zG,zH,zI,reduceCtorEq]
 all_goals repeat'(first|(apply zO<;>(intro hg;(try simp only [push_cast]at hg)))|(refine⟨_,hW,?_⟩;simp only [push_cast,↓zK,↓zJ,↓reduceIte,zA,zB,zC,zD,zE,zF,zG,zH,zI,reduceCtorEq])|apply And.intro|(intro hg;(try simp only [push_cast]at hg)))
 all_goals first|exact gA|(rw [List.take_length];exact hW)|skip
 all_goals first|(refine hK _ ?_;clear hK K)|(simp only [push_cast];done)
 refine zL fun K1 hK1=> ?_
 refine zL fun K hK=> ?_
 refine zM zP zN [] rfl ?_
 simp only [push_cast,↓zK,↓zJ,↓reduceIte,zA,zB,zC,zD,zE,zF,zG,zH,zI,reduceCtorEq]
 repeat' apply And.intro
 all_goals try exact gB
 all_goals first|(refine hK _ ?_;clear hK K)|(simp only [push_cast];done)
 refine zT ?_
 refine zd [6,8,12,13,14,15,16,17,18,19,20,21,22,23,24,25,26,27,28,29,30] [] (fun(k:Nat)=> [(8, .int .i64 k)]) (fun k=> []) (fun k=> []) (fun k=>k≤inn.length∧∀j,j<k→yx inn win who j=false) (fun k=>inn.length - k) 0 ?_ ⟨by omega,fun j hj=>by omega⟩ ?_
 ·
  refine zW rfl ?_ ?_ ?_<;>simp only [zc,zb,push_cast,↓zK,↓zJ,↓reduceIte,zA,zB,zC,zD,zE,zF,zG,zH,zI,reduceCtorEq]
 ·rintro k ⟨hk,hall⟩ KL0 hL0
  simp only [push_cast,↓zK,↓zJ,↓reduceIte,zA,zB,zC,zD,zE,zF,zG,zH,zI,reduceCtorEq]
  refine zL fun K2 hK2=> ?_
  refine zL fun K hK=> ?_
  refine zM zP zN [] rfl ?_
  simp only [push_cast,↓zK,↓zJ,↓reduceIte,zA,zB,zC,zD,zE,zF,zG,zH,zI,reduceCtorEq]
  repeat' apply And.intro
  all_goals try exact gB
  all_goals first|(refine hK _ ?_;clear hK K)|(simp only [push_cast];done)
  refine zU rfl (fun hc=> ?_) (fun hc=> ?_)<;>(try simp only [push_cast]at hc)
  ·
   refine zV ?_
   (try simp only [zR,zS,reduceIte,zF]);refine hK2 _ ?_
   refine zL fun K3 hK3=> ?_
   refine zT ?_
   refine zL fun K hK=> ?_
   refine zf false zP zN ?_ rfl ?_
   ·kernel_rfl
   all_goals simp only [push_cast,↓zK,↓zJ,↓reduceIte,zA,zB,zC,zD,zE,zF,zG,zH,zI,reduceCtorEq]
   all_goals repeat'(first|(apply zO<;>(intro hg;(try simp only [push_cast]at hg)))|apply And.intro|(intro hg;(try simp only [push_cast]at hg)))
   all_goals try exact gA
   all_goals first|(refine hK _ ?_;clear hK K)|(simp only [push_cast];done)
   all_goals refine zU rfl (fun hc=> ?_) (fun hc=> ?_)
   all_goals(first|(cases hc;done)|skip)
   all_goals(try simp only [push_cast]at hc)
   all_goals first
    |(
      refine zV ?_
      (try simp only [zR,zS,reduceIte,zF]);refine hK3 _ ?_
      refine zM zP zN [] rfl ?_
      simp only [push_cast,↓zK,↓zJ,↓reduceIte,zA,zB,zC,zD,zE,zF,zG,zH,zI,reduceCtorEq]
      repeat' apply And.intro
      all_goals try exact gB
      refine hL0 _ ⟨k+1,⟨by omega,fun j hj=>by
        by_cases hjk:j=k
        ·subst hjk;first|exact zHp (by with_reducible assumption)|(unfold yx;rw [show gb inn j=true from by with_reducible assumption,Bool.true_and];simpa using hc)
        ·exact hall j (by omega)⟩,by omega,?_⟩
      refine zW rfl ?_ ?_ ?_<;>simp only [zc,zb,push_cast,↓zK,↓zJ,↓reduceIte,zA,zB,zC,zD,zE,zF,zG,zH,zI,reduceCtorEq]
      done)
    |(
      refine zL fun K hK=> ?_
      refine zM zP zN [] rfl ?_
      simp only [push_cast,↓zK,↓zJ,↓reduceIte,zA,zB,zC,zD,zE,zF,zG,zH,zI,reduceCtorEq]
      repeat' apply And.intro
      all_goals try exact gB
      all_goals first|(refine hK _ ?_;clear hK K)|(simp only [push_cast];done)
      refine zX ?_
      (try simp only [zR,zS])
      refine⟨Or.inl rfl,?_⟩
      simp only [zg,push_cast,↓zK,↓zJ,↓reduceIte,zA,zB,zC,zD,zE,zF,zG,zH,zI,reduceCtorEq]
      symm;refine zG1 (v:=k) (by omega) ?_
      unfold yx;rw [show gb inn k=true from by with_reducible assumption,Bool.true_and];simpa using hc
      done)
  ·
   refine ze ?_
   (try simp only [zR,zS,reduceIte,zF]);refine hK1 _ ?_
   refine zL fun K hK=> ?_
   refine zM zP zN [] rfl ?_
   simp only [push_cast,↓zK,↓zJ,↓reduceIte,zA,zB,zC,zD,zE,zF,zG,zH,zI,reduceCtorEq]
   repeat' apply And.intro
   all_goals try exact gB
   all_goals first|(refine hK _ ?_;clear hK K)|(simp only [push_cast];done)
   refine zX ?_
   (try simp only [zR,zS])
   refine⟨Or.inl rfl,?_⟩
   simp only [zg,push_cast,↓zK,↓zJ,↓reduceIte,zA,zB,zC,zD,zE,zF,zG,zH,zI,reduceCtorEq]
   symm;exact zFa fun v hv=>hall v (by omega)
set_option maxRecDepth 20000 in
set_option maxHeartbeats 4000000 in
theorem zDz (g:Pa)(hg:g.Ln 1048576):Fn Try.prog tyT 159 [.agg (dPa g), .c (DI (noP g.prio.length))] [.c (.bool true)]:=by
 have hp:=hg.prio
 unfold LnI at hp
 have hnl:=qw g.prio.length
 have hng:=Wi g.prio.length
 generalize noP g.prio.length=ps at hnl hng⊢
 unfold dPa
 refine zt (fn:=Try.f159) (ts:= [4]) Try.func159 (by kernel_rfl) rfl rfl (by rw [Try.ntmps159];exact Nat.le_of_ble_eq_true rfl) rfl (by simp only [szA,List.mem_cons,List.not_mem_nil,or_false,forall_eq_or_imp,forall_eq,VT.cells,szL];try decide) ?_
 rw [Try.ntmps159]
 simp only [push_cast,↓zK,↓zJ,↓reduceIte,zA,zB,zC,zD,zE,zF,zG,zH,zI,reduceCtorEq]
 refine zL fun K hK=> ?_
 refine zM zP zN [] rfl ?_
 simp only [push_cast,↓zK,↓zJ,↓reduceIte,zA,zB,zC,zD,zE,zF,zG,zH,zI,reduceCtorEq]
 repeat' apply And.intro
 all_goals try exact gB
 all_goals first|(refine hK _ ?_;clear hK K)|(simp only [push_cast];done)
 refine zL fun K1 hK1=> ?_
 refine zL fun K hK=> ?_
 refine zM zP zN [] rfl ?_
 simp only [push_cast,↓zK,↓zJ,↓reduceIte,zA,zB,zC,zD,zE,zF,zG,zH,zI,reduceCtorEq]
 repeat' apply And.intro
 all_goals try exact gB
 all_goals first|(refine hK _ ?_;clear hK K)|(simp only [push_cast];done)
 refine zU rfl (fun hc=> ?_) (fun hc=> ?_)
 skip
 ·exfalso;first|(cases hc;done)|(simp only [push_cast]at hc;done)|(simp only [push_cast]at hc;omega)|omega
 refine zV ?_
 (try simp only [zR,zS,reduceIte,zF]);refine hK1 _ ?_
 refine zL fun K2 hK2=> ?_
 refine zL fun K hK=> ?_
 refine zM zP zN [] rfl ?_
 simp only [push_cast,↓zK,↓zJ,↓reduceIte,zA,zB,zC,zD,zE,zF,zG,zH,zI,reduceCtorEq]
 repeat' apply And.intro
 all_goals try exact gB
 all_goals first|(refine hK _ ?_;clear hK K)|(simp only [push_cast];done)
 refine zT ?_
 refine zd [4,5,12,13,14,15,16,17,18,19,20,21,22,23,24,25,26,27,28,29,30,31,32,33,34,35,36] [] (fun(k:Nat)=> [(5, .int .i64 k)]) (fun k=> []) (fun k=> []) (fun k=>k≤ps.length) (fun k=>ps.length - k) 0 ?_ (by omega) ?_
 ·
  refine zW rfl ?_ ?_ ?_<;>simp only [zc,zb,push_cast,↓zK,↓zJ,↓reduceIte,zA,zB,zC,zD,zE,zF,zG,zH,zI,reduceCtorEq]
 ·rintro k hk KL0 hL0
  simp only [push_cast,↓zK,↓zJ,↓reduceIte,zA,zB,zC,zD,zE,zF,zG,zH,zI,reduceCtorEq]
  refine zL fun K3 hK3=> ?_
  refine zL fun K hK=> ?_
  refine zM zP zN [] rfl ?_
  simp only [push_cast,↓zK,↓zJ,↓reduceIte,zA,zB,zC,zD,zE,zF,zG,zH,zI,reduceCtorEq]
  repeat' apply And.intro
  all_goals try exact gB
  all_goals first|(refine hK _ ?_;clear hK K)|(simp only [push_cast];done)
  refine zU rfl (fun hc=> ?_) (fun hc=> ?_)<;>(try simp only [push_cast]at hc)
  ·
   refine zV ?_
   (try simp only [zR,zS,reduceIte,zF]);refine hK3 _ ?_
   refine zL fun K4 hK4=> ?_
   refine zT ?_
   have hpk:=hng k (by omega)
   refine zL fun K hK=> ?_
   refine zv false zP zN yj ?_ rfl ?_
   ·kernel_rfl
   intro E hE
   all_goals refine yT 17 (by decide) fun K9 hK9=> ?_
   all_goals simp only [push_cast,↓zK,↓zJ,↓reduceIte,zA,zB,zC,zD,zE,zF,zG,zH,zI,reduceCtorEq]
   all_goals repeat'(first|(apply zO<;>(intro hg;(try simp only [push_cast]at hg)))|apply And.intro|(intro hg;(try simp only [push_cast]at hg)))
   all_goals try exact gA
   all_goals first|(refine hK9 _ _ ?_;clear hK9 K9)|(simp only [push_cast];done)
   all_goals simp only [push_cast,↓zK,↓zJ,↓reduceIte,zA,zB,zC,zD,zE,zF,zG,zH,zI,reduceCtorEq]
   all_goals repeat'(first|(apply zO<;>(intro hg;(try simp only [push_cast]at hg)))|apply And.intro|(intro hg;(try simp only [push_cast]at hg)))
   all_goals first|exact gA|(refine hE _ _ ?_ ?_;kernel_rfl)|skip
   all_goals clear hE E
   all_goals first|(refine hK _ ?_;clear hK K)|(simp only [push_cast];done)
   all_goals(
     refine zU rfl (fun hc=> ?_) (fun hc=> ?_)
     skip
     ·exfalso;first|(cases hc;done)|(simp only [push_cast]at hc;done)|(simp only [push_cast]at hc;omega)|omega
     refine zV ?_
     (try simp only [zR,zS,reduceIte,zF]);refine hK4 _ ?_
     refine zM zP zN [] rfl ?_
     simp only [push_cast,↓zK,↓zJ,↓reduceIte,zA,zB,zC,zD,zE,zF,zG,zH,zI,reduceCtorEq]
     repeat' apply And.intro
     all_goals try exact gB
     refine hL0 _ ⟨k+1,by omega,by omega,?_⟩
     refine zW rfl ?_ ?_ ?_<;>simp only [zc,zb,push_cast,↓zK,↓zJ,↓reduceIte,zA,zB,zC,zD,zE,zF,zG,zH,zI,reduceCtorEq])
  ·
   refine ze ?_
   (try simp only [zR,zS,reduceIte,zF]);refine hK2 _ ?_
   refine zL fun K hK=> ?_
   refine zM zP zN [] rfl ?_
   simp only [push_cast,↓zK,↓zJ,↓reduceIte,zA,zB,zC,zD,zE,zF,zG,zH,zI,reduceCtorEq]
   repeat' apply And.intro
   all_goals try exact gB
   all_goals first|(refine hK _ ?_;clear hK K)|(simp only [push_cast];done)
   refine zX ?_
   (try simp only [zR,zS])
   refine⟨Or.inl rfl,?_⟩
   simp only [zg,push_cast,↓zK,↓zJ,↓reduceIte,zA,zB,zC,zD,zE,zF,zG,zH,zI,reduceCtorEq]
set_option maxRecDepth 20000 in
set_option maxHeartbeats 4000000 in
theorem zCt (g:Pa)(hok:yD g=true):FnT Try.prog tyT 131 [.agg (dPa g)] [0,2,1] [DII (xy g.a g.a.owner.length g.a.owner.length 0),DI (noP g.a.owner.length)]:=by
 obtain⟨hao,hpl,hpr⟩:=yS hok
 have hal:=zw hao
 have hrow:=fun v hv=>(yG hao (v:=v) hv).2.2
 have hset:=fun v j hv hj=>vK (yG hao (v:=v) hv).2.2.2.2 (j:=j) hj
 obtain⟨n,hn⟩: ∃n,g.a.owner.length=n:=⟨_,rfl⟩
 rw [hn]at hal hpl hrow hset
 rw [hn]
 unfold dPa
 refine zJt (fn:=Try.f131) (rs:= [.cell 2 127]) zP zN Try.func131 (by kernel_rfl) rfl rfl (by rw [Try.ntmps131];exact Nat.le_of_ble_eq_true rfl) rfl (by simp only [szA,List.mem_cons,List.not_mem_nil,or_false,forall_eq_or_imp,forall_eq,VT.cells,szL];try decide) rfl ?_
 rw [Try.ntmps131]
 simp only [push_cast,↓zK,↓zJ,↓reduceIte,zA,zB,zC,zD,zE,zF,zG,zH,zI,reduceCtorEq]
 (try rw [hn])
 (try rw [hpl])
 (try rw [hal.2.2])
 refine zL fun K hK=> ?_
 refine zM zP zN [] rfl ?_
 all_goals simp only [push_cast,↓zK,↓zJ,↓reduceIte,zA,zB,zC,zD,zE,zF,zG,zH,zI,reduceCtorEq]
 all_goals repeat'(first|(apply zO<;>(intro hg;(try simp only [push_cast]at hg)))|apply And.intro|(intro hg;(try simp only [push_cast]at hg)))
 all_goals first|exact gA|(exact zQ (by omega))|skip
 all_goals first|(refine hK _ ?_;clear hK K)|(simp only [push_cast];done)
 refine zL fun K hK=> ?_
 refine zM zP zN [] rfl ?_
 all_goals simp only [push_cast,↓zK,↓zJ,↓reduceIte,zA,zB,zC,zD,zE,zF,zG,zH,zI,reduceCtorEq]
 all_goals repeat'(first|(apply zO<;>(intro hg;(try simp only [push_cast]at hg)))|apply And.intro|(intro hg;(try simp only [push_cast]at hg)))
 all_goals first|exact gA|(exact zQ (by omega))|skip
 all_goals first|(refine hK _ ?_;clear hK K)|(simp only [push_cast];done)
 refine zL fun K hK=> ?_
 refine zv true zP zN yj ?_ rfl ?_
 ·kernel_rfl
 intro E hE
 all_goals simp only [push_cast,↓zK,↓zJ,↓reduceIte,zA,zB,zC,zD,zE,zF,zG,zH,zI,reduceCtorEq]
 all_goals repeat'(first|(apply zO<;>(intro hg;(try simp only [push_cast]at hg)))|apply And.intro|(intro hg;(try simp only [push_cast]at hg)))
 all_goals first|exact gA|(refine hE _ _ ?_ ?_;kernel_rfl)|(exact zQ (by omega))|skip
 all_goals clear hE E
 all_goals first|(refine hK _ ?_;clear hK K)|(simp only [push_cast];done)
 refine zL fun K1 hK1=> ?_
 refine XK [64,65,66] [.sl 2, .sl 2, .sl 27, .sl 27, .sl 2] 4 ?_
 simp only [push_cast,↓zK,↓zJ,↓reduceIte,zA,zB,zC,zD,zE,zF,zG,zH,zI,reduceCtorEq]
 refine zL fun K hK=> ?_
 refine zM zP zN [] rfl ?_
 all_goals simp only [push_cast,↓zK,↓zJ,↓reduceIte,zA,zB,zC,zD,zE,zF,zG,zH,zI,reduceCtorEq]
 all_goals repeat'(first|(apply zO<;>(intro hg;(try simp only [push_cast]at hg)))|apply And.intro|(intro hg;(try simp only [push_cast]at hg)))
 all_goals first|exact gA|(exact zQ (by omega))|skip
 all_goals first|(refine hK _ ?_;clear hK K)|(simp only [push_cast];done)
 refine zT ?_
 refine zd [4,5,6,7,24,25,26,27,28,29,30,31,32,33,34,35,36,37,38,39,40,41,42,43,44,45,46,47,48,49,50,51,52,53,54,55,56,57,58,59,60,61,62,63,64] [67,68] (fun(v:Nat)=> [(5, .int .i64 v),(4, .bp 4 0)]) (fun v=> [(4,[.sl 0 [] 0 n 2, .sl 2 [] 0 n 2, .sl 1 [] 0 n 27, .sl 67 [] 0 n 27, .sl 68 [] 0 n 2])]) (fun v=> [(67,⟨.ex,27,dII (xy g.a n v 0),none⟩),(68,⟨.ex,2,dI (pkI n v),none⟩)]) (fun v=>v≤n) (fun v=>n - v) 0 ?_ (by omega) ?_
 ·
  rw [zE5,pkI_0]
  refine zW rfl ?_ ?_ ?_<;>simp only [zc,zb,push_cast,↓zK,↓zJ,↓reduceIte,zA,zB,zC,zD,zE,zF,zG,zH,zI,reduceCtorEq]
  all_goals(simp [dII,dI];done)
 ·rintro v hv KL0 hL0
  have hpv:=Zn g.a n v 0
  have hpk:=zB6 hv
  simp only [push_cast,↓zK,↓zJ,↓reduceIte,zA,zB,zC,zD,zE,zF,zG,zH,zI,reduceCtorEq]
  refine zL fun K2 hK2=> ?_
  refine zL fun K hK=> ?_
  refine zM zP zN [] rfl ?_
  all_goals simp only [push_cast,↓zK,↓zJ,↓reduceIte,zA,zB,zC,zD,zE,zF,zG,zH,zI,reduceCtorEq]
  all_goals repeat'(first|(apply zO<;>(intro hg;(try simp only [push_cast]at hg)))|apply And.intro|(intro hg;(try simp only [push_cast]at hg)))
  all_goals first|exact gA|(exact zQ (by omega))|skip
  all_goals first|(refine hK _ ?_;clear hK K)|(simp only [push_cast];done)
  refine zU rfl (fun hc=> ?_) (fun hc=> ?_)<;>(try simp only [push_cast]at hc)
  ·
   refine zV ?_
   (try simp only [zR,zS,reduceIte,zF]);refine hK2 _ ?_
   refine zL fun K3 hK3=> ?_
   refine zT ?_
   refine zL fun K hK=> ?_
   refine zM zP zN [] rfl ?_
   all_goals simp only [push_cast,↓zK,↓zJ,↓reduceIte,zA,zB,zC,zD,zE,zF,zG,zH,zI,reduceCtorEq]
   all_goals repeat'(first|(apply zO<;>(intro hg;(try simp only [push_cast]at hg)))|apply And.intro|(intro hg;(try simp only [push_cast]at hg)))
   all_goals first|exact gA|(exact zQ (by omega))|skip
   all_goals first|(refine hK _ ?_;clear hK K)|(simp only [push_cast];done)
   refine zL fun K hK=> ?_
   refine zM zP zN [] rfl ?_
   all_goals simp only [push_cast,↓zK,↓zJ,↓reduceIte,zA,zB,zC,zD,zE,zF,zG,zH,zI,reduceCtorEq]
   all_goals repeat'(first|(apply zO<;>(intro hg;(try simp only [push_cast]at hg)))|apply And.intro|(intro hg;(try simp only [push_cast]at hg)))
   all_goals first|exact gA|(exact zQ (by omega))|skip
   all_goals first|(refine hK _ ?_;clear hK K)|(simp only [push_cast];done)
   refine zT ?_
   refine zd [4,6,7,33,34,35,36,37,38,39,40,41,42,43,44,45,46,47,48,49,50,51,52,53,54,55,56,57,58,59,60,61,62,63,64] [67,68] (fun(i:Nat)=> [(6, .int .i64 i),(4, .bp 4 0)]) (fun i=> [(4,[.sl 0 [] 0 n 2, .sl 2 [] 0 n 2, .sl 1 [] 0 n 27, .sl 67 [] 0 n 27, .sl 68 [] 0 n 2])]) (fun i=> [(67,⟨.ex,27,dII (xy g.a n v i),none⟩),(68,⟨.ex,2,dI (pkI n (v+1)),none⟩)]) (fun i=>i≤(gl g.a.next v).length) (fun i=>(gl g.a.next v).length - i) 0 ?_ (by omega) ?_
   ·
    rw [zIX (by omega)]
    refine zW rfl ?_ ?_ ?_<;>simp only [zc,zb,push_cast,↓zK,↓zJ,↓reduceIte,zA,zB,zC,zD,zE,zF,zG,zH,zI,reduceCtorEq]
   ·rintro i hi KL1 hL1
    have hpv:=Zn g.a n v i
    have hpk:=zB6 (n:=n) (v:=v+1) (by omega)
    simp only [push_cast,↓zK,↓zJ,↓reduceIte,zA,zB,zC,zD,zE,zF,zG,zH,zI,reduceCtorEq]
    refine zL fun K4 hK4=> ?_
    refine zL fun K hK=> ?_
    refine zM zP zN [] rfl ?_
    all_goals simp only [push_cast,↓zK,↓zJ,↓reduceIte,zA,zB,zC,zD,zE,zF,zG,zH,zI,reduceCtorEq]
    all_goals repeat'(first|(apply zO<;>(intro hg;(try simp only [push_cast]at hg)))|apply And.intro|(intro hg;(try simp only [push_cast]at hg)))
    all_goals first|exact gA|(exact zQ (by omega))|skip
    all_goals first|(refine hK _ ?_;clear hK K)|(simp only [push_cast];done)
    refine zU rfl (fun hc=> ?_) (fun hc=> ?_)<;>(try simp only [push_cast]at hc)
    ·
     refine zV ?_
     (try simp only [zR,zS,reduceIte,zF]);refine hK4 _ ?_
     refine zL fun K5 hK5=> ?_
     refine zT ?_
     refine zL fun K hK=> ?_
     refine zM zP zN [] rfl ?_
     all_goals simp only [push_cast,↓zK,↓zJ,↓reduceIte,zA,zB,zC,zD,zE,zF,zG,zH,zI,reduceCtorEq]
     all_goals repeat'(first|(apply zO<;>(intro hg;(try simp only [push_cast]at hg)))|apply And.intro|(intro hg;(try simp only [push_cast]at hg)))
     all_goals first|exact gA|(exact zQ (by omega))|skip
     all_goals first|(refine hK _ ?_;clear hK K)|(simp only [push_cast];done)
     have hrv:=(hrow v (by omega)).2.1
     have hst:=hset v i (by omega) (by omega)
     have hps:=zFd hao (n:=n) (v:=v) (i:=i) (by omega) (by omega) (by omega)
     have hpe:(gl (xy g.a n v i) (gi (gl g.a.next v) i).toNat).length≤v+1:=by rw [kc (by omega)];exact zGw _ _ _ _
     refine zv true zP zN yj ?_ rfl ?_
     ·kernel_rfl
     intro E hE
     all_goals simp only [push_cast,↓zK,↓zJ,↓reduceIte,zA,zB,zC,zD,zE,zF,zG,zH,zI,reduceCtorEq]
     all_goals repeat'(first|(apply zO<;>(intro hg;(try simp only [push_cast]at hg)))|apply And.intro|(intro hg;(try simp only [push_cast]at hg)))
     all_goals first|exact gA|(refine hE _ _ ?_ ?_;kernel_rfl)|(rw [List.length_set,YH];omega)|(exact zQ (by omega))|skip
     all_goals clear hE E
     (try simp only [zR,zS,reduceIte,zF]);refine hK5 _ ?_
     refine zM zP zN [] rfl ?_
     all_goals simp only [push_cast,↓zK,↓zJ,↓reduceIte,zA,zB,zC,zD,zE,zF,zG,zH,zI,reduceCtorEq]
     all_goals repeat'(first|(apply zO<;>(intro hg;(try simp only [push_cast]at hg)))|apply And.intro|(intro hg;(try simp only [push_cast]at hg)))
     all_goals first|exact gA|(exact zQ (by omega))|skip
     refine hL1 _ ⟨i+1,by omega,by omega,?_⟩
     refine zW rfl ?_ ?_ ?_<;>simp only [zc,zb,push_cast,↓zK,↓zJ,↓reduceIte,zA,zB,zC,zD,zE,zF,zG,zH,zI,reduceCtorEq]
     all_goals(rw [zGO (by omega) (by rw [List.length_append];exact Nat.le_refl _),hps])
    ·
     refine ze ?_
     have hii:i=(gl g.a.next v).length:=by omega
     subst hii
     rw [zFG]
     (try simp only [zR,zS,reduceIte,zF]);refine hK3 _ ?_
     refine zM zP zN [] rfl ?_
     all_goals simp only [push_cast,↓zK,↓zJ,↓reduceIte,zA,zB,zC,zD,zE,zF,zG,zH,zI,reduceCtorEq]
     all_goals repeat'(first|(apply zO<;>(intro hg;(try simp only [push_cast]at hg)))|apply And.intro|(intro hg;(try simp only [push_cast]at hg)))
     all_goals first|exact gA|(exact zQ (by omega))|skip
     refine hL0 _ ⟨v+1,by omega,by omega,?_⟩
     refine zW rfl ?_ ?_ ?_<;>simp only [zc,zb,push_cast,↓zK,↓zJ,↓reduceIte,zA,zB,zC,zD,zE,zF,zG,zH,zI,reduceCtorEq]
  ·
   refine ze ?_
   have hvv:v=n:=by omega
   subst hvv
   (try simp only [zR,zS,reduceIte,zF]);refine hK1 _ ?_
   refine zL fun K hK=> ?_
   refine zM zP zN [32,33,34] rfl ?_
   simp only [push_cast,↓zK,↓zJ,↓reduceIte,zA,zB,zC,zD,zE,zF,zG,zH,zI,reduceCtorEq]
   repeat' apply And.intro
   all_goals try exact gB
   all_goals first|(refine hK _ ?_;clear hK K)|(simp only [push_cast];done)
   refine zX ?_
   (try simp only [zR,zS])
   refine⟨Or.inl rfl,?_⟩
   simp only [RetT,ya,xf,Qw,qj,ZJ,push_cast,↓zK,↓zJ,↓reduceIte,zA,zB,zC,zD,zE,zF,zG,zH,zI,reduceCtorEq]
   rw [pkI_n]
   exact⟨⟨by omega,by omega,by omega⟩,by omega,rfl,by rw [qw]⟩
theorem jM (g:Pa): ∃c,zu g=true→xJ (za g) (zk (za g)) c:=by
 by_cases h:zu g=true
 ·obtain⟨c,hc⟩:=KC (vQ (yI h)) (vQ (yI h)).bound.1
  exact⟨c,fun _=>hc⟩
 ·exact⟨[],fun h'=>absurd h' h⟩
def wA (x:Int):Int:=if x<0 then 1 else 0
def kX (g:Pa)(c:List Int):List Int:=if zu g then(c.map (yL (zk (za g)))).map wA else []
theorem zHe {g:Pa}{c:List Int}(h:zu g=false):kX g c= []:=by unfold kX;rw [h];rfl
theorem zAl {g:Pa}{c:List Int}(h:zu g=true):kX g c=(c.map (yL (zk (za g)))).map wA:=by unfold kX;rw [h];rfl
theorem kn {s:List Int}{k:Nat}(h:k<s.length):(s.take (k+1)).map wA=(s.take k).map wA++ [wA (gi s k)]:=by
 rw [Kt h,List.map_append]
 rfl
set_option maxRecDepth 20000 in
set_option maxHeartbeats 4000000 in
theorem WI (b:Bool):Fn Try.prog tyT 149 [.c (.bool b)] [.c (.int .i64 (if b then 1 else 0))]:=by
 refine zt (fn:=Try.f149) (ts:= [2]) Try.func149 (by kernel_rfl) rfl rfl (by rw [Try.ntmps149];exact Nat.le_of_ble_eq_true rfl) rfl (by simp only [szA,List.mem_cons,List.not_mem_nil,or_false,forall_eq_or_imp,forall_eq,VT.cells,szL];try decide) ?_
 rw [Try.ntmps149]
 simp only [push_cast,↓zK,↓zJ,↓reduceIte,zA,zB,zC,zD,zE,zF,zG,zH,zI,reduceCtorEq]
 refine zL fun K hK=> ?_
 refine zM zP zN [] rfl ?_
 simp only [push_cast,↓zK,↓zJ,↓reduceIte,zA,zB,zC,zD,zE,zF,zG,zH,zI,reduceCtorEq]
 repeat' apply And.intro
 all_goals try exact gB
 all_goals first|(refine hK _ ?_;clear hK K)|(simp only [push_cast];done)
 refine zL fun K1 hK1=> ?_
 refine zL fun K hK=> ?_
 refine zM zP zN [] rfl ?_
 simp only [push_cast,↓zK,↓zJ,↓reduceIte,zA,zB,zC,zD,zE,zF,zG,zH,zI,reduceCtorEq]
 repeat' apply And.intro
 all_goals try exact gB
 all_goals first|(refine hK _ ?_;clear hK K)|(simp only [push_cast];done)
 refine zU rfl (fun hc=> ?_) (fun hc=> ?_)<;>(try simp only [push_cast]at hc)
 ·
  refine zL fun K hK=> ?_
  refine zM zP zN [] rfl ?_
  simp only [push_cast,↓zK,↓zJ,↓reduceIte,zA,zB,zC,zD,zE,zF,zG,zH,zI,reduceCtorEq]
  repeat' apply And.intro
  all_goals try exact gB
  all_goals first|(refine hK _ ?_;clear hK K)|(simp only [push_cast];done)
  refine zX ?_
  (try simp only [zR,zS])
  refine⟨Or.inl rfl,?_⟩
  simp only [zg,push_cast,↓zK,↓zJ,↓reduceIte,zA,zB,zC,zD,zE,zF,zG,zH,zI,reduceCtorEq]
  rw [show b=true from by with_reducible assumption];rfl
 ·
  refine zV ?_
  (try simp only [zR,zS,reduceIte,zF]);refine hK1 _ ?_
  refine zL fun K hK=> ?_
  refine zM zP zN [] rfl ?_
  simp only [push_cast,↓zK,↓zJ,↓reduceIte,zA,zB,zC,zD,zE,zF,zG,zH,zI,reduceCtorEq]
  repeat' apply And.intro
  all_goals try exact gB
  all_goals first|(refine hK _ ?_;clear hK K)|(simp only [push_cast];done)
  refine zX ?_
  (try simp only [zR,zS])
  refine⟨Or.inl rfl,?_⟩
  simp only [zg,push_cast,↓zK,↓zJ,↓reduceIte,zA,zB,zC,zD,zE,zF,zG,zH,zI,reduceCtorEq]
  rw [show b=false from by with_reducible assumption];rfl
set_option maxRecDepth 20000 in
set_option maxHeartbeats 4000000 in
theorem UH (g:Pa)(hg:g.Ln 1048576)(c:List Int)(hL:zu g=true→xJ (za g) (zk (za g)) c):Fn Try.prog tyT 49 [.agg (dPa g)] [.c (DI (kX g c))]:=by
 have hB:=XI g hg
 have hP:=fun h=>Wj (za g) (Xw hg) (vQ (yI h)) _ rfl c (hL h)
 unfold dPa dWt at hB
 unfold dWt at hP
 unfold dPa
 refine zt (fn:=Try.f49) (ts:= [2]) Try.func49 (by kernel_rfl) rfl rfl (by rw [Try.ntmps49];exact Nat.le_of_ble_eq_true rfl) rfl (by simp only [szA,List.mem_cons,List.not_mem_nil,or_false,forall_eq_or_imp,forall_eq,VT.cells,szL];try decide) ?_
 rw [Try.ntmps49]
 simp only [push_cast,↓zK,↓zJ,↓reduceIte,zA,zB,zC,zD,zE,zF,zG,zH,zI,reduceCtorEq]
 refine zL fun K hK=> ?_
 refine zM zP zN [] rfl ?_
 simp only [push_cast,↓zK,↓zJ,↓reduceIte,zA,zB,zC,zD,zE,zF,zG,zH,zI,reduceCtorEq]
 repeat' apply And.intro
 all_goals try exact gB
 all_goals first|(refine hK _ ?_;clear hK K)|(simp only [push_cast];done)
 refine zL fun K hK=> ?_
 refine zM zP zN [] rfl ?_
 all_goals refine zm 2 fun K9 hK9=> ?_
 all_goals simp only [push_cast,↓zK,↓zJ,↓reduceIte,zA,zB,zC,zD,zE,zF,zG,zH,zI,reduceCtorEq]
 all_goals repeat'(first|(apply zO<;>(intro hg;(try simp only [push_cast]at hg)))|(refine⟨_,hB,?_⟩;simp only [push_cast,↓zK,↓zJ,↓reduceIte,zA,zB,zC,zD,zE,zF,zG,zH,zI,reduceCtorEq])|apply And.intro|(intro hg;(try simp only [push_cast]at hg)))
 all_goals try exact gA
 all_goals first|(refine hK9 _ ?_;clear hK9 K9)|(simp only [push_cast];done)
 all_goals simp only [push_cast,↓zK,↓zJ,↓reduceIte,zA,zB,zC,zD,zE,zF,zG,zH,zI,reduceCtorEq]
 all_goals repeat'(first|(apply zO<;>(intro hg;(try simp only [push_cast]at hg)))|(refine⟨_,hB,?_⟩;simp only [push_cast,↓zK,↓zJ,↓reduceIte,zA,zB,zC,zD,zE,zF,zG,zH,zI,reduceCtorEq])|apply And.intro|(intro hg;(try simp only [push_cast]at hg)))
 all_goals try exact gA
 all_goals first|(refine hK _ ?_;clear hK K)|(simp only [push_cast];done)
 refine zL fun K1 hK1=> ?_
 refine zL fun K hK=> ?_
 refine zM zP zN [] rfl ?_
 simp only [push_cast,↓zK,↓zJ,↓reduceIte,zA,zB,zC,zD,zE,zF,zG,zH,zI,reduceCtorEq]
 repeat' apply And.intro
 all_goals try exact gB
 all_goals first|(refine hK _ ?_;clear hK K)|(simp only [push_cast];done)
 refine zU rfl (fun hc=> ?_) (fun hc=> ?_)<;>(try simp only [push_cast]at hc)
 ·
  refine zL fun K hK=> ?_
  refine zM zP zN [] rfl ?_
  simp only [push_cast,↓zK,↓zJ,↓reduceIte,zA,zB,zC,zD,zE,zF,zG,zH,zI,reduceCtorEq]
  repeat' apply And.intro
  all_goals try exact gB
  all_goals first|(refine hK _ ?_;clear hK K)|(simp only [push_cast];done)
  refine zX ?_
  (try simp only [zR,zS])
  refine⟨Or.inl rfl,?_⟩
  simp only [zg,push_cast,↓zK,↓zJ,↓reduceIte,zA,zB,zC,zD,zE,zF,zG,zH,zI,reduceCtorEq]
  rw [zHe (by with_reducible assumption)]
  all_goals first|rfl|exact⟨rfl,rfl⟩
 ·
  refine zV ?_
  (try simp only [zR,zS,reduceIte,zF]);refine hK1 _ ?_
  refine zL fun K hK=> ?_
  refine zM zP zN [] rfl ?_
  simp only [push_cast,↓zK,↓zJ,↓reduceIte,zA,zB,zC,zD,zE,zF,zG,zH,zI,reduceCtorEq]
  repeat' apply And.intro
  all_goals try exact gB
  all_goals first|(refine hK _ ?_;clear hK K)|(simp only [push_cast];done)
  refine zL fun K2 hK2=> ?_
  have hb:zu g=true:=by with_reducible assumption
  have h8:=hP hb
  have hsl:(c.map (yL (zk (za g)))).length≤24:=by rw [List.length_map,(hL hb).len];exact(vQ (yI hb)).n2
  generalize hse:c.map (yL (zk (za g)))=s at h8 hsl
  refine zL fun K hK=> ?_
  refine zM zP zN [] rfl ?_
  all_goals refine zm 2 fun K9 hK9=> ?_
  all_goals simp only [push_cast,↓zK,↓zJ,↓reduceIte,zA,zB,zC,zD,zE,zF,zG,zH,zI,reduceCtorEq]
  all_goals repeat'(first|(apply zO<;>(intro hg;(try simp only [push_cast]at hg)))|(refine⟨_,h8,?_⟩;simp only [push_cast,↓zK,↓zJ,↓reduceIte,zA,zB,zC,zD,zE,zF,zG,zH,zI,reduceCtorEq])|apply And.intro|(intro hg;(try simp only [push_cast]at hg)))
  all_goals try exact gA
  all_goals first|(refine hK9 _ ?_;clear hK9 K9)|(simp only [push_cast];done)
  all_goals simp only [push_cast,↓zK,↓zJ,↓reduceIte,zA,zB,zC,zD,zE,zF,zG,zH,zI,reduceCtorEq]
  all_goals repeat'(first|(apply zO<;>(intro hg;(try simp only [push_cast]at hg)))|(refine⟨_,h8,?_⟩;simp only [push_cast,↓zK,↓zJ,↓reduceIte,zA,zB,zC,zD,zE,zF,zG,zH,zI,reduceCtorEq])|apply And.intro|(intro hg;(try simp only [push_cast]at hg)))
  all_goals try exact gA
  all_goals first|(refine hK _ ?_;clear hK K)|(simp only [push_cast];done)
  refine zT ?_
  refine zd [3,5,7,19,20,21,22,23,24,25,26,27,28,29,30,31] [80] (fun(k:Nat)=> [(19, .int .i64 k),(5, .sl 80 [] 0 k 2)]) (fun k=> []) (fun k=> [(80,⟨.ex,2,dI ((s.take k).map wA),none⟩)]) (fun k=>k≤s.length) (fun k=>s.length - k) 0 ?_ (by omega) ?_
  ·
   rw [show dI ((s.take 0).map wA)= []from rfl]
   refine zW rfl ?_ ?_ ?_<;>simp only [zc,zb,push_cast,↓zK,↓zJ,↓reduceIte,zA,zB,zC,zD,zE,zF,zG,zH,zI,reduceCtorEq]
  ·rintro k hk KL0 hL0
   have hfl:((s.take k).map wA).length=k:=by rw [List.length_map,List.length_take];omega
   have hfn:wA (gi s k)=if gi s k<0 then 1 else 0:=rfl
   simp only [push_cast,↓zK,↓zJ,↓reduceIte,zA,zB,zC,zD,zE,zF,zG,zH,zI,reduceCtorEq]
   refine zL fun K hK=> ?_
   refine zM zP zN [] rfl ?_
   simp only [push_cast,↓zK,↓zJ,↓reduceIte,zA,zB,zC,zD,zE,zF,zG,zH,zI,reduceCtorEq]
   repeat' apply And.intro
   all_goals try exact gB
   all_goals first|(refine hK _ ?_;clear hK K)|(simp only [push_cast];done)
   refine zL fun K3 hK3=> ?_
   refine zU rfl (fun hc=> ?_) (fun hc=> ?_)<;>(try simp only [push_cast]at hc)
   ·
    refine zV ?_
    (try simp only [zR,zS,reduceIte,zF]);refine hK3 _ ?_
    refine zL fun K4 hK4=> ?_
    refine zT ?_
    refine zL fun K hK=> ?_
    refine zM zP zN [] rfl ?_
    simp only [push_cast,↓zK,↓zJ,↓reduceIte,zA,zB,zC,zD,zE,zF,zG,zH,zI,reduceCtorEq]
    repeat' apply And.intro
    all_goals try exact gB
    all_goals first|(refine hK _ ?_;clear hK K)|(simp only [push_cast];done)
    refine zL fun K hK=> ?_
    refine zM zP zN [] rfl ?_
    simp only [push_cast,↓zK,↓zJ,↓reduceIte,zA,zB,zC,zD,zE,zF,zG,zH,zI,reduceCtorEq]
    repeat' apply And.intro
    all_goals try exact gB
    all_goals first|(refine hK _ ?_;clear hK K)|(simp only [push_cast];done)
    refine zU rfl (fun hc=> ?_) (fun hc=> ?_)<;>(try simp only [push_cast]at hc)
    ·
     refine zM zP zN [] rfl ?_
     simp only [push_cast,↓zK,↓zJ,↓reduceIte,zA,zB,zC,zD,zE,zF,zG,zH,zI,reduceCtorEq]
     repeat' apply And.intro
     all_goals try exact gB
     (try simp only [zR,zS,reduceIte,zF]);refine hK4 _ ?_
     refine zM zP zN [] rfl ?_
     simp only [push_cast,↓zK,↓zJ,↓reduceIte,zA,zB,zC,zD,zE,zF,zG,zH,zI,reduceCtorEq]
     repeat' apply And.intro
     all_goals try exact gB
     refine hL0 _ ⟨k+1,by omega,by omega,?_⟩
     (try rw [List.take_of_length_le (l:=(s.take k).map wA) (by omega)])
     rw [kn (by omega),hfn,if_neg (by omega)]
     refine zW rfl ?_ ?_ ?_<;>simp only [zc,zb,push_cast,↓zK,↓zJ,↓reduceIte,zA,zB,zC,zD,zE,zF,zG,zH,zI,reduceCtorEq]
    ·
     refine zM zP zN [] rfl ?_
     simp only [push_cast,↓zK,↓zJ,↓reduceIte,zA,zB,zC,zD,zE,zF,zG,zH,zI,reduceCtorEq]
     repeat' apply And.intro
     all_goals try exact gB
     (try simp only [zR,zS,reduceIte,zF]);refine hK4 _ ?_
     refine zM zP zN [] rfl ?_
     simp only [push_cast,↓zK,↓zJ,↓reduceIte,zA,zB,zC,zD,zE,zF,zG,zH,zI,reduceCtorEq]
     repeat' apply And.intro
     all_goals try exact gB
     refine hL0 _ ⟨k+1,by omega,by omega,?_⟩
     (try rw [List.take_of_length_le (l:=(s.take k).map wA) (by omega)])
     rw [kn (by omega),hfn,if_pos (by omega)]
     refine zW rfl ?_ ?_ ?_<;>simp only [zc,zb,push_cast,↓zK,↓zJ,↓reduceIte,zA,zB,zC,zD,zE,zF,zG,zH,zI,reduceCtorEq]
   ·
    refine ze ?_
    have hkk:k=s.length:=by omega
    subst hkk
    rw [List.take_length]
    (try simp only [zR,zS,reduceIte,zF]);refine hK2 _ ?_
    refine zL fun K hK=> ?_
    refine zM zP zN [] rfl ?_
    simp only [push_cast,↓zK,↓zJ,↓reduceIte,zA,zB,zC,zD,zE,zF,zG,zH,zI,reduceCtorEq]
    repeat' apply And.intro
    all_goals try exact gB
    all_goals first|(refine hK _ ?_;clear hK K)|(simp only [push_cast];done)
    refine zX ?_
    (try simp only [zR,zS])
    refine⟨Or.inl rfl,?_⟩
    simp only [zg,push_cast,↓zK,↓zJ,↓reduceIte,zA,zB,zC,zD,zE,zF,zG,zH,zI,reduceCtorEq]
    rw [zAl hb,←hse]
    all_goals first|rfl|exact⟨rfl,rfl⟩|(simp;done)
end Go.Proofs.Ytdbecmmeifdafaa
