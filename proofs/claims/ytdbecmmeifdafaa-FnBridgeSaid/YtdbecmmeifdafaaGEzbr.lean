/- Regions whose order is drawn, VI: a step is what the real operation does; nothing new is spoken of; the rule. -/
import Derived.Test.YtdbecmmeifdafaaGCzbr
namespace Go.Proofs.Ytdbecmmeifdafaa
open Go.RowKit
set_option linter.unusedVariables false
set_option linter.unusedSimpArgs false
def yv (np:Bool)(o:Oper):Bool:=
 match o.op with
 | .box _ _=>true
 | .alloc _=>true
 | .makeSlice _ _ _=>true
 | .buildSlice _ _ _=>true
 | .load _ _=>np
 | .call c=>match c.callee with
  | .value _=>true
  | .builtin .append=>true
  |_=>false
 |_=>false
theorem xg {np:Bool}{o:Oper}{x:FuncId×Array Operand×Array TypeId}(h:zz o=some x):yv np o=true:=by
 unfold zz at h
 unfold yv
 cases ho:o.op<;>rw [ho]at h<;>simp at h⊢
 rename_i c
 cases hc:c.callee<;>rw [hc]at h<;>simp at h⊢
section
variable {P:Program} {np:Bool} {τ:Ty} {lo:Nat} {w0:Fz} {ow:Nat→Option Pl} {hd:Nat→Value} {bk:Nat→Nat} {st:St} {a:Act} {w:World}
theorem wH (t:Nat): ∀(ds:List D) (j:Nat) (st:St),yR (own t) st→j+ds.length≤16→xK st (yf t j ds st)∧∀k,lk (yf t j ds st).r k=(lk (qQ t j ds) k).or (lk st.r k)
 | [],j,st,_,_=>⟨xK.refl st,fun k=>by simp [yf,qQ,yw]⟩
 | .int _ _::ds,j,st,hf,hl=>by
  simp only [yf,qQ]
  exact wH t ds (j+1) st hf (by simp only [List.length_cons]at hl;omega)
 | .bool _::ds,j,st,hf,hl=>by
  simp only [yf,qQ]
  exact wH t ds (j+1) st hf (by simp only [List.length_cons]at hl;omega)
 | .hole::ds,j,st,hf,hl=>by
  simp only [yf,qQ]
  exact wH t ds (j+1) st hf (by simp only [List.length_cons]at hl;omega)
 | .lst e xs::ds,j,st,hf,hl=>by
  simp only [List.length_cons]at hl
  have s1:=qb hf (yc (t:=t) (j:=j) (by omega)) ⟨.ex,e,xs,none⟩
  obtain⟨h1,h2⟩:=wH t ds (j+1) (st.addR (zZ t j) ⟨.ex,e,xs,none⟩) (s1.free hf) (by omega)
  simp only [yf,qQ]
  refine⟨s1.trans h1,fun k=> ?_⟩
  rw [h2,ZL]
  simp only [St.addR,zh,yw]
  cases lk (qQ t (j+1) ds) k with
  |some x=>simp
  |none=>
   by_cases e:zZ t j=k
   ·simp [e]
   ·simp [e]
theorem yZ {x y:Option (Dl×Prop)}{z:Dl×Prop}(h:orE x y=some z):x=some z∨y=some z:=by
 unfold orE at h
 split at h
 ·exact .inl h
 ·exact .inr h
theorem Xb {v:AV}(d:Option Tmp):Cov (st.put d v) (st.app d ⟨v,[],[],[]⟩):=qH (xK.refl st) rfl rfl fun k R h=>by simpa [yw]using h
theorem zEE (hτ:yB P τ)(hpos:yd τ)(h:zj τ lo w0 ow hd bk st a w){o:Oper}(hf:yv np o=true→yR (own (zo o)) st)(hpf:np=true→PF st){δ:Dl}{ob:Prop}(he:wM np τ o st=some (δ,ob))(hob:ob):
  ∃st1 v,qp P τ lo w0 a w o st1 v∧Cov (st1.put o.dst v) (st.app o.dst δ):=by
 have plain:((qR τ o st).map fun y=>((⟨y.1,[],[],[]⟩:Dl),y.2))=some (δ,ob)→∃st1 v,qp P τ lo w0 a w o st1 v∧Cov (st1.put o.dst v) (st.app o.dst δ):=fun he=>by
  cases hv:qR τ o st with
  |none=>rw [hv]at he;cases he
  |some y=>
   rw [hv]at he
   simp only [Option.map_some,Option.some.injEq,Prod.mk.injEq]at he
   obtain⟨rfl,rfl⟩:=he
   obtain⟨z,hz,hr⟩:=Qs hτ hpos h hv hob
   exact⟨st,y.1,⟨z,w,ow,hd,bk, .inl hz,h,hr⟩,Xb _⟩
 have wrapV: ∀{s:Sem Value} {z:Value} {w':World},s.run P w= .ok z w'→(do pure (.value (←s)):Sem Next).run P w= .ok (.value z) w':=fun{s z w'} hs=>by rw [Sem.run_bind,hs,Result.andThen_ok,Sem.run_pure]
 obtain⟨dst,op,ty,pos,after,guard⟩:=o
 unfold wM at he
 cases op<;>simp only at he
 case box e x=>
  split at he
  ·rename_i t vs hvs
   simp only [Option.some.injEq,Prod.mk.injEq]at he
   obtain⟨rfl,rfl⟩:=he
   have hf':=hf rfl
   obtain⟨us,hus,hur⟩:=xw hvs (zi h x)
   obtain⟨ow',bk',r1,r2,r3,r4⟩:=jT h t hob e vs us hur hf' (fun n hn=>hf'.ev x n (QG hvs n hn))
   refine⟨_, .bp t 0,⟨.pointer (some ⟨w.heap.size,0,none⟩),_,ow',hd,bk', .inl (wrapV ?_),r1,by simp only [AvR];exact⟨⟨_,rfl⟩,fun _=>by rw [r2]⟩⟩,zCZ _ r3 r4⟩
   simp [Instr.box,newVar,newRow,newObj,Sem.run,hus]
  ·cases he
 case alloc e=>
  split at he
  ·rename_i t k b ht
   simp only [Option.some.injEq,Prod.mk.injEq]at he
   obtain⟨rfl,rfl⟩:=he
   have hf':=hf rfl
   have hz: ∃z:Value,(zeroValue e).run P w= .ok z w∧z.cells=(k.cells.map CK.zero).toArray:=by
    cases k with
    |sc c=>obtain⟨i,i1,i2,i3,i4⟩:=Qe hτ ht;exact⟨c.zero,by simp [zeroValue,typeInfo,i1,i3],by cases c<;>rfl⟩
    |st cs fs=>obtain⟨F,_,_,i,i1,i2,i3,i4⟩:=yN hτ ht;exact⟨_,by simp [zeroValue,typeInfo,i1,i3];rfl,by simp [Value.cells,TK.cells]⟩
   obtain⟨z,hz1,hz2⟩:=hz
   obtain⟨ow',bk',r1,r2,r3,r4⟩:=jT h t hob e (k.cells.map wU) (k.cells.map CK.zero) (zn.2 ⟨by simp,fun i v x hv hx=>by
    rw [List.getElem?_map]at hv hx
    cases hk:k.cells[i]? with
    |none=>rw [hk]at hv;cases hv
    |some c=>rw [hk]at hv hx;cases hv;cases hx;exact Xz c⟩) hf' (fun n hn=>by
    obtain⟨v,hv,hm⟩:=zy.1 hn
    obtain⟨c,_,rfl⟩:=List.mem_map.1 hv
    cases c<;>simp [wU,AV.nm]at hm)
   refine⟨_, .bp t 0,⟨.pointer (some ⟨w.heap.size,0,none⟩),_,ow',hd,bk', .inl (wrapV ?_),r1,by simp only [AvR];exact⟨⟨_,rfl⟩,fun _=>by rw [r2]⟩⟩,zCZ _ r3 r4⟩
   unfold Instr.alloc
   rw [Sem.run_bind,hz1,Result.andThen_ok]
   simp [newVar,newRow,newObj,Sem.run,hz2]
  ·cases he
 case makeSlice t l c=>
  split at he
  ·obtain⟨st1,v,h1,h2⟩:=zFT (hf rfl) he
   exact⟨st1,v,Jf hτ h rfl h1 hob,h2 _⟩
  ·cases he
 case buildSlice t len parts=>
  split at he
  ·rcases yZ he with he|he
   ·obtain⟨st1,v,h1,h2⟩:=zGk (hf rfl) he
    exact⟨st1,v,jJ hτ h rfl h1,h2 _⟩
   ·rcases yZ he with he|he
    ·obtain⟨st1,v,h1,h2⟩:=zEk (o:=⟨some _, .buildSlice t len parts,ty,pos,after,guard⟩) hτ h rfl (hf rfl) he
     exact⟨st1,v,h1,h2 _⟩
    ·obtain⟨st1,v,h1,h2⟩:=zEV (o:=⟨some _, .buildSlice t len parts,ty,pos,after,guard⟩) hτ h rfl (hf rfl) he hob
     exact⟨st1,v,h1,h2 _⟩
  ·cases he
 case load t x=>
  rcases yZ he with he|he
  ·cases dst with
   |none=>simp [wq]at he
   |some t0=>
    have hnp:np=true:=by
     unfold wq at he
     split at he
     ·split at he
      ·split at he
       ·rename_i hc;exact hc.1
       ·cases he
      ·cases he
     ·cases he
    obtain⟨st1,v,h1,h2⟩:=zD6 (o:=⟨some t0, .load t x,ty,pos,after,guard⟩) hτ hpos h rfl rfl (hf hnp) he hob
    exact⟨st1,v,h1,h2 _⟩
  unfold Yq at he
  cases hv:qz τ st t (ev st x)with
  |none=>rw [hv]at he;cases he
  |some y=>
   rw [hv]at he
   simp only [Option.map_some,Option.some.injEq,Prod.mk.injEq]at he
   obtain⟨rfl,rfl⟩:=he
   obtain⟨z,hz,hr⟩:=Qs (o:=⟨dst, .load t x,ty,pos,after,guard⟩) hτ hpos h (show qR τ _ st=some (y.1,y.2)from hv) hob
   exact⟨st,_,⟨z,w,ow,hd,bk, .inl hz,h,zBT hr⟩,Xb _⟩
 case store t p x=>
  rcases yZ he with he|he
  rotate_left
  ·split at he
   ·rename_i hnp
    obtain⟨st1,h1,h2⟩:=zBV (o:=⟨dst, .store t p x,ty,pos,after,guard⟩) hτ h (hpf hnp) rfl he hob
    exact⟨st1,_,h1,h2 _⟩
   ·cases he
  cases hp:ev st p with
  |bp b i=>
   rw [hp]at he
   obtain⟨st1,h1,h2⟩:=zBy (o:=⟨dst, .store t p x,ty,pos,after,guard⟩) hτ h rfl hp he
   exact⟨st1,_,h1,h2 _⟩
  |ep d q i=>
   rw [hp]at he
   obtain⟨st1,u,h1,h2⟩:=zDF he
   exact⟨st1,u,WT (al:= []) hτ hpos h rfl (by rw [hp];exact h1) hob,h2 _⟩
  |_=>rw [hp]at he;simp [vM]at he
 case call c=>
  obtain⟨callee,args,argTypes⟩:=c
  simp only at he
  split at he
  ·split at he
   ·rename_i t x y t1 t2 h1 h2
    split at he
    ·rename_i htt
     subst htt
     have e1:args= #[x,y]:=by cases args;simp at h1;subst h1;rfl
     have e2:argTypes= #[t1,t1]:=by cases argTypes;simp at h2;subst h2;rfl
     subst e1;subst e2
     rcases yZ he with he|he
     ·obtain⟨st1,v,ob1,k1,k2,k3⟩:=zGJ (hf rfl) he hob
      refine⟨st1,v,jX (dl:=St.delR0) (fun st ow hd d h=>⟨Yi h d,by simp [St.delR0,xr,is1]⟩) hτ h (fun v w' hr=> ?_) k1 k2,k3 _⟩
      simp [execOp,resolve,invoke,builtin,hr]
     ·obtain⟨st1,v,k1,k2⟩:=zEy (o:=⟨some _, .call ⟨.builtin .append,#[x,y],#[t1,t1]⟩,ty,pos,after,guard⟩) hτ h (fun v w' hr=>by simp [execOp,resolve,invoke,builtin,hr]) (hf rfl) he hob
      exact⟨st1,v,k1,k2 _⟩
    ·cases he
   ·cases he
  ·exact plain he
 all_goals exact plain he
theorem zC3 {o:Oper}{δ:Dl}{Q:Exit→Act→World→Prop}{K':Act→World→Prop}(hdn: ∀k,o.dst=some k→k<a.tmps.size)(h:Rel τ lo w0 st a w)(hf:yR (own (zo o)) st)(ha:Qp P τ o st δ)
  (hK: ∀x w',Rel τ lo w0 (st.app o.dst δ) (a.put o.dst x) w'→K' (a.put o.dst x) w'):o.wp P a w K' Q:=by
 unfold Qp at ha
 split at ha
 rotate_left
 ·exact ha.elim
 rename_i f as T cells ds ob hact
 obtain⟨hob,ds',ress,⟨⟨fn,hfn,hname,hbody⟩,hlen,hcall⟩,hsz,h16,rfl⟩:=ha
 unfold Zb at hact
 cases hc:zz o with
 |none=>rw [hc]at hact;cases hact
 |some y=>
  obtain⟨f',args,ts⟩:=y
  rw [hc]at hact
  simp only at hact
  split at hact
  rotate_left
  ·cases hact
  rename_i T' vs hvs
  cases hT:lk st.b T' with
  |none=>rw [hT]at hact;cases hact
  |some cells'=>
   rw [hT]at hact
   simp only at hact
   split at hact
   rotate_left
   ·cases hact
   rename_i ds0 ob1 as0 ob2 hds has
   simp only [Option.some.injEq,Prod.mk.injEq]at hact
   obtain⟨rfl,rfl,rfl,rfl,rfl,rfl⟩:=hact
   obtain⟨ow,hd,bk,hr⟩:=h
   have hev:zY τ w st.r st.b hd bk (args.toList.map (ev st)) (args.toList.map a.eval):=zn.2 ⟨by simp,fun i v x hv hx=>by
    rw [List.getElem?_map]at hv hx
    cases hk:args.toList[i]? with
    |none=>rw [hk]at hv;cases hv
    |some p=>rw [hk]at hv hx;cases hv;cases hx;exact zi hr p⟩
   rw [hvs]at hev
   simp only [zY]at hev
   obtain⟨x0,xs,hxs,hx0,hxs2⟩:=hev
   simp only [AvR]at hx0
   have hptr:=hx0.2 ⟨_,hT⟩
   subst hptr
   obtain⟨cs,ty,b1,b2,b3,b4,b5⟩:=zDu hr hT hds hob.1
   have hA:=zBY hr hT hxs2 has hob.2
   have hC:=hcall w (bk T') cs xs ty b1 b2 b5 hA
   have hexec:(execOp a.eval o).run P w= .ok (.enter f' (args.toList.map a.eval).toArray) w:=by
    obtain⟨dst,op,oty,pos,after,guard⟩:=o
    unfold zz at hc
    simp only at hc
    split at hc
    ·rename_i c
     split at hc
     ·rename_i f' hcal
      cases hc
      obtain⟨callee,args',ats⟩:=c
      simp only at hcal
      subst hcal
      rw [execOp_call_go]
      unfold callFunc
      have h1: ¬fn.name= "runtime.NumGoroutine" :=by simpa using hname
      have h2: ¬fn.body=none:=by cases hb:fn.body with
       |none=>rw [hb]at hbody;simp at hbody
       |some c=>simp
      have h3:Array.map a.eval args'=(args'.toList.map a.eval).toArray:=by cases args';simp
      simp [hfn,h1,h2,h3]
     ·cases hc
    ·cases hc
   unfold Oper.wp
   rw [hexec,hxs]
   simp only [Oper.upon]
   refine hC.mono fun e w' hpost=> ?_
   obtain⟨z,ow',hd2,he,r1,r2⟩:=zBc hr hT b3 (by rw [hlen,b4]) (t:=zo o) hsz hpost
   subst he
   have hfree:yR (own (zo o)) (st.setB T' (xk cells' ds')):=⟨hf.s,fun k cs' hcs'=>by
    simp only [St.setB,zh]at hcs'
    split at hcs'
    ·cases hcs'
     intro n hn
     obtain⟨v,hv,hm⟩:=zy.1 hn
     rcases Qo hv with hv|⟨k,m,rfl⟩|⟨b,rfl⟩
     ·exact hf.b T' cells' hT n (zy.2 ⟨v,hv,hm⟩)
     ·simp [AV.nm]at hm
     ·simp [AV.nm]at hm
    ·exact hf.b k cs' hcs'⟩
   obtain⟨k1,k2⟩:=wH (zo o) (zr ress) 0 _ hfree (by omega)
   refine hK z w' (qg (qc r1 hdn r2) ⟨?_,fun k v hv=> .inr ?_,fun k us hus=> ?_,fun k R hR=> ?_⟩)
   ·rw [Wu,zDY];exact k1.n.symm
   ·rw [wu]at hv
    cases hdd:o.dst with
    |none=>rw [hdd]at hv;simp only [St.put];rw [k1.s];simpa [St.setB]using hv
    |some d=>
     rw [hdd]at hv
     simp only [St.put,zh]
     simp only [Option.some.injEq]at hv
     split at hv
     ·rename_i e;rw [if_pos e];exact hv
     ·rename_i e;rw [if_neg e,k1.s];exact hv
   ·rw [wC]at hus
    have e:lk ((yf (zo o) 0 (zr ress) (st.setB T' (xk cells' ds'))).put o.dst (qV (xE τ (zo o) 0 ress))).b k=lk (st.setB T' (xk cells' ds')).b k:=by
     cases o.dst<;>exact k1.b k
    rw [e]
    simp only [St.setB,zh]at hus⊢
    split
    ·rename_i e;rw [if_pos e]at hus;simpa using hus
    ·rename_i e;rw [if_neg e,yw]at hus;simpa using hus
   ·rw [vw]at hR
    have e:lk ((yf (zo o) 0 (zr ress) (st.setB T' (xk cells' ds'))).put o.dst (qV (xE τ (zo o) 0 ress))).r k=lk (yf (zo o) 0 (zr ress) (st.setB T' (xk cells' ds'))).r k:=by
     cases o.dst<;>rfl
    rw [e,k2]
    simpa [St.setB]using hR
theorem VX (hτ:yB P τ)(hpos:yd τ){o:Oper}{δ:Dl}{Q:Exit→Act→World→Prop}{K':Act→World→Prop}(hdn: ∀k,o.dst=some k→k<a.tmps.size)(h:Rel τ lo w0 st a w)(hf:yv np o=true→yR (own (zo o)) st)(hpf:np=true→PF st)(ha:qL P np τ o st δ)
  (hK: ∀x w',Rel τ lo w0 (st.app o.dst δ) (a.put o.dst x) w'→K' (a.put o.dst x) w'):o.wp P a w K' Q:=by
 unfold qL at ha
 rcases ha with ha|ha|ha
 ·exact ha.2.2.2.2.2.2 st ⟨fun _ _=>rfl,fun _ _=>rfl,fun _ _=>rfl⟩ (hpf ha.1) lo w0 a w Q K' hdn h hK
 ·unfold Jq at ha
  cases hc:zz o with
  |none=>rw [hc]at ha;exact ha.elim
  |some x=>
   obtain⟨f,args,ts⟩:=x
   rw [hc]at ha
   simp only at ha
   split at ha
   ·rename_i as ob us vs hargs hevs
    obtain⟨hob,pm,ress,⟨hcl,hcall⟩,hpm,hsz,hlen,rfl⟩:=ha
    obtain⟨ow,hd',bk,hr⟩:=h
    have hev:zY τ w st.r st.b hd' bk (args.toList.map (ev st)) (args.toList.map a.eval):=zn.2 ⟨by simp,fun i v x hv hx=>by
     rw [List.getElem?_map]at hv hx
     cases hk:args.toList[i]? with
     |none=>rw [hk]at hv;cases hv
     |some p=>rw [hk]at hv hx;cases hv;cases hx;exact zi hr p⟩
    have hA:=Zk hr w.heap.size hev hargs hob
    have hC:=hcall w _ hA
    unfold Oper.wp
    rw [zDv hc hcl]
    simp only [Oper.upon]
    refine hC.mono fun e w' hpost=> ?_
    obtain⟨cs0,cs,ow',hd2,h0,he,r1,r2⟩:=zBl hr (t:=zo o) hsz hpost
    subst he
    obtain⟨k1,k2⟩:=wH (zo o) ress 0 st (hf (xg hc)) (by omega)
    obtain⟨x0,xs,hx0,hv0⟩: ∃x0 xs,args.toList=x0::xs∧ev st x0= .agg us:=by
     cases hal:args.toList with
     |nil=>rw [hal]at hevs;simp at hevs
     |cons x0 xs=>
      rw [hal]at hevs
      simp only [List.map_cons,List.cons.injEq]at hevs
      exact⟨x0,xs,rfl,hevs.1⟩
    have hv1:ev (yf (zo o) 0 ress st) x0= .agg us:=by
     rw [←hv0]
     cases x0<;>simp only [ev]
     rw [k1.s]
    have hx:=zi r1 x0
    rw [hv1]at hx
    simp only [AvR]at hx
    obtain⟨cs1,e1,r3⟩:=hx
    rw [hx0]at h0
    simp only [List.map_cons,List.getElem?_cons_zero,Option.some.injEq]at h0
    rw [e1]at h0
    have :cs1=cs0:=by simpa using h0
    subst this
    have hrel:=qc (d:=o.dst) r1 hdn (v:= .agg (wa pm .dead us++yO τ (zo o) 0 ress)) (x:= .agg (List.toArray (wa pm undef cs1++cs))) (by
     simp only [AvR]
     exact⟨_,rfl,vq (zAU r3 pm hpm) r2⟩)
    exact hK _ w' (qg hrel (qH k1 rfl rfl fun k R hR=>by rw [k2];simpa using hR))
   ·exact ha.elim
 cases hc:zz o with
 |some x=>
  obtain⟨f,args,ts⟩:=x
  rw [hc]at ha
  simp only at ha
  cases hargs:ye τ st ts.toList (args.toList.map (ev st))with
  |none=>rw [hargs]at ha;exact zC3 hdn h (hf (xg hc)) ha.2 hK
  |some y=>
   obtain⟨as,ob⟩:=y
   rw [hargs]at ha
   obtain⟨hob,ress,h1,h2,h3,rfl⟩:=ha
   refine Xf (al:= []) (K:=fun s=>s=(yf (zo o) 0 (zr ress) st).put o.dst (qV (xE τ (zo o) 0 ress))) hτ hpos hdn h ?_ ?_
   ·unfold aop
    rw [hc]
    simp only [hargs]
    exact⟨hob,ress,h1,h2,rfl⟩
   ·rintro st' x w' rfl hrel
    obtain⟨k1,k2⟩:=wH (zo o) (zr ress) 0 st (hf (xg hc)) (by omega)
    exact hK x w' (qg hrel (qH k1 rfl rfl fun k R hR=>by rw [k2];simpa using hR))
 |none=>
  rw [hc]at ha
  simp only at ha
  cases he:wM np τ o st with
  |none=>rw [he]at ha;exact ha.elim
  |some y=>
   obtain⟨δ',ob⟩:=y
   rw [he]at ha
   obtain⟨hob,rfl⟩:=ha
   obtain⟨ow,hd,bk,hr⟩:=h
   obtain⟨st1,v,r1,r2⟩:=zEE hτ hpos hr hf hpf he hob
   exact zGX hdn r1 r2 hK
end
section
variable {P:Program} {np:Bool} {τ:Ty} {st:St} {ns:Nat→Bool}
def NS (ns:Nat→Bool)(v:AV):Prop:= ∀n∈v.nm,ns n=false
theorem yX {v:AV}(h:v.nm= []):NS ns v:=fun n hn=>by rw [h]at hn;simp at hn
theorem jH {vs:List AV}(h: ∀v∈vs,NS ns v):NS ns (.agg vs):=fun n hn=>by
 simp only [AV.nm]at hn
 obtain⟨v,hv,hm⟩:=zy.1 hn
 exact h v hv n hm
theorem NS_ar (k:IntKind)(n:Int):NS ns (ar k n).1:=by unfold ar;cases k<;>exact yX rfl
theorem ar_ns {k:IntKind}{n:Int}{v:AV}{ob:Prop}(h:some (ar k n)=some (v,ob)):NS ns v:=by
 have h1:=Option.some.inj h
 have :=NS_ar (ns:=ns) k n
 rw [h1]at this
 exact this
theorem Kz {d:Nat}{p:List Nat}{v u:AV}{o o':Prop}(h:onR st d p v o=some (u,o'))(hv:NS ns v):NS ns u:=by
 unfold onR at h
 split at h
 ·cases h;exact hv
 ·cases h
theorem zA1 {d:Nat}{p:List Nat}{i:Nat}{xs:List D}{c:CK}(h:ns (2*d)=false):NS ns (wx τ d p i xs c):=by
 cases c with
 |int k=>exact yX rfl
 |bool=>exact yX rfl
 |sl e=>intro n hn;simp only [wx,AV.nm,List.mem_singleton]at hn;subst hn;exact h
theorem UD {d:Nat}{p:List Nat}{xs:List D}(h:ns (2*d)=false): ∀(cs:List CK) (i:Nat),∀v∈vl τ d p xs i cs,NS ns v
 | [],i,v,hv=>by simp [vl]at hv
 |c::cs,i,v,hv=>by
  simp only [vl,List.mem_cons]at hv
  rcases hv with rfl|hv
  ·exact zA1 h
  ·exact UD h cs (i+1) v hv
theorem Kh (hf:yR ns st){b:Nat}{cs:List AV}(hb:lk st.b b=some cs): ∀v∈cs,NS ns v:=fun v hv n hn=>hf.b b cs hb n (zy.2 ⟨v,hv,hn⟩)
theorem zAc (hf:yR ns st){t:TypeId}{v u:AV}{ob:Prop}(hv:NS ns v)(h:qz τ st t v=some (u,ob)):NS ns u:=by
 cases v<;>simp only [qz]at h<;>try(cases h;done)
 ·rename_i d p i
  have hd:ns (2*d)=false:=hv _ (by simp [AV.nm])
  split at h
  ·cases h;exact zA1 hd
  ·cases h;exact jH (UD hd _ _)
  ·cases h
 ·rename_i b i
  split at h
  ·rename_i cs _ _ hcs _
   cases h
   rw [List.getD_eq_getElem?_getD]
   cases hx:cs[i]? with
   |none=>exact yX rfl
   |some v=>exact Kh hf hcs v (List.mem_of_getElem? hx)
  ·rename_i cs _ _ _ hcs _
   cases h
   exact jH fun v hv=>Kh hf hcs v (List.mem_of_mem_drop (List.mem_of_mem_take hv))
  ·cases h
mutual
theorem zCX {ds bs:Nat→Bool}: ∀(v:AV),NS ns v→NS ns (v.kill ds bs)
 | .int k n,h=>h
 | .bool b,h=>h
 | .sl d p off len e,h=>by
  simp only [AV.kill];split
  ·exact yX rfl
  ·exact h
 | .nil,h=>h
 | .ep d p i,h=>by
  simp only [AV.kill];split
  ·exact yX rfl
  ·exact h
 | .bp t i,h=>by
  simp only [AV.kill];split
  ·exact yX rfl
  ·exact h
 | .agg vs,h=>fun n hn=>Qz vs (fun n hn=>h n (by simpa only [AV.nm]using hn)) n (by simpa only [AV.kill,AV.nm]using hn)
 | .tup vs,h=>fun n hn=>Qz vs (fun n hn=>h n (by simpa only [AV.nm]using hn)) n (by simpa only [AV.kill,AV.nm]using hn)
 | .fn f vs,h=>fun n hn=>Qz vs (fun n hn=>h n (by simpa only [AV.nm]using hn)) n (by simpa only [AV.kill,AV.nm]using hn)
 | .dead,h=>h
 | .raw u,h=>h
theorem Qz {ds bs:Nat→Bool}: ∀(vs:List AV),(∀n∈AV.nmL vs,ns n=false)→∀n∈AV.nmL (AV.killL ds bs vs),ns n=false
 | [],h,n,hn=>by simp [AV.killL,AV.nmL]at hn
 |v::vs,h,n,hn=>by
  simp only [AV.killL,AV.nmL,List.mem_append]at hn
  rcases hn with hn|hn
  ·exact zCX v (fun n hn=>h n (by simp [AV.nmL,hn])) n hn
  ·exact Qz vs (fun n hn=>h n (by simp [AV.nmL,hn])) n hn
end
theorem zF3 {np:Bool}{v u:AV}(h:NS ns u):NS ns (vx np st v u):=by
 unfold vx
 split
 ·split
  ·split
   ·exact zCX u h
   ·exact h
  ·exact h
 ·exact h
theorem QL {v:AV}{vs:List AV}(h:fieldsOf v=some vs)(hv:NS ns v): ∀u∈vs,NS ns u:=fun u hu n hn=>hv n (QG h n (zy.2 ⟨u,hu,hn⟩))
theorem Wq {α:Type}{cells vs:List α}{i:Nat}{x:α}(h:x∈lay cells i vs):x∈cells∨x∈vs:=by
 unfold lay at h
 simp only [List.mem_append]at h
 rcases h with(h|h)|h
 ·exact .inl (List.mem_of_mem_take h)
 ·exact .inr h
 ·exact .inl (List.mem_of_mem_drop h)
theorem zAi {fs:List (Nat×TypeId)}: ∀(parts:List (Nat×AV)) (cells us:List AV),(∀v∈cells,NS ns v)→(∀x∈parts,NS ns x.2)→vi τ fs cells parts=some us→∀v∈us,NS ns v
 | [],cells,us,hc,_,h=>by simp only [vi,Option.some.injEq]at h;subst h;exact hc
 |(i,v)::rest,cells,us,hc,hp,h=>by
  simp only [vi]at h
  split at h
  ·rename_i x vs h1 h2
   split at h
   ·refine zAi rest _ us (fun u hu=> ?_) (fun x hx=>hp x (by simp [hx])) h
    rcases Wq hu with hu|hu
    ·exact hc u hu
    ·exact QL h2 (hp (i,v) (by simp)) u hu
   ·cases h
  ·cases h
theorem zHq (hf:yR ns st){o:Oper}{v:AV}{ob:Prop}(h:qR τ o st=some (v,ob)):NS ns v:=by
 obtain⟨dst,op,ty,pos,after,guard⟩:=o
 have ev': ∀x,NS ns (ev st x):=fun x=>hf.ev x
 unfold qR at h
 cases op<;>simp only at h<;>try(cases h;done)
 case move x=>cases h;exact ev' x
 case assign x=>cases h;exact ev' x
 case nilCheck x=>
  unfold jt at h
  have hx:=ev' x
  split at h
  ·rename_i t i hev
   rw [hev]at hx
   split at h
   ·cases h;exact hx
   ·cases h
  ·cases h
 case pick c x y=>
  split at h
  ·cases h;split
   ·exact ev' x
   ·exact ev' y
  ·cases h
 case load t x=>exact zAc hf (ev' x) h
 case fieldAddr t x f=>
  unfold Za at h
  have hx:=ev' x
  split at h
  ·split at h
   ·cases hv:ev st x<;>rw [hv]at h<;>rw [hv]at hx<;>simp only at h<;>try(cases h;done)
    ·exact Kz h (fun n hn=>hx n (by simpa [AV.nm]using hn))
    ·split at h
     ·cases h;exact fun n hn=>hx n (by simpa [AV.nm]using hn)
     ·cases h
   ·cases h
  ·cases h
 case indexAddr t x ix=>
  unfold Zf at h
  have hx:=ev' x
  split at h
  ·cases hv:ev st x<;>rw [hv]at h<;>rw [hv]at hx<;>(try simp only at h)<;>try(cases h;done)
   cases hi:ev st ix<;>rw [hi]at h<;>(try simp only at h)<;>try(cases h;done)
   split at h
   ·exact Kz h (fun n hn=>hx n (by simpa [AV.nm]using hn))
   ·cases h
  ·cases h
 case field t x f=>
  have hx:=ev' x
  obtain⟨us,k,e1,e2⟩:=JW h
  rw [e1]at hx
  exact fun n hn=>hx n (by simp only [AV.nm];exact zy.2 ⟨_,List.mem_of_getElem? e2,hn⟩)
 case extract x i=>
  have hx:=ev' x
  cases hv:ev st x<;>rw [hv]at h<;>rw [hv]at hx<;>simp only at h<;>try(cases h;done)
  rename_i vs
  cases hi:vs[i]? with
  |none=>rw [hi]at h;cases h
  |some u=>
   rw [hi]at h;cases h
   exact fun n hn=>hx n (by simp only [AV.nm];exact zy.2 ⟨_,List.mem_of_getElem? hi,hn⟩)
 case binOp op t x y r=>
  split at h
  ·rcases uB h with⟨k,n,rfl⟩|⟨b,rfl⟩<;>exact yX rfl
  ·unfold Wy at h
   split at h
   ·split at h<;>cases h<;>exact yX rfl
   ·cases h
  ·rcases uH h with⟨b,rfl⟩;exact yX rfl
  ·cases h
 case unOp op t x=>
  unfold unE at h
  split at h
  ·exact ar_ns h
  ·cases h;exact yX rfl
  ·cases h
 case build t parts=>
  unfold Qf at h
  split at h
  ·rename_i ks fs b ht
   cases hfl:vi τ fs (ks.map wU) (parts.toList.map fun x=>(x.1,ev st x.2))with
   |none=>rw [hfl]at h;cases h
   |some us=>
    rw [hfl]at h;cases h
    refine jH (zAi _ _ _ (fun v hv=> ?_) (fun x hx=> ?_) hfl)
    ·obtain⟨c,_,rfl⟩:=List.mem_map.1 hv
     cases c<;>exact yX rfl
    ·obtain⟨y,_,rfl⟩:=List.mem_map.1 hx
     exact ev' _
  ·cases h
 case convert s d x=>
  split at h
  ·rcases zAM h with⟨k,n,rfl⟩<;>exact yX rfl
  ·cases h
 case slice t x l u m=>
  split at h
  ·unfold ZX at h
   have hx:=ev' x
   split at h
   ·cases hv:ev st x<;>rw [hv]at h<;>rw [hv]at hx<;>simp only at h<;>try(cases h;done)
    split at h
    ·split at h
     ·exact Kz h (fun n hn=>hx n (by simpa [AV.nm]using hn))
     ·cases h
    ·cases h
   ·cases h
  ·cases h
 case call c=>
  unfold wG at h
  split at h
  ·split at h
   ·split at h
    ·unfold Qk at h
     split at h
     ·exact Kz h (yX rfl)
     ·cases h;exact yX rfl
     ·cases h
    ·cases h
   ·unfold kQ at h
    split at h
    ·cases h;exact yX rfl
    ·cases h
   ·unfold kD at h
    split at h
    ·cases h;exact yX rfl
    ·cases h
   ·unfold JE at h
    split at h
    ·cases h;exact yX rfl
    ·cases h
   ·cases h
  ·cases h
theorem Yz (t:Nat)(ho: ∀n,own t n=true→ns n=false): ∀(ds:List D) (j:Nat),j+ds.length≤16→∀v∈yO τ t j ds,NS ns v
 | [],j,_,v,hv=>by simp [yO]at hv
 | .lst e xs::ds,j,hl,v,hv=>by
  simp only [List.length_cons]at hl
  simp only [yO,List.mem_cons]at hv
  rcases hv with rfl|hv
  ·intro n hn
   simp only [AV.nm,List.mem_singleton]at hn
   subst hn
   exact ho _ (yc (by omega))
  ·exact Yz t ho ds (j+1) (by omega) v hv
 | .int k n::ds,j,hl,v,hv=>by
  simp only [List.length_cons]at hl
  simp only [yO,List.mem_cons]at hv
  rcases hv with rfl|hv
  ·exact yX rfl
  ·exact Yz t ho ds (j+1) (by omega) v hv
 | .bool b::ds,j,hl,v,hv=>by
  simp only [List.length_cons]at hl
  simp only [yO,List.mem_cons]at hv
  rcases hv with rfl|hv
  ·exact yX rfl
  ·exact Yz t ho ds (j+1) (by omega) v hv
 | .hole::ds,j,hl,v,hv=>by
  simp only [List.length_cons]at hl
  simp only [yO,List.mem_cons]at hv
  rcases hv with rfl|hv
  ·exact yX rfl
  ·exact Yz t ho ds (j+1) (by omega) v hv
theorem Yx (t:Nat)(ho: ∀n,own t n=true→ns n=false): ∀(xs:List VT) (j:Nat),j+(zr xs).length≤16→∀v∈xE τ t j xs,NS ns v
 | [],j,_,v,hv=>by simp [xE]at hv
 | .c d::xs,j,hl,v,hv=>by
  simp only [zr,VT.cells,List.length_append,List.length_cons,List.length_nil]at hl
  simp only [xE,List.mem_cons]at hv
  rcases hv with rfl|hv
  ·have :=Yz (τ:=τ) t ho [d] j (by simp only [List.length_cons,List.length_nil];omega)
   cases hr:yO τ t j [d]with
   |nil=>exact yX rfl
   |cons y ys=>rw [hr]at this;exact this y (by simp)
  ·exact Yx t ho xs (j+1) (by omega) v hv
 | .agg ds::xs,j,hl,v,hv=>by
  simp only [zr,VT.cells,List.length_append]at hl
  simp only [xE,List.mem_cons]at hv
  rcases hv with rfl|hv
  ·exact jH (Yz t ho ds j (by omega))
  ·exact Yx t ho xs (j+ds.length) (by omega) v hv
 | .fn f ds::xs,j,hl,v,hv=>by
  simp only [zr,VT.cells,List.length_append]at hl
  simp only [xE,List.mem_cons]at hv
  rcases hv with rfl|hv
  ·exact yX rfl
  ·exact Yx t ho xs (j+ds.length) (by omega) v hv
theorem zCI (hf:yR ns st){o:Oper}{δ:Dl}(ho:yv np o=true→∀n,own (zo o) n=true→ns n=false)(ha:qL P np τ o st δ):NS ns δ.v∧∀x∈δ.bx,∀v∈x.2,NS ns v:=by
 have sl: ∀{t:Nat} {len:Nat} {e:TypeId},(∀n,own t n=true→ns n=false)→NS ns (.sl (zZ t 0) [] 0 len e):=fun{t len e} h n hn=>by
  simp only [AV.nm,List.mem_singleton]at hn;subst hn;exact h _ (yc (by omega))
 unfold qL at ha
 rcases ha with ha|ha|ha
 ·obtain⟨-,-,⟨k,m,h3⟩,-,h5,-⟩:=ha
  refine⟨?_,fun x hx=>by rw [h5]at hx;simp at hx⟩
  rw [h3]
  intro n hn
  simp [AV.nm]at hn
 ·unfold Jq at ha
  cases hc:zz o with
  |none=>rw [hc]at ha;exact ha.elim
  |some x=>
   obtain⟨f,args,ts⟩:=x
   rw [hc]at ha
   simp only at ha
   split at ha
   ·rename_i as ob us vs hargs hevs
    obtain⟨hob,pm,ress,hfn,hpm,hsz,hlen,rfl⟩:=ha
    refine⟨?_,fun x hx=>by simp at hx⟩
    obtain⟨x0,hv0⟩: ∃x0,ev st x0= .agg us:=by
     cases hal:args.toList with
     |nil=>rw [hal]at hevs;simp at hevs
     |cons x0 xs=>
      rw [hal]at hevs
      simp only [List.map_cons,List.cons.injEq]at hevs
      exact⟨x0,hevs.1⟩
    have hu:=hf.ev x0
    rw [hv0]at hu
    have hr:=Yx (τ:=τ) (zo o) (ho (xg hc)) [.agg ress] 0 (by simpa only [zr,VT.cells,List.append_nil,Nat.zero_add]using hlen)
    have hr2:=hr _ List.mem_cons_self
    intro n hn
    simp only [AV.nm]at hn
    obtain⟨v,hv,hm⟩:=zy.1 hn
    rcases List.mem_append.1 hv with hv|hv
    ·obtain⟨i,hi,rfl⟩:=List.mem_map.1 hv
     have hil:=hpm i hi
     refine hu n ?_
     simp only [AV.nm]
     refine zy.2 ⟨us.getD i .dead,?_,hm⟩
     rw [List.getD_eq_getElem?_getD,List.getElem?_eq_getElem hil]
     exact List.getElem_mem hil
    ·refine hr2 n ?_
     simp only [AV.nm]
     exact zy.2 ⟨v,hv,hm⟩
   ·exact ha.elim
 cases hc:zz o with
 |some x=>
  obtain⟨f,args,ts⟩:=x
  rw [hc]at ha
  simp only at ha
  cases hargs:ye τ st ts.toList (args.toList.map (ev st))with
  |none=>
   rw [hargs]at ha
   have hab:=ha.2
   unfold Qp at hab
   split at hab
   rotate_left
   ·exact hab.elim
   rename_i f' as T cells ds ob hact
   obtain⟨-,ds',ress,-,-,h3,rfl⟩:=hab
   have hT:lk st.b T=some cells:=by
    unfold Zb at hact
    rw [hc]at hact
    simp only at hact
    split at hact
    ·rename_i T' vs hvs
     cases hT:lk st.b T' with
     |none=>rw [hT]at hact;cases hact
     |some cells'=>
      rw [hT]at hact
      simp only at hact
      split at hact
      ·simp only [Option.some.injEq,Prod.mk.injEq]at hact
       obtain⟨rfl,rfl,rfl,rfl,rfl,rfl⟩:=hact
       exact hT
      ·cases hact
    ·cases hact
   refine⟨?_,fun x hx=> ?_⟩
   ·have hr:=Yx (τ:=τ) (zo o) (ho (xg hc)) ress 0 (by omega)
    unfold qV
    split
    ·rename_i v hv;rw [hv]at hr;exact hr v (by simp)
    ·intro n hn
     simp only [AV.nm]at hn
     obtain⟨v,hv,hm⟩:=zy.1 hn
     exact hr v hv n hm
   ·simp only [List.mem_singleton]at hx;subst hx
    intro v hv
    rcases Qo hv with hv|⟨k,m,rfl⟩|⟨b,rfl⟩
    ·exact Kh hf hT v hv
    ·exact yX rfl
    ·exact yX rfl
  |some y=>
   rw [hargs]at ha
   obtain⟨hob,ress,h1,h2,h3,rfl⟩:=ha
   refine⟨?_,fun x hx=>by simp at hx⟩
   have hr:=Yx (τ:=τ) (zo o) (ho (xg hc)) ress 0 (by omega)
   unfold qV
   split
   ·rename_i v hv;rw [hv]at hr;exact hr v (by simp)
   ·intro n hn
    simp only [AV.nm]at hn
    obtain⟨v,hv,hm⟩:=zy.1 hn
    exact hr v hv n hm
 |none=>
  rw [hc]at ha
  simp only at ha
  cases he:wM np τ o st with
  |none=>rw [he]at ha;exact ha.elim
  |some y=>
   obtain⟨δ',ob⟩:=y
   rw [he]at ha
   obtain⟨hob,rfl⟩:=ha
   clear hob hc
   have plain:((qR τ o st).map fun y=>((⟨y.1,[],[],[]⟩:Dl),y.2))=some (δ,ob)→NS ns δ.v∧∀x∈δ.bx,∀v∈x.2,NS ns v:=fun he=>by
    cases hv:qR τ o st with
    |none=>rw [hv]at he;cases he
    |some y=>rw [hv]at he;cases he;exact⟨zHq hf hv,fun x hx=>by simp at hx⟩
   obtain⟨dst,op,ty,pos,after,guard⟩:=o
   unfold wM at he
   cases op<;>simp only at he
   case box e x=>
    split at he
    ·rename_i t vs hvs
     cases he
     refine⟨fun n hn=> ?_,fun x hx=> ?_⟩
     ·simp only [AV.nm,List.mem_singleton]at hn;subst hn;exact ho rfl _ kZ
     ·simp only [List.mem_singleton]at hx;subst hx;exact QL hvs (hf.ev _)
    ·cases he
   case alloc e=>
    split at he
    ·rename_i t k b ht
     cases he
     refine⟨fun n hn=> ?_,fun x hx=> ?_⟩
     ·simp only [AV.nm,List.mem_singleton]at hn;subst hn;exact ho rfl _ kZ
     ·simp only [List.mem_singleton]at hx;subst hx
      intro v hv
      obtain⟨c,_,rfl⟩:=List.mem_map.1 hv
      cases c<;>exact yX rfl
    ·cases he
   case makeSlice t l c=>
    split at he
    ·unfold VP at he
     split at he
     ·split at he
      ·split at he
       ·cases he;exact⟨sl (ho rfl),fun x hx=>by simp at hx⟩
       ·cases he
      ·cases he
     ·cases he
    ·cases he
   case buildSlice t len parts=>
    split at he
    ·rcases yZ he with he|he
     ·unfold KM at he
      split at he
      ·split at he
       ·split at he
        ·cases he;exact⟨sl (ho rfl),fun x hx=>by simp at hx⟩
        ·cases he
       ·cases he
      ·cases he
     ·rcases yZ he with he|he
      ·unfold QF at he
       split at he
       ·split at he
        ·split at he
         ·split at he
          ·cases he;exact⟨sl (ho rfl),fun x hx=>by simp at hx⟩
          ·cases he
         ·cases he
        ·cases he
       ·cases he
      ·unfold QC at he
       split at he
       ·split at he
        ·split at he
         ·rename_i R _ _ hR _
          split at he
          ·cases he;exact⟨sl (ho rfl),fun x hx=>by simp at hx⟩
          ·cases he
         ·cases he
        ·cases he
       ·cases he
    ·cases he
   case load t x=>
    rcases yZ he with he|he
    ·unfold wq at he
     split at he
     ·split at he
      ·split at he
       ·rename_i hc;cases he;exact⟨sl (ho hc.1),fun x hx=>by simp at hx⟩
       ·cases he
      ·cases he
     ·cases he
    unfold Yq at he
    cases hv:qz τ st t (ev st x)with
    |none=>rw [hv]at he;cases he
    |some y=>rw [hv]at he;cases he;exact⟨zF3 (zAc hf (hf.ev x) hv),fun x hx=>by simp at hx⟩
   case store t p x=>
    rcases yZ he with he|he
    rotate_left
    ·split at he
     ·cases hp:ev st p<;>rw [hp]at he<;>simp only [wj]at he<;>try(cases he;done)
      rename_i d q i
      cases q with
      |cons _ _=>simp at he
      |nil=>
       simp only at he
       split at he
       ·split at he
        ·split at he
         ·cases he;exact⟨yX rfl,fun x hx=>by simp at hx⟩
         ·cases he
        ·cases he
       ·cases he
     ·cases he
    cases hp:ev st p<;>rw [hp]at he<;>simp only [vM]at he<;>try(cases he;done)
    ·split at he
     ·split at he
      ·split at he
       ·cases he;exact⟨yX rfl,fun x hx=>by simp at hx⟩
       ·cases he;exact⟨yX rfl,fun x hx=>by simp at hx⟩
       ·cases he
      ·cases he
     ·cases he
    ·split at he
     ·rename_i vs cells hvs hcells
      split at he
      ·cases he
       refine⟨yX rfl,fun x hx=> ?_⟩
       simp only [List.mem_singleton]at hx;subst hx
       intro v hv
       rcases Wq hv with hv|hv
       ·exact Kh hf hcells v hv
       ·exact QL hvs (hf.ev _) v hv
      ·cases he
     ·cases he
   case call c=>
    obtain⟨callee,args,argTypes⟩:=c
    simp only at he
    split at he
    ·split at he
     ·split at he
      ·have h1:=ho rfl
       rcases yZ he with he|he
       ·unfold Xu at he
        split at he
        ·split at he
         ·split at he
          ·split at he
           ·unfold YG at he
            split at he
            ·cases he;exact⟨sl h1,fun x hx=>by simp at hx⟩
            ·split at he
             ·split at he
              ·cases he;exact⟨sl h1,fun x hx=>by simp at hx⟩
              ·cases he
             ·cases he
            ·cases he
           ·cases he
          ·cases he
         ·cases he
        ·cases he
       ·unfold Xs at he
        split at he
        ·split at he
         ·split at he
          ·split at he
           ·unfold Zr at he
            split at he
            ·cases he;exact⟨sl h1,fun x hx=>by simp at hx⟩
            ·split at he
             ·split at he
              ·cases he;exact⟨sl h1,fun x hx=>by simp at hx⟩
              ·cases he
             ·cases he
            ·cases he
           ·cases he
          ·cases he
         ·cases he
        ·cases he
      ·cases he
     ·cases he
    ·exact plain he
   all_goals exact plain he
theorem KY (hf:yR ns st){d:Option Tmp}{δ:Dl}(h:NS ns δ.v∧∀x∈δ.bx,∀v∈x.2,NS ns v):yR ns (st.app d δ):=by
 refine⟨fun k v hv=> ?_,fun k cs hc=> ?_⟩
 ·rw [wu]at hv
  split at hv
  ·cases hv;exact h.1
  ·exact hf.s k v hv
 ·rw [wC]at hc
  cases hx:lk δ.bx k with
  |some cs'=>
   rw [hx]at hc
   simp only [Option.some_or,Option.some.injEq]at hc
   subst hc
   intro n hn
   obtain⟨v,hv,hm⟩:=zy.1 hn
   exact h.2 _ (JM hx) v hv n hm
  |none=>rw [hx]at hc;simp only [Option.none_or]at hc;exact hf.b k cs hc
theorem WF {all:List Oper}(hf:yR ns st){o:Oper}{δ:Dl}(ho:yv np o=true→∀n,own (zo o) n=true→ns n=false)(ha:xp P np τ all o st δ):yR ns (st.app o.dst δ):=by
 have skip:yR ns (st.app o.dst Dl.skip):=KY hf ⟨yX rfl,fun x hx=>by simp [Dl.skip]at hx⟩
 unfold xp at ha
 split at ha
 ·exact KY hf (zCI hf ho ha)
 ·rename_i j want _
  split at ha
  ·rename_i b _
   by_cases e:b=want
   ·exact KY hf (zCI hf ho (ha.1 e))
   ·have :=ha.2 (by cases b<;>cases want<;>simp_all);subst this;exact skip
  ·subst ha;exact skip
  ·exact ha.elim
end
structure Yl (ns:Nat→Bool)(st:St):Prop where
 s: ∀k v,lk st.s k=some v→∀n∈v.pm,ns n=false
 b: ∀k cs,lk st.b k=some cs→∀n∈AV.pmL cs,ns n=false
theorem zFO (v:Value):(cv1 v).pm= []:=by unfold cv1;split<;>rfl
theorem cv_pm (v:Value):(cv v).pm= []:=by
 unfold cv
 split
 ·rename_i cs
  simp only [AV.pm]
  rw [List.eq_nil_iff_forall_not_mem]
  intro n hn
  obtain⟨v,hv,hm⟩:=qx.1 hn
  obtain⟨x,_,rfl⟩:=List.mem_map.1 hv
  rw [zFO]at hm
  simp at hm
 ·exact zFO _
theorem Yl.ev {ns:Nat→Bool}{st:St}(h:Yl ns st)(x:Operand): ∀n∈(ev st x).pm,ns n=false:=by
 intro n hn
 cases x with
 |tmp t=>
  simp only [Go.Proofs.Ytdbecmmeifdafaa.ev]at hn
  cases hx:lk st.s t with
  |none=>rw [hx]at hn;simp [AV.pm]at hn
  |some v=>rw [hx]at hn;exact h.s t v hx n hn
 |const v=>simp only [Go.Proofs.Ytdbecmmeifdafaa.ev,cv_pm]at hn;simp at hn
 |func f=>simp [Go.Proofs.Ytdbecmmeifdafaa.ev,AV.pm,AV.pmL]at hn
 |global g=>simp [Go.Proofs.Ytdbecmmeifdafaa.ev,AV.pm]at hn
theorem UT {n d:Nat}{p:List Nat}{off len:Nat}{e:TypeId}(h:n∈(AV.sl d p off len e).pm):n=d:=by
 cases p<;>simp [AV.pm]at h;exact h
theorem zD3 {n d:Nat}{p:List Nat}{i:Nat}(h:n∈(AV.ep d p i).pm):n=d:=by
 cases p<;>simp [AV.pm]at h;exact h
theorem zBS {v:AV}{vs:List AV}(h:fieldsOf v=some vs): ∀n,n∈AV.pmL vs→n∈v.pm:=by
 intro n hn
 cases v<;>simp only [fieldsOf]at h<;>cases h<;>(try simp only [AV.pmL,List.append_nil]at hn)<;>first|exact hn|(simp only [AV.pm]at hn⊢;exact hn)
mutual
theorem zHN : ∀(v:AV) (n:Nat),n∈v.pm→2*n∈v.nm
 | .int k m,n,h=>by simp [AV.pm]at h
 | .bool b,n,h=>by simp [AV.pm]at h
 | .sl d p off len e,n,h=>by have :=UT h;subst this;simp [AV.nm]
 | .nil,n,h=>by simp [AV.pm]at h
 | .ep d p i,n,h=>by have :=zD3 h;subst this;simp [AV.nm]
 | .bp t i,n,h=>by simp [AV.pm]at h
 | .agg vs,n,h=>by simp only [AV.pm,AV.nm]at h⊢;exact QW vs n h
 | .tup vs,n,h=>by simp only [AV.pm,AV.nm]at h⊢;exact QW vs n h
 | .fn f vs,n,h=>by simp only [AV.pm,AV.nm]at h⊢;exact QW vs n h
 | .dead,n,h=>by simp [AV.pm]at h
 | .raw u,n,h=>by simp [AV.pm]at h
theorem QW : ∀(vs:List AV) (n:Nat),n∈AV.pmL vs→2*n∈AV.nmL vs
 | [],n,h=>by simp [AV.pmL]at h
 |v::vs,n,h=>by
  simp only [AV.pmL,AV.nmL,List.mem_append]at h⊢
  rcases h with h|h
  ·exact .inl (zHN v n h)
  ·exact .inr (QW vs n h)
end
mutual
theorem zCV {ds bs:Nat→Bool}: ∀(v:AV) (n:Nat),n∈(v.kill ds bs).pm→ds n=false
 | .int k m,n,h=>by simp [AV.kill,AV.pm]at h
 | .bool b,n,h=>by simp [AV.kill,AV.pm]at h
 | .sl d p off len e,n,h=>by
  simp only [AV.kill]at h
  split at h
  ·simp [AV.pm]at h
  ·rename_i hd;have :=UT h;subst this;simpa using hd
 | .nil,n,h=>by simp [AV.kill,AV.pm]at h
 | .ep d p i,n,h=>by
  simp only [AV.kill]at h
  split at h
  ·simp [AV.pm]at h
  ·rename_i hd;have :=zD3 h;subst this;simpa using hd
 | .bp t i,n,h=>by simp only [AV.kill]at h;split at h<;>simp [AV.pm]at h
 | .agg vs,n,h=>by simp only [AV.kill,AV.pm]at h;exact VR vs n h
 | .tup vs,n,h=>by simp only [AV.kill,AV.pm]at h;exact VR vs n h
 | .fn f vs,n,h=>by simp only [AV.kill,AV.pm]at h;exact VR vs n h
 | .dead,n,h=>by simp [AV.kill,AV.pm]at h
 | .raw u,n,h=>by simp [AV.kill,AV.pm]at h
theorem VR {ds bs:Nat→Bool}: ∀(vs:List AV) (n:Nat),n∈AV.pmL (AV.killL ds bs vs)→ds n=false
 | [],n,h=>by simp [AV.killL,AV.pmL]at h
 |v::vs,n,h=>by
  simp only [AV.killL,AV.pmL,List.mem_append]at h
  rcases h with h|h
  ·exact zCV v n h
  ·exact VR vs n h
end
section
variable {P:Program} {τ:Ty} {st:St} {ns:Nat→Bool}
def NSp (ns:Nat→Bool)(v:AV):Prop:= ∀n∈v.pm,ns n=false
mutual
theorem kT {ds bs:Nat→Bool}: ∀(v:AV),NSp ns v→NSp ns (v.kill ds bs)
 | .int k n,h=>h
 | .bool b,h=>h
 | .sl d p off len e,h=>by
  simp only [AV.kill];split
  ·intro n hn;simp [AV.pm]at hn
  ·exact h
 | .nil,h=>h
 | .ep d p i,h=>by
  simp only [AV.kill];split
  ·intro n hn;simp [AV.pm]at hn
  ·exact h
 | .bp t i,h=>by
  simp only [AV.kill];split
  ·intro n hn;simp [AV.pm]at hn
  ·exact h
 | .agg vs,h=>fun n hn=>Vf vs (fun n hn=>h n (by simpa only [AV.pm]using hn)) n (by simpa only [AV.kill,AV.pm]using hn)
 | .tup vs,h=>fun n hn=>Vf vs (fun n hn=>h n (by simpa only [AV.pm]using hn)) n (by simpa only [AV.kill,AV.pm]using hn)
 | .fn f vs,h=>fun n hn=>Vf vs (fun n hn=>h n (by simpa only [AV.pm]using hn)) n (by simpa only [AV.kill,AV.pm]using hn)
 | .dead,h=>h
 | .raw u,h=>h
theorem Vf {ds bs:Nat→Bool}: ∀(vs:List AV),(∀n∈AV.pmL vs,ns n=false)→∀n∈AV.pmL (AV.killL ds bs vs),ns n=false
 | [],h,n,hn=>by simp [AV.killL,AV.pmL]at hn
 |v::vs,h,n,hn=>by
  simp only [AV.killL,AV.pmL,List.mem_append]at hn
  rcases hn with hn|hn
  ·exact kT v (fun n hn=>h n (by simp [AV.pmL,hn])) n hn
  ·exact Vf vs (fun n hn=>h n (by simp [AV.pmL,hn])) n hn
end
theorem zGo {np:Bool}{v u:AV}(h:NSp ns u):NSp ns (vx np st v u):=by
 unfold vx
 split
 ·split
  ·split
   ·exact kT u h
   ·exact h
  ·exact h
 ·exact h
theorem yb {v:AV}(h:v.pm= []):NSp ns v:=fun n hn=>by rw [h]at hn;simp at hn
theorem JO {vs:List AV}(h: ∀v∈vs,NSp ns v):NSp ns (.agg vs):=fun n hn=>by
 simp only [AV.pm]at hn
 obtain⟨v,hv,hm⟩:=qx.1 hn
 exact h v hv n hm
theorem zJN (k:IntKind)(n:Int):NSp ns (ar k n).1:=by unfold ar;cases k<;>exact yb rfl
theorem ar_np {k:IntKind}{n:Int}{v:AV}{ob:Prop}(h:some (ar k n)=some (v,ob)):NSp ns v:=by
 have h1:=Option.some.inj h
 have :=zJN (ns:=ns) k n
 rw [h1]at this
 exact this
theorem jV {d:Nat}{p:List Nat}{v u:AV}{o o':Prop}(h:onR st d p v o=some (u,o'))(hv:NSp ns v):NSp ns u:=by
 unfold onR at h
 split at h
 ·cases h;exact hv
 ·cases h
theorem zAP {d:Nat}{p:List Nat}{i:Nat}{xs:List D}{c:CK}(h:ns d=false):NSp ns (wx τ d p i xs c):=by
 cases c with
 |int k=>exact yb rfl
 |bool=>exact yb rfl
 |sl e=>intro n hn;simp only [wx]at hn;have :=UT hn;subst this;exact h
theorem ub {d:Nat}{p:List Nat}{xs:List D}(h:ns d=false): ∀(cs:List CK) (i:Nat),∀v∈vl τ d p xs i cs,NSp ns v
 | [],i,v,hv=>by simp [vl]at hv
 |c::cs,i,v,hv=>by
  simp only [vl,List.mem_cons]at hv
  rcases hv with rfl|hv
  ·exact zAP h
  ·exact ub h cs (i+1) v hv
theorem Um (hf:Yl ns st){b:Nat}{cs:List AV}(hb:lk st.b b=some cs): ∀v∈cs,NSp ns v:=fun v hv n hn=>hf.b b cs hb n (qx.2 ⟨v,hv,hn⟩)
theorem zG7 (hf:Yl ns st){t:TypeId}{v u:AV}{ob:Prop}(hv:NSp ns v)(h:qz τ st t v=some (u,ob))(hex: ∀d p i R,v= .ep d p i→lk st.r d=some R→ns d=true→R.o= .ex∧∀n,ns n=true→n=d):NSp ns (vx true st v u):=by
 cases v<;>simp only [qz]at h<;>try(cases h;done)
 ·rename_i d p i
  cases hR:lk st.r d with
  |none=>rw [hR]at h;cases h
  |some R=>
   rw [hR]at h
   have key:(ns d=false→NSp ns u)→NSp ns (vx true st (.ep d p i) u):=fun hu=>by
    simp only [vx,hR]
    by_cases hd:ns d=false
    ·split
     ·exact kT u (hu hd)
     ·exact hu hd
    ·obtain⟨e1,e2⟩:=hex d p i R rfl hR (by simpa using hd)
     rw [if_pos ⟨trivial,by rw [e1];rfl⟩]
     intro n hn
     have h1:=zCV u n hn
     cases hns:ns n with
     |false=>rfl
     |true=>have :=e2 n hns;subst this;simp [is1]at h1
   refine key fun hd=> ?_
   cases ht:tk τ t with
   |none=>rw [ht]at h;cases h
   |some y=>
    obtain⟨K,by_⟩:=y
    rw [ht]at h
    cases K with
    |sc c=>simp only [Option.some.injEq,Prod.mk.injEq]at h;rw [←h.1];exact zAP hd
    |st ks fs=>simp only [Option.some.injEq,Prod.mk.injEq]at h;rw [←h.1];exact JO (ub hd _ _)
 ·rename_i b i
  refine zGo ?_
  split at h
  ·rename_i cs _ _ hcs _
   cases h
   rw [List.getD_eq_getElem?_getD]
   cases hx:cs[i]? with
   |none=>exact yb rfl
   |some v=>exact Um hf hcs v (List.mem_of_getElem? hx)
  ·rename_i cs _ _ _ hcs _
   cases h
   exact JO fun v hv=>Um hf hcs v (List.mem_of_mem_drop (List.mem_of_mem_take hv))
  ·cases h
theorem QD {v:AV}{vs:List AV}(h:fieldsOf v=some vs)(hv:NSp ns v): ∀u∈vs,NSp ns u:=fun u hu n hn=>hv n (zBS h n (qx.2 ⟨u,hu,hn⟩))
theorem zAb {fs:List (Nat×TypeId)}: ∀(parts:List (Nat×AV)) (cells us:List AV),(∀v∈cells,NSp ns v)→(∀x∈parts,NSp ns x.2)→vi τ fs cells parts=some us→∀v∈us,NSp ns v
 | [],cells,us,hc,_,h=>by simp only [vi,Option.some.injEq]at h;subst h;exact hc
 |(i,v)::rest,cells,us,hc,hp,h=>by
  simp only [vi]at h
  split at h
  ·rename_i x vs h1 h2
   split at h
   ·refine zAb rest _ us (fun u hu=> ?_) (fun x hx=>hp x (by simp [hx])) h
    rcases Wq hu with hu|hu
    ·exact hc u hu
    ·exact QD h2 (hp (i,v) (by simp)) u hu
   ·cases h
  ·cases h
theorem zIU (hf:Yl ns st){o:Oper}(hnl: ∀t x,o.op≠ .load t x){v:AV}{ob:Prop}(h:qR τ o st=some (v,ob)):NSp ns v:=by
 obtain⟨dst,op,ty,pos,after,guard⟩:=o
 have ev': ∀x,NSp ns (ev st x):=fun x=>hf.ev x
 unfold qR at h
 cases op<;>simp only at h<;>try(cases h;done)
 case load t x=>exact absurd rfl (hnl t x)
 case move x=>cases h;exact ev' x
 case assign x=>cases h;exact ev' x
 case nilCheck x=>
  unfold jt at h
  have hx:=ev' x
  split at h
  ·rename_i t i hev
   rw [hev]at hx
   split at h
   ·cases h;exact hx
   ·cases h
  ·cases h
 case pick c x y=>
  split at h
  ·cases h;split
   ·exact ev' x
   ·exact ev' y
  ·cases h
 case fieldAddr t x f=>
  unfold Za at h
  have hx:=ev' x
  split at h
  ·split at h
   ·cases hv:ev st x<;>rw [hv]at h<;>rw [hv]at hx<;>simp only at h<;>try(cases h;done)
    ·exact jV h (fun n hn=>hx n (by simpa [AV.pm]using hn))
    ·split at h
     ·cases h;exact fun n hn=>hx n (by simp [AV.pm]at hn)
     ·cases h
   ·cases h
  ·cases h
 case indexAddr t x ix=>
  unfold Zf at h
  have hx:=ev' x
  split at h
  ·cases hv:ev st x<;>rw [hv]at h<;>rw [hv]at hx<;>(try simp only at h)<;>try(cases h;done)
   cases hi:ev st ix<;>rw [hi]at h<;>(try simp only at h)<;>try(cases h;done)
   split at h
   ·exact jV h (fun n hn=>hx n (by simpa [AV.pm]using hn))
   ·cases h
  ·cases h
 case field t x f=>
  have hx:=ev' x
  obtain⟨us,k,e1,e2⟩:=JW h
  rw [e1]at hx
  exact fun n hn=>hx n (by simp only [AV.pm];exact qx.2 ⟨_,List.mem_of_getElem? e2,hn⟩)
 case extract x i=>
  have hx:=ev' x
  cases hv:ev st x<;>rw [hv]at h<;>rw [hv]at hx<;>simp only at h<;>try(cases h;done)
  rename_i vs
  cases hi:vs[i]? with
  |none=>rw [hi]at h;cases h
  |some u=>
   rw [hi]at h;cases h
   exact fun n hn=>hx n (by simp only [AV.pm];exact qx.2 ⟨_,List.mem_of_getElem? hi,hn⟩)
 case binOp op t x y r=>
  split at h
  ·rcases uB h with⟨k,n,rfl⟩|⟨b,rfl⟩<;>exact yb rfl
  ·unfold Wy at h
   split at h
   ·split at h<;>cases h<;>exact yb rfl
   ·cases h
  ·rcases uH h with⟨b,rfl⟩;exact yb rfl
  ·cases h
 case unOp op t x=>
  unfold unE at h
  split at h
  ·exact ar_np h
  ·cases h;exact yb rfl
  ·cases h
 case build t parts=>
  unfold Qf at h
  split at h
  ·rename_i ks fs b ht
   cases hfl:vi τ fs (ks.map wU) (parts.toList.map fun x=>(x.1,ev st x.2))with
   |none=>rw [hfl]at h;cases h
   |some us=>
    rw [hfl]at h;cases h
    refine JO (zAb _ _ _ (fun v hv=> ?_) (fun x hx=> ?_) hfl)
    ·obtain⟨c,_,rfl⟩:=List.mem_map.1 hv
     cases c<;>exact yb rfl
    ·obtain⟨y,_,rfl⟩:=List.mem_map.1 hx
     exact ev' _
  ·cases h
 case convert s d x=>
  split at h
  ·rcases zAM h with⟨k,n,rfl⟩<;>exact yb rfl
  ·cases h
 case slice t x l u m=>
  split at h
  ·unfold ZX at h
   have hx:=ev' x
   split at h
   ·cases hv:ev st x<;>rw [hv]at h<;>rw [hv]at hx<;>simp only at h<;>try(cases h;done)
    split at h
    ·split at h
     ·exact jV h (fun n hn=>hx n (by simpa [AV.pm]using hn))
     ·cases h
    ·cases h
   ·cases h
  ·cases h
 case call c=>
  unfold wG at h
  split at h
  ·split at h
   ·split at h
    ·unfold Qk at h
     split at h
     ·exact jV h (yb rfl)
     ·cases h;exact yb rfl
     ·cases h
    ·cases h
   ·unfold kQ at h
    split at h
    ·cases h;exact yb rfl
    ·cases h
   ·unfold kD at h
    split at h
    ·cases h;exact yb rfl
    ·cases h
   ·unfold JE at h
    split at h
    ·cases h;exact yb rfl
    ·cases h
   ·cases h
  ·cases h
theorem Yw (t:Nat): ∀(ds:List D) (j:Nat),∀v∈yO τ t j ds,v.pm= []
 | [],j,v,hv=>by simp [yO]at hv
 | .lst e xs::ds,j,v,hv=>by
  simp only [yO,List.mem_cons]at hv
  rcases hv with rfl|hv
  ·rfl
  ·exact Yw t ds (j+1) v hv
 | .int k n::ds,j,v,hv=>by
  simp only [yO,List.mem_cons]at hv
  rcases hv with rfl|hv
  ·rfl
  ·exact Yw t ds (j+1) v hv
 | .bool b::ds,j,v,hv=>by
  simp only [yO,List.mem_cons]at hv
  rcases hv with rfl|hv
  ·rfl
  ·exact Yw t ds (j+1) v hv
 | .hole::ds,j,v,hv=>by
  simp only [yO,List.mem_cons]at hv
  rcases hv with rfl|hv
  ·rfl
  ·exact Yw t ds (j+1) v hv
theorem QO (t:Nat): ∀(xs:List VT) (j:Nat),∀v∈xE τ t j xs,NSp ns v
 | [],j,v,hv=>by simp [xE]at hv
 | .c d::xs,j,v,hv=>by
  simp only [xE,List.mem_cons]at hv
  rcases hv with rfl|hv
  ·have :=Yw (τ:=τ) t [d] j
   cases hr:yO τ t j [d]with
   |nil=>exact yb rfl
   |cons y ys=>rw [hr]at this;exact yb (this y (by simp))
  ·exact QO t xs (j+1) v hv
 | .agg ds::xs,j,v,hv=>by
  simp only [xE,List.mem_cons]at hv
  rcases hv with rfl|hv
  ·exact JO fun v hv=>yb (Yw t ds j v hv)
  ·exact QO t xs (j+ds.length) v hv
 | .fn f ds::xs,j,v,hv=>by
  simp only [xE,List.mem_cons]at hv
  rcases hv with rfl|hv
  ·exact yb rfl
  ·exact QO t xs (j+ds.length) v hv
theorem zCm (hf:Yl ns st)(hex: ∀x d p i R,ev st x= .ep d p i→lk st.r d=some R→ns d=true→R.o= .ex∧∀n,ns n=true→n=d){o:Oper}{δ:Dl}(ha:qL P true τ o st δ):NSp ns δ.v∧∀x∈δ.bx,∀v∈x.2,NSp ns v:=by
 have sl: ∀{t:Nat} {len:Nat} {e:TypeId},NSp ns (.sl (zZ t 0) [] 0 len e):=fun{t len e}=>yb rfl
 unfold qL at ha
 rcases ha with ha|ha|ha
 ·obtain⟨-,-,⟨k,m,h3⟩,-,h5,-⟩:=ha
  refine⟨?_,fun x hx=>by rw [h5]at hx;simp at hx⟩
  rw [h3]
  intro n hn
  simp [AV.pm]at hn
 ·unfold Jq at ha
  cases hc:zz o with
  |none=>rw [hc]at ha;exact ha.elim
  |some x=>
   obtain⟨f,args,ts⟩:=x
   rw [hc]at ha
   simp only at ha
   split at ha
   ·rename_i as ob us vs hargs hevs
    obtain⟨hob,pm,ress,hfn,hpm,hsz,hlen,rfl⟩:=ha
    refine⟨?_,fun x hx=>by simp at hx⟩
    obtain⟨x0,hv0⟩: ∃x0,ev st x0= .agg us:=by
     cases hal:args.toList with
     |nil=>rw [hal]at hevs;simp at hevs
     |cons x0 xs=>
      rw [hal]at hevs
      simp only [List.map_cons,List.cons.injEq]at hevs
      exact⟨x0,hevs.1⟩
    have hu:=hf.ev x0
    rw [hv0]at hu
    have hr:=QO (ns:=ns) (τ:=τ) (zo o) [.agg ress] 0
    have hr2:=hr _ List.mem_cons_self
    intro n hn
    simp only [AV.pm]at hn
    obtain⟨v,hv,hm⟩:=qx.1 hn
    rcases List.mem_append.1 hv with hv|hv
    ·obtain⟨i,hi,rfl⟩:=List.mem_map.1 hv
     have hil:=hpm i hi
     refine hu n ?_
     simp only [AV.pm]
     refine qx.2 ⟨us.getD i .dead,?_,hm⟩
     rw [List.getD_eq_getElem?_getD,List.getElem?_eq_getElem hil]
     exact List.getElem_mem hil
    ·refine hr2 n ?_
     simp only [AV.pm]
     exact qx.2 ⟨v,hv,hm⟩
   ·exact ha.elim
 cases hc:zz o with
 |some x=>
  obtain⟨f,args,ts⟩:=x
  rw [hc]at ha
  simp only at ha
  cases hargs:ye τ st ts.toList (args.toList.map (ev st))with
  |none=>rw [hargs]at ha;exact absurd ha.1 (by simp)
  |some y=>
   rw [hargs]at ha
   obtain⟨hob,ress,h1,h2,h3,rfl⟩:=ha
   refine⟨?_,fun x hx=>by simp at hx⟩
   have hr:=QO (ns:=ns) (τ:=τ) (zo o) ress 0
   unfold qV
   split
   ·rename_i v hv;rw [hv]at hr;exact hr v (by simp)
   ·intro n hn
    simp only [AV.pm]at hn
    obtain⟨v,hv,hm⟩:=qx.1 hn
    exact hr v hv n hm
 |none=>
  rw [hc]at ha
  simp only at ha
  cases he:wM true τ o st with
  |none=>rw [he]at ha;exact ha.elim
  |some y=>
   obtain⟨δ',ob⟩:=y
   rw [he]at ha
   obtain⟨hob,rfl⟩:=ha
   clear hob hc
   have plain:(∀t x,o.op≠ .load t x)→((qR τ o st).map fun y=>((⟨y.1,[],[],[]⟩:Dl),y.2))=some (δ,ob)→NSp ns δ.v∧∀x∈δ.bx,∀v∈x.2,NSp ns v   :=fun hnl he=>by
    cases hv:qR τ o st with
    |none=>rw [hv]at he;cases he
    |some y=>rw [hv]at he;cases he;exact⟨zIU hf hnl hv,fun x hx=>by simp at hx⟩
   obtain⟨dst,op,ty,pos,after,guard⟩:=o
   unfold wM at he
   cases op<;>simp only at he
   case box e x=>
    split at he
    ·rename_i t vs hvs
     cases he
     refine⟨fun n hn=> ?_,fun x hx=> ?_⟩
     ·simp [AV.pm]at hn
     ·simp only [List.mem_singleton]at hx;subst hx;exact QD hvs (hf.ev _)
    ·cases he
   case alloc e=>
    split at he
    ·rename_i t k b ht
     cases he
     refine⟨fun n hn=> ?_,fun x hx=> ?_⟩
     ·simp [AV.pm]at hn
     ·simp only [List.mem_singleton]at hx;subst hx
      intro v hv
      obtain⟨c,_,rfl⟩:=List.mem_map.1 hv
      cases c<;>exact yb rfl
    ·cases he
   case makeSlice t l c=>
    split at he
    ·unfold VP at he
     split at he
     ·split at he
      ·split at he
       ·cases he;exact⟨sl,fun x hx=>by simp at hx⟩
       ·cases he
      ·cases he
     ·cases he
    ·cases he
   case buildSlice t len parts=>
    split at he
    ·rcases yZ he with he|he
     ·unfold KM at he
      split at he
      ·split at he
       ·split at he
        ·cases he;exact⟨sl,fun x hx=>by simp at hx⟩
        ·cases he
       ·cases he
      ·cases he
     ·rcases yZ he with he|he
      ·unfold QF at he
       split at he
       ·split at he
        ·split at he
         ·split at he
          ·cases he;exact⟨sl,fun x hx=>by simp at hx⟩
          ·cases he
         ·cases he
        ·cases he
       ·cases he
      ·unfold QC at he
       split at he
       ·split at he
        ·split at he
         ·rename_i R _ _ hR _
          split at he
          ·cases he;exact⟨sl,fun x hx=>by simp at hx⟩
          ·cases he
         ·cases he
        ·cases he
       ·cases he
    ·cases he
   case load t x=>
    rcases yZ he with he|he
    ·unfold wq at he
     split at he
     ·split at he
      ·split at he
       ·cases he;exact⟨sl,fun x hx=>by simp at hx⟩
       ·cases he
      ·cases he
     ·cases he
    unfold Yq at he
    cases hv:qz τ st t (ev st x)with
    |none=>rw [hv]at he;cases he
    |some y=>rw [hv]at he;cases he;exact⟨zG7 hf (hf.ev x) hv (fun d p i R e1 e2 e3=>hex x d p i R e1 e2 e3),fun x hx=>by simp at hx⟩
   case store t p x=>
    rcases yZ he with he|he
    rotate_left
    ·split at he
     ·cases hp:ev st p<;>rw [hp]at he<;>simp only [wj]at he<;>try(cases he;done)
      rename_i d q i
      cases q with
      |cons _ _=>simp at he
      |nil=>
       simp only at he
       split at he
       ·split at he
        ·split at he
         ·cases he;exact⟨yb rfl,fun x hx=>by simp at hx⟩
         ·cases he
        ·cases he
       ·cases he
     ·cases he
    cases hp:ev st p<;>rw [hp]at he<;>simp only [vM]at he<;>try(cases he;done)
    ·split at he
     ·split at he
      ·split at he
       ·cases he;exact⟨yb rfl,fun x hx=>by simp at hx⟩
       ·cases he;exact⟨yb rfl,fun x hx=>by simp at hx⟩
       ·cases he
      ·cases he
     ·cases he
    ·split at he
     ·rename_i vs cells hvs hcells
      split at he
      ·cases he
       refine⟨yb rfl,fun x hx=> ?_⟩
       simp only [List.mem_singleton]at hx;subst hx
       intro v hv
       rcases Wq hv with hv|hv
       ·exact Um hf hcells v hv
       ·exact QD hvs (hf.ev _) v hv
      ·cases he
     ·cases he
   case call c=>
    obtain⟨callee,args,argTypes⟩:=c
    simp only at he
    split at he
    ·split at he
     ·split at he
      ·rcases yZ he with he|he
       ·unfold Xu at he
        split at he
        ·split at he
         ·split at he
          ·split at he
           ·unfold YG at he
            split at he
            ·cases he;exact⟨sl,fun x hx=>by simp at hx⟩
            ·split at he
             ·split at he
              ·cases he;exact⟨sl,fun x hx=>by simp at hx⟩
              ·cases he
             ·cases he
            ·cases he
           ·cases he
          ·cases he
         ·cases he
        ·cases he
       ·unfold Xs at he
        split at he
        ·split at he
         ·split at he
          ·split at he
           ·unfold Zr at he
            split at he
            ·cases he;exact⟨sl,fun x hx=>by simp at hx⟩
            ·split at he
             ·split at he
              ·cases he;exact⟨sl,fun x hx=>by simp at hx⟩
              ·cases he
             ·cases he
            ·cases he
           ·cases he
          ·cases he
         ·cases he
        ·cases he
      ·cases he
     ·cases he
    ·exact plain (fun t x e=>by cases e) he
   all_goals exact plain (fun t x e=>by cases e) he
theorem ZE (t:Nat): ∀(ds:List D) (j:Nat),j+ds.length≤16→∀x∈qQ t j ds,own t (2*x.1)=true
 | [],j,_,x,hx=>by simp [qQ]at hx
 | .int _ _::ds,j,hl,x,hx=>by simp only [qQ]at hx;exact ZE t ds (j+1) (by simp only [List.length_cons]at hl;omega) x hx
 | .bool _::ds,j,hl,x,hx=>by simp only [qQ]at hx;exact ZE t ds (j+1) (by simp only [List.length_cons]at hl;omega) x hx
 | .hole::ds,j,hl,x,hx=>by simp only [qQ]at hx;exact ZE t ds (j+1) (by simp only [List.length_cons]at hl;omega) x hx
 | .lst e xs::ds,j,hl,x,hx=>by
  simp only [List.length_cons]at hl
  simp only [qQ,List.mem_append,List.mem_singleton]at hx
  rcases hx with hx|rfl
  ·exact ZE t ds (j+1) (by omega) x hx
  ·exact yc (by omega)
theorem zFZ {np:Bool}{o:Oper}{δ:Dl}(ha:qL P np τ o st δ): ∀x∈δ.add,(yv np o=true∧own (zo o) (2*x.1)=true)∨(∃R0,lk st.r x.1=some R0∧R0.o=x.2.o):=by
 intro x hx
 unfold qL at ha
 rcases ha with ha|ha|ha
 ·obtain⟨-,-,-,-,-,⟨d,R,R0,h6,h7,h8,-⟩,-⟩:=ha
  rw [h6]at hx
  simp only [List.mem_singleton]at hx
  subst hx
  exact .inr ⟨R0,h7,h8⟩
 ·unfold Jq at ha
  cases hc:zz o with
  |none=>rw [hc]at ha;exact ha.elim
  |some y=>
   obtain⟨f,args,ts⟩:=y
   rw [hc]at ha
   simp only at ha
   split at ha
   ·obtain⟨hob,pm,ress,hfn,hpm,hsz,hlen,rfl⟩:=ha
    exact .inl ⟨xg hc,ZE _ _ 0 (by omega) x hx⟩
   ·exact ha.elim
 cases hc:zz o with
 |some y=>
  obtain⟨f,args,ts⟩:=y
  rw [hc]at ha
  simp only at ha
  cases hargs:ye τ st ts.toList (args.toList.map (ev st))with
  |none=>
   rw [hargs]at ha
   have hab:=ha.2
   unfold Qp at hab
   split at hab
   ·obtain⟨-,ds',ress,-,-,h3,rfl⟩:=hab
    exact .inl ⟨xg hc,ZE _ _ 0 (by omega) x hx⟩
   ·exact hab.elim
  |some y=>
   rw [hargs]at ha
   obtain⟨hob,ress,h1,h2,h3,rfl⟩:=ha
   exact .inl ⟨xg hc,ZE _ _ 0 (by omega) x hx⟩
 |none=>
  rw [hc]at ha
  simp only at ha
  cases he:wM np τ o st with
  |none=>rw [he]at ha;exact ha.elim
  |some y=>
   obtain⟨δ',ob⟩:=y
   rw [he]at ha
   obtain⟨hob,rfl⟩:=ha
   clear hob hc
   have plain:((qR τ o st).map fun y=>((⟨y.1,[],[],[]⟩:Dl),y.2))=some (δ,ob)→False:=fun he=>by
    cases hv:qR τ o st with
    |none=>rw [hv]at he;cases he
    |some y=>rw [hv]at he;cases he;simp at hx
   have hm: ∀{R:zq},x∈ [(zZ (zo o) 0,R)]→own (zo o) (2*x.1)=true:=fun{R} h=>by
    simp only [List.mem_singleton]at h;subst h;exact yc (by omega)
   obtain⟨dst,op,ty,pos,after,guard⟩:=o
   unfold wM at he
   cases op<;>simp only at he
   case box e x'=>split at he<;>cases he;simp at hx
   case alloc e=>split at he<;>cases he;simp at hx
   case makeSlice t l c=>
    split at he
    ·unfold VP at he
     split at he
     ·split at he
      ·split at he
       ·cases he;exact .inl ⟨rfl,hm hx⟩
       ·cases he
      ·cases he
     ·cases he
    ·cases he
   case buildSlice t len parts=>
    split at he
    ·rcases yZ he with he|he
     ·unfold KM at he
      split at he
      ·split at he
       ·split at he
        ·cases he;exact .inl ⟨rfl,hm hx⟩
        ·cases he
       ·cases he
      ·cases he
     ·rcases yZ he with he|he
      ·unfold QF at he
       split at he
       ·split at he
        ·split at he
         ·split at he
          ·cases he;exact .inl ⟨rfl,hm hx⟩
          ·cases he
         ·cases he
        ·cases he
       ·cases he
      ·unfold QC at he
       split at he
       ·split at he
        ·split at he
         ·rename_i R _ _ hR _
          split at he
          ·cases he;rcases List.mem_cons.1 hx with hx|hx
           ·exact .inl ⟨rfl,hm (List.mem_singleton.2 hx)⟩
           ·simp only [List.mem_singleton]at hx;subst hx;exact .inr ⟨R,hR,rfl⟩
          ·cases he
         ·cases he
        ·cases he
       ·cases he
    ·cases he
   case load t x'=>
    rcases yZ he with he|he
    ·unfold wq at he
     split at he
     ·split at he
      ·rename_i R _ _ hR _
       split at he
       ·rename_i hc
        cases he;rcases List.mem_cons.1 hx with hx|hx
        ·exact .inl ⟨hc.1,hm (List.mem_singleton.2 hx)⟩
        ·simp only [List.mem_singleton]at hx;subst hx;exact .inr ⟨R,hR,rfl⟩
       ·cases he
      ·cases he
     ·cases he
    unfold Yq at he
    cases hv:qz τ st t (ev st x')with
    |none=>rw [hv]at he;cases he
    |some y=>rw [hv]at he;cases he;simp at hx
   case store t p x'=>
    rcases yZ he with he|he
    ·cases hp:ev st p<;>rw [hp]at he<;>simp only [vM]at he<;>try(cases he;done)
     ·split at he
      ·rename_i R _ _ _ hR _ _
       split at he
       ·split at he
        ·cases he;simp only [List.mem_singleton]at hx;subst hx;exact .inr ⟨R,hR,rfl⟩
        ·cases he;simp only [List.mem_singleton]at hx;subst hx;exact .inr ⟨R,hR,rfl⟩
        ·cases he
       ·cases he
      ·cases he
     ·split at he
      ·split at he
       ·cases he;simp at hx
       ·cases he
      ·cases he
    ·split at he
     ·cases hp:ev st p<;>rw [hp]at he<;>simp only [wj]at he<;>try(cases he;done)
      rename_i d q i
      cases q with
      |cons _ _=>simp at he
      |nil=>
       simp only at he
       split at he
       ·rename_i R vs hR _
        split at he
        ·split at he
         ·cases he;simp only [List.mem_singleton]at hx;subst hx;exact .inr ⟨R,hR,rfl⟩
         ·cases he
        ·cases he
       ·cases he
     ·cases he
   case call c=>
    obtain⟨callee,args,argTypes⟩:=c
    simp only at he
    split at he
    ·split at he
     ·split at he
      ·rcases yZ he with he|he
       ·unfold Xu at he
        split at he
        ·split at he
         ·split at he
          ·split at he
           ·unfold YG at he
            split at he
            ·cases he;exact .inl ⟨rfl,hm hx⟩
            ·split at he
             ·split at he
              ·cases he;exact .inl ⟨rfl,hm hx⟩
              ·cases he
             ·cases he
            ·cases he
           ·cases he
          ·cases he
         ·cases he
        ·cases he
       ·unfold Xs at he
        split at he
        ·split at he
         ·split at he
          ·split at he
           ·unfold Zr at he
            split at he
            ·cases he;exact .inl ⟨rfl,hm hx⟩
            ·split at he
             ·split at he
              ·cases he;exact .inl ⟨rfl,hm hx⟩
              ·cases he
             ·cases he
            ·cases he
           ·cases he
          ·cases he
         ·cases he
        ·cases he
      ·cases he
     ·cases he
    ·exact(plain he).elim
   all_goals exact(plain he).elim
theorem WL {bad:Nat}(hf:Yl (· ==bad) st){d:Option Tmp}{δ:Dl}(h:NSp (· ==bad) δ.v∧∀x∈δ.bx,∀v∈x.2,NSp (· ==bad) v):VQ bad (st.app d δ):=by
 refine⟨fun k v hv hm=> ?_,fun k cs hc hm=> ?_⟩
 ·rw [wu]at hv
  split at hv
  ·cases hv;have :=h.1 bad hm;simp at this
  ·have :=hf.s k v hv bad hm;simp at this
 ·rw [wC]at hc
  cases hx:lk δ.bx k with
  |some cs'=>
   rw [hx]at hc
   simp only [Option.some_or,Option.some.injEq]at hc
   subst hc
   obtain⟨v,hv,hm⟩:=qx.1 hm
   have :=h.2 _ (JM hx) v hv bad hm
   simp at this
  |none=>rw [hx]at hc;simp only [Option.none_or]at hc;have :=hf.b k cs hc bad hm;simp at this
theorem ja {bad:Nat}(h:VQ bad st):Yl (· ==bad) st:=⟨fun k v hv n hn=>by
 by_cases e:n=bad
 ·subst e;exact absurd hn (h.s k v hv)
 ·simpa using e,fun k cs hc n hn=>by
 by_cases e:n=bad
 ·subst e;exact absurd hn (h.b k cs hc)
 ·simpa using e⟩
theorem zFL {t bad:Nat}(h:yR (own t) st)(hb:own t (2*bad)=true):Yl (· ==bad) st:=⟨fun k v hv n hn=>by
 by_cases e:n=bad
 ·subst e;have :=h.s k v hv _ (zHN v n hn);rw [hb]at this;cases this
 ·simpa using e,fun k cs hc n hn=>by
 by_cases e:n=bad
 ·subst e;have :=h.b k cs hc _ (QW cs n hn);rw [hb]at this;cases this
 ·simpa using e⟩
theorem zEz (hpf:PF st){o:Oper}{δ:Dl}(hf:yv true o=true→yR (own (zo o)) st)(ha:qL P true τ o st δ):PF (st.app o.dst δ):=by
 intro d R hR hex
 have old: ∀R0,lk st.r d=some R0→R0.o= .ex→VQ d (st.app o.dst δ):=fun R0 h1 h2=>by
  have hfr:=ja (hpf d R0 h1 h2)
  refine WL hfr (zCm hfr (fun x d' p i R' e1 e2 e3=> ?_) ha)
  have :d'=d:=by simpa using e3
  subst this
  rw [h1]at e2;cases e2
  exact⟨h2,fun n hn=>by simpa using hn⟩
 rw [vw]at hR
 cases hx:lk δ.add d with
 |some R'=>
  rw [hx]at hR
  simp only [Option.some_or,Option.some.injEq]at hR
  subst hR
  rcases zFZ ha _ (JM hx)with⟨h1,h2⟩|⟨R0,h1,h2⟩
  ·have hfr:=zFL (hf h1) h2
   refine WL hfr (zCm hfr (fun x d' p i R' e1 e2 e3=> ?_) ha)
   have :d'=d:=by simpa using e3
   subst this
   have :=(hf h1).ev x (2*d') (by rw [e1];simp [AV.nm])
   rw [h2]at this;cases this
  ·exact old R0 h1 (by rw [h2];exact hex)
 |none=>
  rw [hx]at hR
  simp only [Option.none_or]at hR
  split at hR
  ·cases hR
  ·exact old R hR hex
theorem zCk (hpf:PF st)(d:Option Tmp):PF (st.app d Dl.skip):=by
 intro k R hR hex
 rw [vw]at hR
 have hR':lk st.r k=some R:=by simpa [Dl.skip,yw]using hR
 exact WL (ja (hpf k R hR' hex)) ⟨yb rfl,fun x hx=>by simp [Dl.skip]at hx⟩
theorem jo {all:List Oper}(hpf:PF st){o:Oper}{δ:Dl}(hf:yv true o=true→yR (own (zo o)) st)(ha:xp P true τ all o st δ):PF (st.app o.dst δ):=by
 unfold xp at ha
 split at ha
 ·exact zEz hpf hf ha
 ·rename_i j want _
  split at ha
  ·rename_i b _
   by_cases e:b=want
   ·exact zEz hpf hf (ha.1 e)
   ·have :=ha.2 (by cases b<;>cases want<;>simp_all);subst this;exact zCk hpf _
  ·subst ha;exact zCk hpf _
  ·exact ha.elim
end
def Zy (np:Bool)(all:List Oper):Bool:=(List.range all.length).all fun j=>(List.range all.length).all fun k=>match all[j]?,all[k]? with
 |some x,some y=>j==k|| !(yv np x&&yv np y)||zo x !=zo y
 |_,_=>true
def jq (ops:List Oper):List (List Nat):=
 ops.foldl (fun acc o=>acc++ [o.after.toList.foldl (fun l e=>if Region.binds .any e then(e.on::acc.getD e.on []).foldl (fun l n=>if l.contains n then l else n::l) l else l) []]) []
def XN (np:Bool)(ops:List Oper)(A:List (List Nat)):Bool:=Ky ops A&&(Zy np ops&&QS ops ops.length 0 (Array.replicate ops.length false))
def St.clean (np:Bool)(ops:List Oper)(st:St):St:=
 let ts:=(ops.filter (yv np)).map zo
 st.kill (fun d=>ts.contains (d / 16)) (fun t=>ts.contains t)
theorem zAJ {t u:Nat}(h:t≠u): ∀n,own t n=true→own u n=false:=fun n hn=>by
 unfold own at*
 split at hn
 ·rename_i h1;rw [if_pos h1];simp only [beq_iff_eq,beq_eq_false_iff_ne]at*;omega
 ·rename_i h1;rw [if_neg h1];simp only [beq_iff_eq,beq_eq_false_iff_ne]at*;omega
mutual
theorem zCH {ds bs:Nat→Bool}: ∀(v:AV) (n:Nat),n∈(v.kill ds bs).nm→(∃d,n=2*d∧ds d=false)∨(∃t,n=2*t+1∧bs t=false)
 | .int k m,n,h=>by simp [AV.kill,AV.nm]at h
 | .bool b,n,h=>by simp [AV.kill,AV.nm]at h
 | .sl d p off len e,n,h=>by
  simp only [AV.kill]at h
  split at h
  ·simp [AV.nm]at h
  ·rename_i hd;simp only [AV.nm,List.mem_singleton]at h;exact .inl ⟨d,h,by simpa using hd⟩
 | .nil,n,h=>by simp [AV.kill,AV.nm]at h
 | .ep d p i,n,h=>by
  simp only [AV.kill]at h
  split at h
  ·simp [AV.nm]at h
  ·rename_i hd;simp only [AV.nm,List.mem_singleton]at h;exact .inl ⟨d,h,by simpa using hd⟩
 | .bp t i,n,h=>by
  simp only [AV.kill]at h
  split at h
  ·simp [AV.nm]at h
  ·rename_i hd;simp only [AV.nm,List.mem_singleton]at h;exact .inr ⟨t,h,by simpa using hd⟩
 | .agg vs,n,h=>XC vs n (by simpa only [AV.kill,AV.nm]using h)
 | .tup vs,n,h=>XC vs n (by simpa only [AV.kill,AV.nm]using h)
 | .fn f vs,n,h=>XC vs n (by simpa only [AV.kill,AV.nm]using h)
 | .dead,n,h=>by simp [AV.kill,AV.nm]at h
 | .raw u,n,h=>by simp [AV.kill,AV.nm]at h
theorem XC {ds bs:Nat→Bool}: ∀(vs:List AV) (n:Nat),n∈AV.nmL (AV.killL ds bs vs)→(∃d,n=2*d∧ds d=false)∨(∃t,n=2*t+1∧bs t=false)
 | [],n,h=>by simp [AV.killL,AV.nmL]at h
 |v::vs,n,h=>by
  simp only [AV.killL,AV.nmL,List.mem_append]at h
  rcases h with h|h
  ·exact zCH v n h
  ·exact XC vs n h
end
theorem Yd {st:St}{ds bs:Nat→Bool}{t:Nat}(h1: ∀d,d / 16=t→ds d=true)(h2:bs t=true):yR (own t) (st.kill ds bs):=by
 have key: ∀n,((∃d,n=2*d∧ds d=false)∨(∃t,n=2*t+1∧bs t=false))→own t n=false:=by
  rintro n (⟨d,rfl,hd⟩|⟨u,rfl,hu⟩)
  ·unfold own
   rw [if_neg (by omega)]
   simp only [beq_eq_false_iff_ne]
   intro e
   rw [h1 d (by omega)]at hd;cases hd
  ·unfold own
   rw [if_pos (by omega)]
   simp only [beq_eq_false_iff_ne]
   intro e
   have :u=t:=by omega
   subst this
   rw [h2]at hu;cases hu
 refine⟨fun k v hv n hn=> ?_,fun k cs hc n hn=> ?_⟩
 ·simp only [St.kill,yM]at hv
  cases hx:lk st.s k with
  |none=>rw [hx]at hv;cases hv
  |some u=>rw [hx]at hv;cases hv;exact key n (zCH u n hn)
 ·simp only [St.kill,yM]at hc
  cases hx:lk st.b k with
  |none=>rw [hx]at hc;cases hc
  |some u=>rw [hx]at hc;cases hc;exact key n (XC u n hn)
section
variable {P:Program} {np:Bool} {τ:Ty} {lo:Nat} {w0:Fz} {st:St} {a:Act} {w:World}
theorem KX (h:Rel τ lo w0 st a w)(ds bs:Nat→Bool):Rel τ lo w0 (st.kill ds bs) a w:=by
 obtain⟨ow,hd,bk,h⟩:=h
 have hD: ∀k,ds k=false→xF w w st.r (st.kill ds bs).r hd hd k:=fun k _ R' hR'=>⟨R',hR',rfl,fun p hp=>⟨hp,rfl⟩⟩
 have hB: ∀t,bs t=false→xB st.b (st.kill ds bs).b bk bk t:=fun t _ hl=>by
  simp only [St.kill,yM]at hl
  obtain⟨cs,hcs⟩:=hl
  cases hx:lk st.b t with
  |none=>rw [hx]at hcs;cases hcs
  |some cs'=>exact⟨⟨cs',rfl⟩,rfl⟩
 refine⟨ow,hd,bk,h.big,h.defers,h.size,h.low,h.below,h.ge,h.new,fun k v hv'=> ?_,h.root,fun t vs hv'=> ?_,h.pin⟩
 ·simp only [St.kill,yM]at hv'
  cases hx:lk st.s k with
  |none=>rw [hx]at hv';cases hv'
  |some u=>rw [hx]at hv';cases hv';exact yz hD hB u _ (h.slot k u hx)
 ·simp only [St.kill,yM]at hv'
  cases hx:lk st.b t with
  |none=>rw [hx]at hv';cases hv'
  |some u=>
   rw [hx]at hv';cases hv'
   obtain⟨cs,ty,h1,h2,h3⟩:=h.box t u hx
   exact⟨cs,ty,h1,h2,yH hD hB u cs h3⟩
def Inv (np:Bool)(all:List Oper)(listed:Array Bool)(st:St):Prop:= ∀(j:Nat) (o:Oper),all[j]? =some o→listed.getD j true=false→yv np o=true→yR (own (zo o)) st
theorem VF (hτ:yB P τ)(hpos:yd τ){all:List Oper}{A:List (List Nat)}(hm:Zy np all=true){Q:St→Prop}{Q':Exit→Act→World→Prop}(hQ: ∀st a w,Q st→Rel τ lo w0 st a w→Q' .normal a w):
  ∀(fuel:Nat) (cs:List Rec) (listed:Array Bool) (st:St) (a:Act) (w:World),qW a.tmps.size all=true→Inv np all listed st→(np=true→PF st)→Rel τ lo w0 st a w→VU P np τ all A Q cs fuel listed st→wpAny P .any all.toArray Q' fuel listed a w
 |0,cs,listed,st,a,w,_,_,_,hr,h=>⟨h.1,hQ _ _ _ h.2 hr⟩
 |fuel+1,cs,listed,st,a,w,hd,hinv,hpf,hr,h=>by
  refine⟨fun h0=>hQ _ _ _ (h.1 h0) hr,fun j hj=> ?_⟩
  obtain⟨o,δ,ho,hstep,-,hrest⟩:=h.2 j hj
  have hun:=(mem_ready.1 hj).1
  have hd1: ∀k,o.dst=some k→k<a.tmps.size:=fun k hk=>by
   have :=List.all_eq_true.1 hd o (List.mem_of_getElem? ho)
   rw [hk]at this
   simpa using this
  have hf:yv np o=true→yR (own (zo o)) st:=hinv j o ho hun
  have hinv':Inv np all (listed.setIfInBounds j true) (st.app o.dst δ):=fun k ok hk hkun hmk=>by
   have hkj:k≠j:=by
    rintro rfl
    have hlt:k<all.length:=(List.getElem?_eq_some_iff.1 hk).1
    rw [Array.getD_eq_getD_getElem?]at hkun hun
    have hls:k<listed.size:=by
     rcases Nat.lt_or_ge k listed.size with h|h
     ·exact h
     ·rw [Array.getElem?_eq_none h]at hun;cases hun
    simp [hls]at hkun
   rw [getD_set_ne true (Ne.symm hkj)]at hkun
   refine WF (hinv k ok hk hkun hmk) (fun hmo n hn=> ?_) hstep
   have hjl:j<all.length:=(List.getElem?_eq_some_iff.1 ho).1
   have hkl:k<all.length:=(List.getElem?_eq_some_iff.1 hk).1
   have h1:=List.all_eq_true.1 (List.all_eq_true.1 hm j (List.mem_range.2 hjl)) k (List.mem_range.2 hkl)
   rw [ho,hk]at h1
   simp only [hmo,hmk,Bool.and_self,Bool.not_true,Bool.or_false,Bool.or_eq_true,beq_iff_eq,bne_iff_ne,ne_eq]at h1
   rcases h1 with h1|h1
   ·exact absurd h1.symm hkj
   ·exact zAJ h1 n hn
  have hpf':np=true→PF (st.app o.dst δ):=fun e=>by subst e;exact jo (hpf rfl) hf hstep
  have next: ∀x w',Rel τ lo w0 (st.app o.dst δ) (a.put o.dst x) w'→wpAny P .any all.toArray Q' fuel (listed.setIfInBounds j true) (a.put o.dst x) w':=fun x w' hr'=>
   VF hτ hpos hm hQ fuel cs _ _ _ w' (by rw [vY];exact hd) hinv' hpf' hr' hrest
  unfold wpOp
  rw [List.getElem?_toArray,ho]
  simp only
  have run:qL P np τ o st δ→o.wp P a w (wpAny P .any all.toArray Q' fuel (listed.setIfInBounds j true)) Q':=fun ha=>VX hτ hpos hd1 hr hf hpf ha next
  have skip:δ=Dl.skip→wpAny P .any all.toArray Q' fuel (listed.setIfInBounds j true) (a.put o.dst undef) w:=fun he=>by
   refine next undef w ?_
   rw [he]
   obtain⟨ow,hd',bk,hrr⟩:=hr
   exact qg (qc hrr hd1 (v:= .tup []) (x:=undef) (by simp only [AvR];exact⟨[],rfl,by simp [zY]⟩)) (Xb _)
  unfold xp at hstep
  split at hstep
  ·rename_i hg
   rw [if_pos (by simp [Region.wanted,hg])]
   exact .inl (run hstep)
  ·rename_i g want hg
   split at hstep
   ·rename_i b hgv
    have hy:=vt hr hgv
    by_cases hb:b=want
    ·rw [if_pos (by simp [Region.wanted,hg,hy,hb])]
     exact .inl (run (hstep.1 hb))
    ·rw [if_neg (by simp [Region.wanted,hg,hy,hb])]
     exact skip (hstep.2 (by cases b<;>cases want<;>simp_all))
   ·rename_i hgv
    have hy:=vt hr hgv
    rw [if_neg (by simp [Region.wanted,hg,hy])]
    exact skip hstep
   ·exact hstep.elim
theorem ZM {all:List Oper}{j:Nat}{o:Oper}(h:all[j]? =some o)(hm:yv np o=true):((all.filter (yv np)).map zo).contains (zo o)=true:=by
 simp only [List.contains_iff_mem]
 exact List.mem_map.2 ⟨o,List.mem_filter.2 ⟨List.mem_of_getElem? h,hm⟩,rfl⟩
def jK (r:List (Nat×zq)):List Nat:=(r.filter fun x=>x.2.o.own).map (·.1)
mutual
def AV.cut (ids:List Nat):AV→AV
 | .int k n=> .int k n
 | .bool b=> .bool b
 | .sl d p off len e=>match p with| []=> .sl d [] off len e|i::q=>if ids.contains d then .dead else .sl d (i::q) off len e
 | .nil=> .nil
 | .ep d p i=>match p with| []=> .ep d [] i|j::q=>if ids.contains d then .dead else .ep d (j::q) i
 | .bp t i=> .bp t i
 | .agg vs=> .agg (AV.cutL ids vs)
 | .tup vs=> .tup (AV.cutL ids vs)
 | .fn f vs=> .fn f (AV.cutL ids vs)
 | .dead=> .dead
 | .raw u=> .raw u
def AV.cutL (ids:List Nat):List AV→List AV
 | []=> []
 |v::vs=>v.cut ids::AV.cutL ids vs
end
def St.cut (st:St):St:={st with s:=QM (AV.cut (jK st.r)) st.s,b:=QM (AV.cutL (jK st.r)) st.b}
mutual
theorem uI {rr:List (Nat×zq)}{bb bb':List (Nat×List AV)}{hd:Nat→Value}{bk:Nat→Nat}{ids:List Nat}(hb: ∀t,(∃cs,lk bb' t=some cs)→∃cs,lk bb t=some cs): ∀(v:AV) (x:Value),AvR τ w rr bb hd bk v x→AvR τ w rr bb' hd bk (v.cut ids) x
 | .int k n,x,h=>by simpa only [AV.cut,AvR]using h
 | .bool b,x,h=>by simpa only [AV.cut,AvR]using h
 | .sl d p off len e,x,h=>by
  cases p with
  |nil=>simpa only [AV.cut,AvR]using h
  |cons i q=>
   simp only [AV.cut]
   split
   ·simp only [AvR]
   ·simpa only [AvR]using h
 | .nil,x,h=>by simpa only [AV.cut,AvR]using h
 | .ep d p i,x,h=>by
  cases p with
  |nil=>simpa only [AV.cut,AvR]using h
  |cons j q=>
   simp only [AV.cut]
   split
   ·simp only [AvR]
   ·simpa only [AvR]using h
 | .bp t i,x,h=>by
  simp only [AV.cut,AvR]at h⊢
  exact⟨h.1,fun hl=>h.2 (hb t hl)⟩
 | .agg vs,x,h=>by
  simp only [AV.cut,AvR]at h⊢
  obtain⟨cs,h1,h2⟩:=h
  exact⟨cs,h1,Zd hb vs cs h2⟩
 | .tup vs,x,h=>by
  simp only [AV.cut,AvR]at h⊢
  obtain⟨cs,h1,h2⟩:=h
  exact⟨cs,h1,Zd hb vs cs h2⟩
 | .fn f vs,x,h=>by
  simp only [AV.cut,AvR]at h⊢
  obtain⟨cs,h1,h2⟩:=h
  exact⟨cs,h1,Zd hb vs cs h2⟩
 | .dead,x,h=>by simp only [AV.cut,AvR]
 | .raw u,x,h=>by simpa only [AV.cut,AvR]using h
theorem Zd {rr:List (Nat×zq)}{bb bb':List (Nat×List AV)}{hd:Nat→Value}{bk:Nat→Nat}{ids:List Nat}(hb: ∀t,(∃cs,lk bb' t=some cs)→∃cs,lk bb t=some cs): ∀(vs:List AV) (xs:List Value),zY τ w rr bb hd bk vs xs→zY τ w rr bb' hd bk (AV.cutL ids vs) xs
 | [],xs,h=>by simpa only [AV.cutL,zY]using h
 |v::vs,xs,h=>by
  simp only [AV.cutL,zY]at h⊢
  obtain⟨x,xs',h1,h2,h3⟩:=h
  exact⟨x,xs',h1,uI hb v x h2,Zd hb vs xs' h3⟩
end
mutual
theorem zEq {ids:List Nat}: ∀(v:AV) (n:Nat),n∈(v.cut ids).pm→ids.contains n=false
 | .int k m,n,h=>by simp [AV.cut,AV.pm]at h
 | .bool b,n,h=>by simp [AV.cut,AV.pm]at h
 | .sl d p off len e,n,h=>by
  cases p with
  |nil=>simp [AV.cut,AV.pm]at h
  |cons i q=>
   simp only [AV.cut]at h
   split at h
   ·simp [AV.pm]at h
   ·rename_i hc;have :=UT h;subst this;simpa using hc
 | .nil,n,h=>by simp [AV.cut,AV.pm]at h
 | .ep d p i,n,h=>by
  cases p with
  |nil=>simp [AV.cut,AV.pm]at h
  |cons j q=>
   simp only [AV.cut]at h
   split at h
   ·simp [AV.pm]at h
   ·rename_i hc;have :=zD3 h;subst this;simpa using hc
 | .bp t i,n,h=>by simp [AV.cut,AV.pm]at h
 | .agg vs,n,h=>by simp only [AV.cut,AV.pm]at h;exact QP vs n h
 | .tup vs,n,h=>by simp only [AV.cut,AV.pm]at h;exact QP vs n h
 | .fn f vs,n,h=>by simp only [AV.cut,AV.pm]at h;exact QP vs n h
 | .dead,n,h=>by simp [AV.cut,AV.pm]at h
 | .raw u,n,h=>by simp [AV.cut,AV.pm]at h
theorem QP {ids:List Nat}: ∀(vs:List AV) (n:Nat),n∈AV.pmL (AV.cutL ids vs)→ids.contains n=false
 | [],n,h=>by simp [AV.cutL,AV.pmL]at h
 |v::vs,n,h=>by
  simp only [AV.cutL,AV.pmL,List.mem_append]at h
  rcases h with h|h
  ·exact zEq v n h
  ·exact QP vs n h
end
theorem Ka (st:St):PF st.cut:=by
 intro d R hR hex
 have hc:(jK st.r).contains d=true:=by
  simp only [List.contains_iff_mem,jK]
  exact List.mem_map.2 ⟨(d,R),List.mem_filter.2 ⟨JM hR,by rw [hex];rfl⟩,rfl⟩
 refine⟨fun k v hv hm=> ?_,fun k cs hcs hm=> ?_⟩
 ·simp only [St.cut,yM]at hv
  cases hx:lk st.s k with
  |none=>rw [hx]at hv;cases hv
  |some u=>rw [hx]at hv;cases hv;rw [zEq u d hm]at hc;cases hc
 ·simp only [St.cut,yM]at hcs
  cases hx:lk st.b k with
  |none=>rw [hx]at hcs;cases hcs
  |some u=>rw [hx]at hcs;cases hcs;rw [QP u d hm]at hc;cases hc
theorem kW (h:Rel τ lo w0 st a w):Rel τ lo w0 st.cut a w:=by
 obtain⟨ow,hd,bk,h⟩:=h
 have hb: ∀t,(∃cs,lk st.cut.b t=some cs)→∃cs,lk st.b t=some cs:=fun t ⟨cs,hcs⟩=>by
  simp only [St.cut,yM]at hcs
  cases hx:lk st.b t with
  |none=>rw [hx]at hcs;cases hcs
  |some u=>exact⟨u,rfl⟩
 refine⟨ow,hd,bk,h.big,h.defers,h.size,h.low,h.below,h.ge,h.new,fun k v hv'=> ?_,h.root,fun t vs hv'=> ?_,h.pin⟩
 ·simp only [St.cut,yM]at hv'
  cases hx:lk st.s k with
  |none=>rw [hx]at hv';cases hv'
  |some u=>rw [hx]at hv';cases hv';exact uI hb u _ (h.slot k u hx)
 ·simp only [St.cut,yM]at hv'
  cases hx:lk st.b t with
  |none=>rw [hx]at hv';cases hv'
  |some u=>
   rw [hx]at hv';cases hv'
   obtain⟨cs,ty,h1,h2,h3⟩:=h.box t u hx
   exact⟨cs,ty,h1,h2,Zd hb u cs h3⟩
def St.start (np:Bool)(ops:List Oper)(st:St):St:=if np=true then(st.clean np ops).cut else st.clean np ops
mutual
theorem zFU {ids:List Nat}: ∀(v:AV) (n:Nat),n∈(v.cut ids).nm→n∈v.nm
 | .int k m,n,h=>h
 | .bool b,n,h=>h
 | .sl d p off len e,n,h=>by
  cases p with
  |nil=>exact h
  |cons i q=>
   simp only [AV.cut]at h
   split at h
   ·simp [AV.nm]at h
   ·exact h
 | .nil,n,h=>h
 | .ep d p i,n,h=>by
  cases p with
  |nil=>exact h
  |cons j q=>
   simp only [AV.cut]at h
   split at h
   ·simp [AV.nm]at h
   ·exact h
 | .bp t i,n,h=>h
 | .agg vs,n,h=>by simp only [AV.cut,AV.nm]at h⊢;exact QV vs n h
 | .tup vs,n,h=>by simp only [AV.cut,AV.nm]at h⊢;exact QV vs n h
 | .fn f vs,n,h=>by simp only [AV.cut,AV.nm]at h⊢;exact QV vs n h
 | .dead,n,h=>h
 | .raw u,n,h=>h
theorem QV {ids:List Nat}: ∀(vs:List AV) (n:Nat),n∈AV.nmL (AV.cutL ids vs)→n∈AV.nmL vs
 | [],n,h=>h
 |v::vs,n,h=>by
  simp only [AV.cutL,AV.nmL,List.mem_append]at h⊢
  rcases h with h|h
  ·exact .inl (zFU v n h)
  ·exact .inr (QV vs n h)
end
theorem Jw {ns:Nat→Bool}{st:St}(h:yR ns st):yR ns st.cut:=by
 refine⟨fun k v hv n hn=> ?_,fun k cs hcs n hn=> ?_⟩
 ·simp only [St.cut,yM]at hv
  cases hx:lk st.s k with
  |none=>rw [hx]at hv;cases hv
  |some u=>rw [hx]at hv;cases hv;exact h.s k u hx n (zFU u n hn)
 ·simp only [St.cut,yM]at hcs
  cases hx:lk st.b k with
  |none=>rw [hx]at hcs;cases hcs
  |some u=>rw [hx]at hcs;cases hcs;exact h.b k u hx n (QV u n hn)
theorem zB1 (hτ:yB P τ)(hpos:yd τ)(hmix:P.follows .mixedOrders=true){A:List (List Nat)}{Q:Exit→St→Prop}{id:Nat}{ops:List Oper}(hs:XN np ops A=true)(hd:qW st.n ops=true)(h: ∀C:List Rec→Prop,(∀cs,chk ops A cs=true→C cs)→wg P np τ ops C (Q .normal) ops 0 [] (st.start np ops)):awp P τ (.region id ops.toArray true) Q st:=fun lo w0 a w hr=>by
 simp only [XN,Bool.and_eq_true]at hs
 obtain⟨h1,h2,h3⟩:=hs
 have hn:a.tmps.size=st.n:=by obtain⟨ow,hd,bk,h⟩:=hr;exact h.size
 have hrc:Rel τ lo w0 (st.clean np ops) a {w with drawn:=w.drawn+1}:=by
  obtain⟨ow,hd,bk,h⟩:=KX hr (fun d=>((ops.filter (yv np)).map zo).contains (d / 16)) (fun t=>((ops.filter (yv np)).map zo).contains t)
  exact⟨ow,hd,bk,UF h⟩
 have hr':Rel τ lo w0 (st.start np ops) a {w with drawn:=w.drawn+1}:=by
  unfold St.start
  split
  ·exact kW hrc
  ·exact hrc
 have hpf:np=true→PF (st.start np ops):=fun e=>by unfold St.start;rw [if_pos e];exact Ka _
 refine wp_region_any hmix ?_
 have hlex':=(uq ops 0 [] _ _ (Eqv.refl _) (h _ fun _ h=>h)).2
 have hany:=KK (fun st st' he ⟨s,h1,h2⟩=>⟨s,he.symm.trans h1,h2⟩) h1 ops 0 [] (Array.replicate ops.length false) _ (by simp) (fun j o _ hj=>by
  rw [Array.getD_eq_getD_getElem?,Array.getElem?_replicate]at hj
  split at hj<;>simp at hj) h3 hlex'
 have :=VF (Q':=fun e a' w'=> ∃st',Rel τ lo w0 st' a' w'∧Q e st') hτ hpos h2 (fun st' a w ⟨s,he,hq⟩ hr=>⟨s,qg hr he.cov,hq⟩) ops.length [] (Array.replicate ops.length false) (st.start np ops) a {w with drawn:=w.drawn+1} (by rw [hn];exact hd) (fun j o ho _ hm=>by
  have hfc:yR (own (zo o)) (st.clean np ops):=by
   refine Yd (fun d hdt=> ?_) (ZM ho hm)
   rw [hdt];exact ZM ho hm
  unfold St.start
  split
  ·exact Jw hfc
  ·exact hfc) hpf hr' hany
 simpa using this
theorem qD (np:Bool)(hτ:yB P τ)(hpos:yd τ)(hmix:P.follows .mixedOrders=true){Q:Exit→St→Prop}{id:Nat}{ops:List Oper}(hs:XN np ops (jq ops)=true)(hd:qW st.n ops=true)(h: ∀C:List Rec→Prop,(∀cs,chk ops (jq ops) cs=true→C cs)→wg P np τ ops C (Q .normal) ops 0 [] (st.start np ops)):awp P τ (.region id ops.toArray true) Q st:=zB1 hτ hpos hmix hs hd h
end
def qn (P:Program)(np:Bool)(τ:Ty)(all:List Oper)(Q:St→Prop):List Oper→St→Prop
 | [],st=>Q st
 |o::os,st=>
  match o.guard with
  |none=>we P np τ o st fun δ=>qn P np τ all Q os (st.app o.dst δ)
  |some (j,want)=>
   match qE all st j with
   |some (some b)=>
    brB b (if want=true then we P np τ o (yh all st j true) fun δ=>qn P np τ all Q os ((yh all st j true).app o.dst δ)else qn P np τ all Q os ((yh all st j true).app o.dst Dl.skip))
     (if want=false then we P np τ o (yh all st j false) fun δ=>qn P np τ all Q os ((yh all st j false).app o.dst δ)else qn P np τ all Q os ((yh all st j false).app o.dst Dl.skip))
   |some none=>qn P np τ all Q os (st.app o.dst Dl.skip)
   |none=>False
theorem Eqv.free {ns:Nat→Bool}{st st':St}(h:Eqv st st')(hf:yR ns st):yR ns st':=⟨fun k v hv=>hf.s k v (by rw [←h.s];exact hv),fun k v hv=>hf.b k v (by rw [←h.b];exact hv)⟩
theorem Eqv.pf {st st':St}(h:Eqv st st')(hf:PF st):PF st':=fun d R hR hex=>by
 have :=hf d R (by rw [←h.r];exact hR) hex
 exact⟨fun k v hv=>this.s k v (by rw [←h.s];exact hv),fun k v hv=>this.b k v (by rw [←h.b];exact hv)⟩
section
variable {P:Program} {np:Bool} {τ:Ty} {lo:Nat} {w0:Fz} {st:St} {a:Act} {w:World}
theorem jR (hτ:yB P τ)(hpos:yd τ){all:List Oper}(hm:Zy np all=true){Q:St→Prop}{Q':Exit→Act→World→Prop}(hQ: ∀st a w,Q st→Rel τ lo w0 st a w→Q' .normal a w):
  ∀(os:List Oper) (k:Nat) (st:St) (a:Act) (w:World),(∀j,os[j]? =all[k+j]?)→qW a.tmps.size all=true→(∀j o,k≤j→all[j]? =some o→yv np o=true→yR (own (zo o)) st)→(np=true→PF st)→Rel τ lo w0 st a w→qn P np τ all Q os st→wpList P all.toArray Q' os a w
 | [],k,st,a,w,_,_,_,_,hr,h=>wpList_nil (hQ _ _ _ h hr)
 |o::os,k,st,a,w,hl,hd,hinv,hpf,hr,h=>by
  have ho:all[k]? =some o:=by simpa using (hl 0).symm
  have hd1: ∀j,o.dst=some j→j<a.tmps.size:=fun j hj=>by
   have :=List.all_eq_true.1 hd o (List.mem_of_getElem? ho)
   rw [hj]at this
   simpa using this
  refine wpList_step fun K' hK'=> ?_
  -- from any state that says the same
  have next: ∀st,(∀j o,k≤j→all[j]? =some o→yv np o=true→yR (own (zo o)) st)→(np=true→PF st)→∀δ,xp P np τ all o st δ→qn P np τ all Q os (st.app o.dst δ)→∀x w',Rel τ lo w0 (st.app o.dst δ) (a.put o.dst x) w'→K' (a.put o.dst x) w':=fun st hinv hpf δ hstep hrest x w' hr'=>by
   have hf:yv np o=true→yR (own (zo o)) st:=hinv k o (Nat.le_refl _) ho
   refine hK' _ _ (jR hτ hpos hm hQ os (k+1) _ _ w' (fun j=>by have :=hl (j+1);simpa [Nat.add_assoc,Nat.add_comm 1 j]using this) (by rw [vY];exact hd) (fun j oj hkj hj hmk=> ?_) (fun e=>by subst e;exact jo (hpf rfl) hf hstep) hr' hrest)
   refine WF (hinv j oj (by omega) hj hmk) (fun hmo n hn=> ?_) hstep
   have hkl:k<all.length:=(List.getElem?_eq_some_iff.1 ho).1
   have hjl:j<all.length:=(List.getElem?_eq_some_iff.1 hj).1
   have h1:=List.all_eq_true.1 (List.all_eq_true.1 hm k (List.mem_range.2 hkl)) j (List.mem_range.2 hjl)
   rw [ho,hj]at h1
   simp only [hmo,hmk,Bool.and_self,Bool.not_true,Bool.or_false,Bool.or_eq_true,beq_iff_eq,bne_iff_ne,ne_eq]at h1
   rcases h1 with h1|h1
   ·omega
   ·exact zAJ h1 n hn
  have run: ∀st,(∀j o,k≤j→all[j]? =some o→yv np o=true→yR (own (zo o)) st)→(np=true→PF st)→Rel τ lo w0 st a w→∀δ,qL P np τ o st δ→xp P np τ all o st δ→qn P np τ all Q os (st.app o.dst δ)→o.wp P a w K' Q':=fun st hinv hpf hr δ ha hs hrest=>VX hτ hpos hd1 hr (hinv k o (Nat.le_refl _) ho) hpf ha (next st hinv hpf δ hs hrest)
  have skip: ∀st,(∀j o,k≤j→all[j]? =some o→yv np o=true→yR (own (zo o)) st)→(np=true→PF st)→Rel τ lo w0 st a w→xp P np τ all o st Dl.skip→qn P np τ all Q os (st.app o.dst Dl.skip)→K' (a.put o.dst undef) w:=fun st hinv hpf hr hs hrest=>by
   refine next st hinv hpf Dl.skip hs hrest undef w ?_
   obtain⟨ow,hd',bk,hrr⟩:=hr
   exact qg (qc hrr hd1 (v:= .tup []) (x:=undef) (by simp only [AvR];exact⟨[],rfl,by simp [zY]⟩)) (Xb _)
  simp only [qn]at h
  split at h
  ·rename_i hg
   rw [if_pos (by simp [Region.wanted,hg])]
   obtain⟨δ,h1,h2⟩:=YC h
   exact run st hinv hpf hr δ h1 (by unfold xp;rw [hg];exact h1) h2
  ·rename_i g want hg
   split at h
   ·rename_i b hgv
    have hy:=vt hr hgv
    have he:=zBC hgv
    have hgv':qE all (yh all st g b) g=some (some b):=by rw [JA (st:=st) fun o' d _ _=>he.s d];exact hgv
    have hinv': ∀j o,k≤j→all[j]? =some o→yv np o=true→yR (own (zo o)) (yh all st g b):=fun j o h1 h2 h3=>he.free (hinv j o h1 h2 h3)
    have hpf':np=true→PF (yh all st g b):=fun e=>he.pf (hpf e)
    have hr':Rel τ lo w0 (yh all st g b) a w:=qg hr he.cov
    have hb:if want=b then we P np τ o (yh all st g b) fun δ=>qn P np τ all Q os ((yh all st g b).app o.dst δ)else qn P np τ all Q os ((yh all st g b).app o.dst Dl.skip):=by
     cases b
     ·exact h.2 rfl
     ·exact h.1 rfl
    by_cases hw:want=b
    ·rw [if_pos hw]at hb
     rw [if_pos (by simp [Region.wanted,hg,hy,hw])]
     obtain⟨δ,h1,h2⟩:=YC hb
     refine run _ hinv' hpf' hr' δ h1 ?_ h2
     unfold xp;rw [hg];simp only [hgv']
     exact⟨fun _=>h1,fun e'=>by subst hw;cases want<;>cases e'⟩
    ·rw [if_neg hw]at hb
     rw [if_neg (by simp [Region.wanted,hg,hy];exact fun e=>hw e.symm)]
     refine skip _ hinv' hpf' hr' ?_ hb
     unfold xp;rw [hg];simp only [hgv']
     exact⟨fun h=>absurd h.symm hw,fun _=>by first|rfl|trivial⟩
   ·rename_i hgv
    have hy:=vt hr hgv
    rw [if_neg (by simp [Region.wanted,hg,hy])]
    refine skip st hinv hpf hr ?_ h
    unfold xp;rw [hg];simp only [hgv]
   ·exact h.elim
theorem uj (h:Rel τ lo w0 st a w)(ops:List Oper):Rel τ lo w0 (st.start np ops) a w:=by
 have h1:Rel τ lo w0 (st.clean np ops) a w:=KX h _ _
 unfold St.start
 split
 ·exact kW h1
 ·exact h1
theorem je {ops:List Oper}{j:Nat}{o:Oper}(ho:ops[j]? =some o)(hm:yv np o=true):yR (own (zo o)) (st.start np ops):=by
 have hfc:yR (own (zo o)) (st.clean np ops):=by
  refine Yd (fun d hdt=> ?_) (ZM ho hm)
  rw [hdt];exact ZM ho hm
 unfold St.start
 split
 ·exact Jw hfc
 ·exact hfc
theorem zf (np:Bool)(hτ:yB P τ)(hpos:yd τ){Q:Exit→St→Prop}{id:Nat}{ops:List Oper}(hs:Zy np ops=true)(hd:qW st.n ops=true)(h:qn P np τ ops (Q .normal) ops (st.start np ops)):awp P τ (.region id ops.toArray false) Q st:=fun lo w0 a w hr=>by
 have hn:a.tmps.size=st.n:=by obtain⟨ow,hd,bk,h⟩:=hr;exact h.size
 refine wp_region_lit (jR (np:=np) hτ hpos hs (fun st a w h1 h2=>⟨st,h2,h1⟩) ops 0 (st.start np ops) a w (by simp) (by rw [hn];exact hd) (fun j o _ ho hm=>je ho hm) (fun e=>by unfold St.start;rw [if_pos e];exact Ka _) (uj hr ops) h)
def St.settle (e:TypeId)(t:Nat)(st:St):St:=
 let y:=hom [] (.sl e) st (zZ t 0) (ev st (.tmp t))
 y.1.put (some t) y.2.1
theorem jL (e:TypeId)(t:Nat)(ht:t<st.n){c:Code}{Q:Exit→St→Prop}(h:awp P τ c Q (st.settle e t)):awp P τ c Q st:=fun lo w0 a w hr=>by
 obtain⟨ow,hd,bk,hrr⟩:=hr
 have hx:=zi hrr (.tmp t)
 obtain⟨ow',hd',r1,r2,-,-⟩:=WP hrr [] (.sl e) (zZ t 0) hx
 have hsz:t<a.tmps.size:=by rw [hrr.size];exact ht
 have hrel:=qc (d:=some t) r1 (fun k hk=>by cases hk;exact hsz) r2
 have hput:a.put (some t) (a.eval (.tmp t))=a:=by
  unfold Act.put Act.eval
  simp only
  congr 1
  apply Array.ext_getElem?
  intro i
  rw [Array.getElem?_setIfInBounds]
  split
  ·rename_i e;subst e
   first
    |(rw [if_pos hsz,Array.getD_eq_getD_getElem?,Array.getElem?_eq_getElem hsz];rfl)
    |(rw [Array.getD_eq_getD_getElem?,Array.getElem?_eq_getElem hsz];simp)
    |(simp [hsz])
  ·rfl
 rw [hput]at hrel
 exact h lo w0 a w hrel
end
def xf (τ:Ty)(st:St):ResultVar→Option (AV×Prop)
 | .tmp t=>some (ev st (.tmp t),True)
 | .cell a t=>qz τ st t (ev st (.tmp a))
def ya (τ:Ty)(st:St):List ResultVar→Option (List AV×Prop)
 | []=>some ([],True)
 |r::rs=>match xf τ st r,ya τ st rs with
  |some (v,p),some (vs,q)=>some (v::vs,p∧q)
  |_,_=>none
def RetR (τ:Ty)(rs:List ResultVar)(ress:List VT)(e:Exit)(st:St):Prop:=(e= .ret∨e= .normal)∧
 match ya τ st rs with
 |some (vs,ob)=>ob∧zg τ st vs ress
 |none=>False
section
variable {P:Program} {τ:Ty} {lo:Nat} {w0:Fz} {ow:Nat→Option Pl} {hd:Nat→Value} {bk:Nat→Nat} {st:St} {a:Act} {w:World}
theorem zHt {t:TypeId}{u z:Value}(h:(Instr.loadAt t u).run P w= .ok z w):(do loadVar t (←asAddr u):Sem Value).run P w= .ok z w:=by
 unfold Instr.loadAt at h
 rw [Sem.run_bind]at h⊢
 have bad:Instr.sureAddr u=stuck "an address expected (no nilCheck in front?)" →False:=fun e=>by
  rw [e]at h
  simp [stuck,Sem.run,Result.andThen]at h
 cases u with
 |pointer q=>
  cases q with
  |none=>exact(bad rfl).elim
  |some b=>simpa [Instr.sureAddr,asAddr]using h
 |_=>exact(bad rfl).elim
theorem zDQ (hτ:yB P τ)(hpos:yd τ)(h:zj τ lo w0 ow hd bk st a w){r:ResultVar}{v:AV}{ob:Prop}(he:xf τ st r=some (v,ob))(hob:ob):
  ∃z,(match r with| .tmp t=>pure (a.tmps.getD t undef)| .cell c t=>do loadVar t (←asAddr (a.tmps.getD c undef)):Sem Value).run P w= .ok z w∧AvR τ w st.r st.b hd bk v z:=by
 cases r with
 |tmp t=>
  simp only [xf,Option.some.injEq,Prod.mk.injEq]at he
  obtain⟨rfl,rfl⟩:=he
  exact⟨a.tmps.getD t undef,Sem.run_pure ..,zi h (.tmp t)⟩
 |cell c t=>
  obtain⟨z,hz,hv⟩:=Jl hτ hpos h (zi h (.tmp c)) he hob
  exact⟨z,zHt hz,hv⟩
theorem wI (hτ:yB P τ)(hpos:yd τ)(h:zj τ lo w0 ow hd bk st a w){fn:Func}{rs:List ResultVar}(hrs:fn.results=rs.toArray){vs:List AV}{ob:Prop}(he:ya τ st rs=some (vs,ob))(hob:ob):
  ∃xs,(results fn a.tmps).run P w= .ok (wh xs) w∧zY τ w st.r st.b hd bk vs xs:=by
 have key: ∀(g:ResultVar→Sem Value),(∀t,g (.tmp t)=pure (a.tmps.getD t undef))→(∀c t,g (.cell c t)=do loadVar t (←asAddr (a.tmps.getD c undef)))→∀(rs:List ResultVar) (vs:List AV) (ob:Prop),ya τ st rs=some (vs,ob)→ob→∃xs,(rs.mapM g).run P w= .ok xs w∧zY τ w st.r st.b hd bk vs xs:=by
  intro g hg1 hg2 rs
  induction rs with
  |nil=>
   intro vs ob he _
   simp only [ya,Option.some.injEq,Prod.mk.injEq]at he
   obtain⟨rfl,rfl⟩:=he
   exact⟨[],by simp,by simp [zY]⟩
  |cons r rs ih=>
   intro vs ob he hob
   simp only [ya]at he
   split at he
   ·rename_i v p vs' q e1 e2
    simp only [Option.some.injEq,Prod.mk.injEq]at he
    obtain⟨rfl,rfl⟩:=he
    obtain⟨z,hz,hv⟩:=zDQ hτ hpos h e1 hob.1
    obtain⟨xs,hx,hvs⟩:=ih vs' q e2 hob.2
    refine⟨z::xs,?_,by simp only [zY];exact⟨z,xs,rfl,hv,hvs⟩⟩
    have hg:(g r).run P w= .ok z w:=by
     cases r with
     |tmp t=>rw [hg1];exact hz
     |cell c t=>rw [hg2];exact hz
    rw [List.mapM_cons,Sem.run_bind,hg,Result.andThen_ok,Sem.run_bind,hx,Result.andThen_ok,Sem.run_pure]
   ·cases he
 unfold results
 rw [hrs,Array.mapM_eq_mapM_toList]
 obtain⟨xs,hx,hv⟩:=key (fun x=>match x with| .tmp t=>pure (a.tmps.getD t undef)| .cell c t=>do loadVar t (←asAddr (a.tmps.getD c undef))) (fun _=>rfl) (fun _ _=>rfl) rs vs ob he hob
 refine⟨xs,?_,hv⟩
 rw [Sem.run_bind]
 have hm: ∀(m:Sem (List Value)),m.run P w= .ok xs w→((List.toArray<$>m:Sem (Array Value))).run P w= .ok xs.toArray w:=fun m hm=>by
  rw [map_eq_pure_bind,Sem.run_bind,hm,Result.andThen_ok]
  simp
 refine Eq.trans (congrArg (fun r=>Result.andThen r (fun(vs:Array Value) w'=>Sem.run P (pure (if h:vs.size=1 then vs[0]else Value.tuple vs)) w')) (hm _ hx)) ?_
 rw [Result.andThen_ok,Sem.run_pure]
 match xs with
 | []=>simp [wh]
 | [t]=>simp [wh]
 |t::t'::ts=>simp [wh]
theorem Qb (hτ:yB P τ)(hpos:yd τ){f:FuncId}{fn:Func}{c:Code}{rs:List ResultVar}{args ress:List VT}(hfn:P.funcs[f]? =some fn)(hname:(fn.name== "runtime.NumGoroutine")=false)(hb:fn.body=some c)(hres:fn.results=rs.toArray)(hn:args.length≤fn.ntmps)(hfew:few args=true)(hs:szA τ args)
  (h:awp P τ c (RetR τ rs ress) (wv τ fn.ntmps args)):Fn P τ f args ress:=by
 refine⟨⟨fn,hfn,hname,by rw [hb];rfl⟩,fun w cargs hargs=> ?_⟩
 have hstart:Rel τ w.heap.size (.plain w) (wv τ fn.ntmps args) {tmps:=cargs.toArray++Array.replicate (fn.ntmps - cargs.toArray.size) undef,defers:= []} w:=⟨_,_,_,QA hs hfew hn hargs⟩
 refine calls_of_wp hfn hb (Go.wp_mono (h w.heap.size (.plain w) _ w hstart) fun e a' w' ⟨st',⟨ow,hd,bk,hr⟩,he,hret0⟩=> ?_)
 have hpost:a'.defers= []∧∃v,(results fn a'.tmps).run P w'= .ok v w'∧kN τ w ress (.returned v) w':=by
  split at hret0
  ·rename_i avs ob0 hrv
   obtain⟨hob0,hret⟩:=hret0
   obtain⟨xs,hrun,hv⟩:=wI hτ hpos hr hres hrv hob0
   refine⟨hr.defers,_,hrun,?_⟩
   unfold zg at hret
   split at hret
   ·rename_i us hus
    split at hret
    ·rename_i is ob hcells
     obtain⟨cs,k1,k2⟩:=qv (S:=sz τ) (lo:=w.heap.size) (ow:=xU ow is) 0 hus hv
     obtain⟨m1,m2⟩:=vO hr hcells hret.2 hret.1 k1
     refine⟨_,xU ow is,rfl,hr.below.to_below,fun b hlt=> ?_,fun b p hp=> ?_,k2 m1 fun i d c hd hc=>by rw [Nat.zero_add];exact m2 i d c hd hc⟩
     ·unfold xU
      split
      ·rename_i d q ho
       have :=(hr.ge b _ (by have :=hr.below.to_below.size;omega) ho (by simp)).1
       omega
      ·rfl
     ·unfold xU at hp
      split at hp
      ·rename_i d q ho
       split at hp
       ·cases hp
        refine⟨?_,by simp⟩
        rcases Nat.lt_or_ge b w'.heap.size with h'|h'
        ·exact h'
        ·rw [hr.new b h']at ho;cases ho
       ·cases hp
      ·cases hp
    ·exact hret.elim
   ·exact hret.elim
  ·exact hret0.elim
 rcases he with rfl|rfl<;>exact hpost
end
def VH (id:Nat):Nat:=1000000+id
abbrev Out :=Nat×TypeId×List D
def zDp (τ:Ty)(lo:Nat)(w:World)(ow:Nat→Option Pl)(outs:List Out)(ress:List VT)(cargs:List Value)(e:Ending)(w':World):Prop:=
 ∃vs ow',e= .returned (wh vs)∧xW ⟨w,fun b=>ow b=none,fun _=>none⟩ w'∧(∀b,b<w.heap.size→ow b=none→ow' b=none)∧(∀b p,ow' b=some p→b<w'.heap.size∧lo≤b∧∃d q,p= .root d q)∧
  ZA (sz τ) lo w' ow' 0 ress vs∧∀x∈outs,Rp (sz τ) lo w' ow' (.ex (VH x.1) []) (.lst x.2.1 x.2.2) (yC cargs x.1)
def FnG (P:Program)(τ:Ty)(f:FuncId)(args:List VT)(own:List Nat)(outs:List Out)(ress:List VT):Prop:=
 wL P f∧∀(lo:Nat) (w:World) (ow:Nat→Option Pl) (cargs:List Value),lo≤w.heap.size→(∀b p,ow b=some p→b<w.heap.size∧lo≤b∧∃d q,p= .root d q)→JC (sz τ) lo w ow own args cargs→
  Calls P f cargs.toArray w (zDp τ lo w ow outs ress cargs)
def Ke (own:List Nat):List (Nat×zq)→List (Nat×zq)
 | []=> []
 |(d,R)::l=>(d,if own.contains d then⟨.ex,R.e,R.xs,some d⟩else R)::Ke own l
theorem zA8 (own:List Nat): ∀(l:List (Nat×zq)) (d:Nat),lk (Ke own l) d=(lk l d).map fun R=>if own.contains d then⟨.ex,R.e,R.xs,some d⟩else R
 | [],d=>rfl
 |(k,R)::l,d=>by
  simp only [Ke,zh]
  split
  ·rename_i e;subst e;rfl
  ·exact zA8 own l d
def wk (τ:Ty)(n:Nat)(own:List Nat)(args:List VT):St:={n:=n,s:=vj τ 0 args,b:= [],r:=Ke own (xI 0 args)}
section
variable {P:Program} {τ:Ty} {lo:Nat} {w0:Fz} {ow:Nat→Option Pl} {hd:Nat→Value} {bk:Nat→Nat} {st:St} {a:Act} {w:World}
theorem zAa {n:Nat}{own:List Nat}{args:List VT}{cargs:List Value}(hs:szA τ args)(hfew:few args=true)(hn:args.length≤n)(hlo:lo≤w.heap.size)(how: ∀b p,ow b=some p→b<w.heap.size∧lo≤b∧∃d q,p= .root d q)(h:JC (sz τ) lo w ow own args cargs):
  zj τ lo ⟨w,fun b=>ow b=none,fun id=>some (yC cargs id)⟩ ow (yC cargs) (bk0 (yC cargs 999999)) (wk τ n own args) {tmps:=cargs.toArray++Array.replicate (n - cargs.toArray.size) undef,defers:= []} w:=by
 obtain⟨hl,hargs⟩:=h
 have hdiv: ∀m i,i<16→(zZ m i) / 16=m∧(zZ m i)%16=i:=fun m i hi=>by unfold zZ;omega
 have hcell: ∀(m:Nat) (x:VT) (v:Value),args[m]? =some x→cargs[m]? =some v→∃cs:List Value,cs.length=x.cells.length∧(∀(i:Nat) (d:D) (c:Value),x.cells[i]? =some d→cs[i]? =some c→Rp (sz τ) lo w ow (gm own (zZ m i)) d c∧(yC cargs (zZ m i)=c∨xq d=true))∧QY x v cs:=fun m x v hx hv=>by
  have h16:x.cells.length≤16:=by have :=List.all_eq_true.1 hfew x (List.mem_of_getElem? hx);simpa using this
  obtain⟨cs,h1,h2,h3⟩:=hargs m x v hx hv
  refine⟨cs,h1,fun i d c hd hc=>⟨h2 i d c hd hc,?_⟩,h3⟩
  have hi:i<16:=by have :=(List.getElem?_eq_some_iff.1 hd).1;omega
  rcases h3 with⟨d',c',rfl,rfl,rfl⟩|⟨ds,rfl,rfl⟩|⟨f,ds,rfl,rfl⟩
  ·simp only [VT.cells]at hd
   cases i with
   |succ i=>simp at hd
   |zero=>
    simp at hd hc;subst hd;subst hc
    cases d' with
    |int k n=>right;rfl
    |bool b=>right;rfl
    |hole=>
     left
     have h9:=h2 0 _ _ rfl rfl
     simp only [Rp]at h9
     obtain⟨A,n',c',rfl⟩:=h9
     simp only [yC,(hdiv m 0 (by omega)).1,hv]
    |lst e xs=>
     left
     obtain⟨A,n',c',rfl,-⟩:=xD (h2 0 _ _ rfl rfl)
     simp only [yC,(hdiv m 0 (by omega)).1,hv]
  ·left
   simp only [yC,(hdiv m i hi).1,(hdiv m i hi).2,hv]
   rw [Array.getD_eq_getD_getElem?,List.getElem?_toArray,hc]
   rfl
  ·left
   simp only [yC,(hdiv m i hi).1,(hdiv m i hi).2,hv]
   rw [Array.getD_eq_getD_getElem?,List.getElem?_toArray,hc]
   rfl
 have hroot: ∀d R,lk (wk τ n own args).r d=some R→Rp (sz τ) lo w ow (md R.o d) (.lst R.e R.xs) (yC cargs d)∧(R.pin=none∨R.pin=some d):=fun d R hR=>by
  simp only [wk,zA8]at hR
  cases hx:lk (xI 0 args) d with
  |none=>rw [hx]at hR;cases hR
  |some R0=>
   rw [hx]at hR
   simp only [Option.map_some,Option.some.injEq]at hR
   obtain⟨m,x,k,h1,h2,h3,h4⟩:=YR args 0 d R0 hx
   rw [Nat.zero_add]at h4
   have hm:m<cargs.length:=by rw [hl];exact(List.getElem?_eq_some_iff.1 h1).1
   obtain⟨cs,c1,c2,-⟩:=hcell m x _ h1 (List.getElem?_eq_getElem hm)
   have hk:k<cs.length:=by rw [c1];exact(List.getElem?_eq_some_iff.1 h2).1
   obtain⟨q1,q2⟩:=c2 k _ _ h2 (List.getElem?_eq_getElem hk)
   rcases q2 with q2|q2
   ·rw [←h4]at q1 q2
    rw [q2]
    unfold gm at q1
    split at hR
    ·rename_i ho
     rw [if_pos ho]at q1
     subst hR
     exact⟨q1, .inr rfl⟩
    ·rename_i ho
     rw [if_neg ho]at q1
     subst hR
     rw [h3]
     exact⟨q1, .inl (ZR args 0 d R0 hx)⟩
   ·cases q2
 refine⟨fun ad had=>(by simp only [Option.some.injEq]at had;simp [bk0,had]),rfl,?_,hlo,xW.start ⟨w,fun b=>ow b=none,_⟩,fun b p _ hb _=>⟨(how b p hb).2.1,fun _ hk=>by rw [show ow b=none from hk]at hb;cases hb⟩,fun b hb=> ?_,fun k v hv=> ?_,fun d R hR=>(hroot d R hR).1,fun t vs hv=>by simp [wk,lk]at hv,fun d R i hR hp=> ?_⟩
 ·simp [wk,hl];omega
 ·cases ho:ow b with
  |none=>rfl
  |some p=>have :=(how b p ho).1;omega
 ·obtain⟨m,x,h1,h2,h3⟩:=YQ args 0 k v hv
  rw [Nat.zero_add]at h2
  subst h2;subst h3
  have hm:k<cargs.length:=by rw [hl];exact(List.getElem?_eq_some_iff.1 h1).1
  have hget:(cargs.toArray++Array.replicate (n - cargs.toArray.size) undef).getD k undef=cargs[k]:=by
   rw [Array.getD_eq_getD_getElem?,Array.getElem?_append_left (by simpa using hm)]
   simp [hm]
  have hv':cargs[k]? =some cargs[k]:=List.getElem?_eq_getElem hm
  obtain⟨cs,c1,c2,c3⟩:=hcell k x _ h1 hv'
  have hsx:szL τ x.cells:=hs x (List.mem_of_getElem? h1)
  have hres:=qy (τ:=τ) (lo:=lo) (w:=w) (ow:=ow) (hd:=yC cargs) (bk:=bk0 (yC cargs 999999)) (rr:=(wk τ n own args).r) (bb:=(wk τ n own args).b) k x.cells 0 cs c1 hsx (fun i d c hd hc=>⟨_,(c2 i d c hd hc).1⟩) (fun i e xs c hd hc=>by
   rcases(c2 i _ c hd hc).2 with q|q
   ·rw [Nat.zero_add];exact q
   ·cases q)
  rw [hget]
  rcases c3 with⟨d,c,rfl,rfl,hc⟩|⟨ds,rfl,hc⟩|⟨f,ds,rfl,hc⟩
  ·simp only [VT.cells]at hres
   rw [hc]
   have e:yO τ k 0 [d]= [(yO τ k 0 [d]).headD .dead]:=by cases d<;>rfl
   rw [e]at hres
   simp only [zY]at hres
   obtain⟨y,ys,e1,h4,-⟩:=hres
   cases e1
   exact h4
  ·rw [hc];simp only [ZW,AvR];exact⟨cs,rfl,hres⟩
  ·rw [hc];simp only [ZW,AvR];exact⟨cs,rfl,hres⟩
 ·rcases(hroot d R hR).2 with q|q
  ·rw [q]at hp;cases hp
  ·rw [q]at hp;cases hp;rfl
def XJ (st:St)(is:List (Option Nat)):List Out→Prop
 | []=>True
 |(id,e,ys)::l=>(match lk st.r id with|some R=>R.pin=some id∧R.o= .ex∧R.e=e∧R.xs=ys|none=>False)∧is.contains (some id)=false∧XJ st is l
theorem uL {is:List (Option Nat)}: ∀{outs:List Out},XJ st is outs→∀x∈outs,(∃R,lk st.r x.1=some R∧R.pin=some x.1∧R.o= .ex∧R.e=x.2.1∧R.xs=x.2.2)∧is.contains (some x.1)=false
 | [],_,x,hx=>by simp at hx
 |(id,e,ys)::l,h,x,hx=>by
  simp only [XJ]at h
  rcases List.mem_cons.1 hx with rfl|hx
  ·refine⟨?_,h.2.1⟩
   have :=h.1
   split at this
   ·rename_i R hR;exact⟨R,hR,this⟩
   ·exact this.elim
  ·exact uL h.2.2 x hx
def WC (τ:Ty)(st:St)(vs:List AV)(ress:List VT)(outs:List Out):Prop:=
 match xn ress vs with
 |some us=>match qj τ st (zr ress) us with
  |some (is,ob)=>YN is=true∧ob∧XJ st is outs
  |none=>False
 |none=>False
def RetG (τ:Ty)(rs:List ResultVar)(ress:List VT)(outs:List Out)(e:Exit)(st:St):Prop:=(e= .ret∨e= .normal)∧
 match ya τ st rs with
 |some (vs,ob)=>ob∧WC τ st vs ress outs
 |none=>False
theorem Vc : ∀(l:List (Option Nat)) (j d:Nat),l.contains (some d)=false→ZZ l j d=none
 | [],j,d,_=>rfl
 |none::l,j,d,h=>by
  simp only [ZZ]
  exact Vc l (j+1) d (by simpa using h)
 |some d'::l,j,d,h=>by
  simp only [List.contains_cons,Bool.or_eq_false_iff]at h
  have hne:d'≠d:=by rintro rfl;simp at h
  simp only [ZZ,if_neg hne]
  exact Vc l (j+1) d h.2
theorem VO {is:List (Option Nat)}{b:Nat}{p:Pl}(h:xU ow is b=some p): ∃d q j,ow b=some (.root d q)∧ZZ is 0 d=some j∧p= .root j q:=by
 unfold xU at h
 split at h
 ·rename_i d q ho
  split at h
  ·rename_i j hj;cases h;exact⟨d,q,j,ho,hj,rfl⟩
  ·cases h
 ·cases h
theorem zIz (hτ:yB P τ)(hpos:yd τ){f:FuncId}{fn:Func}{c:Code}{rs:List ResultVar}{own:List Nat}{outs:List Out}{args ress:List VT}(hfn:P.funcs[f]? =some fn)(hname:(fn.name== "runtime.NumGoroutine")=false)(hb:fn.body=some c)(hres:fn.results=rs.toArray)(hn:args.length≤fn.ntmps)(hfew:few args=true)(hs:szA τ args)
  (h:awp P τ c (RetG τ rs ress outs) (wk τ fn.ntmps own args)):FnG P τ f args own outs ress:=by
 refine⟨⟨fn,hfn,hname,by rw [hb];rfl⟩,fun lo w ow0 cargs hlo how hargs=> ?_⟩
 have hstart:Rel τ lo ⟨w,fun b=>ow0 b=none,fun id=>some (yC cargs id)⟩ (wk τ fn.ntmps own args) {tmps:=cargs.toArray++Array.replicate (fn.ntmps - cargs.toArray.size) undef,defers:= []} w:=⟨_,_,_,zAa hs hfew hn hlo how hargs⟩
 refine calls_of_wp hfn hb (Go.wp_mono (h lo _ _ w hstart) fun e a' w' ⟨st',⟨ow,hd,bk,hr⟩,he,hret0⟩=> ?_)
 have hpost:a'.defers= []∧∃v,(results fn a'.tmps).run P w'= .ok v w'∧zDp τ lo w ow0 outs ress cargs (.returned v) w':=by
  split at hret0
  ·rename_i avs ob0 hrv
   obtain⟨hob0,hret⟩:=hret0
   obtain⟨xs,hrun,hv⟩:=wI hτ hpos hr hres hrv hob0
   refine⟨hr.defers,_,hrun,?_⟩
   unfold WC at hret
   split at hret
   ·rename_i us hus
    split at hret
    ·rename_i is ob hcells
     obtain⟨hdup,hob,hout⟩:=hret
     have hout':=uL hout
     let ow2:Nat→Option Pl:=fun b=>match xU ow is b with
      |some p=>some p
      |none=>match ow b with|some (.root d q)=>if(outs.any fun x=>x.1==d)=true then some (.root (VH d) q)else none|_=>none
     have e1: ∀b p,xU ow is b=some p→ow2 b=some p:=fun b p hp=>by simp only [ow2,hp]
     have e2: ∀b p,ow2 b=some p→∃d q,ow b=some (.root d q)∧∃d' q',p= .root d' q':=fun b p hp=>by
      simp only [ow2]at hp
      split at hp
      ·rename_i p' hp'
       obtain⟨d,q,j,h1,h2,h3⟩:=VO hp'
       cases hp
       exact⟨d,q,h1,j,q,h3⟩
      ·split at hp
       ·rename_i d q ho
        split at hp
        ·cases hp;exact⟨d,q,ho,_,_,rfl⟩
        ·cases hp
       ·cases hp
     obtain⟨cs,k1,k2⟩:=qv (S:=sz τ) (lo:=lo) (ow:=ow2) 0 hus hv
     obtain⟨m1,m2⟩:=vO hr hcells hob hdup k1
     refine⟨_,ow2,rfl,⟨hr.below.os,hr.below.tape,hr.below.output,hr.below.size,hr.below.block⟩,fun b hlt hb0=> ?_,fun b p hp=> ?_,k2 m1 fun i d c hd hc=> ?_,fun x hx=> ?_⟩
     ·cases ho2:ow2 b with
      |none=>rfl
      |some p=>
       obtain⟨d,q,ho,-⟩:=e2 b p ho2
       have hlt':b<w'.heap.size:=Nat.lt_of_lt_of_le hlt hr.below.size
       exact absurd hb0 ((hr.ge b _ hlt' ho (by simp)).2 hlt)
     ·obtain⟨d,q,ho,hp'⟩:=e2 b p hp
      have hlt:b<w'.heap.size:=by
       rcases Nat.lt_or_ge b w'.heap.size with h'|h'
       ·exact h'
       ·rw [hr.new b h']at ho;cases ho
      exact⟨hlt,(hr.ge b _ hlt ho (by simp)).1,hp'⟩
     ·rw [Nat.zero_add]
      refine yJ _ _ (Nat.le_refl _) _ _ _ (fun b hb hrel=>⟨rfl,?_⟩) (m2 i d c hd hc)
      obtain⟨q,hq⟩:=hrel
      rw [hq]
      exact e1 b _ hq
     ·obtain⟨⟨R,hR,hp,ho,he',hx'⟩,hni⟩:=hout' x hx
      have hroot:=hr.root _ R hR
      rw [ho,he',hx']at hroot
      have hpin:hd x.1=yC cargs x.1:=by have :=hr.pin _ R _ hR hp;exact(Option.some.inj this).symm
      rw [hpin]at hroot
      refine qe _ _ _ _ _ [] [] _ (fun b q hb hq=> ?_) hroot
      have hnone:xU ow is b=none:=by
       unfold xU
       simp only [List.nil_append]at hq
       rw [hq]
       simp only [Vc is 0 _ hni]
      simp only [List.nil_append]at hq⊢
      simp only [ow2,hnone,hq]
      rw [if_pos (List.any_eq_true.2 ⟨x,hx,by simp⟩)]
    ·exact hret.elim
   ·exact hret.elim
  ·exact hret0.elim
 rcases he with rfl|rfl<;>exact hpost
end
structure yq where
 id:Nat
 d:Nat
 p:List Nat
 e:TypeId
 out:Option (List D)
def JI :List Out→Nat→Option (TypeId×List D)
 | [],_=>none
 |(k,e,ys)::l,id=>if k=id then some (e,ys)else JI l id
def cellAt (vs:List AV)(id:Nat):AV:=
 match vs.getD (id / 16) .dead with
 | .agg us=>us.getD (id%16) .dead
 | .fn _ us=>us.getD (id%16) .dead
 |v=>if id%16=0 then v else .dead
def XL (τ:Ty)(st:St)(vs:List AV)(outs:List Out)(id:Nat):Option (yq×Prop):=
 match cellAt vs id with
 | .sl d p 0 len e=>match lk st.r d with
  |some R=>if R.o.isEx=true∧0<sz τ e then
    match p,JI outs id with
    | [],none=>some (⟨id,d,[],e,none⟩,R.e=e∧len*sz τ e=R.xs.length)
    | [],some (e',ys)=>some (⟨id,d,[],e,some ys⟩,R.e=e∧len*sz τ e=R.xs.length∧e'=e)
    | [j],some (e',ys)=>some (⟨id,d,[j],e,some ys⟩,zl R.xs [j]∧ve R.e R.xs [j]=e∧len*sz τ e=(yU R.xs [j]).length∧e'=e)
    |_,_=>none
   else none
  |none=>none
 |_=>none
def vv (τ:Ty)(st:St)(vs:List AV)(outs:List Out):List Nat→Option (List yq×Prop)
 | []=>some ([],True)
 |id::l=>match XL τ st vs outs id,vv τ st vs outs l with
  |some (x,p),some (xs,q)=>some (x::xs,p∧q)
  |_,_=>none
def Ur (x y:yq):Prop:=if x.d=y.d then(match x.p,y.p with| [i],[j]=>i≠j|_,_=>False)else True
def zA9 (x:yq):List yq→Prop
 | []=>True
 |y::l=>Ur x y∧zA9 x l
def vm :List yq→Prop
 | []=>True
 |x::l=>zA9 x l∧vm l
def XY (own:List Nat)(m:Nat):Nat→List AV→List Nat
 |_,[]=> []
 |j,u::us=>(if own.contains (zZ m j)=true then []else u.nm)++XY own m (j+1) us
def ZN (own:List Nat):Nat→List AV→List Nat
 |_,[]=> []
 |m,v::vs=>(match v with| .agg us=>XY own m 0 us| .fn _ us=>XY own m 0 us|v=>XY own m 0 [v])++ZN own (m+1) vs
def qI (d:Nat)(xs:List D):List yq→List D
 | []=>xs
 |x::l=>if x.d=d then(match x.p,x.out with| [],some ys=>ys| [j],some ys=>(qI d xs l).set j (.lst x.e ys)|_,_=>qI d xs l)else qI d xs l
def vy (d:Nat):List yq→Bool
 | []=>false
 |x::l=>if x.d=d then(x.out.isNone||vy d l)else vy d l
def Xi (ls:List yq):List (Nat×zq)→List (Nat×zq)
 | []=> []
 |(d,R)::l=>if vy d ls=true then Xi ls l else(d,{R with xs:=qI d R.xs ls})::Xi ls l
def apart (ns:List Nat)(ls:List yq):Bool:=ns.all fun n=>ls.all fun x=> !(2*x.d==n)
theorem Qq (ls:List yq): ∀(r:List (Nat×zq)) (d:Nat),lk (Xi ls r) d=if vy d ls=true then none else(lk r d).map fun R=>{R with xs:=qI d R.xs ls}
 | [],d=>by simp [Xi,lk]
 |(k,R)::l,d=>by
  simp only [Xi]
  by_cases hg:vy k ls=true
  ·rw [if_pos hg,Qq ls l d,zh]
   by_cases hk:k=d
   ·subst hk;rw [if_pos hg,if_pos hg]
   ·rw [if_neg hk]
  ·rw [if_neg hg,zh,zh,Qq ls l d]
   by_cases hk:k=d
   ·subst hk;rw [if_pos rfl,if_neg hg,if_pos rfl];rfl
   ·rw [if_neg hk,if_neg hk]
theorem VN {x:yq}: ∀{l:List yq},zA9 x l→∀y∈l,Ur x y
 | [],_,y,hy=>by simp at hy
 |z::l,h,y,hy=>by
  simp only [zA9]at h
  rcases List.mem_cons.1 hy with rfl|hy
  ·exact h.1
  ·exact VN h.2 y hy
theorem zAY {x y:yq}(h:Ur x y)(hd:x.d=y.d): ∃i j,x.p= [i]∧y.p= [j]∧i≠j:=by
 unfold Ur at h
 rw [if_pos hd]at h
 split at h
 ·rename_i i j h1 h2;exact⟨i,j,h1,h2,h⟩
 ·exact h.elim
theorem KJ {d:Nat}{xs:List D}: ∀{ls:List yq},(∀x∈ls,x.d≠d)→qI d xs ls=xs
 | [],_=>rfl
 |x::l,h=>by
  simp only [qI]
  rw [if_neg (h x (by simp))]
  exact KJ fun y hy=>h y (by simp [hy])
theorem jl {d:Nat}{xs ys:List D}: ∀{ls:List yq},vm ls→∀x∈ls,x.d=d→x.p= []→x.out=some ys→qI d xs ls=ys
 | [],_,x,hx,_,_,_=>by simp at hx
 |y::l,h,x,hx,hd,hp,ho=>by
  simp only [vm]at h
  simp only [qI]
  rcases List.mem_cons.1 hx with rfl|hx
  ·rw [if_pos hd,hp,ho]
  ·by_cases hy:y.d=d
   ·obtain⟨i,j,-,h2,-⟩:=zAY (VN h.1 x hx) (by rw [hy,hd])
    rw [hp]at h2;cases h2
   ·rw [if_neg hy];exact jl h.2 x hx hd hp ho
theorem Wo {d:Nat}{xs:List D}: ∀{ls:List yq},(∀x∈ls,x.d=d→∃j,x.p= [j])→(qI d xs ls).length=xs.length
 | [],_=>rfl
 |x::l,h=>by
  have ih:=Wo (xs:=xs) (ls:=l) (d:=d) fun y hy=>h y (by simp [hy])
  simp only [qI]
  split
  ·rename_i hd
   obtain⟨j,hj⟩:=h x (by simp) hd
   rw [hj]
   split
   ·rename_i h1 _;cases h1
   ·rw [List.length_set];exact ih
   ·exact ih
  ·exact ih
theorem uQ {d i:Nat}{xs:List D}: ∀{ls:List yq},(∀x∈ls,x.d=d→∃j,x.p= [j]∧j≠i)→(qI d xs ls)[i]? =xs[i]?
 | [],_=>rfl
 |x::l,h=>by
  have ih:=uQ (xs:=xs) (ls:=l) (d:=d) (i:=i) fun y hy=>h y (by simp [hy])
  simp only [qI]
  split
  ·rename_i hd
   obtain⟨j,hj,hne⟩:=h x (by simp) hd
   rw [hj]
   split
   ·rename_i h1 _;cases h1
   ·rename_i j' ys h1 h2
    cases h1
    rw [List.getElem?_set_ne hne];exact ih
   ·exact ih
  ·exact ih
theorem zAN {d i:Nat}{xs ys:List D}(hi:i<xs.length): ∀{ls:List yq},vm ls→(∀x∈ls,x.d=d→∃j,x.p= [j])→∀x∈ls,x.d=d→x.p= [i]→x.out=some ys→(qI d xs ls)[i]? =some (.lst x.e ys)
 | [],_,_,x,hx,_,_,_=>by simp at hx
 |y::l,hs,h,x,hx,hd,hp,ho=>by
  simp only [vm]at hs
  simp only [qI]
  rcases List.mem_cons.1 hx with rfl|hx
  ·rw [if_pos hd,hp,ho]
   simp only
   rw [List.getElem?_set,if_pos rfl,if_pos (by rw [Wo fun y hy=>h y (by simp [hy])];exact hi)]
  ·have ih:=zAN (xs:=xs) hi hs.2 (fun y hy=>h y (by simp [hy])) x hx hd hp ho
   by_cases hy:y.d=d
   ·obtain⟨i',j',h1,h2,hne⟩:=zAY (VN hs.1 x hx) (by rw [hy,hd])
    rw [hp]at h2;cases h2
    rw [if_pos hy,h1]
    split
    ·rename_i h3 _;cases h3
    ·rename_i j'' ys' h3 h4
     cases h3
     rw [List.getElem?_set_ne hne];exact ih
    ·exact ih
   ·rw [if_neg hy];exact ih
theorem Jp {d:Nat}: ∀{ls:List yq},vy d ls=false→∀x∈ls,x.d=d→∃ys,x.out=some ys
 | [],_,x,hx,_=>by simp at hx
 |y::l,h,x,hx,hd=>by
  simp only [vy]at h
  rcases List.mem_cons.1 hx with rfl|hx
  ·rw [if_pos hd]at h
   cases ho:x.out with
   |none=>rw [ho]at h;simp at h
   |some ys=>exact⟨ys,rfl⟩
  ·by_cases hy:y.d=d
   ·rw [if_pos hy,Bool.or_eq_false_iff]at h;exact Jp h.2 x hx hd
   ·rw [if_neg hy]at h;exact Jp h x hx hd
theorem zAn {d:Nat}: ∀{ls:List yq},(∀x∈ls,x.d≠d)→vy d ls=false
 | [],_=>rfl
 |y::l,h=>by
  simp only [vy]
  rw [if_neg (h y (by simp))]
  exact zAn fun x hx=>h x (by simp [hx])
def trL (d:Nat)(q:List Nat):List yq→Option Pl
 | []=>none
 |x::l=>if x.d=d then(match x.p,q with| [],q=>some (.root x.id q)| [j],i::q'=>if i=j then some (.root x.id q')else trL d q l|_,_=>trL d q l)else trL d q l
theorem zBJ {d:Nat}{q:List Nat}{p:Pl}: ∀{ls:List yq},trL d q ls=some p→∃x∈ls,x.d=d∧∃q',q=x.p++q'∧p= .root x.id q'
 | [],h=>by cases h
 |x::l,h=>by
  simp only [trL]at h
  have nx:trL d q l=some p→∃y∈x::l,y.d=d∧∃q',q=y.p++q'∧p= .root y.id q':=fun h=>by
   obtain⟨y,hy,rest⟩:=zBJ h;exact⟨y,by simp [hy],rest⟩
  split at h
  ·rename_i hd
   split at h
   ·rename_i h1;cases h;exact⟨x,by simp,hd,_,by rw [h1];rfl,rfl⟩
   ·rename_i j i q' h1
    split at h
    ·rename_i hij;cases h;subst hij;exact⟨x,by simp,hd,q',by rw [h1];rfl,rfl⟩
    ·exact nx h
   ·exact nx h
  ·exact nx h
theorem zEt {d:Nat}{q:List Nat}: ∀{ls:List yq},vm ls→∀x∈ls,x.d=d→(x.p= []∨∃j,x.p= [j])→trL d (x.p++q) ls=some (.root x.id q)
 | [],_,x,hx,_,_=>by simp at hx
 |y::l,hs,x,hx,hd,hp=>by
  simp only [vm]at hs
  simp only [trL]
  rcases List.mem_cons.1 hx with rfl|hx
  ·rw [if_pos hd]
   rcases hp with hp|⟨j,hp⟩<;>rw [hp]<;>simp
  ·have ih:=zEt (q:=q) hs.2 x hx hd hp
   by_cases hy:y.d=d
   ·obtain⟨i',j',h1,h2,hne⟩:=zAY (VN hs.1 x hx) (by rw [hy,hd])
    rw [if_pos hy,h1]
    rw [h2]at ih⊢
    simp only [List.cons_append,List.nil_append]at ih⊢
    rw [if_neg (fun e=>hne e.symm)]
    exact ih
   ·rw [if_neg hy];exact ih
def UO (id:Nat)(q:List Nat):List yq→Option Pl
 | []=>none
 |x::l=>if x.id=id then some (.root x.d (x.p++q))else UO id q l
theorem Uf {q:List Nat}: ∀{ls:List yq},(ls.map (·.id)).Nodup→∀x∈ls,UO x.id q ls=some (.root x.d (x.p++q))
 | [],_,x,hx=>by simp at hx
 |y::l,hn,x,hx=>by
  simp only [List.map_cons,List.nodup_cons]at hn
  simp only [UO]
  rcases List.mem_cons.1 hx with rfl|hx
  ·rw [if_pos rfl]
  ·rw [if_neg (fun e=>hn.1 (by rw [e];exact List.mem_map.2 ⟨x,hx,rfl⟩))]
   exact Uf hn.2 x hx
section
variable {P:Program} {τ:Ty} {lo:Nat} {w0:Fz} {ow:Nat→Option Pl} {hd:Nat→Value} {bk:Nat→Nat} {st:St} {a:Act} {w:World}
mutual
theorem uR {w w':World}{rr rr':List (Nat×zq)}{bb bb':List (Nat×List AV)}{hd hd':Nat→Value}{bk bk':Nat→Nat}{bad:Nat→Prop}(h0: ∀d,bad d→Wx rr rr' hd hd' d)(hD: ∀d,¬bad d→xF w w' rr rr' hd hd' d)(hB: ∀t,xB bb bb' bk bk' t):
  ∀(v:AV) (x:Value),(∀d∈v.pm,¬bad d)→AvR τ w rr bb hd bk v x→AvR τ w' rr' bb' hd' bk' v x
 | .int k n,x,_,h=>by simpa only [AvR]using h
 | .bool b,x,_,h=>by simpa only [AvR]using h
 | .nil,x,_,h=>by simpa only [AvR]using h
 | .dead,x,_,h=>by simp only [AvR]
 | .raw u,x,_,h=>by simpa only [AvR]using h
 | .sl d p off len e,x,hp,h=>by
  simp only [AvR]at h⊢
  refine⟨h.1,fun R' hR' hok=> ?_⟩
  by_cases hd0:bad d
  ·cases p with
   |cons i q=>exact absurd hd0 (hp d (by simp [AV.pm]))
   |nil=>
    obtain⟨R,hR,he⟩:=h0 d hd0 R' hR'
    have :=h.2 R hR (by simp [zl])
    simp only [yF]at this⊢
    rw [he];exact this
  ·obtain⟨R,hR,he,hk⟩:=hD d hd0 R' hR'
   obtain⟨hp0,hi⟩:=hk p hok
   rw [he,hi]
   exact h.2 R hR hp0
 | .ep d p i,x,hp,h=>by
  simp only [AvR]at h⊢
  refine⟨h.1,fun R' hR' hok=> ?_⟩
  by_cases hd0:bad d
  ·cases p with
   |cons i q=>exact absurd hd0 (hp d (by simp [AV.pm]))
   |nil=>
    obtain⟨R,hR,he⟩:=h0 d hd0 R' hR'
    have :=h.2 R hR (by simp [zl])
    simp only [yF]at this⊢
    rw [he];exact this
  ·obtain⟨R,hR,he,hk⟩:=hD d hd0 R' hR'
   obtain⟨hp0,hi⟩:=hk p hok
   rw [he,hi]
   exact h.2 R hR hp0
 | .bp t i,x,_,h=>by
  simp only [AvR]at h⊢
  refine⟨h.1,fun hl=> ?_⟩
  obtain⟨h1,h2⟩:=hB t hl
  rw [h2]
  exact h.2 h1
 | .agg vs,x,hp,h=>by
  simp only [AvR]at h⊢
  obtain⟨cs,h1,h2⟩:=h
  exact⟨cs,h1,Zi h0 hD hB vs cs (by simpa only [AV.pm]using hp) h2⟩
 | .tup vs,x,hp,h=>by
  simp only [AvR]at h⊢
  obtain⟨cs,h1,h2⟩:=h
  exact⟨cs,h1,Zi h0 hD hB vs cs (by simpa only [AV.pm]using hp) h2⟩
 | .fn f vs,x,hp,h=>by
  simp only [AvR]at h⊢
  obtain⟨cs,h1,h2⟩:=h
  exact⟨cs,h1,Zi h0 hD hB vs cs (by simpa only [AV.pm]using hp) h2⟩
theorem Zi {w w':World}{rr rr':List (Nat×zq)}{bb bb':List (Nat×List AV)}{hd hd':Nat→Value}{bk bk':Nat→Nat}{bad:Nat→Prop}(h0: ∀d,bad d→Wx rr rr' hd hd' d)(hD: ∀d,¬bad d→xF w w' rr rr' hd hd' d)(hB: ∀t,xB bb bb' bk bk' t):
  ∀(vs:List AV) (xs:List Value),(∀d∈AV.pmL vs,¬bad d)→zY τ w rr bb hd bk vs xs→zY τ w' rr' bb' hd' bk' vs xs
 | [],xs,_,h=>by simpa only [zY]using h
 |v::vs,xs,hp,h=>by
  simp only [AV.pmL,List.mem_append]at hp
  simp only [zY]at h⊢
  obtain⟨x,xs',h1,h2,h3⟩:=h
  exact⟨x,xs',h1,uR h0 hD hB v x (fun d hd=>hp d (.inl hd)) h2,Zi h0 hD hB vs xs' (fun d hd=>hp d (.inr hd)) h3⟩
end
theorem VD {vs:List AV}{outs:List Out}: ∀{own:List Nat} {ls:List yq} {ob:Prop},vv τ st vs outs own=some (ls,ob)→ob→(∀x∈ls,∃ob',XL τ st vs outs x.id=some (x,ob')∧ob')∧ls.map (·.id)=own
 | [],ls,ob,he,hob=>by
  simp only [vv,Option.some.injEq,Prod.mk.injEq]at he
  obtain⟨rfl,rfl⟩:=he
  exact⟨fun x hx=>by simp at hx,rfl⟩
 |id::own,ls,ob,he,hob=>by
  simp only [vv]at he
  split at he
  ·rename_i x p xs q e1 e2
   simp only [Option.some.injEq,Prod.mk.injEq]at he
   obtain⟨rfl,rfl⟩:=he
   obtain⟨h1,h2⟩:=VD e2 hob.2
   have hid:x.id=id:=by
    unfold XL at e1
    split at e1
    ·split at e1
     ·split at e1
      ·split at e1<;>first|(cases e1;rfl)|cases e1
      ·cases e1
     ·cases e1
    ·cases e1
   refine⟨fun y hy=> ?_,by simp [h2,hid]⟩
   rcases List.mem_cons.1 hy with rfl|hy
   ·exact⟨p,by rw [hid];exact e1,hob.1⟩
   ·exact h1 y hy
  ·cases he
theorem Vm {e:TypeId}{ys:List D}{id:Nat}: ∀{outs:List Out},JI outs id=some (e,ys)→(id,e,ys)∈outs
 | [],h=>by cases h
 |(k,e',ys')::l,h=>by
  simp only [JI]at h
  split at h
  ·rename_i hk;cases h;subst hk;simp
  ·exact List.mem_cons_of_mem _ (Vm h)
structure zBH (τ:Ty)(st:St)(vs:List AV)(outs:List Out)(x:yq)(len:Nat)(R:zq):Prop where
 cell:cellAt vs x.id= .sl x.d x.p 0 len x.e
 root:lk st.r x.d=some R
 ex:R.o= .ex
 pos:0<sz τ x.e
 path:zl R.xs x.p
 elem:ve R.e R.xs x.p=x.e
 whole:len*sz τ x.e=(yU R.xs x.p).length
 short:x.p= []∨∃j ys,x.p= [j]∧x.out=some ys
 out: ∀ys,x.out=some ys→(x.id,x.e,ys)∈outs
theorem uC {vs:List AV}{outs:List Out}{id:Nat}{x:yq}{ob:Prop}(he:XL τ st vs outs id=some (x,ob))(hob:ob): ∃len R,zBH τ st vs outs x len R:=by
 unfold XL at he
 split at he
 ·rename_i d p len e hc
  split at he
  ·rename_i R hR
   split at he
   ·rename_i hex
    obtain⟨hex,hpos⟩:=hex
    have hex:R.o= .ex:=by cases ho:R.o<;>rw [ho]at hex<;>first|rfl|cases hex
    split at he
    ·rename_i ho
     simp only [Option.some.injEq,Prod.mk.injEq]at he
     obtain⟨rfl,rfl⟩:=he
     exact⟨len,R,hc,hR,hex,hpos,by simp [zl],by simpa [ve]using hob.1,by simpa [yU]using hob.2, .inl rfl,fun ys h=>by cases h⟩
    ·rename_i e' ys ho
     simp only [Option.some.injEq,Prod.mk.injEq]at he
     obtain⟨rfl,rfl⟩:=he
     obtain⟨h1,h2,rfl⟩:=hob
     exact⟨len,R,hc,hR,hex,hpos,by simp [zl],by simpa [ve]using h1,by simpa [yU]using h2, .inl rfl,fun ys h=>by cases h;exact Vm ho⟩
    ·rename_i j e' ys ho
     simp only [Option.some.injEq,Prod.mk.injEq]at he
     obtain⟨rfl,rfl⟩:=he
     obtain⟨h1,h2,h3,rfl⟩:=hob
     exact⟨len,R,hc,hR,hex,hpos,h1,h2,h3, .inr ⟨j,ys,rfl,rfl⟩,fun ys h=>by cases h;exact Vm ho⟩
    ·cases he
   ·cases he
  ·cases he
 ·cases he
theorem zGl {vs:List AV}{cv:List Value}(hv:zY τ w st.r st.b hd bk vs cv){id d:Nat}{p:List Nat}{off len:Nat}{e:TypeId}(hc:cellAt vs id= .sl d p off len e):AvR τ w st.r st.b hd bk (.sl d p off len e) (yC cv id):=by
 obtain⟨h1,h2⟩:=zn.1 hv
 unfold cellAt at hc
 rw [List.getD_eq_getElem?_getD]at hc
 cases hx:vs[id / 16]? with
 |none=>rw [hx]at hc;simp only [Option.getD_none]at hc;split at hc<;>cases hc
 |some v=>
  rw [hx]at hc
  simp only [Option.getD_some]at hc
  have hlt:id / 16<cv.length:=by rw [h1];exact(List.getElem?_eq_some_iff.1 hx).1
  have hcv:=List.getElem?_eq_getElem hlt
  have hav:=h2 _ _ _ hx hcv
  have sub: ∀(us:List AV) (cs:List Value),zY τ w st.r st.b hd bk us cs→us.getD (id%16) .dead= .sl d p off len e→AvR τ w st.r st.b hd bk (.sl d p off len e) (cs.toArray.getD (id%16) undef):=fun us cs hr hu=>by
   obtain⟨g1,g2⟩:=zn.1 hr
   rw [List.getD_eq_getElem?_getD]at hu
   cases hy:us[id%16]? with
   |none=>rw [hy]at hu;cases hu
   |some u=>
    rw [hy]at hu
    simp only [Option.getD_some]at hu
    subst hu
    have hl:id%16<cs.length:=by rw [g1];exact(List.getElem?_eq_some_iff.1 hy).1
    have :=g2 _ _ _ hy (List.getElem?_eq_getElem hl)
    rw [Array.getD_eq_getD_getElem?,List.getElem?_toArray,List.getElem?_eq_getElem hl]
    exact this
  unfold yC
  rw [hcv]
  cases v with
  |agg us=>
   simp only [AvR]at hav
   obtain⟨cs,e1,hr⟩:=hav
   rw [e1]
   exact sub us cs hr hc
  |fn f us=>
   simp only [AvR]at hav
   obtain⟨cs,e1,hr⟩:=hav
   rw [e1]
   exact sub us cs hr hc
  |sl d' p' off' len' e'=>
   simp only at hc
   split at hc
   ·cases hc
    have :=hav
    simp only [AvR]at hav
    obtain⟨⟨A,n,c,e1⟩,-⟩:=hav
    rw [e1]at this⊢
    exact this
   ·cases hc
  |_=>simp only at hc;split at hc<;>cases hc
end
theorem zFB (vs:List AV)(id:Nat):cellAt vs id=(xm (vs.getD (id / 16) .dead)).getD (id%16) .dead:=by
 unfold cellAt
 have one: ∀v:AV,(if id%16=0 then v else .dead)= [v].getD (id%16) .dead:=fun v=>by
  split
  ·rename_i h;rw [h];rfl
  ·rename_i h
   rw [List.getD_eq_getElem?_getD,List.getElem?_eq_none (by simp;omega)]
   rfl
 cases vs.getD (id / 16) .dead<;>first|rfl|exact one _
theorem zBo (own:List Nat)(m:Nat)(v:AV)(vs:List AV):ZN own m (v::vs)=XY own m 0 (xm v)++ZN own (m+1) vs:=by
 simp only [ZN]
 cases v<;>rfl
theorem ky {own:List Nat}{m n:Nat}: ∀{us:List AV} {i j:Nat} {u:AV},us[j]? =some u→own.contains (zZ m (i+j))=false→n∈u.nm→n∈XY own m i us
 | [],i,j,u,h,_,_=>by simp at h
 |y::us,i,j,u,h,hc,hn=>by
  simp only [XY,List.mem_append]
  cases j with
  |zero=>
   simp at h;subst h
   left
   rw [Nat.add_zero]at hc
   rw [if_neg (by rw [hc];simp)]
   exact hn
  |succ j=>
   right
   exact ky (j:=j) (by simpa using h) (by rw [show i+1+j=i+(j+1)from by omega];exact hc) hn
theorem jP {own:List Nat}{n:Nat}: ∀{vs:List AV} {i m j:Nat} {v u:AV},vs[m]? =some v→(xm v)[j]? =some u→own.contains (zZ (i+m) j)=false→n∈u.nm→n∈ZN own i vs
 | [],i,m,j,v,u,h,_,_,_=>by simp at h
 |y::vs,i,m,j,v,u,h,hu,hc,hn=>by
  rw [zBo,List.mem_append]
  cases m with
  |zero=>
   simp at h;subst h
   left
   exact ky (j:=j) hu (by rw [Nat.zero_add];exact hc) hn
  |succ m=>
   right
   exact jP (m:=m) (by simpa using h) hu (by rw [show i+1+m=i+(m+1)from by omega];exact hc) hn
section
variable {P:Program} {τ:Ty} {lo:Nat} {w0:Fz} {ow:Nat→Option Pl} {hd:Nat→Value} {bk:Nat→Nat} {st:St} {a:Act} {w:World}
def qO (ow:Nat→Option Pl)(ls:List yq):Nat→Option Pl:=fun b=>match ow b with|some (.root d q)=>trL d q ls|_=>none
theorem ZG {ls:List yq}{b:Nat}{p:Pl}(h:qO ow ls b=some p): ∃d q,ow b=some (.root d q)∧∃x∈ls,x.d=d∧∃q',q=x.p++q'∧p= .root x.id q':=by
 unfold qO at h
 split at h
 ·rename_i d q ho;exact⟨d,q,ho,zBJ h⟩
 ·cases h
theorem jU {ls:List yq}{d:Nat}{o:O3}(hn: ∀x∈ls,x.d≠d){b:Nat}(hr:rel (md o d) (ow b)):qO ow ls b=none:=by
 cases ho:qO ow ls b with
 |none=>rfl
 |some p=>
  obtain⟨d',q,h1,x,hx,h2,-⟩:=ZG ho
  rw [h1]at hr
  cases o<;>simp only [md,rel]at hr
  ·cases hr
  ·obtain⟨q',hq'⟩:=hr;cases hq';exact absurd h2 (hn x hx)
  ·rcases hr with hr|hr
   ·cases hr
   ·cases hr;exact absurd h2 (hn x hx)
theorem KS (h:zj τ lo w0 ow hd bk st a w){vs:List AV}{cv:List Value}(hv:zY τ w st.r st.b hd bk vs cv){outs:List Out}{x:yq}{len:Nat}{R:zq}(hx:zBH τ st vs outs x len R):
  yF w (hd x.d) x.p=some (yC cv x.id)∧Rp (sz τ) lo w ow (.ex x.d x.p) (.lst x.e (yU R.xs x.p)) (yC cv x.id):=by
 have hav:=zGl hv hx.cell
 simp only [AvR]at hav
 obtain⟨hv',hin,hsub⟩:=hav.2 R hx.root hx.path
 obtain⟨m',e',u,i1,i2,-,i3,i4,-⟩:=YX x.p _ _ _ _ (h.root x.d R hx.root) hx.path
 have hm:=i4 x.d [] (by rw [hx.ex];rfl)
 rw [hin]at i1;cases i1
 rw [hx.elem]at i3
 subst i3;subst hm
 obtain⟨A,n,c,A',c',e1,e2,hle,-,-,hoff,-⟩:=hsub
 obtain⟨rfl,rfl⟩:=hoff rfl
 obtain⟨zs,⟨k1,N,k2,k3,k4⟩,-⟩:=(zx _ _).1 i2
 have hN:N=n:=by
  rw [e1]at k3
  rcases k3.2 with⟨q,h0⟩|⟨g,cap,cur,q,_⟩
  ·cases q;exact h0
  ·cases q;rfl
 have hnl:n=len:=by
  have :=hx.whole
  rw [k2,hN]at this
  exact(Nat.eq_of_mul_eq_mul_right hx.pos this).symm
 have heq:yC cv x.id=hv':=by rw [e1,e2,hnl]
 rw [heq]
 exact⟨hin,i2⟩
theorem zBm (h:zj τ lo w0 ow hd bk st a w){vs:List AV}{cv:List Value}(hv:zY τ w st.r st.b hd bk vs cv){ts:List TypeId}{as:List VT}{ob:Prop}(he:ye τ st ts vs=some (as,ob))(hob:ob){own:List Nat}{outs:List Out}{ls:List yq}{ob2:Prop}
  (hl:vv τ st vs outs own=some (ls,ob2)) (hob2:ob2) (hsep:vm ls) (hap:apart (ZN own 0 vs) ls=true) (hfew:few as=true):JC (sz τ) lo w (qO ow ls) own as cv:=by
 obtain⟨a1,a2⟩:=WV he hob
 obtain⟨v1,v2⟩:=zn.1 hv
 obtain⟨l1,l2⟩:=VD hl hob2
 refine⟨by omega,fun m x c hx hc=> ?_⟩
 have hm:m<vs.length:=by rw [a1];exact(List.getElem?_eq_some_iff.1 hx).1
 have hvm:=List.getElem?_eq_getElem hm
 obtain⟨t,ob',e1,e2⟩:=a2 m _ x hvm hx
 have h16:x.cells.length≤16:=by have :=List.all_eq_true.1 hfew x (List.mem_of_getElem? hx);simpa using this
 obtain⟨cs,c1,c2,c3,c4⟩:=zAk e1 e2 (v2 m _ c hvm hc)
 obtain⟨r1,r2⟩:=zn.1 c3
 refine⟨cs,by omega,fun j d cj hd hcj=> ?_,c2⟩
 have hj:j<x.cells.length:=(List.getElem?_eq_some_iff.1 hd).1
 have hju:j<(xm vs[m]).length:=by omega
 have hu:=List.getElem?_eq_getElem hju
 have hav:=r2 j _ cj hu hcj
 have hid1:zZ m j / 16=m:=by unfold zZ;omega
 have hid2:zZ m j%16=j:=by unfold zZ;omega
 have hca:cellAt vs (zZ m j)=(xm vs[m])[j]:=by
  have g1:vs.getD m .dead=vs[m]:=by rw [List.getD_eq_getElem?_getD,hvm];rfl
  rw [zFB,hid1,hid2,g1,List.getD_eq_getElem?_getD,hu]
  rfl
 unfold gm
 split
 ·rename_i hcon
  have :zZ m j∈ls.map (·.id):=by rw [l2];exact List.contains_iff_mem.1 hcon
  obtain⟨y,hy,hyid⟩:=List.mem_map.1 this
  obtain⟨oby,ey1,ey2⟩:=l1 y hy
  obtain⟨len,R,hok⟩:=uC ey1 ey2
  obtain⟨q1,q2⟩:=KS h hv hok
  have hcell:=hok.cell
  rw [hyid,hca]at hcell
  have hval:yC cv y.id=cj:=by
   have hcc:cv[m]? =some c:=hc
   rw [hyid]
   unfold yC
   rw [hid1,hid2,hcc]
   rcases c2 with⟨d',c',rfl,rfl,rfl⟩|⟨ds,rfl,rfl⟩|⟨f,ds,rfl,rfl⟩
   ·have h0:j=0:=by simp only [VT.cells,List.length_cons,List.length_nil]at hj;omega
    subst h0
    simp at hcj
    rw [hcell]at hav
    simp only [AvR]at hav
    obtain⟨⟨A,n,c',e⟩,-⟩:=hav
    rw [hcj,e]
   ·simp only
    rw [Array.getD_eq_getD_getElem?,List.getElem?_toArray,hcj];rfl
   ·simp only
    rw [Array.getD_eq_getD_getElem?,List.getElem?_toArray,hcj];rfl
  rw [hval]at q2
  have hd':d= .lst y.e (yU R.xs y.p):=by
   rcases c4 j _ d hu hd with⟨ob',k1,k2⟩|⟨k1,-⟩
   ·rw [hcell]at k1
    simp only [cellsOf,hok.root,Option.some.injEq,Prod.mk.injEq]at k1
    rw [←k1.1,Nat.zero_mul,List.drop_zero,hok.whole,List.take_length]
   ·rw [hcell]at k1;cases k1
  rw [hd',←hyid]
  refine qe _ _ _ _ _ y.p [] _ (fun b q hb hq=> ?_) q2
  unfold qO
  rw [hq]
  have hsp:y.p= []∨∃j,y.p= [j]:=by
   rcases hok.short with h|⟨j,ys,h,-⟩
   ·exact .inl h
   ·exact .inr ⟨j,h⟩
  simpa using zEt (q:=q) hsep y hy rfl hsp
 ·rename_i hcon
  have hcon:own.contains (zZ m j)=false:=by simpa using hcon
  rcases c4 j _ d hu hd with⟨ob',k1,k2⟩|⟨k1,e,rfl⟩
  ·refine vT h (fun d' R hd' hR b hb hr=>jU (fun y hy e=> ?_) hr) hav k1 k2 lo
   have hmem:=jP (own:=own) (i:=0) hvm hu (by rw [Nat.zero_add];exact hcon) hd'
   have :=List.all_eq_true.1 (List.all_eq_true.1 hap _ hmem) y hy
   rw [e]at this
   simp at this
  ·rw [k1]at hav
   simp only [AvR]at hav
   subst hav
   exact(zx _ _).2 ⟨[],⟨rfl,0,by simp,none,0,rfl,Nat.le_refl _,by unfold maxLen;omega,fun h=>absurd rfl h⟩,fun i x u hx=>by simp at hx⟩
end
section
variable {P:Program} {τ:Ty} {lo:Nat} {w0:Fz} {ow:Nat→Option Pl} {hd:Nat→Value} {bk:Nat→Nat} {st:St} {a:Act} {w:World}
def vf (ow:Nat→Option Pl)(ls:List yq)(n t:Nat)(ow':Nat→Option Pl):Nat→Option Pl:=fun b=>
 if b<n∧(qO ow ls b).isNone=true then ow b else match ow' b with
  |some (.root k q)=>if 1000000≤k then UO (k - 1000000) q ls else some (.root (zZ t k) q)
  |_=>none
theorem VA (h:zj τ lo w0 ow hd bk st a w){o:Oper}{f:FuncId}{args:Array Operand}{ts:Array TypeId}(hc:zz o=some (f,args,ts))(hcl:wL P f):(execOp a.eval o).run P w= .ok (.enter f (args.toList.map a.eval).toArray) w:=by
 obtain⟨fn,hfn,hname,hbody⟩:=hcl
 obtain⟨dst,op,oty,pos,after,guard⟩:=o
 unfold zz at hc
 simp only at hc
 split at hc
 ·rename_i c
  split at hc
  ·rename_i f' hcal
   cases hc
   obtain⟨callee,args',ats⟩:=c
   simp only at hcal
   subst hcal
   rw [execOp_call_go]
   unfold callFunc
   have h1: ¬fn.name= "runtime.NumGoroutine" :=by simpa using hname
   have h2: ¬fn.body=none:=by cases hb:fn.body with
    |none=>rw [hb]at hbody;simp at hbody
    |some c=>simp
   have h3:Array.map a.eval args'=(args'.toList.map a.eval).toArray:=by cases args';simp
   simp [hfn,h1,h2,h3]
  ·cases hc
 ·cases hc
end
section
variable {P:Program} {τ:Ty} {np:Bool} {all:List Oper}
theorem zAF (Q:St→Prop)(l2:List Oper): ∀(l1:List Oper) (st:St),qn P np τ all Q (l1++l2) st=qn P np τ all (fun st=>qn P np τ all Q l2 st) l1 st
 | [],st=>rfl
 |o::os,st=>by simp only [List.cons_append,qn,zAF Q l2 os]
theorem zp (n:Nat){Q:St→Prop}{os:List Oper}{st:St}(h: ∀K:St→Prop,(∀st,qn P np τ all Q (os.drop n) st→K st)→qn P np τ all K (os.take n) st):qn P np τ all Q os st:=by
 have :=h _ fun _ h=>h
 rwa [←zAF,List.take_append_drop]at this
theorem zAT {al:List Nat}(Q:St→Prop)(l2:List Oper): ∀(l1:List Oper) (st:St),vN P τ al all Q (l1++l2) st=vN P τ al all (fun st=>vN P τ al all Q l2 st) l1 st
 | [],st=>rfl
 |o::os,st=>by
  have e:vN P τ al all Q (os++l2)=vN P τ al all (fun st=>vN P τ al all Q l2 st) os:=funext fun st=>zAT Q l2 os st
  simp only [List.cons_append,vN,e]
theorem zm (n:Nat){al:List Nat}{Q:St→Prop}{os:List Oper}{st:St}(h: ∀K:St→Prop,(∀st,vN P τ al all Q (os.drop n) st→K st)→vN P τ al all K (os.take n) st):vN P τ al all Q os st:=by
 have :=h _ fun _ h=>h
 rwa [←zAT,List.take_append_drop]at this
def qq (P:Program)(np:Bool)(τ:Ty)(all:List Oper)(E:List Rec→St→Prop):List Oper→Nat→List Rec→St→Prop
 | [],_,cs,st=>E cs st
 |o::os,k,cs,st=>
  match o.guard with
  |none=>we P np τ o st fun δ=>qq P np τ all E os (k+1) (⟨k,fp o st,δ.wr⟩::cs) (st.app o.dst δ)
  |some (j,want)=>
   match qE all st j with
   |some (some b)=>
    brB b (if want=true then we P np τ o (yh all st j true) fun δ=>qq P np τ all E os (k+1) (⟨k,fp o (yh all st j true),δ.wr⟩::cs) ((yh all st j true).app o.dst δ)else qq P np τ all E os (k+1) (⟨k,fp o (yh all st j true),Dl.skip.wr⟩::cs) ((yh all st j true).app o.dst Dl.skip))
     (if want=false then we P np τ o (yh all st j false) fun δ=>qq P np τ all E os (k+1) (⟨k,fp o (yh all st j false),δ.wr⟩::cs) ((yh all st j false).app o.dst δ)else qq P np τ all E os (k+1) (⟨k,fp o (yh all st j false),Dl.skip.wr⟩::cs) ((yh all st j false).app o.dst Dl.skip))
   |some none=>qq P np τ all E os (k+1) (⟨k,fp o st,Dl.skip.wr⟩::cs) (st.app o.dst Dl.skip)
   |none=>False
theorem zCl (C:List Rec→Prop)(Q:St→Prop): ∀(os:List Oper) (k:Nat) (cs:List Rec) (st:St),qq P np τ all (fun cs st=>C cs∧Q st) os k cs st=wg P np τ all C Q os k cs st
 | [],k,cs,st=>rfl
 |o::os,k,cs,st=>by
  unfold qq wg
  simp only [zCl C Q os]
  rfl
theorem zAv (E:List Rec→St→Prop)(l2:List Oper): ∀(l1:List Oper) (k:Nat) (cs:List Rec) (st:St),qq P np τ all E (l1++l2) k cs st=qq P np τ all (fun cs st=>qq P np τ all E l2 (k+l1.length) cs st) l1 k cs st
 | [],k,cs,st=>rfl
 |o::os,k,cs,st=>by
  have e: ∀cs st,qq P np τ all E (os++l2) (k+1) cs st=qq P np τ all (fun cs st=>qq P np τ all E l2 (k+(o::os).length) cs st) os (k+1) cs st:=fun cs st=>by
   rw [zAv E l2 os (k+1) cs st,List.length_cons,show k+1+os.length=k+(os.length+1)from by omega]
  simp only [List.cons_append,qq,e]
theorem yT (n:Nat){E:List Rec→St→Prop}{os:List Oper}{k:Nat}{cs:List Rec}{st:St}(hn:n≤os.length)(h: ∀K:List Rec→St→Prop,(∀cs st,qq P np τ all E (os.drop n) (k+n) cs st→K cs st)→qq P np τ all K (os.take n) k cs st):qq P np τ all E os k cs st:=by
 have :=h _ fun _ _ h=>h
 have hl:(os.take n).length=n:=by rw [List.length_take];omega
 have e:qq P np τ all (fun cs st=>qq P np τ all E (os.drop n) (k+(os.take n).length) cs st) (os.take n) k cs st:=by rw [hl];exact this
 rw [←zAv,List.take_append_drop]at e
 exact e
theorem zv (np:Bool){Q:Exit→St→Prop}{st:St}(hτ:yB P τ)(hpos:yd τ)(hmix:P.follows .mixedOrders=true){id:Nat}{ops:List Oper}(hs:XN np ops (jq ops)=true)(hd:qW st.n ops=true)(h: ∀E:List Rec→St→Prop,(∀cs st,chk ops (jq ops) cs=true→Q .normal st→E cs st)→qq P np τ ops E ops 0 [] (st.start np ops)):awp P τ (.region id ops.toArray true) Q st:=
 qD np hτ hpos hmix hs hd fun C hC=>by
  rw [←zCl]
  exact h _ fun cs st h1 h2=>⟨hC cs h1,h2⟩
end
inductive XT where
 |v (x:VT)
 |clo (f:FuncId) (ds:List D)
 |ref (d:D)
def XT.cells :XT→List D
 | .v x=>x.cells
 | .clo _ ds=>ds
 | .ref d=> [d]
section
variable {P:Program} {τ:Ty} {lo:Nat} {w0:Fz} {ow:Nat→Option Pl} {hd:Nat→Value} {bk:Nat→Nat} {st:St} {a:Act} {w:World}
end
section
variable {P:Program} {τ:Ty} {lo:Nat} {w0:Fz} {ow:Nat→Option Pl} {hd:Nat→Value} {bk:Nat→Nat} {st:St} {a:Act} {w:World}
end
section
variable {P:Program} {τ:Ty} {lo:Nat} {w0:Fz} {ow:Nat→Option Pl} {hd:Nat→Value} {bk:Nat→Nat} {st:St} {a:Act} {w:World}
def kV :List (Nat×zq)→List (Nat×zq)
 | []=> []
 |(d,R)::l=>(d,⟨R.o,R.e,R.xs,some d⟩)::kV l
theorem QQ : ∀(l:List (Nat×zq)) (d:Nat),lk (kV l) d=(lk l d).map fun R=>⟨R.o,R.e,R.xs,some d⟩
 | [],d=>rfl
 |(k,R)::l,d=>by
  simp only [kV,zh]
  split
  ·rename_i e;subst e;rfl
  ·exact QQ l d
def vp (τ:Ty)(n:Nat)(args:List VT):St:={n:=n,s:=vj τ 0 args,b:= [],r:=kV (xI 0 args)}
theorem WY {n:Nat}{args:List VT}{cargs:List Value}(hs:szA τ args)(hfew:few args=true)(hn:args.length≤n)(h:qA (sz τ) w.heap.size w (fun _=>none) args cargs):
  zj τ w.heap.size ⟨w,fun _=>True,fun id=>some (yC cargs id)⟩ (fun _=>none) (yC cargs) (bk0 (yC cargs 999999)) (vp τ n args) {tmps:=cargs.toArray++Array.replicate (n - cargs.toArray.size) undef,defers:= []} w:=by
 have h0:=QA hs hfew hn h
 have hD: ∀k,noB k=false→xF w w (wv τ n args).r (vp τ n args).r (yC cargs) (yC cargs) k:=fun k _ R' hR'=>by
  simp only [vp,QQ]at hR'
  cases hx:lk (xI 0 args) k with
  |none=>rw [hx]at hR';cases hR'
  |some R=>rw [hx]at hR';cases hR';exact⟨R,hx,rfl,fun p hp=>⟨hp,rfl⟩⟩
 have hB: ∀t,noB t=false→xB (wv τ n args).b (vp τ n args).b (fun _=>0) (bk0 (yC cargs 999999)) t:=fun t _ hl=>by
  obtain⟨cs,hl⟩:=hl
  simp [vp,lk]at hl
 refine⟨fun ad had=>(by simp only [Option.some.injEq]at had;simp [bk0,had]),h0.defers,h0.size,h0.low,⟨h0.below.os,h0.below.tape,h0.below.output,h0.below.size,h0.below.block⟩,h0.ge,h0.new,fun k v hv=> ?_,fun k R' hR'=> ?_,fun t cs hcs=> ?_,fun k R' j hR' hp=> ?_⟩
 ·have :=yz (τ:=τ) hD hB v _ (h0.slot k v hv)
  rwa [qr]at this
 ·simp only [vp,QQ]at hR'
  cases hx:lk (xI 0 args) k with
  |none=>rw [hx]at hR';cases hR'
  |some R=>rw [hx]at hR';cases hR';exact h0.root k R hx
 ·simp [vp,lk]at hcs
 ·simp only [vp,QQ]at hR'
  cases hx:lk (xI 0 args) k with
  |none=>rw [hx]at hR';cases hR'
  |some R=>rw [hx]at hR';cases hR';cases hp;rfl
theorem Kw {rr:List (Nat×zq)}{bb:List (Nat×List AV)}: ∀{us:List AV} {cs:List Value} (m:Nat),zY τ w rr bb hd bk us cs→zY τ w rr bb hd bk (us.take m) (cs.take m)∧zY τ w rr bb hd bk (us.drop m) (cs.drop m)
 |us,cs,0,h=>by simpa [zY]using h
 | [],cs,m+1,h=>by simp only [zY]at h;subst h;simp [zY]
 |u::us,cs,m+1,h=>by
  simp only [zY]at h
  obtain⟨c,cs',rfl,h1,h2⟩:=h
  obtain⟨k1,k2⟩:=Kw m h2
  simp only [List.take_succ_cons,List.drop_succ_cons,zY]
  exact⟨⟨c,_,rfl,h1,k1⟩,k2⟩
theorem zEs {S:TypeId→Nat}{ow:Nat→Option Pl}: ∀{ds:List D} {cs:List Value} {j:Nat},cs.length=ds.length→(∀(i:Nat) (d:D) (c:Value),ds[i]? =some d→cs[i]? =some c→Rp S lo w ow (.ex (j+i) []) d c)→RpF S lo w ow j ds cs
 | [],cs,j,h,_=>by simp only [RpF];exact List.eq_nil_of_length_eq_zero (by simpa using h)
 |d::ds,[],j,h,_=>by simp at h
 |d::ds,c::cs,j,h,hr=>by
  simp only [RpF]
  refine⟨c,cs,rfl,by simpa using hr 0 d c rfl rfl,zEs (by simpa using h) fun i d' c' h1 h2=> ?_⟩
  have :=hr (i+1) d' c' (by simpa using h1) (by simpa using h2)
  rwa [show j+(i+1)=j+1+i from by omega]at this
end
section
variable {P:Program} {τ:Ty} {lo:Nat} {w0:Fz} {ow:Nat→Option Pl} {hd:Nat→Value} {bk:Nat→Nat} {st:St} {a:Act} {w:World}
attribute [push_cast] List.set_cons_succ
end
def wo (τ:Ty)(n:Nat)(ds:List D)(args:List VT):St:={n:=n,s:=(0, .bp 1000000 0)::vj τ 1 args,b:= [(1000000,yO τ 1000000 0 ds)],r:=kV (yy 1000000 0 ds)++xI 1 args}
def Zh (τ:Ty)(st:St):Nat→List AV→List D→Prop
 |_,[],[]=>True
 |j,u::us,d::ds=>(match d,u with
   | .int k n, .int k' n'=>k'=k∧n'=n
   | .bool b, .bool b'=>b'=b
   | .lst e xs, .sl d0 [] 0 len e'=>d0=zZ 1000000 j∧(match lk st.r d0 with|some R=>R.pin=some d0∧e'=e∧R.e=e∧R.xs.length=len*sz τ e∧sz τ e≠0|none=>False)
   |_,_=>False)∧Zh τ st (j+1) us ds
 |_,_,_=>False
def kb (τ:Ty)(rs:List ResultVar)(ds':List D)(ress:List VT)(e:Exit)(st:St):Prop:=(e= .ret∨e= .normal)∧
 match ya τ st rs with
 |some (vs,ob)=>ob∧zg τ st vs ress∧(match lk st.b 1000000 with|some us=>Zh τ st 0 us ds'|none=>False)
 |none=>False
section
variable {P:Program} {τ:Ty} {lo:Nat} {w0:Fz} {ow:Nat→Option Pl} {hd:Nat→Value} {bk:Nat→Nat} {st:St} {a:Act} {w:World}
mutual
theorem zAz {S:TypeId→Nat}{lo lo2:Nat}{w:World}{ow:Nat→Option Pl}: ∀(d:D) (j:Nat) (p:List Nat) (v:Value),(∀b q,ow b=some (.root j (p++q))→lo2≤b)→Rp S lo w ow (.ex j p) d v→Rp S lo2 w ow (.ex j p) d v
 | .int k n,j,p,v,_,h=>by simpa only [Rp]using h
 | .bool b,j,p,v,_,h=>by simpa only [Rp]using h
 | .hole,j,p,v,_,h=>by simpa only [Rp]using h
 | .lst e xs,j,p,v,hb,h=>by
  simp only [Rp]at h⊢
  obtain⟨vs,⟨h0,n,h1,h2,h3⟩,h4⟩:=h
  refine⟨vs,⟨h0,n,h1,⟨h2.1,?_⟩,h3⟩,UA xs j p 0 vs hb h4⟩
  rcases h2.2 with hn|⟨g,cap,cur,hv,hg,rest⟩
  ·exact .inl hn
  ·exact .inr ⟨g,cap,cur,hv,hb g [] (by simpa using h3 g (by rw [hv];rfl)),rest⟩
theorem UA {S:TypeId→Nat}{lo lo2:Nat}{w:World}{ow:Nat→Option Pl}: ∀(xs:List D) (j:Nat) (p:List Nat) (k:Nat) (vs:List Value),(∀b q,ow b=some (.root j (p++q))→lo2≤b)→RpL S lo w ow (.ex j p) k xs vs→RpL S lo2 w ow (.ex j p) k xs vs
 | [],j,p,k,vs,_,h=>by simpa only [RpL]using h
 |x::xs,j,p,k,vs,hb,h=>by
  simp only [RpL]at h⊢
  obtain⟨v,vs',h1,h2,h3⟩:=h
  exact⟨v,vs',h1,zAz x j (p++ [k]) v (fun b q e=>hb b (k::q) (by simpa using e)) h2,UA xs j p (k+1) vs' hb h3⟩
end
def hdB (cs cargs:List Value)(g d:Nat):Value:=if d / 16=1000000 then cs.getD (d%16) undef else yC (Value.pointer (some ⟨g,0,none⟩)::cargs) d
def fzB (w:World)(g:Nat)(cs:List Value):Fz:=⟨w,fun b=>b≠g,fun id=>if id=999999 then some (.pointer (some ⟨g,0,none⟩))else if id / 16=1000000 then some (cs.getD (id%16) undef)else none⟩
def owB (g:Nat):Nat→Option Pl:=fun b=>if b=g then some (.box 1000000)else none
theorem Uq {n:Nat}{ds:List D}{args:List VT}{g:Nat}{cs cargs:List Value}{ty:TypeId}(hs:szA τ args)(hfew:few args=true)(hsm:args.length<100)(hn:args.length+1≤n)(hds:szL τ ds)(h16:ds.length≤16)
  (hg:w.heap[g]? =some (.cells cs.toArray ty (0,0))) (hcl:cs.length=ds.length) (hrd: ∀(i:Nat) (d:D) (c:Value),ds[i]? =some d→cs[i]? =some c→Rp (sz τ) 0 w (owG g) .sh d c) (h:JC (sz τ) 0 w (owG g) [] args cargs):
  zj τ 0 (fzB w g cs) (owB g) (hdB cs cargs g) (fun _=>g) (wo τ n ds args) {tmps:=(Value.pointer (some ⟨g,0,none⟩)::cargs).toArray++Array.replicate (n - (Value.pointer (some ⟨g,0,none⟩)::cargs).toArray.size) undef,defers:= []} w:=by
 obtain⟨hl,hargs⟩:=h
 have hlt:g<w.heap.size:=(Array.getElem?_eq_some_iff.1 hg).1
 have conv: ∀{x:D} {c:Value},Rp (sz τ) 0 w (owG g) .sh x c→Rp (sz τ) 0 w (owB g) .sh x c:=fun hx=>yJ _ _ (Nat.le_refl _) _ _ _ (fun b hb hr=>⟨rfl,by
  simp only [rel,owG]at hr
  unfold owB owG
  split at hr
  ·cases hr
  ·rename_i e;rw [if_neg e,if_neg e]⟩) hx
 have hdiv: ∀m i,i<16→(zZ m i) / 16=m∧(zZ m i)%16=i:=fun m i hi=>by unfold zZ;omega
 have hcell: ∀(m:Nat) (x:VT) (v:Value),args[m]? =some x→cargs[m]? =some v→∃cs1:List Value,cs1.length=x.cells.length∧(∀(i:Nat) (d:D) (c:Value),x.cells[i]? =some d→cs1[i]? =some c→Rp (sz τ) 0 w (owB g) .sh d c∧(hdB cs cargs g (zZ (1+m) i)=c∨xq d=true))∧QY x v cs1:=fun m x v hx hv=>by
  have h16:x.cells.length≤16:=by have :=List.all_eq_true.1 hfew x (List.mem_of_getElem? hx);simpa using this
  have hm:m<args.length:=(List.getElem?_eq_some_iff.1 hx).1
  obtain⟨cs1,h1,h2,h3⟩:=hargs m x v hx hv
  have h2': ∀(i:Nat) (d:D) (c:Value),x.cells[i]? =some d→cs1[i]? =some c→Rp (sz τ) 0 w (owG g) .sh d c:=fun i d c hd hc=>by
   have :=h2 i d c hd hc
   unfold gm at this
   rwa [if_neg (by simp)]at this
  refine⟨cs1,h1,fun i d c hd hc=>⟨conv (h2' i d c hd hc),?_⟩,h3⟩
  have hi:i<16:=by have :=(List.getElem?_eq_some_iff.1 hd).1;omega
  have hv':(Value.pointer (some ⟨g,0,none⟩)::cargs)[1+m]? =some v:=by rw [Nat.add_comm];simpa using hv
  have hne: ¬1+m=1000000:=by omega
  rcases h3 with⟨d',c',rfl,rfl,rfl⟩|⟨ds',rfl,rfl⟩|⟨f,ds',rfl,rfl⟩
  ·simp only [VT.cells]at hd
   cases i with
   |succ i=>simp at hd
   |zero=>
    simp at hd hc;subst hd;subst hc
    cases d' with
    |int k n=>right;rfl
    |bool b=>right;rfl
    |hole=>
     left
     have h9:=h2' 0 _ _ rfl rfl
     simp only [Rp]at h9
     obtain⟨A,n',c',rfl⟩:=h9
     simp only [hdB,yC,(hdiv (1+m) 0 (by omega)).1,if_neg hne,hv']
    |lst e xs=>
     left
     obtain⟨A,n',c',rfl,-⟩:=xD (h2' 0 _ _ rfl rfl)
     simp only [hdB,yC,(hdiv (1+m) 0 (by omega)).1,if_neg hne,hv']
  ·left
   simp only [hdB,yC,(hdiv (1+m) i hi).1,(hdiv (1+m) i hi).2,if_neg hne,hv']
   rw [Array.getD_eq_getD_getElem?,List.getElem?_toArray,hc]
   rfl
  ·left
   simp only [hdB,yC,(hdiv (1+m) i hi).1,(hdiv (1+m) i hi).2,if_neg hne,hv']
   rw [Array.getD_eq_getD_getElem?,List.getElem?_toArray,hc]
   rfl
 have hbx: ∀(j:Nat) (c:Value),j<16→cs[j]? =some c→hdB cs cargs g (zZ 1000000 j)=c:=fun j c hj hc=>by
  unfold hdB
  rw [(hdiv 1000000 j hj).1,if_pos rfl,(hdiv 1000000 j hj).2,List.getD_eq_getElem?_getD,hc]
  rfl
 have hroot: ∀d R,lk (wo τ n ds args).r d=some R→(d / 16=1000000∧R.pin=some d∧∃k c,ds[k]? =some (.lst R.e R.xs)∧cs[k]? =some c∧R.o= .sh∧d=zZ 1000000 k∧k<16)∨(R.pin=none∧R.o= .sh∧Rp (sz τ) 0 w (owB g) .sh (.lst R.e R.xs) (hdB cs cargs g d)):=fun d R hR=>by
  simp only [wo,ZL,QQ]at hR
  cases hx:lk (yy 1000000 0 ds) d with
  |some R0=>
   rw [hx]at hR
   simp only [Option.map_some,Option.some_or,Option.some.injEq]at hR
   subst hR
   obtain⟨k,h1,h2,h3⟩:=XF 1000000 ds 0 d R0 hx
   rw [Nat.zero_add]at h3
   have hk:k<ds.length:=(List.getElem?_eq_some_iff.1 h1).1
   left
   refine⟨by rw [h3];exact(hdiv 1000000 k (by omega)).1,rfl,k,cs[k]'(by omega),h1,List.getElem?_eq_getElem _,h2,h3,by omega⟩
  |none=>
   rw [hx]at hR
   simp only [Option.map_none,Option.none_or]at hR
   obtain⟨m,x,k,h1,h2,h3,h4⟩:=YR args 1 d R hR
   have hm:m<cargs.length:=by rw [hl];exact(List.getElem?_eq_some_iff.1 h1).1
   obtain⟨cs1,c1,c2,-⟩:=hcell m x _ h1 (List.getElem?_eq_getElem hm)
   have hk:k<cs1.length:=by rw [c1];exact(List.getElem?_eq_some_iff.1 h2).1
   obtain⟨q1,q2⟩:=c2 k _ _ h2 (List.getElem?_eq_getElem hk)
   right
   refine⟨ZR args 1 d R hR,h3,?_⟩
   rcases q2 with q2|q2
   ·rw [h4,q2];exact q1
   ·cases q2
 refine⟨fun ad had=> ?_,rfl,?_,Nat.zero_le _,xW.start _,fun b p _ hb hp=>⟨Nat.zero_le _,fun hlt hk=> ?_⟩,fun b hb=> ?_,fun k v hv=> ?_,fun d R hR=> ?_,fun t vs hv=> ?_,fun d R i hR hp=> ?_⟩
 ·simp only [fzB,if_true,Option.some.injEq,Value.pointer.injEq]at had
  rw [←had]
 ·simp [wo,hl];omega
 ·simp only [owB]at hb
  split at hb
  ·rename_i e;exact hk e
  ·cases hb
 ·unfold owB;rw [if_neg (by omega)]
 ·simp only [wo,zh]at hv
  split at hv
  ·rename_i e;subst e;cases hv
   simp only [AvR]
   have hz0:((Value.pointer (some ⟨g,0,none⟩)::cargs).toArray++Array.replicate (n - (Value.pointer (some ⟨g,0,none⟩)::cargs).toArray.size) undef).getD 0 undef= .pointer (some ⟨g,0,none⟩):=by
    rw [Array.getD_eq_getD_getElem?,Array.getElem?_append_left (by simp),List.getElem?_toArray]
    rfl
   exact⟨⟨_,hz0⟩,fun _=>hz0⟩
  ·obtain⟨m,x,h1,h2,h3⟩:=YQ args 1 k v hv
   subst h2;subst h3
   have hm:m<cargs.length:=by rw [hl];exact(List.getElem?_eq_some_iff.1 h1).1
   have hget:((Value.pointer (some ⟨g,0,none⟩)::cargs).toArray++Array.replicate (n - (Value.pointer (some ⟨g,0,none⟩)::cargs).toArray.size) undef).getD (1+m) undef=cargs[m]:=by
    rw [Array.getD_eq_getD_getElem?,Array.getElem?_append_left (by simp;omega),List.getElem?_toArray,Nat.add_comm 1 m,List.getElem?_cons_succ,List.getElem?_eq_getElem hm]
    rfl
   have hv':cargs[m]? =some cargs[m]:=List.getElem?_eq_getElem hm
   obtain⟨cs1,c1,c2,c3⟩:=hcell m x _ h1 hv'
   have hsx:szL τ x.cells:=hs x (List.mem_of_getElem? h1)
   have hres:=qy (τ:=τ) (lo:=0) (w:=w) (ow:=owB g) (hd:=hdB cs cargs g) (bk:=fun _=>g) (rr:=(wo τ n ds args).r) (bb:=(wo τ n ds args).b) (1+m) x.cells 0 cs1 c1 hsx (fun i d c hd hc=>⟨_,(c2 i d c hd hc).1⟩) (fun i e xs c hd hc=>by
    rcases(c2 i _ c hd hc).2 with q|q
    ·rw [Nat.zero_add];exact q
    ·cases q)
   rw [hget]
   rcases c3 with⟨d,c,rfl,rfl,hc⟩|⟨ds',rfl,hc⟩|⟨f,ds',rfl,hc⟩
   ·simp only [VT.cells]at hres
    rw [hc]
    have e:yO τ (1+m) 0 [d]= [(yO τ (1+m) 0 [d]).headD .dead]:=by cases d<;>rfl
    rw [e]at hres
    simp only [zY]at hres
    obtain⟨y,ys,e1,h4,-⟩:=hres
    cases e1
    exact h4
   ·rw [hc];simp only [ZW,AvR];exact⟨cs1,rfl,hres⟩
   ·rw [hc];simp only [ZW,AvR];exact⟨cs1,rfl,hres⟩
 ·rcases hroot d R hR with⟨h1,h2,k,c,h3,h4,h5,h6,h7⟩|⟨-,h2,h3⟩
  ·rw [h5,h6,hbx k c h7 h4]
   exact conv (hrd k _ c h3 h4)
  ·rw [h2];exact h3
 ·simp only [wo,zh,yw]at hv
  split at hv
  ·rename_i e;subst e;cases hv
   refine⟨cs,ty,hg,by unfold owB;rw [if_pos rfl],?_⟩
   refine qy (τ:=τ) (lo:=0) (w:=w) (ow:=owB g) (hd:=hdB cs cargs g) (bk:=fun _=>g) 1000000 ds 0 cs hcl hds (fun i d c hd hc=>⟨_,conv (hrd i d c hd hc)⟩) (fun i e xs c hd hc=> ?_)
   rw [Nat.zero_add]
   exact hbx i c (by have :=(List.getElem?_eq_some_iff.1 hd).1;omega) hc
  ·cases hv
 ·rcases hroot d R hR with⟨h1,h2,-⟩|⟨h2,-⟩
  ·rw [h2]at hp;cases hp
   simp only [fzB,hdB,h1,if_true]
   rw [if_neg (by omega)]
  ·rw [h2]at hp;cases hp
theorem Wd (h:zj τ lo w0 ow hd bk st a w){cs0:List Value}(hpin: ∀j c,j<16→cs0[j]? =some c→w0.pin (zZ 1000000 j)=some c): ∀(us:List AV) (ds':List D) (cs:List Value) (j:Nat),Zh τ st j us ds'→zY τ w st.r st.b hd bk us cs→j+us.length≤16→j+us.length≤cs0.length→
  ds'.length=us.length∧∀(i:Nat) (d:D) (c:Value),ds'[i]? =some d→cs[i]? =some c→match d with| .int k n=>c= .int k n| .bool b=>c= .bool b|_=>cs0[j+i]? =some c
 | [],[],cs,j,_,_,_,_=>⟨rfl,fun i d c hd=>by simp at hd⟩
 | [],_::_,cs,j,h1,_,_,_=>h1.elim
 |_::_,[],cs,j,h1,_,_,_=>h1.elim
 |u::us,d::ds',cs,j,h1,h2,h3,h4=>by
  simp only [zY]at h2
  obtain⟨c,cs1,rfl,k1,k2⟩:=h2
  simp only [List.length_cons]at h3 h4
  obtain⟨r1,r2⟩:=Wd h hpin us ds' cs1 (j+1) h1.2 k2 (by omega) (by omega)
  refine⟨by simp [r1],fun i d' c' hd hc=> ?_⟩
  cases i with
  |succ i=>
   have :=r2 i d' c' (by simpa using hd) (by simpa using hc)
   rwa [show j+1+i=j+(i+1)from by omega]at this
  |zero=>
   simp at hd hc
   subst hd;subst hc
   have h0:=h1.1
   cases d with
   |int k n=>
    cases u<;>(try simp only at h0)<;>first|exact h0.elim|skip
    simp only [AvR]at k1
    rw [k1,h0.1,h0.2]
   |bool b=>
    cases u<;>(try simp only at h0)<;>first|exact h0.elim|skip
    simp only [AvR]at k1
    rw [k1,h0]
   |hole=>simp at h0
   |lst e xs=>
    cases u<;>(try simp only at h0)<;>first|exact h0.elim|skip
    rename_i d0 p off len e'
    cases p with
    |cons _ _=>exact h0.elim
    |nil=>
     cases off with
     |succ _=>exact h0.elim
     |zero=>
      simp only at h0
      obtain⟨rfl,h5⟩:=h0
      cases hR:lk st.r (zZ 1000000 j)with
      |none=>rw [hR]at h5;exact h5.elim
      |some R=>
       rw [hR]at h5
       obtain⟨hp,rfl,he,hx,hz⟩:=h5
       have hj:j<cs0.length:=by omega
       have hpv:=hpin j _ (by omega) (List.getElem?_eq_getElem hj)
       have hph:=h.pin _ R _ hR hp
       rw [hpv]at hph
       have hph:=Option.some.inj hph
       simp only [AvR]at k1
       obtain⟨hv,hin,A,n,c2,A',c',e1,e2,hle,hlc,hmx,hf,hA⟩:=k1.2 R hR (by simp [zl])
       simp only [yF,Option.some.injEq]at hin
       obtain⟨rfl,rfl⟩:=hf rfl
       obtain⟨A3,n3,c3,e3,l3,-⟩:=xD (h.root _ R hR)
       rw [hin,e1]at e3;cases e3
       rw [he]at l3
       have hn:n=len:=Nat.eq_of_mul_eq_mul_right (Nat.pos_of_ne_zero hz) (by rw [←l3,hx])
       simp only [Nat.add_zero]
       rw [List.getElem?_eq_getElem hj,hph,hin,e1,e2,hn]
theorem zAr (hτ:yB P τ)(hpos:yd τ){f:FuncId}{fn:Func}{c:Code}{rs:List ResultVar}{ds ds':List D}{args ress:List VT}(hfn:P.funcs[f]? =some fn)(hname:(fn.name== "runtime.NumGoroutine")=false)(hb:fn.body=some c)(hres:fn.results=rs.toArray)(hn:args.length+1≤fn.ntmps)(hfew:few args=true)(hs:szA τ args)(hsm:args.length<100)(hds:szL τ ds)(h16:ds.length≤16)(hlen:ds'.length=ds.length)
  (h:awp P τ c (kb τ rs ds' ress) (wo τ fn.ntmps ds args)):FnB P τ f ds args ds' ress:=by
 refine⟨⟨fn,hfn,hname,by rw [hb];rfl⟩,hlen,fun w g cs cargs ty hg hcl hrd hargs=> ?_⟩
 have hst0:=Uq (n:=fn.ntmps) hs hfew hsm hn hds h16 hg hcl hrd hargs
 refine calls_of_wp hfn hb (Go.wp_mono (h 0 _ _ w ⟨_,_,_,hst0⟩) fun e a' w' ⟨st',⟨ow,hd,bk,hr⟩,he,hret0⟩=> ?_)
 have hpost:a'.defers= []∧∃v,(results fn a'.tmps).run P w'= .ok v w'∧zDC τ w g cs ds' ress (.returned v) w':=by
  split at hret0
  rotate_left
  ·exact hret0.elim
  rename_i avs ob0 hrv
  obtain⟨hob0,hret,hbox⟩:=hret0
  obtain⟨xs,hrun,hv⟩:=wI hτ hpos hr hres hrv hob0
  refine⟨hr.defers,_,hrun,?_⟩
  cases hT:lk st'.b 1000000 with
  |none=>rw [hT]at hbox;exact hbox.elim
  |some us=>
   rw [hT]at hbox
   simp only at hbox
   obtain⟨cs',ty',b1,b2,b3⟩:=hr.box 1000000 us hT
   have hbk:bk 1000000=g:=hr.big ⟨g,0,none⟩ (by simp [fzB])
   rw [hbk]at b1 b2
   have hglt:g<w.heap.size:=(Array.getElem?_eq_some_iff.1 hg).1
   have hul:us.length=ds.length:=by
    have key: ∀(us:List AV) (ds':List D) (j:Nat),Zh τ st' j us ds'→us.length=ds'.length:=by
     intro us
     induction us with
     |nil=>intro ds' j h;cases ds' with
      |nil=>rfl
      |cons _ _=>exact h.elim
     |cons u us ih=>intro ds' j h;cases ds' with
      |nil=>exact h.elim
      |cons d ds'=>simp [ih ds' (j+1) h.2]
    rw [key us ds' 0 hbox,hlen]
   obtain⟨m1,m2⟩:=Wd hr (cs0:=cs) (fun j c hj hc=>by
    simp only [fzB]
    have e1:zZ 1000000 j / 16=1000000:=by unfold zZ;omega
    have e2:zZ 1000000 j%16=j:=by unfold zZ;omega
    rw [if_neg (by unfold zZ;omega),if_pos e1,e2,List.getD_eq_getElem?_getD,hc]
    rfl) us ds' cs' 0 hbox b3 (by omega) (by omega)
   have hcs':cs'.length=cs.length:=by have :=(zn.1 b3).1;omega
   unfold zg at hret
   split at hret
   rotate_left
   ·exact hret.elim
   rename_i us2 hus
   split at hret
   rotate_left
   ·exact hret.elim
   rename_i is ob hcells
   have hroot: ∀b d q,ow b=some (.root d q)→w.heap.size≤b:=fun b d q ho=>by
    rcases Nat.lt_or_ge b w.heap.size with hlt|hge
    ·have hlt':b<w'.heap.size:=Nat.lt_of_lt_of_le hlt hr.below.size
     have hfr:=(hr.ge b _ hlt' ho (by simp)).2 hlt
     have :b=g:=by
      rcases Nat.decEq b g with hne|heq
      ·exact absurd hne hfr
      ·exact heq
     subst this
     rw [b2]at ho;cases ho
    ·exact hge
   have hout: ∀b p,xU ow is b=some p→w.heap.size≤b:=fun b p hp=>by
    obtain⟨d,q,j,h1,-,-⟩:=VO hp
    exact hroot b d q h1
   obtain⟨cs2,k1,k2⟩:=qv (S:=sz τ) (lo:=(w.heap.setIfInBounds g (.cells cs'.toArray ty' (0,0))).size) (ow:=xU ow is) 0 hus hv
   obtain⟨n1,n2⟩:=vO hr hcells hret.2 hret.1 k1
   refine⟨cs',ty',{w with heap:=w.heap.setIfInBounds g (.cells cs'.toArray ty' (0,0))},hcs',fun i d c hd hc=> ?_,⟨rfl,rfl,rfl,by simp,fun k hk=> ?_,?_⟩,?_⟩
   ·have :=m2 i d c hd hc
    cases d<;>simpa using this
   ·rw [Array.getElem?_setIfInBounds,if_neg (fun e=>hk e.symm)]
   ·rw [Array.getElem?_setIfInBounds,if_pos rfl,if_pos hglt]
   ·refine⟨_,xU ow is,rfl,⟨hr.below.os,hr.below.tape,hr.below.output,by have :=hr.below.size;simpa [fzB]using this,fun b hb=> ?_⟩,fun b hb=> ?_,fun b p hp=> ?_,k2 n1 fun i d c hd hc=> ?_⟩
    ·have hb':b<w.heap.size:=by simpa using hb
     simp only
     rw [Array.getElem?_setIfInBounds]
     split
     ·rename_i e;subst e;first|exact b1|(rw [if_pos hglt];exact b1)
     ·rename_i e;exact hr.below.block b hb' (fun e'=>e e'.symm)
    ·have hb':b<w.heap.size:=by simpa using hb
     cases ho:xU ow is b with
     |none=>rfl
     |some p=>have :=hout b p ho;omega
    ·obtain⟨d,q,j,h1,-,rfl⟩:=VO hp
     refine⟨?_,by simp⟩
     rcases Nat.lt_or_ge b w'.heap.size with h'|h'
     ·exact h'
     ·rw [hr.new b h']at h1;cases h1
    ·rw [Nat.zero_add]
     have :=n2 i d c hd hc
     simp only [Array.size_setIfInBounds]
     exact zAz d i [] c (fun b q hq=>hout b _ hq) this
 rcases he with rfl|rfl<;>exact hpost
end
end Go.Proofs.Ytdbecmmeifdafaa
