/- Regions whose order is drawn, VI: a step is what the real operation does; nothing new is spoken of; the rule. -/
import Derived.Test.YthepmdkpbjfdcaaGCztm
namespace Go.Proofs.Ythepmdkpbjfdcaa
open Go.RowKit
set_option linter.unusedVariables false
set_option linter.unusedSimpArgs false
def ye (np:Bool)(o:Oper):Bool:=
 match o.op with
 | .box _ _=>true
 | .alloc _=>true
 | .makeSlice _ _ _=>true
 | .buildSlice _ _ _=>true
 | .load _ _=>np
 | .call c=>match c.callee with
  | .value _=>true
  | .builtin .append=>true
  |_=>false
 |_=>false
theorem yz {np:Bool}{o:Oper}{x:FuncId×Array Operand×Array TypeId}(h:zv o=some x):ye np o=true:=by
 unfold zv at h
 unfold ye
 cases ho:o.op<;>rw [ho]at h<;>simp at h⊢
 rename_i c
 cases hc:c.callee<;>rw [hc]at h<;>simp at h⊢
section
variable {P:Program} {np:Bool} {τ:Ty} {lo:Nat} {w0:Fz} {ow:Nat→Option Pl} {hd:Nat→Value} {bk:Nat→Nat} {st:St} {a:Act} {w:World}
theorem qy (t:Nat): ∀(ds:List D) (j:Nat) (st:St),yG (own t) st→j+ds.length≤16→ym st (yU t j ds st)∧∀k,lk (yU t j ds st).r k=(lk (xh t j ds) k).or (lk st.r k)
 | [],j,st,_,_=>⟨ym.refl st,fun k=>by simp [yU,xh,yo]⟩
 | .int _ _::ds,j,st,hf,hl=>by
  simp only [yU,xh]
  exact qy t ds (j+1) st hf (by simp only [List.length_cons]at hl;omega)
 | .bool _::ds,j,st,hf,hl=>by
  simp only [yU,xh]
  exact qy t ds (j+1) st hf (by simp only [List.length_cons]at hl;omega)
 | .hole::ds,j,st,hf,hl=>by
  simp only [yU,xh]
  exact qy t ds (j+1) st hf (by simp only [List.length_cons]at hl;omega)
 | .lst e xs::ds,j,st,hf,hl=>by
  simp only [List.length_cons]at hl
  have s1:=xj hf (yM (t:=t) (j:=j) (by omega)) ⟨.ex,e,xs,none⟩
  obtain⟨h1,h2⟩:=qy t ds (j+1) (st.addR (zX t j) ⟨.ex,e,xs,none⟩) (s1.free hf) (by omega)
  simp only [yU,xh]
  refine⟨s1.trans h1,fun k=> ?_⟩
  rw [h2,wh]
  simp only [St.addR,za,yo]
  cases lk (xh t (j+1) ds) k with
  |some x=>simp
  |none=>
   by_cases e:zX t j=k
   ·simp [e]
   ·simp [e]
theorem yK {x y:Option (Dl×Prop)}{z:Dl×Prop}(h:orE x y=some z):x=some z∨y=some z:=by
 unfold orE at h
 split at h
 ·exact .inl h
 ·exact .inr h
theorem Zm {v:AV}(d:Option Tmp):Cov (st.put d v) (st.app d ⟨v,[],[],[]⟩):=xT (ym.refl st) rfl rfl fun k R h=>by simpa [yo]using h
theorem Uu (hτ:zu P τ)(hpos:yR τ)(h:zb τ lo w0 ow hd bk st a w){o:Oper}(hf:ye np o=true→yG (own (zq o)) st)(hpf:np=true→PF st){δ:Dl}{ob:Prop}(he:qx np τ o st=some (δ,ob))(hob:ob):
  ∃st1 v,qH P τ lo w0 a w o st1 v∧Cov (st1.put o.dst v) (st.app o.dst δ):=by
 have plain:((xU τ o st).map fun y=>((⟨y.1,[],[],[]⟩:Dl),y.2))=some (δ,ob)→∃st1 v,qH P τ lo w0 a w o st1 v∧Cov (st1.put o.dst v) (st.app o.dst δ):=fun he=>by
  cases hv:xU τ o st with
  |none=>rw [hv]at he;cases he
  |some y=>
   rw [hv]at he
   simp only [Option.map_some,Option.some.injEq,Prod.mk.injEq]at he
   obtain⟨rfl,rfl⟩:=he
   obtain⟨z,hz,hr⟩:=Yu hτ hpos h hv hob
   exact⟨st,y.1,⟨z,w,ow,hd,bk, .inl hz,h,hr⟩,Zm _⟩
 have wrapV: ∀{s:Sem Value} {z:Value} {w':World},s.run P w= .ok z w'→(do pure (.value (←s)):Sem Next).run P w= .ok (.value z) w':=fun{s z w'} hs=>by rw [Sem.run_bind,hs,Result.andThen_ok,Sem.run_pure]
 obtain⟨dst,op,ty,pos,after,guard⟩:=o
 unfold qx at he
 cases op<;>simp only at he
 case box e x=>
  split at he
  ·rename_i t vs hvs
   simp only [Option.some.injEq,Prod.mk.injEq]at he
   obtain⟨rfl,rfl⟩:=he
   have hf':=hf rfl
   obtain⟨us,hus,hur⟩:=xF hvs (zY h x)
   obtain⟨ow',bk',r1,r2,r3,r4⟩:=Vp h t hob e vs us hur hf' (fun n hn=>hf'.ev x n (YA hvs n hn))
   refine⟨_, .bp t 0,⟨.pointer (some ⟨w.heap.size,0,none⟩),_,ow',hd,bk', .inl (wrapV ?_),r1,by simp only [AvR];exact⟨⟨_,rfl⟩,fun _=>by rw [r2]⟩⟩,uC _ r3 r4⟩
   simp [Instr.box,newVar,newRow,newObj,Sem.run,hus]
  ·cases he
 case alloc e=>
  split at he
  ·rename_i t k b ht
   simp only [Option.some.injEq,Prod.mk.injEq]at he
   obtain⟨rfl,rfl⟩:=he
   have hf':=hf rfl
   have hz: ∃z:Value,(zeroValue e).run P w= .ok z w∧z.cells=(k.cells.map CK.zero).toArray:=by
    cases k with
    |sc c=>obtain⟨i,i1,i2,i3,i4⟩:=Ya hτ ht;exact⟨c.zero,by simp [zeroValue,typeInfo,i1,i3],by cases c<;>rfl⟩
    |st cs fs=>obtain⟨F,_,_,i,i1,i2,i3,i4⟩:=yF hτ ht;exact⟨_,by simp [zeroValue,typeInfo,i1,i3];rfl,by simp [Value.cells,TK.cells]⟩
   obtain⟨z,hz1,hz2⟩:=hz
   obtain⟨ow',bk',r1,r2,r3,r4⟩:=Vp h t hob e (k.cells.map vS) (k.cells.map CK.zero) (zj.2 ⟨by simp,fun i v x hv hx=>by
    rw [List.getElem?_map]at hv hx
    cases hk:k.cells[i]? with
    |none=>rw [hk]at hv;cases hv
    |some c=>rw [hk]at hv hx;cases hv;cases hx;exact YO c⟩) hf' (fun n hn=>by
    obtain⟨v,hv,hm⟩:=yB.1 hn
    obtain⟨c,_,rfl⟩:=List.mem_map.1 hv
    cases c<;>simp [vS,AV.nm]at hm)
   refine⟨_, .bp t 0,⟨.pointer (some ⟨w.heap.size,0,none⟩),_,ow',hd,bk', .inl (wrapV ?_),r1,by simp only [AvR];exact⟨⟨_,rfl⟩,fun _=>by rw [r2]⟩⟩,uC _ r3 r4⟩
   unfold Instr.alloc
   rw [Sem.run_bind,hz1,Result.andThen_ok]
   simp [newVar,newRow,newObj,Sem.run,hz2]
  ·cases he
 case makeSlice t l c=>
  split at he
  ·obtain⟨st1,v,h1,h2⟩:=zAJ (hf rfl) he
   exact⟨st1,v,Qr hτ h rfl h1 hob,h2 _⟩
  ·cases he
 case buildSlice t len parts=>
  split at he
  ·rcases yK he with he|he
   ·obtain⟨st1,v,h1,h2⟩:=zBK (hf rfl) he
    exact⟨st1,v,WE hτ h rfl h1,h2 _⟩
   ·rcases yK he with he|he
    ·obtain⟨st1,v,h1,h2⟩:=zAG (o:=⟨some _, .buildSlice t len parts,ty,pos,after,guard⟩) hτ h rfl (hf rfl) he
     exact⟨st1,v,h1,h2 _⟩
    ·obtain⟨st1,v,h1,h2⟩:=zAH (o:=⟨some _, .buildSlice t len parts,ty,pos,after,guard⟩) hτ h rfl (hf rfl) he hob
     exact⟨st1,v,h1,h2 _⟩
  ·cases he
 case load t x=>
  rcases yK he with he|he
  ·cases dst with
   |none=>simp [vb]at he
   |some t0=>
    have hnp:np=true:=by
     unfold vb at he
     split at he
     ·split at he
      ·split at he
       ·rename_i hc;exact hc.1
       ·cases he
      ·cases he
     ·cases he
    obtain⟨st1,v,h1,h2⟩:=UG (o:=⟨some t0, .load t x,ty,pos,after,guard⟩) hτ hpos h rfl rfl (hf hnp) he hob
    exact⟨st1,v,h1,h2 _⟩
  unfold ZB at he
  cases hv:qD τ st t (ev st x)with
  |none=>rw [hv]at he;cases he
  |some y=>
   rw [hv]at he
   simp only [Option.map_some,Option.some.injEq,Prod.mk.injEq]at he
   obtain⟨rfl,rfl⟩:=he
   obtain⟨z,hz,hr⟩:=Yu (o:=⟨dst, .load t x,ty,pos,after,guard⟩) hτ hpos h (show xU τ _ st=some (y.1,y.2)from hv) hob
   exact⟨st,_,⟨z,w,ow,hd,bk, .inl hz,h,kb hr⟩,Zm _⟩
 case store t p x=>
  rcases yK he with he|he
  rotate_left
  ·split at he
   ·rename_i hnp
    obtain⟨st1,h1,h2⟩:=kl (o:=⟨dst, .store t p x,ty,pos,after,guard⟩) hτ h (hpf hnp) rfl he hob
    exact⟨st1,_,h1,h2 _⟩
   ·cases he
  cases hp:ev st p with
  |bp b i=>
   rw [hp]at he
   obtain⟨st1,h1,h2⟩:=kj (o:=⟨dst, .store t p x,ty,pos,after,guard⟩) hτ h rfl hp he
   exact⟨st1,_,h1,h2 _⟩
  |ep d q i=>
   rw [hp]at he
   obtain⟨st1,u,h1,h2⟩:=UT he
   exact⟨st1,u,QB (al:= []) hτ hpos h rfl (by rw [hp];exact h1) hob,h2 _⟩
  |_=>rw [hp]at he;simp [qT]at he
 case call c=>
  obtain⟨callee,args,argTypes⟩:=c
  simp only at he
  split at he
  ·split at he
   ·rename_i t x y t1 t2 h1 h2
    split at he
    ·rename_i htt
     subst htt
     have e1:args= #[x,y]:=by cases args;simp at h1;subst h1;rfl
     have e2:argTypes= #[t1,t1]:=by cases argTypes;simp at h2;subst h2;rfl
     subst e1;subst e2
     rcases yK he with he|he
     ·obtain⟨st1,v,ob1,k1,k2,k3⟩:=zAx (hf rfl) he hob
      refine⟨st1,v,Vl (dl:=St.delR0) (fun st ow hd d h=>⟨wu h d,by simp [St.delR0,xD,is1]⟩) hτ h (fun v w' hr=> ?_) k1 k2,k3 _⟩
      simp [execOp,resolve,invoke,builtin,hr]
     ·obtain⟨st1,v,k1,k2⟩:=Ul (o:=⟨some _, .call ⟨.builtin .append,#[x,y],#[t1,t1]⟩,ty,pos,after,guard⟩) hτ h (fun v w' hr=>by simp [execOp,resolve,invoke,builtin,hr]) (hf rfl) he hob
      exact⟨st1,v,k1,k2 _⟩
    ·cases he
   ·cases he
  ·exact plain he
 all_goals exact plain he
theorem uh {o:Oper}{δ:Dl}{Q:Exit→Act→World→Prop}{K':Act→World→Prop}(hdn: ∀k,o.dst=some k→k<a.tmps.size)(h:Rel τ lo w0 st a w)(hf:yG (own (zq o)) st)(ha:Yl P τ o st δ)
  (hK: ∀x w',Rel τ lo w0 (st.app o.dst δ) (a.put o.dst x) w'→K' (a.put o.dst x) w'):o.wp P a w K' Q:=by
 unfold Yl at ha
 split at ha
 rotate_left
 ·exact ha.elim
 rename_i f as T cells ds ob hact
 obtain⟨hob,ds',ress,⟨⟨fn,hfn,hname,hbody⟩,hlen,hcall⟩,hsz,h16,rfl⟩:=ha
 unfold vu at hact
 cases hc:zv o with
 |none=>rw [hc]at hact;cases hact
 |some y=>
  obtain⟨f',args,ts⟩:=y
  rw [hc]at hact
  simp only at hact
  split at hact
  rotate_left
  ·cases hact
  rename_i T' vs hvs
  cases hT:lk st.b T' with
  |none=>rw [hT]at hact;cases hact
  |some cells'=>
   rw [hT]at hact
   simp only at hact
   split at hact
   rotate_left
   ·cases hact
   rename_i ds0 ob1 as0 ob2 hds has
   simp only [Option.some.injEq,Prod.mk.injEq]at hact
   obtain⟨rfl,rfl,rfl,rfl,rfl,rfl⟩:=hact
   obtain⟨ow,hd,bk,hr⟩:=h
   have hev:zW τ w st.r st.b hd bk (args.toList.map (ev st)) (args.toList.map a.eval):=zj.2 ⟨by simp,fun i v x hv hx=>by
    rw [List.getElem?_map]at hv hx
    cases hk:args.toList[i]? with
    |none=>rw [hk]at hv;cases hv
    |some p=>rw [hk]at hv hx;cases hv;cases hx;exact zY hr p⟩
   rw [hvs]at hev
   simp only [zW]at hev
   obtain⟨x0,xs,hxs,hx0,hxs2⟩:=hev
   simp only [AvR]at hx0
   have hptr:=hx0.2 ⟨_,hT⟩
   subst hptr
   obtain⟨cs,ty,b1,b2,b3,b4,b5⟩:=ur hr hT hds hob.1
   have hA:=kM hr hT hxs2 has hob.2
   have hC:=hcall w (bk T') cs xs ty b1 b2 b5 hA
   have hexec:(execOp a.eval o).run P w= .ok (.enter f' (args.toList.map a.eval).toArray) w:=by
    obtain⟨dst,op,oty,pos,after,guard⟩:=o
    unfold zv at hc
    simp only at hc
    split at hc
    ·rename_i c
     split at hc
     ·rename_i f' hcal
      cases hc
      obtain⟨callee,args',ats⟩:=c
      simp only at hcal
      subst hcal
      rw [execOp_call_go]
      unfold callFunc
      have h1: ¬fn.name= "runtime.NumGoroutine" :=by simpa using hname
      have h2: ¬fn.body=none:=by cases hb:fn.body with
       |none=>rw [hb]at hbody;simp at hbody
       |some c=>simp
      have h3:Array.map a.eval args'=(args'.toList.map a.eval).toArray:=by cases args';simp
      simp [hfn,h1,h2,h3]
     ·cases hc
    ·cases hc
   unfold Oper.wp
   rw [hexec,hxs]
   simp only [Oper.upon]
   refine hC.mono fun e w' hpost=> ?_
   obtain⟨z,ow',hd2,he,r1,r2⟩:=ke hr hT b3 (by rw [hlen,b4]) (t:=zq o) hsz hpost
   subst he
   have hfree:yG (own (zq o)) (st.setB T' (xA cells' ds')):=⟨hf.s,fun k cs' hcs'=>by
    simp only [St.setB,za]at hcs'
    split at hcs'
    ·cases hcs'
     intro n hn
     obtain⟨v,hv,hm⟩:=yB.1 hn
     rcases XG hv with hv|⟨k,m,rfl⟩|⟨b,rfl⟩
     ·exact hf.b T' cells' hT n (yB.2 ⟨v,hv,hm⟩)
     ·simp [AV.nm]at hm
     ·simp [AV.nm]at hm
    ·exact hf.b k cs' hcs'⟩
   obtain⟨k1,k2⟩:=qy (zq o) (zm ress) 0 _ hfree (by omega)
   refine hK z w' (qM (yj r1 hdn r2) ⟨?_,fun k v hv=> .inr ?_,fun k us hus=> ?_,fun k R hR=> ?_⟩)
   ·rw [Vm,zBw];exact k1.n.symm
   ·rw [vx]at hv
    cases hdd:o.dst with
    |none=>rw [hdd]at hv;simp only [St.put];rw [k1.s];simpa [St.setB]using hv
    |some d=>
     rw [hdd]at hv
     simp only [St.put,za]
     simp only [Option.some.injEq]at hv
     split at hv
     ·rename_i e;rw [if_pos e];exact hv
     ·rename_i e;rw [if_neg e,k1.s];exact hv
   ·rw [vD]at hus
    have e:lk ((yU (zq o) 0 (zm ress) (st.setB T' (xA cells' ds'))).put o.dst (xx (yp τ (zq o) 0 ress))).b k=lk (st.setB T' (xA cells' ds')).b k:=by
     cases o.dst<;>exact k1.b k
    rw [e]
    simp only [St.setB,za]at hus⊢
    split
    ·rename_i e;rw [if_pos e]at hus;simpa using hus
    ·rename_i e;rw [if_neg e,yo]at hus;simpa using hus
   ·rw [vE]at hR
    have e:lk ((yU (zq o) 0 (zm ress) (st.setB T' (xA cells' ds'))).put o.dst (xx (yp τ (zq o) 0 ress))).r k=lk (yU (zq o) 0 (zm ress) (st.setB T' (xA cells' ds'))).r k:=by
     cases o.dst<;>rfl
    rw [e,k2]
    simpa [St.setB]using hR
theorem Vg (hτ:zu P τ)(hpos:yR τ){o:Oper}{δ:Dl}{Q:Exit→Act→World→Prop}{K':Act→World→Prop}(hdn: ∀k,o.dst=some k→k<a.tmps.size)(h:Rel τ lo w0 st a w)(hf:ye np o=true→yG (own (zq o)) st)(hpf:np=true→PF st)(ha:qn P np τ o st δ)
  (hK: ∀x w',Rel τ lo w0 (st.app o.dst δ) (a.put o.dst x) w'→K' (a.put o.dst x) w'):o.wp P a w K' Q:=by
 unfold qn at ha
 rcases ha with ha|ha|ha
 ·exact ha.2.2.2.2.2.2 st ⟨fun _ _=>rfl,fun _ _=>rfl,fun _ _=>rfl⟩ hpf lo w0 a w Q K' hdn h hK
 ·unfold Wb at ha
  cases hc:zv o with
  |none=>rw [hc]at ha;exact ha.elim
  |some x=>
   obtain⟨f,args,ts⟩:=x
   rw [hc]at ha
   simp only at ha
   split at ha
   ·rename_i as ob us vs hargs hevs
    obtain⟨hob,pm,ress,⟨hcl,hcall⟩,hpm,hsz,hlen,rfl⟩:=ha
    obtain⟨ow,hd',bk,hr⟩:=h
    have hev:zW τ w st.r st.b hd' bk (args.toList.map (ev st)) (args.toList.map a.eval):=zj.2 ⟨by simp,fun i v x hv hx=>by
     rw [List.getElem?_map]at hv hx
     cases hk:args.toList[i]? with
     |none=>rw [hk]at hv;cases hv
     |some p=>rw [hk]at hv hx;cases hv;cases hx;exact zY hr p⟩
    have hA:=ZN hr w.heap.size hev hargs hob
    have hC:=hcall w _ hA
    unfold Oper.wp
    rw [uv hc hcl]
    simp only [Oper.upon]
    refine hC.mono fun e w' hpost=> ?_
    obtain⟨cs0,cs,ow',hd2,h0,he,r1,r2⟩:=kg hr (t:=zq o) hsz hpost
    subst he
    obtain⟨k1,k2⟩:=qy (zq o) ress 0 st (hf (yz hc)) (by omega)
    obtain⟨x0,xs,hx0,hv0⟩: ∃x0 xs,args.toList=x0::xs∧ev st x0= .agg us:=by
     cases hal:args.toList with
     |nil=>rw [hal]at hevs;simp at hevs
     |cons x0 xs=>
      rw [hal]at hevs
      simp only [List.map_cons,List.cons.injEq]at hevs
      exact⟨x0,xs,rfl,hevs.1⟩
    have hv1:ev (yU (zq o) 0 ress st) x0= .agg us:=by
     rw [←hv0]
     cases x0<;>simp only [ev]
     rw [k1.s]
    have hx:=zY r1 x0
    rw [hv1]at hx
    simp only [AvR]at hx
    obtain⟨cs1,e1,r3⟩:=hx
    rw [hx0]at h0
    simp only [List.map_cons,List.getElem?_cons_zero,Option.some.injEq]at h0
    rw [e1]at h0
    have :cs1=cs0:=by simpa using h0
    subst this
    have hrel:=yj (d:=o.dst) r1 hdn (v:= .agg (ZX pm .dead us++yH τ (zq o) 0 ress)) (x:= .agg (List.toArray (ZX pm undef cs1++cs))) (by
     simp only [AvR]
     exact⟨_,rfl,qi (Kb r3 pm hpm) r2⟩)
    exact hK _ w' (qM hrel (xT k1 rfl rfl fun k R hR=>by rw [k2];simpa using hR))
   ·exact ha.elim
 cases hc:zv o with
 |some x=>
  obtain⟨f,args,ts⟩:=x
  rw [hc]at ha
  simp only at ha
  cases hargs:yV τ st ts.toList (args.toList.map (ev st))with
  |none=>rw [hargs]at ha;exact uh hdn h (hf (yz hc)) ha.2 hK
  |some y=>
   obtain⟨as,ob⟩:=y
   rw [hargs]at ha
   obtain⟨hob,ress,h1,h2,h3,rfl⟩:=ha
   refine wa (al:= []) (K:=fun s=>s=(yU (zq o) 0 (zm ress) st).put o.dst (xx (yp τ (zq o) 0 ress))) hτ hpos hdn h ?_ ?_
   ·unfold aop
    rw [hc]
    simp only [hargs]
    exact⟨hob,ress,h1,h2,rfl⟩
   ·rintro st' x w' rfl hrel
    obtain⟨k1,k2⟩:=qy (zq o) (zm ress) 0 st (hf (yz hc)) (by omega)
    exact hK x w' (qM hrel (xT k1 rfl rfl fun k R hR=>by rw [k2];simpa using hR))
 |none=>
  rw [hc]at ha
  simp only at ha
  cases he:qx np τ o st with
  |none=>rw [he]at ha;exact ha.elim
  |some y=>
   obtain⟨δ',ob⟩:=y
   rw [he]at ha
   obtain⟨hob,rfl⟩:=ha
   obtain⟨ow,hd,bk,hr⟩:=h
   obtain⟨st1,v,r1,r2⟩:=Uu hτ hpos hr hf hpf he hob
   exact zA6 hdn r1 r2 hK
end
section
variable {P:Program} {np:Bool} {τ:Ty} {st:St} {ns:Nat→Bool}
def NS (ns:Nat→Bool)(v:AV):Prop:= ∀n∈v.nm,ns n=false
theorem yI {v:AV}(h:v.nm= []):NS ns v:=fun n hn=>by rw [h]at hn;simp at hn
theorem Vb {vs:List AV}(h: ∀v∈vs,NS ns v):NS ns (.agg vs):=fun n hn=>by
 simp only [AV.nm]at hn
 obtain⟨v,hv,hm⟩:=yB.1 hn
 exact h v hv n hm
theorem NS_ar (k:IntKind)(n:Int):NS ns (ar k n).1:=by unfold ar;cases k<;>exact yI rfl
theorem ar_ns {k:IntKind}{n:Int}{v:AV}{ob:Prop}(h:some (ar k n)=some (v,ob)):NS ns v:=by
 have h1:=Option.some.inj h
 have :=NS_ar (ns:=ns) k n
 rw [h1]at this
 exact this
theorem WL {d:Nat}{p:List Nat}{v u:AV}{o o':Prop}(h:onR st d p v o=some (u,o'))(hv:NS ns v):NS ns u:=by
 unfold onR at h
 split at h
 ·cases h;exact hv
 ·cases h
theorem jE {d:Nat}{p:List Nat}{i:Nat}{xs:List D}{c:CK}(h:ns (2*d)=false):NS ns (vZ τ d p i xs c):=by
 cases c with
 |int k=>exact yI rfl
 |bool=>exact yI rfl
 |sl e=>intro n hn;simp only [vZ,AV.nm,List.mem_singleton]at hn;subst hn;exact h
theorem JY {d:Nat}{p:List Nat}{xs:List D}(h:ns (2*d)=false): ∀(cs:List CK) (i:Nat),∀v∈qe τ d p xs i cs,NS ns v
 | [],i,v,hv=>by simp [qe]at hv
 |c::cs,i,v,hv=>by
  simp only [qe,List.mem_cons]at hv
  rcases hv with rfl|hv
  ·exact jE h
  ·exact JY h cs (i+1) v hv
theorem Vr (hf:yG ns st){b:Nat}{cs:List AV}(hb:lk st.b b=some cs): ∀v∈cs,NS ns v:=fun v hv n hn=>hf.b b cs hb n (yB.2 ⟨v,hv,hn⟩)
theorem je (hf:yG ns st){t:TypeId}{v u:AV}{ob:Prop}(hv:NS ns v)(h:qD τ st t v=some (u,ob)):NS ns u:=by
 cases v<;>simp only [qD]at h<;>try(cases h;done)
 ·rename_i d p i
  have hd:ns (2*d)=false:=hv _ (by simp [AV.nm])
  split at h
  ·cases h;exact jE hd
  ·cases h;exact Vb (JY hd _ _)
  ·cases h
 ·rename_i b i
  split at h
  ·rename_i cs _ _ hcs _
   cases h
   rw [List.getD_eq_getElem?_getD]
   cases hx:cs[i]? with
   |none=>exact yI rfl
   |some v=>exact Vr hf hcs v (List.mem_of_getElem? hx)
  ·rename_i cs _ _ _ hcs _
   cases h
   exact Vb fun v hv=>Vr hf hcs v (List.mem_of_mem_drop (List.mem_of_mem_take hv))
  ·cases h
mutual
theorem uI {ds bs:Nat→Bool}: ∀(v:AV),NS ns v→NS ns (v.kill ds bs)
 | .int k n,h=>h
 | .bool b,h=>h
 | .sl d p off len e,h=>by
  simp only [AV.kill];split
  ·exact yI rfl
  ·exact h
 | .nil,h=>h
 | .ep d p i,h=>by
  simp only [AV.kill];split
  ·exact yI rfl
  ·exact h
 | .bp t i,h=>by
  simp only [AV.kill];split
  ·exact yI rfl
  ·exact h
 | .agg vs,h=>fun n hn=>Yz vs (fun n hn=>h n (by simpa only [AV.nm]using hn)) n (by simpa only [AV.kill,AV.nm]using hn)
 | .tup vs,h=>fun n hn=>Yz vs (fun n hn=>h n (by simpa only [AV.nm]using hn)) n (by simpa only [AV.kill,AV.nm]using hn)
 | .fn f vs,h=>fun n hn=>Yz vs (fun n hn=>h n (by simpa only [AV.nm]using hn)) n (by simpa only [AV.kill,AV.nm]using hn)
 | .dead,h=>h
 | .raw u,h=>h
theorem Yz {ds bs:Nat→Bool}: ∀(vs:List AV),(∀n∈AV.nmL vs,ns n=false)→∀n∈AV.nmL (AV.killL ds bs vs),ns n=false
 | [],h,n,hn=>by simp [AV.killL,AV.nmL]at hn
 |v::vs,h,n,hn=>by
  simp only [AV.killL,AV.nmL,List.mem_append]at hn
  rcases hn with hn|hn
  ·exact uI v (fun n hn=>h n (by simp [AV.nmL,hn])) n hn
  ·exact Yz vs (fun n hn=>h n (by simp [AV.nmL,hn])) n hn
end
theorem zBT {np:Bool}{v u:AV}(h:NS ns u):NS ns (qq np st v u):=by
 unfold qq
 split
 ·split
  ·split
   ·exact uI u h
   ·exact h
  ·exact h
 ·exact h
theorem YC {v:AV}{vs:List AV}(h:fieldsOf v=some vs)(hv:NS ns v): ∀u∈vs,NS ns u:=fun u hu n hn=>hv n (YA h n (yB.2 ⟨u,hu,hn⟩))
theorem QN {α:Type}{cells vs:List α}{i:Nat}{x:α}(h:x∈lay cells i vs):x∈cells∨x∈vs:=by
 unfold lay at h
 simp only [List.mem_append]at h
 rcases h with(h|h)|h
 ·exact .inl (List.mem_of_mem_take h)
 ·exact .inr h
 ·exact .inl (List.mem_of_mem_drop h)
theorem jO {fs:List (Nat×TypeId)}: ∀(parts:List (Nat×AV)) (cells us:List AV),(∀v∈cells,NS ns v)→(∀x∈parts,NS ns x.2)→qW τ fs cells parts=some us→∀v∈us,NS ns v
 | [],cells,us,hc,_,h=>by simp only [qW,Option.some.injEq]at h;subst h;exact hc
 |(i,v)::rest,cells,us,hc,hp,h=>by
  simp only [qW]at h
  split at h
  ·rename_i x vs h1 h2
   split at h
   ·refine jO rest _ us (fun u hu=> ?_) (fun x hx=>hp x (by simp [hx])) h
    rcases QN hu with hu|hu
    ·exact hc u hu
    ·exact YC h2 (hp (i,v) (by simp)) u hu
   ·cases h
  ·cases h
theorem zCO (hf:yG ns st){o:Oper}{v:AV}{ob:Prop}(h:xU τ o st=some (v,ob)):NS ns v:=by
 obtain⟨dst,op,ty,pos,after,guard⟩:=o
 have ev': ∀x,NS ns (ev st x):=fun x=>hf.ev x
 unfold xU at h
 cases op<;>simp only at h<;>try(cases h;done)
 case move x=>cases h;exact ev' x
 case assign x=>cases h;exact ev' x
 case nilCheck x=>
  unfold Wy at h
  have hx:=ev' x
  split at h
  ·rename_i t i hev
   rw [hev]at hx
   split at h
   ·cases h;exact hx
   ·cases h
  ·cases h
 case pick c x y=>
  split at h
  ·cases h;split
   ·exact ev' x
   ·exact ev' y
  ·cases h
 case load t x=>exact je hf (ev' x) h
 case fieldAddr t x f=>
  unfold vz at h
  have hx:=ev' x
  split at h
  ·split at h
   ·cases hv:ev st x<;>rw [hv]at h<;>rw [hv]at hx<;>simp only at h<;>try(cases h;done)
    ·exact WL h (fun n hn=>hx n (by simpa [AV.nm]using hn))
    ·split at h
     ·cases h;exact fun n hn=>hx n (by simpa [AV.nm]using hn)
     ·cases h
   ·cases h
  ·cases h
 case indexAddr t x ix=>
  unfold wA at h
  have hx:=ev' x
  split at h
  ·cases hv:ev st x<;>rw [hv]at h<;>rw [hv]at hx<;>(try simp only at h)<;>try(cases h;done)
   cases hi:ev st ix<;>rw [hi]at h<;>(try simp only at h)<;>try(cases h;done)
   split at h
   ·exact WL h (fun n hn=>hx n (by simpa [AV.nm]using hn))
   ·cases h
  ·cases h
 case field t x f=>
  have hx:=ev' x
  obtain⟨us,k,e1,e2⟩:=Qo h
  rw [e1]at hx
  exact fun n hn=>hx n (by simp only [AV.nm];exact yB.2 ⟨_,List.mem_of_getElem? e2,hn⟩)
 case extract x i=>
  have hx:=ev' x
  cases hv:ev st x<;>rw [hv]at h<;>rw [hv]at hx<;>simp only at h<;>try(cases h;done)
  rename_i vs
  cases hi:vs[i]? with
  |none=>rw [hi]at h;cases h
  |some u=>
   rw [hi]at h;cases h
   exact fun n hn=>hx n (by simp only [AV.nm];exact yB.2 ⟨_,List.mem_of_getElem? hi,hn⟩)
 case binOp op t x y r=>
  split at h
  ·rcases JU h with⟨k,n,rfl⟩|⟨b,rfl⟩<;>exact yI rfl
  ·unfold QK at h
   split at h
   ·split at h<;>cases h<;>exact yI rfl
   ·cases h
  ·rcases JQ h with⟨b,rfl⟩;exact yI rfl
  ·cases h
 case unOp op t x=>
  unfold unE at h
  split at h
  ·exact ar_ns h
  ·cases h;exact yI rfl
  ·cases h
 case build t parts=>
  unfold YT at h
  split at h
  ·rename_i ks fs b ht
   cases hfl:qW τ fs (ks.map vS) (parts.toList.map fun x=>(x.1,ev st x.2))with
   |none=>rw [hfl]at h;cases h
   |some us=>
    rw [hfl]at h;cases h
    refine Vb (jO _ _ _ (fun v hv=> ?_) (fun x hx=> ?_) hfl)
    ·obtain⟨c,_,rfl⟩:=List.mem_map.1 hv
     cases c<;>exact yI rfl
    ·obtain⟨y,_,rfl⟩:=List.mem_map.1 hx
     exact ev' _
  ·cases h
 case convert s d x=>
  split at h
  ·rcases Ku h with⟨k,n,rfl⟩<;>exact yI rfl
  ·cases h
 case slice t x l u m=>
  split at h
  ·unfold wE at h
   have hx:=ev' x
   split at h
   ·cases hv:ev st x<;>rw [hv]at h<;>rw [hv]at hx<;>simp only at h<;>try(cases h;done)
    split at h
    ·split at h
     ·exact WL h (fun n hn=>hx n (by simpa [AV.nm]using hn))
     ·cases h
    ·cases h
   ·cases h
  ·cases h
 case call c=>
  unfold qv at h
  split at h
  ·split at h
   ·split at h
    ·unfold XB at h
     split at h
     ·exact WL h (yI rfl)
     ·cases h;exact yI rfl
     ·cases h
    ·cases h
   ·unfold Wu at h
    split at h
    ·cases h;exact yI rfl
    ·cases h
   ·unfold Ww at h
    split at h
    ·cases h;exact yI rfl
    ·cases h
   ·unfold QQ at h
    split at h
    ·cases h;exact yI rfl
    ·cases h
   ·cases h
  ·cases h
theorem ZG (t:Nat)(ho: ∀n,own t n=true→ns n=false): ∀(ds:List D) (j:Nat),j+ds.length≤16→∀v∈yH τ t j ds,NS ns v
 | [],j,_,v,hv=>by simp [yH]at hv
 | .lst e xs::ds,j,hl,v,hv=>by
  simp only [List.length_cons]at hl
  simp only [yH,List.mem_cons]at hv
  rcases hv with rfl|hv
  ·intro n hn
   simp only [AV.nm,List.mem_singleton]at hn
   subst hn
   exact ho _ (yM (by omega))
  ·exact ZG t ho ds (j+1) (by omega) v hv
 | .int k n::ds,j,hl,v,hv=>by
  simp only [List.length_cons]at hl
  simp only [yH,List.mem_cons]at hv
  rcases hv with rfl|hv
  ·exact yI rfl
  ·exact ZG t ho ds (j+1) (by omega) v hv
 | .bool b::ds,j,hl,v,hv=>by
  simp only [List.length_cons]at hl
  simp only [yH,List.mem_cons]at hv
  rcases hv with rfl|hv
  ·exact yI rfl
  ·exact ZG t ho ds (j+1) (by omega) v hv
 | .hole::ds,j,hl,v,hv=>by
  simp only [List.length_cons]at hl
  simp only [yH,List.mem_cons]at hv
  rcases hv with rfl|hv
  ·exact yI rfl
  ·exact ZG t ho ds (j+1) (by omega) v hv
theorem ZI (t:Nat)(ho: ∀n,own t n=true→ns n=false): ∀(xs:List VT) (j:Nat),j+(zm xs).length≤16→∀v∈yp τ t j xs,NS ns v
 | [],j,_,v,hv=>by simp [yp]at hv
 | .c d::xs,j,hl,v,hv=>by
  simp only [zm,VT.cells,List.length_append,List.length_cons,List.length_nil]at hl
  simp only [yp,List.mem_cons]at hv
  rcases hv with rfl|hv
  ·have :=ZG (τ:=τ) t ho [d] j (by simp only [List.length_cons,List.length_nil];omega)
   cases hr:yH τ t j [d]with
   |nil=>exact yI rfl
   |cons y ys=>rw [hr]at this;exact this y (by simp)
  ·exact ZI t ho xs (j+1) (by omega) v hv
 | .agg ds::xs,j,hl,v,hv=>by
  simp only [zm,VT.cells,List.length_append]at hl
  simp only [yp,List.mem_cons]at hv
  rcases hv with rfl|hv
  ·exact Vb (ZG t ho ds j (by omega))
  ·exact ZI t ho xs (j+ds.length) (by omega) v hv
 | .fn f ds::xs,j,hl,v,hv=>by
  simp only [zm,VT.cells,List.length_append]at hl
  simp only [yp,List.mem_cons]at hv
  rcases hv with rfl|hv
  ·exact yI rfl
  ·exact ZI t ho xs (j+ds.length) (by omega) v hv
theorem uA (hf:yG ns st){o:Oper}{δ:Dl}(ho:ye np o=true→∀n,own (zq o) n=true→ns n=false)(ha:qn P np τ o st δ):NS ns δ.v∧∀x∈δ.bx,∀v∈x.2,NS ns v:=by
 have sl: ∀{t:Nat} {len:Nat} {e:TypeId},(∀n,own t n=true→ns n=false)→NS ns (.sl (zX t 0) [] 0 len e):=fun{t len e} h n hn=>by
  simp only [AV.nm,List.mem_singleton]at hn;subst hn;exact h _ (yM (by omega))
 unfold qn at ha
 rcases ha with ha|ha|ha
 ·obtain⟨-,-,h3,-,h5,-⟩:=ha
  refine⟨?_,fun x hx=>by rw [h5]at hx;simp at hx⟩
  rcases h3 with⟨k,m,h3⟩|⟨f,xs,h3,-⟩<;>rw [h3]<;>intro n hn
  ·simp [AV.nm]at hn
  ·simp only [AV.nm]at hn
   obtain⟨v,hv,hm⟩:=yB.1 hn
   obtain⟨x,-,rfl⟩:=List.mem_map.1 hv
   exact hf.ev x n hm
 ·unfold Wb at ha
  cases hc:zv o with
  |none=>rw [hc]at ha;exact ha.elim
  |some x=>
   obtain⟨f,args,ts⟩:=x
   rw [hc]at ha
   simp only at ha
   split at ha
   ·rename_i as ob us vs hargs hevs
    obtain⟨hob,pm,ress,hfn,hpm,hsz,hlen,rfl⟩:=ha
    refine⟨?_,fun x hx=>by simp at hx⟩
    obtain⟨x0,hv0⟩: ∃x0,ev st x0= .agg us:=by
     cases hal:args.toList with
     |nil=>rw [hal]at hevs;simp at hevs
     |cons x0 xs=>
      rw [hal]at hevs
      simp only [List.map_cons,List.cons.injEq]at hevs
      exact⟨x0,hevs.1⟩
    have hu:=hf.ev x0
    rw [hv0]at hu
    have hr:=ZI (τ:=τ) (zq o) (ho (yz hc)) [.agg ress] 0 (by simpa only [zm,VT.cells,List.append_nil,Nat.zero_add]using hlen)
    have hr2:=hr _ List.mem_cons_self
    intro n hn
    simp only [AV.nm]at hn
    obtain⟨v,hv,hm⟩:=yB.1 hn
    rcases List.mem_append.1 hv with hv|hv
    ·obtain⟨i,hi,rfl⟩:=List.mem_map.1 hv
     have hil:=hpm i hi
     refine hu n ?_
     simp only [AV.nm]
     refine yB.2 ⟨us.getD i .dead,?_,hm⟩
     rw [List.getD_eq_getElem?_getD,List.getElem?_eq_getElem hil]
     exact List.getElem_mem hil
    ·refine hr2 n ?_
     simp only [AV.nm]
     exact yB.2 ⟨v,hv,hm⟩
   ·exact ha.elim
 cases hc:zv o with
 |some x=>
  obtain⟨f,args,ts⟩:=x
  rw [hc]at ha
  simp only at ha
  cases hargs:yV τ st ts.toList (args.toList.map (ev st))with
  |none=>
   rw [hargs]at ha
   have hab:=ha.2
   unfold Yl at hab
   split at hab
   rotate_left
   ·exact hab.elim
   rename_i f' as T cells ds ob hact
   obtain⟨-,ds',ress,-,-,h3,rfl⟩:=hab
   have hT:lk st.b T=some cells:=by
    unfold vu at hact
    rw [hc]at hact
    simp only at hact
    split at hact
    ·rename_i T' vs hvs
     cases hT:lk st.b T' with
     |none=>rw [hT]at hact;cases hact
     |some cells'=>
      rw [hT]at hact
      simp only at hact
      split at hact
      ·simp only [Option.some.injEq,Prod.mk.injEq]at hact
       obtain⟨rfl,rfl,rfl,rfl,rfl,rfl⟩:=hact
       exact hT
      ·cases hact
    ·cases hact
   refine⟨?_,fun x hx=> ?_⟩
   ·have hr:=ZI (τ:=τ) (zq o) (ho (yz hc)) ress 0 (by omega)
    unfold xx
    split
    ·rename_i v hv;rw [hv]at hr;exact hr v (by simp)
    ·intro n hn
     simp only [AV.nm]at hn
     obtain⟨v,hv,hm⟩:=yB.1 hn
     exact hr v hv n hm
   ·simp only [List.mem_singleton]at hx;subst hx
    intro v hv
    rcases XG hv with hv|⟨k,m,rfl⟩|⟨b,rfl⟩
    ·exact Vr hf hT v hv
    ·exact yI rfl
    ·exact yI rfl
  |some y=>
   rw [hargs]at ha
   obtain⟨hob,ress,h1,h2,h3,rfl⟩:=ha
   refine⟨?_,fun x hx=>by simp at hx⟩
   have hr:=ZI (τ:=τ) (zq o) (ho (yz hc)) ress 0 (by omega)
   unfold xx
   split
   ·rename_i v hv;rw [hv]at hr;exact hr v (by simp)
   ·intro n hn
    simp only [AV.nm]at hn
    obtain⟨v,hv,hm⟩:=yB.1 hn
    exact hr v hv n hm
 |none=>
  rw [hc]at ha
  simp only at ha
  cases he:qx np τ o st with
  |none=>rw [he]at ha;exact ha.elim
  |some y=>
   obtain⟨δ',ob⟩:=y
   rw [he]at ha
   obtain⟨hob,rfl⟩:=ha
   clear hob hc
   have plain:((xU τ o st).map fun y=>((⟨y.1,[],[],[]⟩:Dl),y.2))=some (δ,ob)→NS ns δ.v∧∀x∈δ.bx,∀v∈x.2,NS ns v:=fun he=>by
    cases hv:xU τ o st with
    |none=>rw [hv]at he;cases he
    |some y=>rw [hv]at he;cases he;exact⟨zCO hf hv,fun x hx=>by simp at hx⟩
   obtain⟨dst,op,ty,pos,after,guard⟩:=o
   unfold qx at he
   cases op<;>simp only at he
   case box e x=>
    split at he
    ·rename_i t vs hvs
     cases he
     refine⟨fun n hn=> ?_,fun x hx=> ?_⟩
     ·simp only [AV.nm,List.mem_singleton]at hn;subst hn;exact ho rfl _ JB
     ·simp only [List.mem_singleton]at hx;subst hx;exact YC hvs (hf.ev _)
    ·cases he
   case alloc e=>
    split at he
    ·rename_i t k b ht
     cases he
     refine⟨fun n hn=> ?_,fun x hx=> ?_⟩
     ·simp only [AV.nm,List.mem_singleton]at hn;subst hn;exact ho rfl _ JB
     ·simp only [List.mem_singleton]at hx;subst hx
      intro v hv
      obtain⟨c,_,rfl⟩:=List.mem_map.1 hv
      cases c<;>exact yI rfl
    ·cases he
   case makeSlice t l c=>
    split at he
    ·unfold XF at he
     split at he
     ·split at he
      ·split at he
       ·cases he;exact⟨sl (ho rfl),fun x hx=>by simp at hx⟩
       ·cases he
      ·cases he
     ·cases he
    ·cases he
   case buildSlice t len parts=>
    split at he
    ·rcases yK he with he|he
     ·unfold VK at he
      split at he
      ·split at he
       ·split at he
        ·cases he;exact⟨sl (ho rfl),fun x hx=>by simp at hx⟩
        ·cases he
       ·cases he
      ·cases he
     ·rcases yK he with he|he
      ·unfold YF at he
       split at he
       ·split at he
        ·split at he
         ·split at he
          ·cases he;exact⟨sl (ho rfl),fun x hx=>by simp at hx⟩
          ·cases he
         ·cases he
        ·cases he
       ·cases he
      ·unfold YG at he
       split at he
       ·split at he
        ·split at he
         ·rename_i R _ _ hR _
          split at he
          ·cases he;exact⟨sl (ho rfl),fun x hx=>by simp at hx⟩
          ·cases he
         ·cases he
        ·cases he
       ·cases he
    ·cases he
   case load t x=>
    rcases yK he with he|he
    ·unfold vb at he
     split at he
     ·split at he
      ·split at he
       ·rename_i hc;cases he;exact⟨sl (ho hc.1),fun x hx=>by simp at hx⟩
       ·cases he
      ·cases he
     ·cases he
    unfold ZB at he
    cases hv:qD τ st t (ev st x)with
    |none=>rw [hv]at he;cases he
    |some y=>rw [hv]at he;cases he;exact⟨zBT (je hf (hf.ev x) hv),fun x hx=>by simp at hx⟩
   case store t p x=>
    rcases yK he with he|he
    rotate_left
    ·split at he
     ·cases hp:ev st p<;>rw [hp]at he<;>simp only [vY]at he<;>try(cases he;done)
      rename_i d q i
      cases q with
      |cons _ _=>simp at he
      |nil=>
       simp only at he
       split at he
       ·split at he
        ·split at he
         ·cases he;exact⟨yI rfl,fun x hx=>by simp at hx⟩
         ·cases he
        ·cases he
       ·cases he
     ·cases he
    cases hp:ev st p<;>rw [hp]at he<;>simp only [qT]at he<;>try(cases he;done)
    ·split at he
     ·split at he
      ·split at he
       ·cases he;exact⟨yI rfl,fun x hx=>by simp at hx⟩
       ·cases he;exact⟨yI rfl,fun x hx=>by simp at hx⟩
       ·cases he
      ·cases he
     ·cases he
    ·split at he
     ·rename_i vs cells hvs hcells
      split at he
      ·cases he
       refine⟨yI rfl,fun x hx=> ?_⟩
       simp only [List.mem_singleton]at hx;subst hx
       intro v hv
       rcases QN hv with hv|hv
       ·exact Vr hf hcells v hv
       ·exact YC hvs (hf.ev _) v hv
      ·cases he
     ·cases he
   case call c=>
    obtain⟨callee,args,argTypes⟩:=c
    simp only at he
    split at he
    ·split at he
     ·split at he
      ·have h1:=ho rfl
       rcases yK he with he|he
       ·unfold Zv at he
        split at he
        ·split at he
         ·split at he
          ·split at he
           ·unfold wH at he
            split at he
            ·cases he;exact⟨sl h1,fun x hx=>by simp at hx⟩
            ·split at he
             ·split at he
              ·cases he;exact⟨sl h1,fun x hx=>by simp at hx⟩
              ·cases he
             ·cases he
            ·cases he
           ·cases he
          ·cases he
         ·cases he
        ·cases he
       ·unfold Zw at he
        split at he
        ·split at he
         ·split at he
          ·split at he
           ·unfold wI at he
            split at he
            ·cases he;exact⟨sl h1,fun x hx=>by simp at hx⟩
            ·split at he
             ·split at he
              ·cases he;exact⟨sl h1,fun x hx=>by simp at hx⟩
              ·cases he
             ·cases he
            ·cases he
           ·cases he
          ·cases he
         ·cases he
        ·cases he
      ·cases he
     ·cases he
    ·exact plain he
   all_goals exact plain he
theorem VG (hf:yG ns st){d:Option Tmp}{δ:Dl}(h:NS ns δ.v∧∀x∈δ.bx,∀v∈x.2,NS ns v):yG ns (st.app d δ):=by
 refine⟨fun k v hv=> ?_,fun k cs hc=> ?_⟩
 ·rw [vx]at hv
  split at hv
  ·cases hv;exact h.1
  ·exact hf.s k v hv
 ·rw [vD]at hc
  cases hx:lk δ.bx k with
  |some cs'=>
   rw [hx]at hc
   simp only [Option.some_or,Option.some.injEq]at hc
   subst hc
   intro n hn
   obtain⟨v,hv,hm⟩:=yB.1 hn
   exact h.2 _ (QO hx) v hv n hm
  |none=>rw [hx]at hc;simp only [Option.none_or]at hc;exact hf.b k cs hc
theorem KA {all:List Oper}(hf:yG ns st){o:Oper}{δ:Dl}(ho:ye np o=true→∀n,own (zq o) n=true→ns n=false)(ha:xq P np τ all o st δ):yG ns (st.app o.dst δ):=by
 have skip:yG ns (st.app o.dst Dl.skip):=VG hf ⟨yI rfl,fun x hx=>by simp [Dl.skip]at hx⟩
 unfold xq at ha
 split at ha
 ·exact VG hf (uA hf ho ha)
 ·rename_i j want _
  split at ha
  ·rename_i b _
   by_cases e:b=want
   ·exact VG hf (uA hf ho (ha.1 e))
   ·have :=ha.2 (by cases b<;>cases want<;>simp_all);subst this;exact skip
  ·subst ha;exact skip
  ·exact ha.elim
end
structure wt (ns:Nat→Bool)(st:St):Prop where
 s: ∀k v,lk st.s k=some v→∀n∈v.pm,ns n=false
 b: ∀k cs,lk st.b k=some cs→∀n∈AV.pmL cs,ns n=false
theorem Us (v:Value):(cv1 v).pm= []:=by unfold cv1;split<;>rfl
theorem cv_pm (v:Value):(cv v).pm= []:=by
 unfold cv
 split
 ·rename_i cs
  simp only [AV.pm]
  rw [List.eq_nil_iff_forall_not_mem]
  intro n hn
  obtain⟨v,hv,hm⟩:=xp.1 hn
  obtain⟨x,_,rfl⟩:=List.mem_map.1 hv
  rw [Us]at hm
  simp at hm
 ·exact Us _
theorem wt.ev {ns:Nat→Bool}{st:St}(h:wt ns st)(x:Operand): ∀n∈(ev st x).pm,ns n=false:=by
 intro n hn
 cases x with
 |tmp t=>
  simp only [Go.Proofs.Ythepmdkpbjfdcaa.ev]at hn
  cases hx:lk st.s t with
  |none=>rw [hx]at hn;simp [AV.pm]at hn
  |some v=>rw [hx]at hn;exact h.s t v hx n hn
 |const v=>simp only [Go.Proofs.Ythepmdkpbjfdcaa.ev,cv_pm]at hn;simp at hn
 |func f=>simp [Go.Proofs.Ythepmdkpbjfdcaa.ev,AV.pm,AV.pmL]at hn
 |global g=>simp [Go.Proofs.Ythepmdkpbjfdcaa.ev,AV.pm]at hn
theorem KU {n d:Nat}{p:List Nat}{off len:Nat}{e:TypeId}(h:n∈(AV.sl d p off len e).pm):n=d:=by
 cases p<;>simp [AV.pm]at h;exact h
theorem UO {n d:Nat}{p:List Nat}{i:Nat}(h:n∈(AV.ep d p i).pm):n=d:=by
 cases p<;>simp [AV.pm]at h;exact h
theorem kU {v:AV}{vs:List AV}(h:fieldsOf v=some vs): ∀n,n∈AV.pmL vs→n∈v.pm:=by
 intro n hn
 cases v<;>simp only [fieldsOf]at h<;>cases h<;>(try simp only [AV.pmL,List.append_nil]at hn)<;>first|exact hn|(simp only [AV.pm]at hn⊢;exact hn)
mutual
theorem zBv : ∀(v:AV) (n:Nat),n∈v.pm→2*n∈v.nm
 | .int k m,n,h=>by simp [AV.pm]at h
 | .bool b,n,h=>by simp [AV.pm]at h
 | .sl d p off len e,n,h=>by have :=KU h;subst this;simp [AV.nm]
 | .nil,n,h=>by simp [AV.pm]at h
 | .ep d p i,n,h=>by have :=UO h;subst this;simp [AV.nm]
 | .bp t i,n,h=>by simp [AV.pm]at h
 | .agg vs,n,h=>by simp only [AV.pm,AV.nm]at h⊢;exact Yf vs n h
 | .tup vs,n,h=>by simp only [AV.pm,AV.nm]at h⊢;exact Yf vs n h
 | .fn f vs,n,h=>by simp only [AV.pm,AV.nm]at h⊢;exact Yf vs n h
 | .dead,n,h=>by simp [AV.pm]at h
 | .raw u,n,h=>by simp [AV.pm]at h
theorem Yf : ∀(vs:List AV) (n:Nat),n∈AV.pmL vs→2*n∈AV.nmL vs
 | [],n,h=>by simp [AV.pmL]at h
 |v::vs,n,h=>by
  simp only [AV.pmL,AV.nmL,List.mem_append]at h⊢
  rcases h with h|h
  ·exact .inl (zBv v n h)
  ·exact .inr (Yf vs n h)
end
mutual
theorem uJ {ds bs:Nat→Bool}: ∀(v:AV) (n:Nat),n∈(v.kill ds bs).pm→ds n=false
 | .int k m,n,h=>by simp [AV.kill,AV.pm]at h
 | .bool b,n,h=>by simp [AV.kill,AV.pm]at h
 | .sl d p off len e,n,h=>by
  simp only [AV.kill]at h
  split at h
  ·simp [AV.pm]at h
  ·rename_i hd;have :=KU h;subst this;simpa using hd
 | .nil,n,h=>by simp [AV.kill,AV.pm]at h
 | .ep d p i,n,h=>by
  simp only [AV.kill]at h
  split at h
  ·simp [AV.pm]at h
  ·rename_i hd;have :=UO h;subst this;simpa using hd
 | .bp t i,n,h=>by simp only [AV.kill]at h;split at h<;>simp [AV.pm]at h
 | .agg vs,n,h=>by simp only [AV.kill,AV.pm]at h;exact XA vs n h
 | .tup vs,n,h=>by simp only [AV.kill,AV.pm]at h;exact XA vs n h
 | .fn f vs,n,h=>by simp only [AV.kill,AV.pm]at h;exact XA vs n h
 | .dead,n,h=>by simp [AV.kill,AV.pm]at h
 | .raw u,n,h=>by simp [AV.kill,AV.pm]at h
theorem XA {ds bs:Nat→Bool}: ∀(vs:List AV) (n:Nat),n∈AV.pmL (AV.killL ds bs vs)→ds n=false
 | [],n,h=>by simp [AV.killL,AV.pmL]at h
 |v::vs,n,h=>by
  simp only [AV.killL,AV.pmL,List.mem_append]at h
  rcases h with h|h
  ·exact uJ v n h
  ·exact XA vs n h
end
section
variable {P:Program} {τ:Ty} {st:St} {ns:Nat→Bool}
def NSp (ns:Nat→Bool)(v:AV):Prop:= ∀n∈v.pm,ns n=false
mutual
theorem Wo {ds bs:Nat→Bool}: ∀(v:AV),NSp ns v→NSp ns (v.kill ds bs)
 | .int k n,h=>h
 | .bool b,h=>h
 | .sl d p off len e,h=>by
  simp only [AV.kill];split
  ·intro n hn;simp [AV.pm]at hn
  ·exact h
 | .nil,h=>h
 | .ep d p i,h=>by
  simp only [AV.kill];split
  ·intro n hn;simp [AV.pm]at hn
  ·exact h
 | .bp t i,h=>by
  simp only [AV.kill];split
  ·intro n hn;simp [AV.pm]at hn
  ·exact h
 | .agg vs,h=>fun n hn=>Yy vs (fun n hn=>h n (by simpa only [AV.pm]using hn)) n (by simpa only [AV.kill,AV.pm]using hn)
 | .tup vs,h=>fun n hn=>Yy vs (fun n hn=>h n (by simpa only [AV.pm]using hn)) n (by simpa only [AV.kill,AV.pm]using hn)
 | .fn f vs,h=>fun n hn=>Yy vs (fun n hn=>h n (by simpa only [AV.pm]using hn)) n (by simpa only [AV.kill,AV.pm]using hn)
 | .dead,h=>h
 | .raw u,h=>h
theorem Yy {ds bs:Nat→Bool}: ∀(vs:List AV),(∀n∈AV.pmL vs,ns n=false)→∀n∈AV.pmL (AV.killL ds bs vs),ns n=false
 | [],h,n,hn=>by simp [AV.killL,AV.pmL]at hn
 |v::vs,h,n,hn=>by
  simp only [AV.killL,AV.pmL,List.mem_append]at hn
  rcases hn with hn|hn
  ·exact Wo v (fun n hn=>h n (by simp [AV.pmL,hn])) n hn
  ·exact Yy vs (fun n hn=>h n (by simp [AV.pmL,hn])) n hn
end
theorem zBS {np:Bool}{v u:AV}(h:NSp ns u):NSp ns (qq np st v u):=by
 unfold qq
 split
 ·split
  ·split
   ·exact Wo u h
   ·exact h
  ·exact h
 ·exact h
theorem yJ {v:AV}(h:v.pm= []):NSp ns v:=fun n hn=>by rw [h]at hn;simp at hn
theorem QD {vs:List AV}(h: ∀v∈vs,NSp ns v):NSp ns (.agg vs):=fun n hn=>by
 simp only [AV.pm]at hn
 obtain⟨v,hv,hm⟩:=xp.1 hn
 exact h v hv n hm
theorem zC9 (k:IntKind)(n:Int):NSp ns (ar k n).1:=by unfold ar;cases k<;>exact yJ rfl
theorem ar_np {k:IntKind}{n:Int}{v:AV}{ob:Prop}(h:some (ar k n)=some (v,ob)):NSp ns v:=by
 have h1:=Option.some.inj h
 have :=zC9 (ns:=ns) k n
 rw [h1]at this
 exact this
theorem WK {d:Nat}{p:List Nat}{v u:AV}{o o':Prop}(h:onR st d p v o=some (u,o'))(hv:NSp ns v):NSp ns u:=by
 unfold onR at h
 split at h
 ·cases h;exact hv
 ·cases h
theorem jD {d:Nat}{p:List Nat}{i:Nat}{xs:List D}{c:CK}(h:ns d=false):NSp ns (vZ τ d p i xs c):=by
 cases c with
 |int k=>exact yJ rfl
 |bool=>exact yJ rfl
 |sl e=>intro n hn;simp only [vZ]at hn;have :=KU hn;subst this;exact h
theorem JX {d:Nat}{p:List Nat}{xs:List D}(h:ns d=false): ∀(cs:List CK) (i:Nat),∀v∈qe τ d p xs i cs,NSp ns v
 | [],i,v,hv=>by simp [qe]at hv
 |c::cs,i,v,hv=>by
  simp only [qe,List.mem_cons]at hv
  rcases hv with rfl|hv
  ·exact jD h
  ·exact JX h cs (i+1) v hv
theorem Kz (hf:wt ns st){b:Nat}{cs:List AV}(hb:lk st.b b=some cs): ∀v∈cs,NSp ns v:=fun v hv n hn=>hf.b b cs hb n (xp.2 ⟨v,hv,hn⟩)
theorem zBL (hf:wt ns st){t:TypeId}{v u:AV}{ob:Prop}(hv:NSp ns v)(h:qD τ st t v=some (u,ob))(hex: ∀d p i R,v= .ep d p i→lk st.r d=some R→ns d=true→R.o= .ex∧∀n,ns n=true→n=d):NSp ns (qq true st v u):=by
 cases v<;>simp only [qD]at h<;>try(cases h;done)
 ·rename_i d p i
  cases hR:lk st.r d with
  |none=>rw [hR]at h;cases h
  |some R=>
   rw [hR]at h
   have key:(ns d=false→NSp ns u)→NSp ns (qq true st (.ep d p i) u):=fun hu=>by
    simp only [qq,hR]
    by_cases hd:ns d=false
    ·split
     ·exact Wo u (hu hd)
     ·exact hu hd
    ·obtain⟨e1,e2⟩:=hex d p i R rfl hR (by simpa using hd)
     rw [if_pos ⟨trivial,by rw [e1];rfl⟩]
     intro n hn
     have h1:=uJ u n hn
     cases hns:ns n with
     |false=>rfl
     |true=>have :=e2 n hns;subst this;simp [is1]at h1
   refine key fun hd=> ?_
   cases ht:tk τ t with
   |none=>rw [ht]at h;cases h
   |some y=>
    obtain⟨K,by_⟩:=y
    rw [ht]at h
    cases K with
    |sc c=>simp only [Option.some.injEq,Prod.mk.injEq]at h;rw [←h.1];exact jD hd
    |st ks fs=>simp only [Option.some.injEq,Prod.mk.injEq]at h;rw [←h.1];exact QD (JX hd _ _)
 ·rename_i b i
  refine zBS ?_
  split at h
  ·rename_i cs _ _ hcs _
   cases h
   rw [List.getD_eq_getElem?_getD]
   cases hx:cs[i]? with
   |none=>exact yJ rfl
   |some v=>exact Kz hf hcs v (List.mem_of_getElem? hx)
  ·rename_i cs _ _ _ hcs _
   cases h
   exact QD fun v hv=>Kz hf hcs v (List.mem_of_mem_drop (List.mem_of_mem_take hv))
  ·cases h
theorem YB {v:AV}{vs:List AV}(h:fieldsOf v=some vs)(hv:NSp ns v): ∀u∈vs,NSp ns u:=fun u hu n hn=>hv n (kU h n (xp.2 ⟨u,hu,hn⟩))
theorem jN {fs:List (Nat×TypeId)}: ∀(parts:List (Nat×AV)) (cells us:List AV),(∀v∈cells,NSp ns v)→(∀x∈parts,NSp ns x.2)→qW τ fs cells parts=some us→∀v∈us,NSp ns v
 | [],cells,us,hc,_,h=>by simp only [qW,Option.some.injEq]at h;subst h;exact hc
 |(i,v)::rest,cells,us,hc,hp,h=>by
  simp only [qW]at h
  split at h
  ·rename_i x vs h1 h2
   split at h
   ·refine jN rest _ us (fun u hu=> ?_) (fun x hx=>hp x (by simp [hx])) h
    rcases QN hu with hu|hu
    ·exact hc u hu
    ·exact YB h2 (hp (i,v) (by simp)) u hu
   ·cases h
  ·cases h
theorem zCN (hf:wt ns st){o:Oper}(hnl: ∀t x,o.op≠ .load t x){v:AV}{ob:Prop}(h:xU τ o st=some (v,ob)):NSp ns v:=by
 obtain⟨dst,op,ty,pos,after,guard⟩:=o
 have ev': ∀x,NSp ns (ev st x):=fun x=>hf.ev x
 unfold xU at h
 cases op<;>simp only at h<;>try(cases h;done)
 case load t x=>exact absurd rfl (hnl t x)
 case move x=>cases h;exact ev' x
 case assign x=>cases h;exact ev' x
 case nilCheck x=>
  unfold Wy at h
  have hx:=ev' x
  split at h
  ·rename_i t i hev
   rw [hev]at hx
   split at h
   ·cases h;exact hx
   ·cases h
  ·cases h
 case pick c x y=>
  split at h
  ·cases h;split
   ·exact ev' x
   ·exact ev' y
  ·cases h
 case fieldAddr t x f=>
  unfold vz at h
  have hx:=ev' x
  split at h
  ·split at h
   ·cases hv:ev st x<;>rw [hv]at h<;>rw [hv]at hx<;>simp only at h<;>try(cases h;done)
    ·exact WK h (fun n hn=>hx n (by simpa [AV.pm]using hn))
    ·split at h
     ·cases h;exact fun n hn=>hx n (by simp [AV.pm]at hn)
     ·cases h
   ·cases h
  ·cases h
 case indexAddr t x ix=>
  unfold wA at h
  have hx:=ev' x
  split at h
  ·cases hv:ev st x<;>rw [hv]at h<;>rw [hv]at hx<;>(try simp only at h)<;>try(cases h;done)
   cases hi:ev st ix<;>rw [hi]at h<;>(try simp only at h)<;>try(cases h;done)
   split at h
   ·exact WK h (fun n hn=>hx n (by simpa [AV.pm]using hn))
   ·cases h
  ·cases h
 case field t x f=>
  have hx:=ev' x
  obtain⟨us,k,e1,e2⟩:=Qo h
  rw [e1]at hx
  exact fun n hn=>hx n (by simp only [AV.pm];exact xp.2 ⟨_,List.mem_of_getElem? e2,hn⟩)
 case extract x i=>
  have hx:=ev' x
  cases hv:ev st x<;>rw [hv]at h<;>rw [hv]at hx<;>simp only at h<;>try(cases h;done)
  rename_i vs
  cases hi:vs[i]? with
  |none=>rw [hi]at h;cases h
  |some u=>
   rw [hi]at h;cases h
   exact fun n hn=>hx n (by simp only [AV.pm];exact xp.2 ⟨_,List.mem_of_getElem? hi,hn⟩)
 case binOp op t x y r=>
  split at h
  ·rcases JU h with⟨k,n,rfl⟩|⟨b,rfl⟩<;>exact yJ rfl
  ·unfold QK at h
   split at h
   ·split at h<;>cases h<;>exact yJ rfl
   ·cases h
  ·rcases JQ h with⟨b,rfl⟩;exact yJ rfl
  ·cases h
 case unOp op t x=>
  unfold unE at h
  split at h
  ·exact ar_np h
  ·cases h;exact yJ rfl
  ·cases h
 case build t parts=>
  unfold YT at h
  split at h
  ·rename_i ks fs b ht
   cases hfl:qW τ fs (ks.map vS) (parts.toList.map fun x=>(x.1,ev st x.2))with
   |none=>rw [hfl]at h;cases h
   |some us=>
    rw [hfl]at h;cases h
    refine QD (jN _ _ _ (fun v hv=> ?_) (fun x hx=> ?_) hfl)
    ·obtain⟨c,_,rfl⟩:=List.mem_map.1 hv
     cases c<;>exact yJ rfl
    ·obtain⟨y,_,rfl⟩:=List.mem_map.1 hx
     exact ev' _
  ·cases h
 case convert s d x=>
  split at h
  ·rcases Ku h with⟨k,n,rfl⟩<;>exact yJ rfl
  ·cases h
 case slice t x l u m=>
  split at h
  ·unfold wE at h
   have hx:=ev' x
   split at h
   ·cases hv:ev st x<;>rw [hv]at h<;>rw [hv]at hx<;>simp only at h<;>try(cases h;done)
    split at h
    ·split at h
     ·exact WK h (fun n hn=>hx n (by simpa [AV.pm]using hn))
     ·cases h
    ·cases h
   ·cases h
  ·cases h
 case call c=>
  unfold qv at h
  split at h
  ·split at h
   ·split at h
    ·unfold XB at h
     split at h
     ·exact WK h (yJ rfl)
     ·cases h;exact yJ rfl
     ·cases h
    ·cases h
   ·unfold Wu at h
    split at h
    ·cases h;exact yJ rfl
    ·cases h
   ·unfold Ww at h
    split at h
    ·cases h;exact yJ rfl
    ·cases h
   ·unfold QQ at h
    split at h
    ·cases h;exact yJ rfl
    ·cases h
   ·cases h
  ·cases h
theorem ZH (t:Nat): ∀(ds:List D) (j:Nat),∀v∈yH τ t j ds,v.pm= []
 | [],j,v,hv=>by simp [yH]at hv
 | .lst e xs::ds,j,v,hv=>by
  simp only [yH,List.mem_cons]at hv
  rcases hv with rfl|hv
  ·rfl
  ·exact ZH t ds (j+1) v hv
 | .int k n::ds,j,v,hv=>by
  simp only [yH,List.mem_cons]at hv
  rcases hv with rfl|hv
  ·rfl
  ·exact ZH t ds (j+1) v hv
 | .bool b::ds,j,v,hv=>by
  simp only [yH,List.mem_cons]at hv
  rcases hv with rfl|hv
  ·rfl
  ·exact ZH t ds (j+1) v hv
 | .hole::ds,j,v,hv=>by
  simp only [yH,List.mem_cons]at hv
  rcases hv with rfl|hv
  ·rfl
  ·exact ZH t ds (j+1) v hv
theorem Yg (t:Nat): ∀(xs:List VT) (j:Nat),∀v∈yp τ t j xs,NSp ns v
 | [],j,v,hv=>by simp [yp]at hv
 | .c d::xs,j,v,hv=>by
  simp only [yp,List.mem_cons]at hv
  rcases hv with rfl|hv
  ·have :=ZH (τ:=τ) t [d] j
   cases hr:yH τ t j [d]with
   |nil=>exact yJ rfl
   |cons y ys=>rw [hr]at this;exact yJ (this y (by simp))
  ·exact Yg t xs (j+1) v hv
 | .agg ds::xs,j,v,hv=>by
  simp only [yp,List.mem_cons]at hv
  rcases hv with rfl|hv
  ·exact QD fun v hv=>yJ (ZH t ds j v hv)
  ·exact Yg t xs (j+ds.length) v hv
 | .fn f ds::xs,j,v,hv=>by
  simp only [yp,List.mem_cons]at hv
  rcases hv with rfl|hv
  ·exact yJ rfl
  ·exact Yg t xs (j+ds.length) v hv
theorem kz (hf:wt ns st)(hex: ∀x d p i R,ev st x= .ep d p i→lk st.r d=some R→ns d=true→R.o= .ex∧∀n,ns n=true→n=d){o:Oper}{δ:Dl}(ha:qn P true τ o st δ):NSp ns δ.v∧∀x∈δ.bx,∀v∈x.2,NSp ns v:=by
 have sl: ∀{t:Nat} {len:Nat} {e:TypeId},NSp ns (.sl (zX t 0) [] 0 len e):=fun{t len e}=>yJ rfl
 unfold qn at ha
 rcases ha with ha|ha|ha
 ·obtain⟨-,-,h3,-,h5,-⟩:=ha
  refine⟨?_,fun x hx=>by rw [h5]at hx;simp at hx⟩
  rcases h3 with⟨k,m,h3⟩|⟨f,xs,h3,-⟩<;>rw [h3]<;>intro n hn
  ·simp [AV.pm]at hn
  ·simp only [AV.pm]at hn
   obtain⟨v,hv,hm⟩:=xp.1 hn
   obtain⟨x,-,rfl⟩:=List.mem_map.1 hv
   exact hf.ev x n hm
 ·unfold Wb at ha
  cases hc:zv o with
  |none=>rw [hc]at ha;exact ha.elim
  |some x=>
   obtain⟨f,args,ts⟩:=x
   rw [hc]at ha
   simp only at ha
   split at ha
   ·rename_i as ob us vs hargs hevs
    obtain⟨hob,pm,ress,hfn,hpm,hsz,hlen,rfl⟩:=ha
    refine⟨?_,fun x hx=>by simp at hx⟩
    obtain⟨x0,hv0⟩: ∃x0,ev st x0= .agg us:=by
     cases hal:args.toList with
     |nil=>rw [hal]at hevs;simp at hevs
     |cons x0 xs=>
      rw [hal]at hevs
      simp only [List.map_cons,List.cons.injEq]at hevs
      exact⟨x0,hevs.1⟩
    have hu:=hf.ev x0
    rw [hv0]at hu
    have hr:=Yg (ns:=ns) (τ:=τ) (zq o) [.agg ress] 0
    have hr2:=hr _ List.mem_cons_self
    intro n hn
    simp only [AV.pm]at hn
    obtain⟨v,hv,hm⟩:=xp.1 hn
    rcases List.mem_append.1 hv with hv|hv
    ·obtain⟨i,hi,rfl⟩:=List.mem_map.1 hv
     have hil:=hpm i hi
     refine hu n ?_
     simp only [AV.pm]
     refine xp.2 ⟨us.getD i .dead,?_,hm⟩
     rw [List.getD_eq_getElem?_getD,List.getElem?_eq_getElem hil]
     exact List.getElem_mem hil
    ·refine hr2 n ?_
     simp only [AV.pm]
     exact xp.2 ⟨v,hv,hm⟩
   ·exact ha.elim
 cases hc:zv o with
 |some x=>
  obtain⟨f,args,ts⟩:=x
  rw [hc]at ha
  simp only at ha
  cases hargs:yV τ st ts.toList (args.toList.map (ev st))with
  |none=>rw [hargs]at ha;exact absurd ha.1 (by simp)
  |some y=>
   rw [hargs]at ha
   obtain⟨hob,ress,h1,h2,h3,rfl⟩:=ha
   refine⟨?_,fun x hx=>by simp at hx⟩
   have hr:=Yg (ns:=ns) (τ:=τ) (zq o) ress 0
   unfold xx
   split
   ·rename_i v hv;rw [hv]at hr;exact hr v (by simp)
   ·intro n hn
    simp only [AV.pm]at hn
    obtain⟨v,hv,hm⟩:=xp.1 hn
    exact hr v hv n hm
 |none=>
  rw [hc]at ha
  simp only at ha
  cases he:qx true τ o st with
  |none=>rw [he]at ha;exact ha.elim
  |some y=>
   obtain⟨δ',ob⟩:=y
   rw [he]at ha
   obtain⟨hob,rfl⟩:=ha
   clear hob hc
   have plain:(∀t x,o.op≠ .load t x)→((xU τ o st).map fun y=>((⟨y.1,[],[],[]⟩:Dl),y.2))=some (δ,ob)→NSp ns δ.v∧∀x∈δ.bx,∀v∈x.2,NSp ns v   :=fun hnl he=>by
    cases hv:xU τ o st with
    |none=>rw [hv]at he;cases he
    |some y=>rw [hv]at he;cases he;exact⟨zCN hf hnl hv,fun x hx=>by simp at hx⟩
   obtain⟨dst,op,ty,pos,after,guard⟩:=o
   unfold qx at he
   cases op<;>simp only at he
   case box e x=>
    split at he
    ·rename_i t vs hvs
     cases he
     refine⟨fun n hn=> ?_,fun x hx=> ?_⟩
     ·simp [AV.pm]at hn
     ·simp only [List.mem_singleton]at hx;subst hx;exact YB hvs (hf.ev _)
    ·cases he
   case alloc e=>
    split at he
    ·rename_i t k b ht
     cases he
     refine⟨fun n hn=> ?_,fun x hx=> ?_⟩
     ·simp [AV.pm]at hn
     ·simp only [List.mem_singleton]at hx;subst hx
      intro v hv
      obtain⟨c,_,rfl⟩:=List.mem_map.1 hv
      cases c<;>exact yJ rfl
    ·cases he
   case makeSlice t l c=>
    split at he
    ·unfold XF at he
     split at he
     ·split at he
      ·split at he
       ·cases he;exact⟨sl,fun x hx=>by simp at hx⟩
       ·cases he
      ·cases he
     ·cases he
    ·cases he
   case buildSlice t len parts=>
    split at he
    ·rcases yK he with he|he
     ·unfold VK at he
      split at he
      ·split at he
       ·split at he
        ·cases he;exact⟨sl,fun x hx=>by simp at hx⟩
        ·cases he
       ·cases he
      ·cases he
     ·rcases yK he with he|he
      ·unfold YF at he
       split at he
       ·split at he
        ·split at he
         ·split at he
          ·cases he;exact⟨sl,fun x hx=>by simp at hx⟩
          ·cases he
         ·cases he
        ·cases he
       ·cases he
      ·unfold YG at he
       split at he
       ·split at he
        ·split at he
         ·rename_i R _ _ hR _
          split at he
          ·cases he;exact⟨sl,fun x hx=>by simp at hx⟩
          ·cases he
         ·cases he
        ·cases he
       ·cases he
    ·cases he
   case load t x=>
    rcases yK he with he|he
    ·unfold vb at he
     split at he
     ·split at he
      ·split at he
       ·cases he;exact⟨sl,fun x hx=>by simp at hx⟩
       ·cases he
      ·cases he
     ·cases he
    unfold ZB at he
    cases hv:qD τ st t (ev st x)with
    |none=>rw [hv]at he;cases he
    |some y=>rw [hv]at he;cases he;exact⟨zBL hf (hf.ev x) hv (fun d p i R e1 e2 e3=>hex x d p i R e1 e2 e3),fun x hx=>by simp at hx⟩
   case store t p x=>
    rcases yK he with he|he
    rotate_left
    ·split at he
     ·cases hp:ev st p<;>rw [hp]at he<;>simp only [vY]at he<;>try(cases he;done)
      rename_i d q i
      cases q with
      |cons _ _=>simp at he
      |nil=>
       simp only at he
       split at he
       ·split at he
        ·split at he
         ·cases he;exact⟨yJ rfl,fun x hx=>by simp at hx⟩
         ·cases he
        ·cases he
       ·cases he
     ·cases he
    cases hp:ev st p<;>rw [hp]at he<;>simp only [qT]at he<;>try(cases he;done)
    ·split at he
     ·split at he
      ·split at he
       ·cases he;exact⟨yJ rfl,fun x hx=>by simp at hx⟩
       ·cases he;exact⟨yJ rfl,fun x hx=>by simp at hx⟩
       ·cases he
      ·cases he
     ·cases he
    ·split at he
     ·rename_i vs cells hvs hcells
      split at he
      ·cases he
       refine⟨yJ rfl,fun x hx=> ?_⟩
       simp only [List.mem_singleton]at hx;subst hx
       intro v hv
       rcases QN hv with hv|hv
       ·exact Kz hf hcells v hv
       ·exact YB hvs (hf.ev _) v hv
      ·cases he
     ·cases he
   case call c=>
    obtain⟨callee,args,argTypes⟩:=c
    simp only at he
    split at he
    ·split at he
     ·split at he
      ·rcases yK he with he|he
       ·unfold Zv at he
        split at he
        ·split at he
         ·split at he
          ·split at he
           ·unfold wH at he
            split at he
            ·cases he;exact⟨sl,fun x hx=>by simp at hx⟩
            ·split at he
             ·split at he
              ·cases he;exact⟨sl,fun x hx=>by simp at hx⟩
              ·cases he
             ·cases he
            ·cases he
           ·cases he
          ·cases he
         ·cases he
        ·cases he
       ·unfold Zw at he
        split at he
        ·split at he
         ·split at he
          ·split at he
           ·unfold wI at he
            split at he
            ·cases he;exact⟨sl,fun x hx=>by simp at hx⟩
            ·split at he
             ·split at he
              ·cases he;exact⟨sl,fun x hx=>by simp at hx⟩
              ·cases he
             ·cases he
            ·cases he
           ·cases he
          ·cases he
         ·cases he
        ·cases he
      ·cases he
     ·cases he
    ·exact plain (fun t x e=>by cases e) he
   all_goals exact plain (fun t x e=>by cases e) he
theorem vg (t:Nat): ∀(ds:List D) (j:Nat),j+ds.length≤16→∀x∈xh t j ds,own t (2*x.1)=true
 | [],j,_,x,hx=>by simp [xh]at hx
 | .int _ _::ds,j,hl,x,hx=>by simp only [xh]at hx;exact vg t ds (j+1) (by simp only [List.length_cons]at hl;omega) x hx
 | .bool _::ds,j,hl,x,hx=>by simp only [xh]at hx;exact vg t ds (j+1) (by simp only [List.length_cons]at hl;omega) x hx
 | .hole::ds,j,hl,x,hx=>by simp only [xh]at hx;exact vg t ds (j+1) (by simp only [List.length_cons]at hl;omega) x hx
 | .lst e xs::ds,j,hl,x,hx=>by
  simp only [List.length_cons]at hl
  simp only [xh,List.mem_append,List.mem_singleton]at hx
  rcases hx with hx|rfl
  ·exact vg t ds (j+1) (by omega) x hx
  ·exact yM (by omega)
theorem Ui {np:Bool}{o:Oper}{δ:Dl}(ha:qn P np τ o st δ): ∀x∈δ.add,(ye np o=true∧own (zq o) (2*x.1)=true)∨(∃R0,lk st.r x.1=some R0∧R0.o=x.2.o):=by
 intro x hx
 unfold qn at ha
 rcases ha with ha|ha|ha
 ·obtain⟨-,-,-,-,-,h0|⟨d,R,R0,h6,h7,h8,-⟩,-⟩:=ha
  ·rw [h0]at hx;cases hx
  rw [h6]at hx
  simp only [List.mem_singleton]at hx
  subst hx
  exact .inr ⟨R0,h7,h8⟩
 ·unfold Wb at ha
  cases hc:zv o with
  |none=>rw [hc]at ha;exact ha.elim
  |some y=>
   obtain⟨f,args,ts⟩:=y
   rw [hc]at ha
   simp only at ha
   split at ha
   ·obtain⟨hob,pm,ress,hfn,hpm,hsz,hlen,rfl⟩:=ha
    exact .inl ⟨yz hc,vg _ _ 0 (by omega) x hx⟩
   ·exact ha.elim
 cases hc:zv o with
 |some y=>
  obtain⟨f,args,ts⟩:=y
  rw [hc]at ha
  simp only at ha
  cases hargs:yV τ st ts.toList (args.toList.map (ev st))with
  |none=>
   rw [hargs]at ha
   have hab:=ha.2
   unfold Yl at hab
   split at hab
   ·obtain⟨-,ds',ress,-,-,h3,rfl⟩:=hab
    exact .inl ⟨yz hc,vg _ _ 0 (by omega) x hx⟩
   ·exact hab.elim
  |some y=>
   rw [hargs]at ha
   obtain⟨hob,ress,h1,h2,h3,rfl⟩:=ha
   exact .inl ⟨yz hc,vg _ _ 0 (by omega) x hx⟩
 |none=>
  rw [hc]at ha
  simp only at ha
  cases he:qx np τ o st with
  |none=>rw [he]at ha;exact ha.elim
  |some y=>
   obtain⟨δ',ob⟩:=y
   rw [he]at ha
   obtain⟨hob,rfl⟩:=ha
   clear hob hc
   have plain:((xU τ o st).map fun y=>((⟨y.1,[],[],[]⟩:Dl),y.2))=some (δ,ob)→False:=fun he=>by
    cases hv:xU τ o st with
    |none=>rw [hv]at he;cases he
    |some y=>rw [hv]at he;cases he;simp at hx
   have hm: ∀{R:zn},x∈ [(zX (zq o) 0,R)]→own (zq o) (2*x.1)=true:=fun{R} h=>by
    simp only [List.mem_singleton]at h;subst h;exact yM (by omega)
   obtain⟨dst,op,ty,pos,after,guard⟩:=o
   unfold qx at he
   cases op<;>simp only at he
   case box e x'=>split at he<;>cases he;simp at hx
   case alloc e=>split at he<;>cases he;simp at hx
   case makeSlice t l c=>
    split at he
    ·unfold XF at he
     split at he
     ·split at he
      ·split at he
       ·cases he;exact .inl ⟨rfl,hm hx⟩
       ·cases he
      ·cases he
     ·cases he
    ·cases he
   case buildSlice t len parts=>
    split at he
    ·rcases yK he with he|he
     ·unfold VK at he
      split at he
      ·split at he
       ·split at he
        ·cases he;exact .inl ⟨rfl,hm hx⟩
        ·cases he
       ·cases he
      ·cases he
     ·rcases yK he with he|he
      ·unfold YF at he
       split at he
       ·split at he
        ·split at he
         ·split at he
          ·cases he;exact .inl ⟨rfl,hm hx⟩
          ·cases he
         ·cases he
        ·cases he
       ·cases he
      ·unfold YG at he
       split at he
       ·split at he
        ·split at he
         ·rename_i R _ _ hR _
          split at he
          ·cases he;rcases List.mem_cons.1 hx with hx|hx
           ·exact .inl ⟨rfl,hm (List.mem_singleton.2 hx)⟩
           ·simp only [List.mem_singleton]at hx;subst hx;exact .inr ⟨R,hR,rfl⟩
          ·cases he
         ·cases he
        ·cases he
       ·cases he
    ·cases he
   case load t x'=>
    rcases yK he with he|he
    ·unfold vb at he
     split at he
     ·split at he
      ·rename_i R _ _ hR _
       split at he
       ·rename_i hc
        cases he;rcases List.mem_cons.1 hx with hx|hx
        ·exact .inl ⟨hc.1,hm (List.mem_singleton.2 hx)⟩
        ·simp only [List.mem_singleton]at hx;subst hx;exact .inr ⟨R,hR,rfl⟩
       ·cases he
      ·cases he
     ·cases he
    unfold ZB at he
    cases hv:qD τ st t (ev st x')with
    |none=>rw [hv]at he;cases he
    |some y=>rw [hv]at he;cases he;simp at hx
   case store t p x'=>
    rcases yK he with he|he
    ·cases hp:ev st p<;>rw [hp]at he<;>simp only [qT]at he<;>try(cases he;done)
     ·split at he
      ·rename_i R _ _ _ hR _ _
       split at he
       ·split at he
        ·cases he;simp only [List.mem_singleton]at hx;subst hx;exact .inr ⟨R,hR,rfl⟩
        ·cases he;simp only [List.mem_singleton]at hx;subst hx;exact .inr ⟨R,hR,rfl⟩
        ·cases he
       ·cases he
      ·cases he
     ·split at he
      ·split at he
       ·cases he;simp at hx
       ·cases he
      ·cases he
    ·split at he
     ·cases hp:ev st p<;>rw [hp]at he<;>simp only [vY]at he<;>try(cases he;done)
      rename_i d q i
      cases q with
      |cons _ _=>simp at he
      |nil=>
       simp only at he
       split at he
       ·rename_i R vs hR _
        split at he
        ·split at he
         ·cases he;simp only [List.mem_singleton]at hx;subst hx;exact .inr ⟨R,hR,rfl⟩
         ·cases he
        ·cases he
       ·cases he
     ·cases he
   case call c=>
    obtain⟨callee,args,argTypes⟩:=c
    simp only at he
    split at he
    ·split at he
     ·split at he
      ·rcases yK he with he|he
       ·unfold Zv at he
        split at he
        ·split at he
         ·split at he
          ·split at he
           ·unfold wH at he
            split at he
            ·cases he;exact .inl ⟨rfl,hm hx⟩
            ·split at he
             ·split at he
              ·cases he;exact .inl ⟨rfl,hm hx⟩
              ·cases he
             ·cases he
            ·cases he
           ·cases he
          ·cases he
         ·cases he
        ·cases he
       ·unfold Zw at he
        split at he
        ·split at he
         ·split at he
          ·split at he
           ·unfold wI at he
            split at he
            ·cases he;exact .inl ⟨rfl,hm hx⟩
            ·split at he
             ·split at he
              ·cases he;exact .inl ⟨rfl,hm hx⟩
              ·cases he
             ·cases he
            ·cases he
           ·cases he
          ·cases he
         ·cases he
        ·cases he
      ·cases he
     ·cases he
    ·exact(plain he).elim
   all_goals exact(plain he).elim
theorem Xt {bad:Nat}(hf:wt (· ==bad) st){d:Option Tmp}{δ:Dl}(h:NSp (· ==bad) δ.v∧∀x∈δ.bx,∀v∈x.2,NSp (· ==bad) v):Yn bad (st.app d δ):=by
 refine⟨fun k v hv hm=> ?_,fun k cs hc hm=> ?_⟩
 ·rw [vx]at hv
  split at hv
  ·cases hv;have :=h.1 bad hm;simp at this
  ·have :=hf.s k v hv bad hm;simp at this
 ·rw [vD]at hc
  cases hx:lk δ.bx k with
  |some cs'=>
   rw [hx]at hc
   simp only [Option.some_or,Option.some.injEq]at hc
   subst hc
   obtain⟨v,hv,hm⟩:=xp.1 hm
   have :=h.2 _ (QO hx) v hv bad hm
   simp at this
  |none=>rw [hx]at hc;simp only [Option.none_or]at hc;have :=hf.b k cs hc bad hm;simp at this
theorem WI {bad:Nat}(h:Yn bad st):wt (· ==bad) st:=⟨fun k v hv n hn=>by
 by_cases e:n=bad
 ·subst e;exact absurd hn (h.s k v hv)
 ·simpa using e,fun k cs hc n hn=>by
 by_cases e:n=bad
 ·subst e;exact absurd hn (h.b k cs hc)
 ·simpa using e⟩
theorem zAR {t bad:Nat}(h:yG (own t) st)(hb:own t (2*bad)=true):wt (· ==bad) st:=⟨fun k v hv n hn=>by
 by_cases e:n=bad
 ·subst e;have :=h.s k v hv _ (zBv v n hn);rw [hb]at this;cases this
 ·simpa using e,fun k cs hc n hn=>by
 by_cases e:n=bad
 ·subst e;have :=h.b k cs hc _ (Yf cs n hn);rw [hb]at this;cases this
 ·simpa using e⟩
theorem Ua (hpf:PF st){o:Oper}{δ:Dl}(hf:ye true o=true→yG (own (zq o)) st)(ha:qn P true τ o st δ):PF (st.app o.dst δ):=by
 intro d R hR hex
 have old: ∀R0,lk st.r d=some R0→R0.o= .ex→Yn d (st.app o.dst δ):=fun R0 h1 h2=>by
  have hfr:=WI (hpf d R0 h1 h2)
  refine Xt hfr (kz hfr (fun x d' p i R' e1 e2 e3=> ?_) ha)
  have :d'=d:=by simpa using e3
  subst this
  rw [h1]at e2;cases e2
  exact⟨h2,fun n hn=>by simpa using hn⟩
 rw [vE]at hR
 cases hx:lk δ.add d with
 |some R'=>
  rw [hx]at hR
  simp only [Option.some_or,Option.some.injEq]at hR
  subst hR
  rcases Ui ha _ (QO hx)with⟨h1,h2⟩|⟨R0,h1,h2⟩
  ·have hfr:=zAR (hf h1) h2
   refine Xt hfr (kz hfr (fun x d' p i R' e1 e2 e3=> ?_) ha)
   have :d'=d:=by simpa using e3
   subst this
   have :=(hf h1).ev x (2*d') (by rw [e1];simp [AV.nm])
   rw [h2]at this;cases this
  ·exact old R0 h1 (by rw [h2];exact hex)
 |none=>
  rw [hx]at hR
  simp only [Option.none_or]at hR
  split at hR
  ·cases hR
  ·exact old R hR hex
theorem kq (hpf:PF st)(d:Option Tmp):PF (st.app d Dl.skip):=by
 intro k R hR hex
 rw [vE]at hR
 have hR':lk st.r k=some R:=by simpa [Dl.skip,yo]using hR
 exact Xt (WI (hpf k R hR' hex)) ⟨yJ rfl,fun x hx=>by simp [Dl.skip]at hx⟩
theorem uU {all:List Oper}(hpf:PF st){o:Oper}{δ:Dl}(hf:ye true o=true→yG (own (zq o)) st)(ha:xq P true τ all o st δ):PF (st.app o.dst δ):=by
 unfold xq at ha
 split at ha
 ·exact Ua hpf hf ha
 ·rename_i j want _
  split at ha
  ·rename_i b _
   by_cases e:b=want
   ·exact Ua hpf hf (ha.1 e)
   ·have :=ha.2 (by cases b<;>cases want<;>simp_all);subst this;exact kq hpf _
  ·subst ha;exact kq hpf _
  ·exact ha.elim
end
def ZT (np:Bool)(all:List Oper):Bool:=(List.range all.length).all fun j=>(List.range all.length).all fun k=>match all[j]?,all[k]? with
 |some x,some y=>j==k|| !(ye np x&&ye np y)||zq x !=zq y
 |_,_=>true
def ancT (ops:List Oper):List (List Nat):=
 ops.foldl (fun acc o=>acc++ [o.after.toList.foldl (fun l e=>if Region.binds .any e then(e.on::acc.getD e.on []).foldl (fun l n=>if l.contains n then l else n::l) l else l) []]) []
def WV (np:Bool)(ops:List Oper)(A:List (List Nat)):Bool:=Vo ops A&&(ZT np ops&&YZ ops ops.length 0 (Array.replicate ops.length false))
def St.clean (np:Bool)(ops:List Oper)(st:St):St:=
 let ts:=(ops.filter (ye np)).map zq
 st.kill (fun d=>ts.contains (d / 16)) (fun t=>ts.contains t)
theorem zAS {t u:Nat}(h:t≠u): ∀n,own t n=true→own u n=false:=fun n hn=>by
 unfold own at*
 split at hn
 ·rename_i h1;rw [if_pos h1];simp only [beq_iff_eq,beq_eq_false_iff_ne]at*;omega
 ·rename_i h1;rw [if_neg h1];simp only [beq_iff_eq,beq_eq_false_iff_ne]at*;omega
mutual
theorem uH {ds bs:Nat→Bool}: ∀(v:AV) (n:Nat),n∈(v.kill ds bs).nm→(∃d,n=2*d∧ds d=false)∨(∃t,n=2*t+1∧bs t=false)
 | .int k m,n,h=>by simp [AV.kill,AV.nm]at h
 | .bool b,n,h=>by simp [AV.kill,AV.nm]at h
 | .sl d p off len e,n,h=>by
  simp only [AV.kill]at h
  split at h
  ·simp [AV.nm]at h
  ·rename_i hd;simp only [AV.nm,List.mem_singleton]at h;exact .inl ⟨d,h,by simpa using hd⟩
 | .nil,n,h=>by simp [AV.kill,AV.nm]at h
 | .ep d p i,n,h=>by
  simp only [AV.kill]at h
  split at h
  ·simp [AV.nm]at h
  ·rename_i hd;simp only [AV.nm,List.mem_singleton]at h;exact .inl ⟨d,h,by simpa using hd⟩
 | .bp t i,n,h=>by
  simp only [AV.kill]at h
  split at h
  ·simp [AV.nm]at h
  ·rename_i hd;simp only [AV.nm,List.mem_singleton]at h;exact .inr ⟨t,h,by simpa using hd⟩
 | .agg vs,n,h=>ZR vs n (by simpa only [AV.kill,AV.nm]using h)
 | .tup vs,n,h=>ZR vs n (by simpa only [AV.kill,AV.nm]using h)
 | .fn f vs,n,h=>ZR vs n (by simpa only [AV.kill,AV.nm]using h)
 | .dead,n,h=>by simp [AV.kill,AV.nm]at h
 | .raw u,n,h=>by simp [AV.kill,AV.nm]at h
theorem ZR {ds bs:Nat→Bool}: ∀(vs:List AV) (n:Nat),n∈AV.nmL (AV.killL ds bs vs)→(∃d,n=2*d∧ds d=false)∨(∃t,n=2*t+1∧bs t=false)
 | [],n,h=>by simp [AV.killL,AV.nmL]at h
 |v::vs,n,h=>by
  simp only [AV.killL,AV.nmL,List.mem_append]at h
  rcases h with h|h
  ·exact uH v n h
  ·exact ZR vs n h
end
theorem XX {st:St}{ds bs:Nat→Bool}{t:Nat}(h1: ∀d,d / 16=t→ds d=true)(h2:bs t=true):yG (own t) (st.kill ds bs):=by
 have key: ∀n,((∃d,n=2*d∧ds d=false)∨(∃t,n=2*t+1∧bs t=false))→own t n=false:=by
  rintro n (⟨d,rfl,hd⟩|⟨u,rfl,hu⟩)
  ·unfold own
   rw [if_neg (by omega)]
   simp only [beq_eq_false_iff_ne]
   intro e
   rw [h1 d (by omega)]at hd;cases hd
  ·unfold own
   rw [if_pos (by omega)]
   simp only [beq_eq_false_iff_ne]
   intro e
   have :u=t:=by omega
   subst this
   rw [h2]at hu;cases hu
 refine⟨fun k v hv n hn=> ?_,fun k cs hc n hn=> ?_⟩
 ·simp only [St.kill,zy]at hv
  cases hx:lk st.s k with
  |none=>rw [hx]at hv;cases hv
  |some u=>rw [hx]at hv;cases hv;exact key n (uH u n hn)
 ·simp only [St.kill,zy]at hc
  cases hx:lk st.b k with
  |none=>rw [hx]at hc;cases hc
  |some u=>rw [hx]at hc;cases hc;exact key n (ZR u n hn)
section
variable {P:Program} {np:Bool} {τ:Ty} {lo:Nat} {w0:Fz} {st:St} {a:Act} {w:World}
theorem Ki (h:Rel τ lo w0 st a w)(ds bs:Nat→Bool):Rel τ lo w0 (st.kill ds bs) a w:=by
 obtain⟨ow,hd,bk,h⟩:=h
 have hD: ∀k,ds k=false→yh w w st.r (st.kill ds bs).r hd hd k:=fun k _ R' hR'=>⟨R',hR',rfl,fun p hp=>⟨hp,rfl⟩⟩
 have hB: ∀t,bs t=false→yg st.b (st.kill ds bs).b bk bk t:=fun t _ hl=>by
  simp only [St.kill,zy]at hl
  obtain⟨cs,hcs⟩:=hl
  cases hx:lk st.b t with
  |none=>rw [hx]at hcs;cases hcs
  |some cs'=>exact⟨⟨cs',rfl⟩,rfl⟩
 refine⟨ow,hd,bk,h.big,h.defers,h.size,h.low,h.below,h.ge,h.new,fun k v hv'=> ?_,h.root,fun t vs hv'=> ?_,h.pin⟩
 ·simp only [St.kill,zy]at hv'
  cases hx:lk st.s k with
  |none=>rw [hx]at hv';cases hv'
  |some u=>rw [hx]at hv';cases hv';exact yf hD hB u _ (h.slot k u hx)
 ·simp only [St.kill,zy]at hv'
  cases hx:lk st.b t with
  |none=>rw [hx]at hv';cases hv'
  |some u=>
   rw [hx]at hv';cases hv'
   obtain⟨cs,ty,h1,h2,h3⟩:=h.box t u hx
   exact⟨cs,ty,h1,h2,zw hD hB u cs h3⟩
def Inv (np:Bool)(all:List Oper)(listed:Array Bool)(st:St):Prop:= ∀(j:Nat) (o:Oper),all[j]? =some o→listed.getD j true=false→ye np o=true→yG (own (zq o)) st
theorem Vi (hτ:zu P τ)(hpos:yR τ){all:List Oper}{A:List (List Nat)}(hm:ZT np all=true){Q:St→Prop}{Q':Exit→Act→World→Prop}(hQ: ∀st a w,Q st→Rel τ lo w0 st a w→Q' .normal a w):
  ∀(fuel:Nat) (cs:List Rec) (listed:Array Bool) (st:St) (a:Act) (w:World),yw a.tmps.size all=true→Inv np all listed st→(np=true→PF st)→Rel τ lo w0 st a w→Yp P np τ all A Q cs fuel listed st→wpAny P .any all.toArray Q' fuel listed a w
 |0,cs,listed,st,a,w,_,_,_,hr,h=>⟨h.1,hQ _ _ _ h.2 hr⟩
 |fuel+1,cs,listed,st,a,w,hd,hinv,hpf,hr,h=>by
  refine⟨fun h0=>hQ _ _ _ (h.1 h0) hr,fun j hj=> ?_⟩
  obtain⟨o,δ,ho,hstep,-,hrest⟩:=h.2 j hj
  have hun:=(mem_ready.1 hj).1
  have hd1: ∀k,o.dst=some k→k<a.tmps.size:=fun k hk=>by
   have :=List.all_eq_true.1 hd o (List.mem_of_getElem? ho)
   rw [hk]at this
   simpa using this
  have hf:ye np o=true→yG (own (zq o)) st:=hinv j o ho hun
  have hinv':Inv np all (listed.setIfInBounds j true) (st.app o.dst δ):=fun k ok hk hkun hmk=>by
   have hkj:k≠j:=by
    rintro rfl
    have hlt:k<all.length:=(List.getElem?_eq_some_iff.1 hk).1
    rw [Array.getD_eq_getD_getElem?]at hkun hun
    have hls:k<listed.size:=by
     rcases Nat.lt_or_ge k listed.size with h|h
     ·exact h
     ·rw [Array.getElem?_eq_none h]at hun;cases hun
    simp [hls]at hkun
   rw [getD_set_ne true (Ne.symm hkj)]at hkun
   refine KA (hinv k ok hk hkun hmk) (fun hmo n hn=> ?_) hstep
   have hjl:j<all.length:=(List.getElem?_eq_some_iff.1 ho).1
   have hkl:k<all.length:=(List.getElem?_eq_some_iff.1 hk).1
   have h1:=List.all_eq_true.1 (List.all_eq_true.1 hm j (List.mem_range.2 hjl)) k (List.mem_range.2 hkl)
   rw [ho,hk]at h1
   simp only [hmo,hmk,Bool.and_self,Bool.not_true,Bool.or_false,Bool.or_eq_true,beq_iff_eq,bne_iff_ne,ne_eq]at h1
   rcases h1 with h1|h1
   ·exact absurd h1.symm hkj
   ·exact zAS h1 n hn
  have hpf':np=true→PF (st.app o.dst δ):=fun e=>by subst e;exact uU (hpf rfl) hf hstep
  have next: ∀x w',Rel τ lo w0 (st.app o.dst δ) (a.put o.dst x) w'→wpAny P .any all.toArray Q' fuel (listed.setIfInBounds j true) (a.put o.dst x) w':=fun x w' hr'=>
   Vi hτ hpos hm hQ fuel cs _ _ _ w' (by rw [xX];exact hd) hinv' hpf' hr' hrest
  unfold wpOp
  rw [List.getElem?_toArray,ho]
  simp only
  have run:qn P np τ o st δ→o.wp P a w (wpAny P .any all.toArray Q' fuel (listed.setIfInBounds j true)) Q':=fun ha=>Vg hτ hpos hd1 hr hf hpf ha next
  have skip:δ=Dl.skip→wpAny P .any all.toArray Q' fuel (listed.setIfInBounds j true) (a.put o.dst undef) w:=fun he=>by
   refine next undef w ?_
   rw [he]
   obtain⟨ow,hd',bk,hrr⟩:=hr
   exact qM (yj hrr hd1 (v:= .tup []) (x:=undef) (by simp only [AvR];exact⟨[],rfl,by simp [zW]⟩)) (Zm _)
  unfold xq at hstep
  split at hstep
  ·rename_i hg
   rw [if_pos (by simp [Region.wanted,hg])]
   exact .inl (run hstep)
  ·rename_i g want hg
   split at hstep
   ·rename_i b hgv
    have hy:=ql hr hgv
    by_cases hb:b=want
    ·rw [if_pos (by simp [Region.wanted,hg,hy,hb])]
     exact .inl (run (hstep.1 hb))
    ·rw [if_neg (by simp [Region.wanted,hg,hy,hb])]
     exact skip (hstep.2 (by cases b<;>cases want<;>simp_all))
   ·rename_i hgv
    have hy:=ql hr hgv
    rw [if_neg (by simp [Region.wanted,hg,hy])]
    exact skip hstep
   ·exact hstep.elim
theorem Zl {all:List Oper}{j:Nat}{o:Oper}(h:all[j]? =some o)(hm:ye np o=true):((all.filter (ye np)).map zq).contains (zq o)=true:=by
 simp only [List.contains_iff_mem]
 exact List.mem_map.2 ⟨o,List.mem_filter.2 ⟨List.mem_of_getElem? h,hm⟩,rfl⟩
def Vw (r:List (Nat×zn)):List Nat:=(r.filter fun x=>x.2.o.own).map (·.1)
mutual
def AV.cut (ids:List Nat):AV→AV
 | .int k n=> .int k n
 | .bool b=> .bool b
 | .sl d p off len e=>match p with| []=> .sl d [] off len e|i::q=>if ids.contains d then .dead else .sl d (i::q) off len e
 | .nil=> .nil
 | .ep d p i=>match p with| []=> .ep d [] i|j::q=>if ids.contains d then .dead else .ep d (j::q) i
 | .bp t i=> .bp t i
 | .agg vs=> .agg (AV.cutL ids vs)
 | .tup vs=> .tup (AV.cutL ids vs)
 | .fn f vs=> .fn f (AV.cutL ids vs)
 | .dead=> .dead
 | .raw u=> .raw u
def AV.cutL (ids:List Nat):List AV→List AV
 | []=> []
 |v::vs=>v.cut ids::AV.cutL ids vs
end
def St.cut (st:St):St:={st with s:=YK (AV.cut (Vw st.r)) st.s,b:=YK (AV.cutL (Vw st.r)) st.b}
mutual
theorem Xh {rr:List (Nat×zn)}{bb bb':List (Nat×List AV)}{hd:Nat→Value}{bk:Nat→Nat}{ids:List Nat}(hb: ∀t,(∃cs,lk bb' t=some cs)→∃cs,lk bb t=some cs): ∀(v:AV) (x:Value),AvR τ w rr bb hd bk v x→AvR τ w rr bb' hd bk (v.cut ids) x
 | .int k n,x,h=>by simpa only [AV.cut,AvR]using h
 | .bool b,x,h=>by simpa only [AV.cut,AvR]using h
 | .sl d p off len e,x,h=>by
  cases p with
  |nil=>simpa only [AV.cut,AvR]using h
  |cons i q=>
   simp only [AV.cut]
   split
   ·simp only [AvR]
   ·simpa only [AvR]using h
 | .nil,x,h=>by simpa only [AV.cut,AvR]using h
 | .ep d p i,x,h=>by
  cases p with
  |nil=>simpa only [AV.cut,AvR]using h
  |cons j q=>
   simp only [AV.cut]
   split
   ·simp only [AvR]
   ·simpa only [AvR]using h
 | .bp t i,x,h=>by
  simp only [AV.cut,AvR]at h⊢
  exact⟨h.1,fun hl=>h.2 (hb t hl)⟩
 | .agg vs,x,h=>by
  simp only [AV.cut,AvR]at h⊢
  obtain⟨cs,h1,h2⟩:=h
  exact⟨cs,h1,vH hb vs cs h2⟩
 | .tup vs,x,h=>by
  simp only [AV.cut,AvR]at h⊢
  obtain⟨cs,h1,h2⟩:=h
  exact⟨cs,h1,vH hb vs cs h2⟩
 | .fn f vs,x,h=>by
  simp only [AV.cut,AvR]at h⊢
  obtain⟨cs,h1,h2⟩:=h
  exact⟨cs,h1,vH hb vs cs h2⟩
 | .dead,x,h=>by simp only [AV.cut,AvR]
 | .raw u,x,h=>by simpa only [AV.cut,AvR]using h
theorem vH {rr:List (Nat×zn)}{bb bb':List (Nat×List AV)}{hd:Nat→Value}{bk:Nat→Nat}{ids:List Nat}(hb: ∀t,(∃cs,lk bb' t=some cs)→∃cs,lk bb t=some cs): ∀(vs:List AV) (xs:List Value),zW τ w rr bb hd bk vs xs→zW τ w rr bb' hd bk (AV.cutL ids vs) xs
 | [],xs,h=>by simpa only [AV.cutL,zW]using h
 |v::vs,xs,h=>by
  simp only [AV.cutL,zW]at h⊢
  obtain⟨x,xs',h1,h2,h3⟩:=h
  exact⟨x,xs',h1,Xh hb v x h2,vH hb vs xs' h3⟩
end
mutual
theorem Uq {ids:List Nat}: ∀(v:AV) (n:Nat),n∈(v.cut ids).pm→ids.contains n=false
 | .int k m,n,h=>by simp [AV.cut,AV.pm]at h
 | .bool b,n,h=>by simp [AV.cut,AV.pm]at h
 | .sl d p off len e,n,h=>by
  cases p with
  |nil=>simp [AV.cut,AV.pm]at h
  |cons i q=>
   simp only [AV.cut]at h
   split at h
   ·simp [AV.pm]at h
   ·rename_i hc;have :=KU h;subst this;simpa using hc
 | .nil,n,h=>by simp [AV.cut,AV.pm]at h
 | .ep d p i,n,h=>by
  cases p with
  |nil=>simp [AV.cut,AV.pm]at h
  |cons j q=>
   simp only [AV.cut]at h
   split at h
   ·simp [AV.pm]at h
   ·rename_i hc;have :=UO h;subst this;simpa using hc
 | .bp t i,n,h=>by simp [AV.cut,AV.pm]at h
 | .agg vs,n,h=>by simp only [AV.cut,AV.pm]at h;exact YW vs n h
 | .tup vs,n,h=>by simp only [AV.cut,AV.pm]at h;exact YW vs n h
 | .fn f vs,n,h=>by simp only [AV.cut,AV.pm]at h;exact YW vs n h
 | .dead,n,h=>by simp [AV.cut,AV.pm]at h
 | .raw u,n,h=>by simp [AV.cut,AV.pm]at h
theorem YW {ids:List Nat}: ∀(vs:List AV) (n:Nat),n∈AV.pmL (AV.cutL ids vs)→ids.contains n=false
 | [],n,h=>by simp [AV.cutL,AV.pmL]at h
 |v::vs,n,h=>by
  simp only [AV.cutL,AV.pmL,List.mem_append]at h
  rcases h with h|h
  ·exact Uq v n h
  ·exact YW vs n h
end
theorem Vu (st:St):PF st.cut:=by
 intro d R hR hex
 have hc:(Vw st.r).contains d=true:=by
  simp only [List.contains_iff_mem,Vw]
  exact List.mem_map.2 ⟨(d,R),List.mem_filter.2 ⟨QO hR,by rw [hex];rfl⟩,rfl⟩
 refine⟨fun k v hv hm=> ?_,fun k cs hcs hm=> ?_⟩
 ·simp only [St.cut,zy]at hv
  cases hx:lk st.s k with
  |none=>rw [hx]at hv;cases hv
  |some u=>rw [hx]at hv;cases hv;rw [Uq u d hm]at hc;cases hc
 ·simp only [St.cut,zy]at hcs
  cases hx:lk st.b k with
  |none=>rw [hx]at hcs;cases hcs
  |some u=>rw [hx]at hcs;cases hcs;rw [YW u d hm]at hc;cases hc
theorem kr (h:Rel τ lo w0 st a w):Rel τ lo w0 st.cut a w:=by
 obtain⟨ow,hd,bk,h⟩:=h
 have hb: ∀t,(∃cs,lk st.cut.b t=some cs)→∃cs,lk st.b t=some cs:=fun t ⟨cs,hcs⟩=>by
  simp only [St.cut,zy]at hcs
  cases hx:lk st.b t with
  |none=>rw [hx]at hcs;cases hcs
  |some u=>exact⟨u,rfl⟩
 refine⟨ow,hd,bk,h.big,h.defers,h.size,h.low,h.below,h.ge,h.new,fun k v hv'=> ?_,h.root,fun t vs hv'=> ?_,h.pin⟩
 ·simp only [St.cut,zy]at hv'
  cases hx:lk st.s k with
  |none=>rw [hx]at hv';cases hv'
  |some u=>rw [hx]at hv';cases hv';exact Xh hb u _ (h.slot k u hx)
 ·simp only [St.cut,zy]at hv'
  cases hx:lk st.b t with
  |none=>rw [hx]at hv';cases hv'
  |some u=>
   rw [hx]at hv';cases hv'
   obtain⟨cs,ty,h1,h2,h3⟩:=h.box t u hx
   exact⟨cs,ty,h1,h2,vH hb u cs h3⟩
def St.start (np:Bool)(ops:List Oper)(st:St):St:=if np=true then(st.clean np ops).cut else st.clean np ops
mutual
theorem Up {ids:List Nat}: ∀(v:AV) (n:Nat),n∈(v.cut ids).nm→n∈v.nm
 | .int k m,n,h=>h
 | .bool b,n,h=>h
 | .sl d p off len e,n,h=>by
  cases p with
  |nil=>exact h
  |cons i q=>
   simp only [AV.cut]at h
   split at h
   ·simp [AV.nm]at h
   ·exact h
 | .nil,n,h=>h
 | .ep d p i,n,h=>by
  cases p with
  |nil=>exact h
  |cons j q=>
   simp only [AV.cut]at h
   split at h
   ·simp [AV.nm]at h
   ·exact h
 | .bp t i,n,h=>h
 | .agg vs,n,h=>by simp only [AV.cut,AV.nm]at h⊢;exact YV vs n h
 | .tup vs,n,h=>by simp only [AV.cut,AV.nm]at h⊢;exact YV vs n h
 | .fn f vs,n,h=>by simp only [AV.cut,AV.nm]at h⊢;exact YV vs n h
 | .dead,n,h=>h
 | .raw u,n,h=>h
theorem YV {ids:List Nat}: ∀(vs:List AV) (n:Nat),n∈AV.nmL (AV.cutL ids vs)→n∈AV.nmL vs
 | [],n,h=>h
 |v::vs,n,h=>by
  simp only [AV.cutL,AV.nmL,List.mem_append]at h⊢
  rcases h with h|h
  ·exact .inl (Up v n h)
  ·exact .inr (YV vs n h)
end
theorem jG {ns:Nat→Bool}{st:St}(h:yG ns st):yG ns st.cut:=by
 refine⟨fun k v hv n hn=> ?_,fun k cs hcs n hn=> ?_⟩
 ·simp only [St.cut,zy]at hv
  cases hx:lk st.s k with
  |none=>rw [hx]at hv;cases hv
  |some u=>rw [hx]at hv;cases hv;exact h.s k u hx n (Up u n hn)
 ·simp only [St.cut,zy]at hcs
  cases hx:lk st.b k with
  |none=>rw [hx]at hcs;cases hcs
  |some u=>rw [hx]at hcs;cases hcs;exact h.b k u hx n (YV u n hn)
theorem kP (hτ:zu P τ)(hpos:yR τ)(hmix:P.follows .mixedOrders=true){A:List (List Nat)}{Q:Exit→St→Prop}{id:Nat}{ops:List Oper}(hs:WV np ops A=true)(hd:yw st.n ops=true)(h: ∀C:List Rec→Prop,(∀cs,chk ops A cs=true→C cs)→vT P np τ ops C (Q .normal) ops 0 [] (st.start np ops)):awp P τ (.region id ops.toArray true) Q st:=fun lo w0 a w hr=>by
 simp only [WV,Bool.and_eq_true]at hs
 obtain⟨h1,h2,h3⟩:=hs
 have hn:a.tmps.size=st.n:=by obtain⟨ow,hd,bk,h⟩:=hr;exact h.size
 have hrc:Rel τ lo w0 (st.clean np ops) a {w with drawn:=w.drawn+1}:=by
  obtain⟨ow,hd,bk,h⟩:=Ki hr (fun d=>((ops.filter (ye np)).map zq).contains (d / 16)) (fun t=>((ops.filter (ye np)).map zq).contains t)
  exact⟨ow,hd,bk,Ub h⟩
 have hr':Rel τ lo w0 (st.start np ops) a {w with drawn:=w.drawn+1}:=by
  unfold St.start
  split
  ·exact kr hrc
  ·exact hrc
 have hpf:np=true→PF (st.start np ops):=fun e=>by unfold St.start;rw [if_pos e];exact Vu _
 refine wp_region_any hmix ?_
 have hlex':=(Jn ops 0 [] _ _ (Eqv.refl _) (h _ fun _ h=>h)).2
 have hany:=Kr (fun st st' he ⟨s,h1,h2⟩=>⟨s,he.symm.trans h1,h2⟩) h1 ops 0 [] (Array.replicate ops.length false) _ (by simp) (fun j o _ hj=>by
  rw [Array.getD_eq_getD_getElem?,Array.getElem?_replicate]at hj
  split at hj<;>simp at hj) h3 hlex'
 have :=Vi (Q':=fun e a' w'=> ∃st',Rel τ lo w0 st' a' w'∧Q e st') hτ hpos h2 (fun st' a w ⟨s,he,hq⟩ hr=>⟨s,qM hr he.cov,hq⟩) ops.length [] (Array.replicate ops.length false) (st.start np ops) a {w with drawn:=w.drawn+1} (by rw [hn];exact hd) (fun j o ho _ hm=>by
  have hfc:yG (own (zq o)) (st.clean np ops):=by
   refine XX (fun d hdt=> ?_) (Zl ho hm)
   rw [hdt];exact Zl ho hm
  unfold St.start
  split
  ·exact jG hfc
  ·exact hfc) hpf hr' hany
 simpa using this
theorem xO (np:Bool)(hτ:zu P τ)(hpos:yR τ)(hmix:P.follows .mixedOrders=true){Q:Exit→St→Prop}{id:Nat}{ops:List Oper}(hs:WV np ops (ancT ops)=true)(hd:yw st.n ops=true)(h: ∀C:List Rec→Prop,(∀cs,chk ops (ancT ops) cs=true→C cs)→vT P np τ ops C (Q .normal) ops 0 [] (st.start np ops)):awp P τ (.region id ops.toArray true) Q st:=kP hτ hpos hmix hs hd h
end
def xi (P:Program)(np:Bool)(τ:Ty)(all:List Oper)(Q:St→Prop):List Oper→St→Prop
 | [],st=>Q st
 |o::os,st=>
  match o.guard with
  |none=>vv P np τ o st fun δ=>xi P np τ all Q os (st.app o.dst δ)
  |some (j,want)=>
   match xQ all st j with
   |some (some b)=>
    brB b (if want=true then vv P np τ o (yQ all st j true) fun δ=>xi P np τ all Q os ((yQ all st j true).app o.dst δ)else xi P np τ all Q os ((yQ all st j true).app o.dst Dl.skip))
     (if want=false then vv P np τ o (yQ all st j false) fun δ=>xi P np τ all Q os ((yQ all st j false).app o.dst δ)else xi P np τ all Q os ((yQ all st j false).app o.dst Dl.skip))
   |some none=>xi P np τ all Q os (st.app o.dst Dl.skip)
   |none=>False
theorem Eqv.free {ns:Nat→Bool}{st st':St}(h:Eqv st st')(hf:yG ns st):yG ns st':=⟨fun k v hv=>hf.s k v (by rw [←h.s];exact hv),fun k v hv=>hf.b k v (by rw [←h.b];exact hv)⟩
theorem Eqv.pf {st st':St}(h:Eqv st st')(hf:PF st):PF st':=fun d R hR hex=>by
 have :=hf d R (by rw [←h.r];exact hR) hex
 exact⟨fun k v hv=>this.s k v (by rw [←h.s];exact hv),fun k v hv=>this.b k v (by rw [←h.b];exact hv)⟩
section
variable {P:Program} {np:Bool} {τ:Ty} {lo:Nat} {w0:Fz} {st:St} {a:Act} {w:World}
theorem XP (hτ:zu P τ)(hpos:yR τ){all:List Oper}(hm:ZT np all=true){Q:St→Prop}{Q':Exit→Act→World→Prop}(hQ: ∀st a w,Q st→Rel τ lo w0 st a w→Q' .normal a w):
  ∀(os:List Oper) (k:Nat) (st:St) (a:Act) (w:World),(∀j,os[j]? =all[k+j]?)→yw a.tmps.size all=true→(∀j o,k≤j→all[j]? =some o→ye np o=true→yG (own (zq o)) st)→(np=true→PF st)→Rel τ lo w0 st a w→xi P np τ all Q os st→wpList P all.toArray Q' os a w
 | [],k,st,a,w,_,_,_,_,hr,h=>wpList_nil (hQ _ _ _ h hr)
 |o::os,k,st,a,w,hl,hd,hinv,hpf,hr,h=>by
  have ho:all[k]? =some o:=by simpa using (hl 0).symm
  have hd1: ∀j,o.dst=some j→j<a.tmps.size:=fun j hj=>by
   have :=List.all_eq_true.1 hd o (List.mem_of_getElem? ho)
   rw [hj]at this
   simpa using this
  refine wpList_step fun K' hK'=> ?_
  -- from any state that says the same
  have next: ∀st,(∀j o,k≤j→all[j]? =some o→ye np o=true→yG (own (zq o)) st)→(np=true→PF st)→∀δ,xq P np τ all o st δ→xi P np τ all Q os (st.app o.dst δ)→∀x w',Rel τ lo w0 (st.app o.dst δ) (a.put o.dst x) w'→K' (a.put o.dst x) w':=fun st hinv hpf δ hstep hrest x w' hr'=>by
   have hf:ye np o=true→yG (own (zq o)) st:=hinv k o (Nat.le_refl _) ho
   refine hK' _ _ (XP hτ hpos hm hQ os (k+1) _ _ w' (fun j=>by have :=hl (j+1);simpa [Nat.add_assoc,Nat.add_comm 1 j]using this) (by rw [xX];exact hd) (fun j oj hkj hj hmk=> ?_) (fun e=>by subst e;exact uU (hpf rfl) hf hstep) hr' hrest)
   refine KA (hinv j oj (by omega) hj hmk) (fun hmo n hn=> ?_) hstep
   have hkl:k<all.length:=(List.getElem?_eq_some_iff.1 ho).1
   have hjl:j<all.length:=(List.getElem?_eq_some_iff.1 hj).1
   have h1:=List.all_eq_true.1 (List.all_eq_true.1 hm k (List.mem_range.2 hkl)) j (List.mem_range.2 hjl)
   rw [ho,hj]at h1
   simp only [hmo,hmk,Bool.and_self,Bool.not_true,Bool.or_false,Bool.or_eq_true,beq_iff_eq,bne_iff_ne,ne_eq]at h1
   rcases h1 with h1|h1
   ·omega
   ·exact zAS h1 n hn
  have run: ∀st,(∀j o,k≤j→all[j]? =some o→ye np o=true→yG (own (zq o)) st)→(np=true→PF st)→Rel τ lo w0 st a w→∀δ,qn P np τ o st δ→xq P np τ all o st δ→xi P np τ all Q os (st.app o.dst δ)→o.wp P a w K' Q':=fun st hinv hpf hr δ ha hs hrest=>Vg hτ hpos hd1 hr (hinv k o (Nat.le_refl _) ho) hpf ha (next st hinv hpf δ hs hrest)
  have skip: ∀st,(∀j o,k≤j→all[j]? =some o→ye np o=true→yG (own (zq o)) st)→(np=true→PF st)→Rel τ lo w0 st a w→xq P np τ all o st Dl.skip→xi P np τ all Q os (st.app o.dst Dl.skip)→K' (a.put o.dst undef) w:=fun st hinv hpf hr hs hrest=>by
   refine next st hinv hpf Dl.skip hs hrest undef w ?_
   obtain⟨ow,hd',bk,hrr⟩:=hr
   exact qM (yj hrr hd1 (v:= .tup []) (x:=undef) (by simp only [AvR];exact⟨[],rfl,by simp [zW]⟩)) (Zm _)
  simp only [xi]at h
  split at h
  ·rename_i hg
   rw [if_pos (by simp [Region.wanted,hg])]
   obtain⟨δ,h1,h2⟩:=Yo h
   exact run st hinv hpf hr δ h1 (by unfold xq;rw [hg];exact h1) h2
  ·rename_i g want hg
   split at h
   ·rename_i b hgv
    have hy:=ql hr hgv
    have he:=jr hgv
    have hgv':xQ all (yQ all st g b) g=some (some b):=by rw [QM (st:=st) fun o' d _ _=>he.s d];exact hgv
    have hinv': ∀j o,k≤j→all[j]? =some o→ye np o=true→yG (own (zq o)) (yQ all st g b):=fun j o h1 h2 h3=>he.free (hinv j o h1 h2 h3)
    have hpf':np=true→PF (yQ all st g b):=fun e=>he.pf (hpf e)
    have hr':Rel τ lo w0 (yQ all st g b) a w:=qM hr he.cov
    have hb:if want=b then vv P np τ o (yQ all st g b) fun δ=>xi P np τ all Q os ((yQ all st g b).app o.dst δ)else xi P np τ all Q os ((yQ all st g b).app o.dst Dl.skip):=by
     cases b
     ·exact h.2 rfl
     ·exact h.1 rfl
    by_cases hw:want=b
    ·rw [if_pos hw]at hb
     rw [if_pos (by simp [Region.wanted,hg,hy,hw])]
     obtain⟨δ,h1,h2⟩:=Yo hb
     refine run _ hinv' hpf' hr' δ h1 ?_ h2
     unfold xq;rw [hg];simp only [hgv']
     exact⟨fun _=>h1,fun e'=>by subst hw;cases want<;>cases e'⟩
    ·rw [if_neg hw]at hb
     rw [if_neg (by simp [Region.wanted,hg,hy];exact fun e=>hw e.symm)]
     refine skip _ hinv' hpf' hr' ?_ hb
     unfold xq;rw [hg];simp only [hgv']
     exact⟨fun h=>absurd h.symm hw,fun _=>by first|rfl|trivial⟩
   ·rename_i hgv
    have hy:=ql hr hgv
    rw [if_neg (by simp [Region.wanted,hg,hy])]
    refine skip st hinv hpf hr ?_ h
    unfold xq;rw [hg];simp only [hgv]
   ·exact h.elim
theorem JM (h:Rel τ lo w0 st a w)(ops:List Oper):Rel τ lo w0 (st.start np ops) a w:=by
 have h1:Rel τ lo w0 (st.clean np ops) a w:=Ki h _ _
 unfold St.start
 split
 ·exact kr h1
 ·exact h1
theorem WU {ops:List Oper}{j:Nat}{o:Oper}(ho:ops[j]? =some o)(hm:ye np o=true):yG (own (zq o)) (st.start np ops):=by
 have hfc:yG (own (zq o)) (st.clean np ops):=by
  refine XX (fun d hdt=> ?_) (Zl ho hm)
  rw [hdt];exact Zl ho hm
 unfold St.start
 split
 ·exact jG hfc
 ·exact hfc
theorem zp (np:Bool)(hτ:zu P τ)(hpos:yR τ){Q:Exit→St→Prop}{id:Nat}{ops:List Oper}(hs:ZT np ops=true)(hd:yw st.n ops=true)(h:xi P np τ ops (Q .normal) ops (st.start np ops)):awp P τ (.region id ops.toArray false) Q st:=fun lo w0 a w hr=>by
 have hn:a.tmps.size=st.n:=by obtain⟨ow,hd,bk,h⟩:=hr;exact h.size
 refine wp_region_lit (XP (np:=np) hτ hpos hs (fun st a w h1 h2=>⟨st,h2,h1⟩) ops 0 (st.start np ops) a w (by simp) (by rw [hn];exact hd) (fun j o _ ho hm=>WU ho hm) (fun e=>by unfold St.start;rw [if_pos e];exact Vu _) (JM hr ops) h)
def St.settle (e:TypeId)(t:Nat)(st:St):St:=
 let y:=hom [] (.sl e) st (zX t 0) (ev st (.tmp t))
 y.1.put (some t) y.2.1
theorem wx (e:TypeId)(t:Nat)(ht:t<st.n){c:Code}{Q:Exit→St→Prop}(h:awp P τ c Q (st.settle e t)):awp P τ c Q st:=fun lo w0 a w hr=>by
 obtain⟨ow,hd,bk,hrr⟩:=hr
 have hx:=zY hrr (.tmp t)
 obtain⟨ow',hd',r1,r2,-,-⟩:=Zj hrr [] (.sl e) (zX t 0) hx
 have hsz:t<a.tmps.size:=by rw [hrr.size];exact ht
 have hrel:=yj (d:=some t) r1 (fun k hk=>by cases hk;exact hsz) r2
 have hput:a.put (some t) (a.eval (.tmp t))=a:=by
  unfold Act.put Act.eval
  simp only
  congr 1
  apply Array.ext_getElem?
  intro i
  rw [Array.getElem?_setIfInBounds]
  split
  ·rename_i e;subst e
   first
    |(rw [if_pos hsz,Array.getD_eq_getD_getElem?,Array.getElem?_eq_getElem hsz];rfl)
    |(rw [Array.getD_eq_getD_getElem?,Array.getElem?_eq_getElem hsz];simp)
    |(simp [hsz])
  ·rfl
 rw [hput]at hrel
 exact h lo w0 a w hrel
end
def xR (τ:Ty)(st:St):ResultVar→Option (AV×Prop)
 | .tmp t=>some (ev st (.tmp t),True)
 | .cell a t=>qD τ st t (ev st (.tmp a))
def yY (τ:Ty)(st:St):List ResultVar→Option (List AV×Prop)
 | []=>some ([],True)
 |r::rs=>match xR τ st r,yY τ st rs with
  |some (v,p),some (vs,q)=>some (v::vs,p∧q)
  |_,_=>none
def RetR (τ:Ty)(rs:List ResultVar)(ress:List VT)(e:Exit)(st:St):Prop:=(e= .ret∨e= .normal)∧
 match yY τ st rs with
 |some (vs,ob)=>ob∧zh τ st vs ress
 |none=>False
section
variable {P:Program} {τ:Ty} {lo:Nat} {w0:Fz} {ow:Nat→Option Pl} {hd:Nat→Value} {bk:Nat→Nat} {st:St} {a:Act} {w:World}
theorem zCd {t:TypeId}{u z:Value}(h:(Instr.loadAt t u).run P w= .ok z w):(do loadVar t (←asAddr u):Sem Value).run P w= .ok z w:=by
 unfold Instr.loadAt at h
 rw [Sem.run_bind]at h⊢
 have bad:Instr.sureAddr u=stuck "an address expected (no nilCheck in front?)" →False:=fun e=>by
  rw [e]at h
  simp [stuck,Sem.run,Result.andThen]at h
 cases u with
 |pointer q=>
  cases q with
  |none=>exact(bad rfl).elim
  |some b=>simpa [Instr.sureAddr,asAddr]using h
 |_=>exact(bad rfl).elim
theorem UP (hτ:zu P τ)(hpos:yR τ)(h:zb τ lo w0 ow hd bk st a w){r:ResultVar}{v:AV}{ob:Prop}(he:xR τ st r=some (v,ob))(hob:ob):
  ∃z,(match r with| .tmp t=>pure (a.tmps.getD t undef)| .cell c t=>do loadVar t (←asAddr (a.tmps.getD c undef)):Sem Value).run P w= .ok z w∧AvR τ w st.r st.b hd bk v z:=by
 cases r with
 |tmp t=>
  simp only [xR,Option.some.injEq,Prod.mk.injEq]at he
  obtain⟨rfl,rfl⟩:=he
  exact⟨a.tmps.getD t undef,Sem.run_pure ..,zY h (.tmp t)⟩
 |cell c t=>
  obtain⟨z,hz,hv⟩:=Qq hτ hpos h (zY h (.tmp c)) he hob
  exact⟨z,zCd hz,hv⟩
theorem Xw (hτ:zu P τ)(hpos:yR τ)(h:zb τ lo w0 ow hd bk st a w){fn:Func}{rs:List ResultVar}(hrs:fn.results=rs.toArray){vs:List AV}{ob:Prop}(he:yY τ st rs=some (vs,ob))(hob:ob):
  ∃xs,(results fn a.tmps).run P w= .ok (vV xs) w∧zW τ w st.r st.b hd bk vs xs:=by
 have key: ∀(g:ResultVar→Sem Value),(∀t,g (.tmp t)=pure (a.tmps.getD t undef))→(∀c t,g (.cell c t)=do loadVar t (←asAddr (a.tmps.getD c undef)))→∀(rs:List ResultVar) (vs:List AV) (ob:Prop),yY τ st rs=some (vs,ob)→ob→∃xs,(rs.mapM g).run P w= .ok xs w∧zW τ w st.r st.b hd bk vs xs:=by
  intro g hg1 hg2 rs
  induction rs with
  |nil=>
   intro vs ob he _
   simp only [yY,Option.some.injEq,Prod.mk.injEq]at he
   obtain⟨rfl,rfl⟩:=he
   exact⟨[],by simp,by simp [zW]⟩
  |cons r rs ih=>
   intro vs ob he hob
   simp only [yY]at he
   split at he
   ·rename_i v p vs' q e1 e2
    simp only [Option.some.injEq,Prod.mk.injEq]at he
    obtain⟨rfl,rfl⟩:=he
    obtain⟨z,hz,hv⟩:=UP hτ hpos h e1 hob.1
    obtain⟨xs,hx,hvs⟩:=ih vs' q e2 hob.2
    refine⟨z::xs,?_,by simp only [zW];exact⟨z,xs,rfl,hv,hvs⟩⟩
    have hg:(g r).run P w= .ok z w:=by
     cases r with
     |tmp t=>rw [hg1];exact hz
     |cell c t=>rw [hg2];exact hz
    rw [List.mapM_cons,Sem.run_bind,hg,Result.andThen_ok,Sem.run_bind,hx,Result.andThen_ok,Sem.run_pure]
   ·cases he
 unfold results
 rw [hrs,Array.mapM_eq_mapM_toList]
 obtain⟨xs,hx,hv⟩:=key (fun x=>match x with| .tmp t=>pure (a.tmps.getD t undef)| .cell c t=>do loadVar t (←asAddr (a.tmps.getD c undef))) (fun _=>rfl) (fun _ _=>rfl) rs vs ob he hob
 refine⟨xs,?_,hv⟩
 rw [Sem.run_bind]
 have hm: ∀(m:Sem (List Value)),m.run P w= .ok xs w→((List.toArray<$>m:Sem (Array Value))).run P w= .ok xs.toArray w:=fun m hm=>by
  rw [map_eq_pure_bind,Sem.run_bind,hm,Result.andThen_ok]
  simp
 refine Eq.trans (congrArg (fun r=>Result.andThen r (fun(vs:Array Value) w'=>Sem.run P (pure (if h:vs.size=1 then vs[0]else Value.tuple vs)) w')) (hm _ hx)) ?_
 rw [Result.andThen_ok,Sem.run_pure]
 match xs with
 | []=>simp [vV]
 | [t]=>simp [vV]
 |t::t'::ts=>simp [vV]
theorem ZK (hτ:zu P τ)(hpos:yR τ){f:FuncId}{fn:Func}{c:Code}{rs:List ResultVar}{args ress:List VT}(hfn:P.funcs[f]? =some fn)(hname:(fn.name== "runtime.NumGoroutine")=false)(hb:fn.body=some c)(hres:fn.results=rs.toArray)(hn:args.length≤fn.ntmps)(hfew:few args=true)(hs:szA τ args)
  (h:awp P τ c (RetR τ rs ress) (wT τ fn.ntmps args)):Fn P τ f args ress:=by
 refine⟨⟨fn,hfn,hname,by rw [hb];rfl⟩,fun w cargs hargs=> ?_⟩
 have hstart:Rel τ w.heap.size (.plain w) (wT τ fn.ntmps args) {tmps:=cargs.toArray++Array.replicate (fn.ntmps - cargs.toArray.size) undef,defers:= []} w:=⟨_,_,_,Qh hs hfew hn hargs⟩
 refine calls_of_wp hfn hb (Go.wp_mono (h w.heap.size (.plain w) _ w hstart) fun e a' w' ⟨st',⟨ow,hd,bk,hr⟩,he,hret0⟩=> ?_)
 have hpost:a'.defers= []∧∃v,(results fn a'.tmps).run P w'= .ok v w'∧Wc τ w ress (.returned v) w':=by
  split at hret0
  ·rename_i avs ob0 hrv
   obtain⟨hob0,hret⟩:=hret0
   obtain⟨xs,hrun,hv⟩:=Xw hτ hpos hr hres hrv hob0
   refine⟨hr.defers,_,hrun,?_⟩
   unfold zh at hret
   split at hret
   ·rename_i us hus
    split at hret
    ·rename_i is ob hcells
     obtain⟨cs,k1,k2⟩:=qg (S:=sz τ) (lo:=w.heap.size) (ow:=qE ow is) 0 hus hv
     obtain⟨m1,m2⟩:=wS hr hcells hret.2 hret.1 k1
     refine⟨_,qE ow is,rfl,hr.below.to_below,fun b hlt=> ?_,fun b p hp=> ?_,k2 m1 fun i d c hd hc=>by rw [Nat.zero_add];exact m2 i d c hd hc⟩
     ·unfold qE
      split
      ·rename_i d q ho
       have :=(hr.ge b _ (by have :=hr.below.to_below.size;omega) ho (by simp)).1
       omega
      ·rfl
     ·unfold qE at hp
      split at hp
      ·rename_i d q ho
       split at hp
       ·cases hp
        refine⟨?_,by simp⟩
        rcases Nat.lt_or_ge b w'.heap.size with h'|h'
        ·exact h'
        ·rw [hr.new b h']at ho;cases ho
       ·cases hp
      ·cases hp
    ·exact hret.elim
   ·exact hret.elim
  ·exact hret0.elim
 rcases he with rfl|rfl<;>exact hpost
end
def XJ (id:Nat):Nat:=1000000+id
abbrev Out :=Nat×TypeId×List D
def ub (τ:Ty)(lo:Nat)(w:World)(ow:Nat→Option Pl)(outs:List Out)(ress:List VT)(cargs:List Value)(e:Ending)(w':World):Prop:=
 ∃vs ow',e= .returned (vV vs)∧yl ⟨w,fun b=>ow b=none,fun _=>none⟩ w'∧(∀b,b<w.heap.size→ow b=none→ow' b=none)∧(∀b p,ow' b=some p→b<w'.heap.size∧lo≤b∧∃d q,p= .root d q)∧
  vd (sz τ) lo w' ow' 0 ress vs∧∀x∈outs,Rp (sz τ) lo w' ow' (.ex (XJ x.1) []) (.lst x.2.1 x.2.2) (yS cargs x.1)
def FnG (P:Program)(τ:Ty)(f:FuncId)(args:List VT)(own:List Nat)(outs:List Out)(ress:List VT):Prop:=
 vc P f∧∀(lo:Nat) (w:World) (ow:Nat→Option Pl) (cargs:List Value),lo≤w.heap.size→(∀b p,ow b=some p→b<w.heap.size∧lo≤b∧∃d q,p= .root d q)→VZ (sz τ) lo w ow own args cargs→
  Calls P f cargs.toArray w (ub τ lo w ow outs ress cargs)
def WD (own:List Nat):List (Nat×zn)→List (Nat×zn)
 | []=> []
 |(d,R)::l=>(d,if own.contains d then⟨.ex,R.e,R.xs,some d⟩else R)::WD own l
theorem jc (own:List Nat): ∀(l:List (Nat×zn)) (d:Nat),lk (WD own l) d=(lk l d).map fun R=>if own.contains d then⟨.ex,R.e,R.xs,some d⟩else R
 | [],d=>rfl
 |(k,R)::l,d=>by
  simp only [WD,za]
  split
  ·rename_i e;subst e;rfl
  ·exact jc own l d
def vW (τ:Ty)(n:Nat)(own:List Nat)(args:List VT):St:={n:=n,s:=vf τ 0 args,b:= [],r:=WD own (xr 0 args)}
section
variable {P:Program} {τ:Ty} {lo:Nat} {w0:Fz} {ow:Nat→Option Pl} {hd:Nat→Value} {bk:Nat→Nat} {st:St} {a:Act} {w:World}
theorem Kw {n:Nat}{own:List Nat}{args:List VT}{cargs:List Value}(hs:szA τ args)(hfew:few args=true)(hn:args.length≤n)(hlo:lo≤w.heap.size)(how: ∀b p,ow b=some p→b<w.heap.size∧lo≤b∧∃d q,p= .root d q)(h:VZ (sz τ) lo w ow own args cargs):
  zb τ lo ⟨w,fun b=>ow b=none,fun id=>some (yS cargs id)⟩ ow (yS cargs) (bk0 (yS cargs 999999)) (vW τ n own args) {tmps:=cargs.toArray++Array.replicate (n - cargs.toArray.size) undef,defers:= []} w:=by
 obtain⟨hl,hargs⟩:=h
 have hdiv: ∀m i,i<16→(zX m i) / 16=m∧(zX m i)%16=i:=fun m i hi=>by unfold zX;omega
 have hcell: ∀(m:Nat) (x:VT) (v:Value),args[m]? =some x→cargs[m]? =some v→∃cs:List Value,cs.length=x.cells.length∧(∀(i:Nat) (d:D) (c:Value),x.cells[i]? =some d→cs[i]? =some c→Rp (sz τ) lo w ow (gm own (zX m i)) d c∧(yS cargs (zX m i)=c∨xG d=true))∧QF x v cs:=fun m x v hx hv=>by
  have h16:x.cells.length≤16:=by have :=List.all_eq_true.1 hfew x (List.mem_of_getElem? hx);simpa using this
  obtain⟨cs,h1,h2,h3⟩:=hargs m x v hx hv
  refine⟨cs,h1,fun i d c hd hc=>⟨h2 i d c hd hc,?_⟩,h3⟩
  have hi:i<16:=by have :=(List.getElem?_eq_some_iff.1 hd).1;omega
  rcases h3 with⟨d',c',rfl,rfl,rfl⟩|⟨ds,rfl,rfl⟩|⟨f,ds,rfl,rfl⟩
  ·simp only [VT.cells]at hd
   cases i with
   |succ i=>simp at hd
   |zero=>
    simp at hd hc;subst hd;subst hc
    cases d' with
    |int k n=>right;rfl
    |bool b=>right;rfl
    |hole=>
     left
     have h9:=h2 0 _ _ rfl rfl
     simp only [Rp]at h9
     obtain⟨A,n',c',rfl⟩:=h9
     simp only [yS,(hdiv m 0 (by omega)).1,hv]
    |lst e xs=>
     left
     obtain⟨A,n',c',rfl,-⟩:=xS (h2 0 _ _ rfl rfl)
     simp only [yS,(hdiv m 0 (by omega)).1,hv]
  ·left
   simp only [yS,(hdiv m i hi).1,(hdiv m i hi).2,hv]
   rw [Array.getD_eq_getD_getElem?,List.getElem?_toArray,hc]
   rfl
  ·left
   simp only [yS,(hdiv m i hi).1,(hdiv m i hi).2,hv]
   rw [Array.getD_eq_getD_getElem?,List.getElem?_toArray,hc]
   rfl
 have hroot: ∀d R,lk (vW τ n own args).r d=some R→Rp (sz τ) lo w ow (md R.o d) (.lst R.e R.xs) (yS cargs d)∧(R.pin=none∨R.pin=some d):=fun d R hR=>by
  simp only [vW,jc]at hR
  cases hx:lk (xr 0 args) d with
  |none=>rw [hx]at hR;cases hR
  |some R0=>
   rw [hx]at hR
   simp only [Option.map_some,Option.some.injEq]at hR
   obtain⟨m,x,k,h1,h2,h3,h4⟩:=YH args 0 d R0 hx
   rw [Nat.zero_add]at h4
   have hm:m<cargs.length:=by rw [hl];exact(List.getElem?_eq_some_iff.1 h1).1
   obtain⟨cs,c1,c2,-⟩:=hcell m x _ h1 (List.getElem?_eq_getElem hm)
   have hk:k<cs.length:=by rw [c1];exact(List.getElem?_eq_some_iff.1 h2).1
   obtain⟨q1,q2⟩:=c2 k _ _ h2 (List.getElem?_eq_getElem hk)
   rcases q2 with q2|q2
   ·rw [←h4]at q1 q2
    rw [q2]
    unfold gm at q1
    split at hR
    ·rename_i ho
     rw [if_pos ho]at q1
     subst hR
     exact⟨q1, .inr rfl⟩
    ·rename_i ho
     rw [if_neg ho]at q1
     subst hR
     rw [h3]
     exact⟨q1, .inl (ZM args 0 d R0 hx)⟩
   ·cases q2
 refine⟨fun ad had=>(by simp only [Option.some.injEq]at had;simp [bk0,had]),rfl,?_,hlo,yl.start ⟨w,fun b=>ow b=none,_⟩,fun b p _ hb _=>⟨(how b p hb).2.1,fun _ hk=>by rw [show ow b=none from hk]at hb;cases hb⟩,fun b hb=> ?_,fun k v hv=> ?_,fun d R hR=>(hroot d R hR).1,fun t vs hv=>by simp [vW,lk]at hv,fun d R i hR hp=> ?_⟩
 ·simp [vW,hl];omega
 ·cases ho:ow b with
  |none=>rfl
  |some p=>have :=(how b p ho).1;omega
 ·obtain⟨m,x,h1,h2,h3⟩:=YI args 0 k v hv
  rw [Nat.zero_add]at h2
  subst h2;subst h3
  have hm:k<cargs.length:=by rw [hl];exact(List.getElem?_eq_some_iff.1 h1).1
  have hget:(cargs.toArray++Array.replicate (n - cargs.toArray.size) undef).getD k undef=cargs[k]:=by
   rw [Array.getD_eq_getD_getElem?,Array.getElem?_append_left (by simpa using hm)]
   simp [hm]
  have hv':cargs[k]? =some cargs[k]:=List.getElem?_eq_getElem hm
  obtain⟨cs,c1,c2,c3⟩:=hcell k x _ h1 hv'
  have hsx:szL τ x.cells:=hs x (List.mem_of_getElem? h1)
  have hres:=vQ (τ:=τ) (lo:=lo) (w:=w) (ow:=ow) (hd:=yS cargs) (bk:=bk0 (yS cargs 999999)) (rr:=(vW τ n own args).r) (bb:=(vW τ n own args).b) k x.cells 0 cs c1 hsx (fun i d c hd hc=>⟨_,(c2 i d c hd hc).1⟩) (fun i e xs c hd hc=>by
   rcases(c2 i _ c hd hc).2 with q|q
   ·rw [Nat.zero_add];exact q
   ·cases q)
  rw [hget]
  rcases c3 with⟨d,c,rfl,rfl,hc⟩|⟨ds,rfl,hc⟩|⟨f,ds,rfl,hc⟩
  ·simp only [VT.cells]at hres
   rw [hc]
   have e:yH τ k 0 [d]= [(yH τ k 0 [d]).headD .dead]:=by cases d<;>rfl
   rw [e]at hres
   simp only [zW]at hres
   obtain⟨y,ys,e1,h4,-⟩:=hres
   cases e1
   exact h4
  ·rw [hc];simp only [ZZ,AvR];exact⟨cs,rfl,hres⟩
  ·rw [hc];simp only [ZZ,AvR];exact⟨cs,rfl,hres⟩
 ·rcases(hroot d R hR).2 with q|q
  ·rw [q]at hp;cases hp
  ·rw [q]at hp;cases hp;rfl
def wC (st:St)(is:List (Option Nat)):List Out→Prop
 | []=>True
 |(id,e,ys)::l=>(match lk st.r id with|some R=>R.pin=some id∧R.o= .ex∧R.e=e∧R.xs=ys|none=>False)∧is.contains (some id)=false∧wC st is l
theorem Jt {is:List (Option Nat)}: ∀{outs:List Out},wC st is outs→∀x∈outs,(∃R,lk st.r x.1=some R∧R.pin=some x.1∧R.o= .ex∧R.e=x.2.1∧R.xs=x.2.2)∧is.contains (some x.1)=false
 | [],_,x,hx=>by simp at hx
 |(id,e,ys)::l,h,x,hx=>by
  simp only [wC]at h
  rcases List.mem_cons.1 hx with rfl|hx
  ·refine⟨?_,h.2.1⟩
   have :=h.1
   split at this
   ·rename_i R hR;exact⟨R,hR,this⟩
   ·exact this.elim
  ·exact Jt h.2.2 x hx
def ZL (τ:Ty)(st:St)(vs:List AV)(ress:List VT)(outs:List Out):Prop:=
 match xC ress vs with
 |some us=>match qc τ st (zm ress) us with
  |some (is,ob)=>ZC is=true∧ob∧wC st is outs
  |none=>False
 |none=>False
def RetG (τ:Ty)(rs:List ResultVar)(ress:List VT)(outs:List Out)(e:Exit)(st:St):Prop:=(e= .ret∨e= .normal)∧
 match yY τ st rs with
 |some (vs,ob)=>ob∧ZL τ st vs ress outs
 |none=>False
theorem XK : ∀(l:List (Option Nat)) (j d:Nat),l.contains (some d)=false→wD l j d=none
 | [],j,d,_=>rfl
 |none::l,j,d,h=>by
  simp only [wD]
  exact XK l (j+1) d (by simpa using h)
 |some d'::l,j,d,h=>by
  simp only [List.contains_cons,Bool.or_eq_false_iff]at h
  have hne:d'≠d:=by rintro rfl;simp at h
  simp only [wD,if_neg hne]
  exact XK l (j+1) d h.2
theorem UM {is:List (Option Nat)}{b:Nat}{p:Pl}(h:qE ow is b=some p): ∃d q j,ow b=some (.root d q)∧wD is 0 d=some j∧p= .root j q:=by
 unfold qE at h
 split at h
 ·rename_i d q ho
  split at h
  ·rename_i j hj;cases h;exact⟨d,q,j,ho,hj,rfl⟩
  ·cases h
 ·cases h
theorem Va (hτ:zu P τ)(hpos:yR τ){f:FuncId}{fn:Func}{c:Code}{rs:List ResultVar}{own:List Nat}{outs:List Out}{args ress:List VT}(hfn:P.funcs[f]? =some fn)(hname:(fn.name== "runtime.NumGoroutine")=false)(hb:fn.body=some c)(hres:fn.results=rs.toArray)(hn:args.length≤fn.ntmps)(hfew:few args=true)(hs:szA τ args)
  (h:awp P τ c (RetG τ rs ress outs) (vW τ fn.ntmps own args)):FnG P τ f args own outs ress:=by
 refine⟨⟨fn,hfn,hname,by rw [hb];rfl⟩,fun lo w ow0 cargs hlo how hargs=> ?_⟩
 have hstart:Rel τ lo ⟨w,fun b=>ow0 b=none,fun id=>some (yS cargs id)⟩ (vW τ fn.ntmps own args) {tmps:=cargs.toArray++Array.replicate (fn.ntmps - cargs.toArray.size) undef,defers:= []} w:=⟨_,_,_,Kw hs hfew hn hlo how hargs⟩
 refine calls_of_wp hfn hb (Go.wp_mono (h lo _ _ w hstart) fun e a' w' ⟨st',⟨ow,hd,bk,hr⟩,he,hret0⟩=> ?_)
 have hpost:a'.defers= []∧∃v,(results fn a'.tmps).run P w'= .ok v w'∧ub τ lo w ow0 outs ress cargs (.returned v) w':=by
  split at hret0
  ·rename_i avs ob0 hrv
   obtain⟨hob0,hret⟩:=hret0
   obtain⟨xs,hrun,hv⟩:=Xw hτ hpos hr hres hrv hob0
   refine⟨hr.defers,_,hrun,?_⟩
   unfold ZL at hret
   split at hret
   ·rename_i us hus
    split at hret
    ·rename_i is ob hcells
     obtain⟨hdup,hob,hout⟩:=hret
     have hout':=Jt hout
     let ow2:Nat→Option Pl:=fun b=>match qE ow is b with
      |some p=>some p
      |none=>match ow b with|some (.root d q)=>if(outs.any fun x=>x.1==d)=true then some (.root (XJ d) q)else none|_=>none
     have e1: ∀b p,qE ow is b=some p→ow2 b=some p:=fun b p hp=>by simp only [ow2,hp]
     have e2: ∀b p,ow2 b=some p→∃d q,ow b=some (.root d q)∧∃d' q',p= .root d' q':=fun b p hp=>by
      simp only [ow2]at hp
      split at hp
      ·rename_i p' hp'
       obtain⟨d,q,j,h1,h2,h3⟩:=UM hp'
       cases hp
       exact⟨d,q,h1,j,q,h3⟩
      ·split at hp
       ·rename_i d q ho
        split at hp
        ·cases hp;exact⟨d,q,ho,_,_,rfl⟩
        ·cases hp
       ·cases hp
     obtain⟨cs,k1,k2⟩:=qg (S:=sz τ) (lo:=lo) (ow:=ow2) 0 hus hv
     obtain⟨m1,m2⟩:=wS hr hcells hob hdup k1
     refine⟨_,ow2,rfl,⟨hr.below.os,hr.below.tape,hr.below.output,hr.below.size,hr.below.block⟩,fun b hlt hb0=> ?_,fun b p hp=> ?_,k2 m1 fun i d c hd hc=> ?_,fun x hx=> ?_⟩
     ·cases ho2:ow2 b with
      |none=>rfl
      |some p=>
       obtain⟨d,q,ho,-⟩:=e2 b p ho2
       have hlt':b<w'.heap.size:=Nat.lt_of_lt_of_le hlt hr.below.size
       exact absurd hb0 ((hr.ge b _ hlt' ho (by simp)).2 hlt)
     ·obtain⟨d,q,ho,hp'⟩:=e2 b p hp
      have hlt:b<w'.heap.size:=by
       rcases Nat.lt_or_ge b w'.heap.size with h'|h'
       ·exact h'
       ·rw [hr.new b h']at ho;cases ho
      exact⟨hlt,(hr.ge b _ hlt ho (by simp)).1,hp'⟩
     ·rw [Nat.zero_add]
      refine yC _ _ (Nat.le_refl _) _ _ _ (fun b hb hrel=>⟨rfl,?_⟩) (m2 i d c hd hc)
      obtain⟨q,hq⟩:=hrel
      rw [hq]
      exact e1 b _ hq
     ·obtain⟨⟨R,hR,hp,ho,he',hx'⟩,hni⟩:=hout' x hx
      have hroot:=hr.root _ R hR
      rw [ho,he',hx']at hroot
      have hpin:hd x.1=yS cargs x.1:=by have :=hr.pin _ R _ hR hp;exact(Option.some.inj this).symm
      rw [hpin]at hroot
      refine xn _ _ _ _ _ [] [] _ (fun b q hb hq=> ?_) hroot
      have hnone:qE ow is b=none:=by
       unfold qE
       simp only [List.nil_append]at hq
       rw [hq]
       simp only [XK is 0 _ hni]
      simp only [List.nil_append]at hq⊢
      simp only [ow2,hnone,hq]
      rw [if_pos (List.any_eq_true.2 ⟨x,hx,by simp⟩)]
    ·exact hret.elim
   ·exact hret.elim
  ·exact hret0.elim
 rcases he with rfl|rfl<;>exact hpost
end
structure yW where
 id:Nat
 d:Nat
 p:List Nat
 e:TypeId
 out:Option (List D)
def WM :List Out→Nat→Option (TypeId×List D)
 | [],_=>none
 |(k,e,ys)::l,id=>if k=id then some (e,ys)else WM l id
def wc (vs:List AV)(id:Nat):AV:=
 match vs.getD (id / 16) .dead with
 | .agg us=>us.getD (id%16) .dead
 | .fn _ us=>us.getD (id%16) .dead
 |v=>if id%16=0 then v else .dead
def Yb (τ:Ty)(st:St)(vs:List AV)(outs:List Out)(id:Nat):Option (yW×Prop):=
 match wc vs id with
 | .sl d p 0 len e=>match lk st.r d with
  |some R=>if R.o.isEx=true∧0<sz τ e then
    match p,WM outs id with
    | [],none=>some (⟨id,d,[],e,none⟩,R.e=e∧len*sz τ e=R.xs.length)
    | [],some (e',ys)=>some (⟨id,d,[],e,some ys⟩,R.e=e∧len*sz τ e=R.xs.length∧e'=e)
    | [j],some (e',ys)=>some (⟨id,d,[j],e,some ys⟩,zf R.xs [j]∧qZ R.e R.xs [j]=e∧len*sz τ e=(yE R.xs [j]).length∧e'=e)
    |_,_=>none
   else none
  |none=>none
 |_=>none
def vN (τ:Ty)(st:St)(vs:List AV)(outs:List Out):List Nat→Option (List yW×Prop)
 | []=>some ([],True)
 |id::l=>match Yb τ st vs outs id,vN τ st vs outs l with
  |some (x,p),some (xs,q)=>some (x::xs,p∧q)
  |_,_=>none
def jo (x y:yW):Prop:=if x.d=y.d then(match x.p,y.p with| [i],[j]=>i≠j|_,_=>False)else True
def jn (x:yW):List yW→Prop
 | []=>True
 |y::l=>jo x y∧jn x l
def qh :List yW→Prop
 | []=>True
 |x::l=>jn x l∧qh l
def Zo (own:List Nat)(m:Nat):Nat→List AV→List Nat
 |_,[]=> []
 |j,u::us=>(if own.contains (zX m j)=true then []else u.nm)++Zo own m (j+1) us
def wi (own:List Nat):Nat→List AV→List Nat
 |_,[]=> []
 |m,v::vs=>(match v with| .agg us=>Zo own m 0 us| .fn _ us=>Zo own m 0 us|v=>Zo own m 0 [v])++wi own (m+1) vs
def xt (d:Nat)(xs:List D):List yW→List D
 | []=>xs
 |x::l=>if x.d=d then(match x.p,x.out with| [],some ys=>ys| [j],some ys=>(xt d xs l).set j (.lst x.e ys)|_,_=>xt d xs l)else xt d xs l
def va (d:Nat):List yW→Bool
 | []=>false
 |x::l=>if x.d=d then(x.out.isNone||va d l)else va d l
def XD (ls:List yW):List (Nat×zn)→List (Nat×zn)
 | []=> []
 |(d,R)::l=>if va d ls=true then XD ls l else(d,{R with xs:=xt d R.xs ls})::XD ls l
def qR (st:St)(ls:List yW):St:={st.cut with r:=XD ls st.r}
def apart (ns:List Nat)(ls:List yW):Bool:=ns.all fun n=>ls.all fun x=> !(2*x.d==n)
theorem VL (ls:List yW): ∀(r:List (Nat×zn)) (d:Nat),lk (XD ls r) d=if va d ls=true then none else(lk r d).map fun R=>{R with xs:=xt d R.xs ls}
 | [],d=>by simp [XD,lk]
 |(k,R)::l,d=>by
  simp only [XD]
  by_cases hg:va k ls=true
  ·rw [if_pos hg,VL ls l d,za]
   by_cases hk:k=d
   ·subst hk;rw [if_pos hg,if_pos hg]
   ·rw [if_neg hk]
  ·rw [if_neg hg,za,za,VL ls l d]
   by_cases hk:k=d
   ·subst hk;rw [if_pos rfl,if_neg hg,if_pos rfl];rfl
   ·rw [if_neg hk,if_neg hk]
theorem XO {x:yW}: ∀{l:List yW},jn x l→∀y∈l,jo x y
 | [],_,y,hy=>by simp at hy
 |z::l,h,y,hy=>by
  simp only [jn]at h
  rcases List.mem_cons.1 hy with rfl|hy
  ·exact h.1
  ·exact XO h.2 y hy
theorem jp {x y:yW}(h:jo x y)(hd:x.d=y.d): ∃i j,x.p= [i]∧y.p= [j]∧i≠j:=by
 unfold jo at h
 rw [if_pos hd]at h
 split at h
 ·rename_i i j h1 h2;exact⟨i,j,h1,h2,h⟩
 ·exact h.elim
theorem VN {d:Nat}{xs:List D}: ∀{ls:List yW},(∀x∈ls,x.d≠d)→xt d xs ls=xs
 | [],_=>rfl
 |x::l,h=>by
  simp only [xt]
  rw [if_neg (h x (by simp))]
  exact VN fun y hy=>h y (by simp [hy])
theorem WH {d:Nat}{xs ys:List D}: ∀{ls:List yW},qh ls→∀x∈ls,x.d=d→x.p= []→x.out=some ys→xt d xs ls=ys
 | [],_,x,hx,_,_,_=>by simp at hx
 |y::l,h,x,hx,hd,hp,ho=>by
  simp only [qh]at h
  simp only [xt]
  rcases List.mem_cons.1 hx with rfl|hx
  ·rw [if_pos hd,hp,ho]
  ·by_cases hy:y.d=d
   ·obtain⟨i,j,-,h2,-⟩:=jp (XO h.1 x hx) (by rw [hy,hd])
    rw [hp]at h2;cases h2
   ·rw [if_neg hy];exact WH h.2 x hx hd hp ho
theorem Xs {d:Nat}{xs:List D}: ∀{ls:List yW},(∀x∈ls,x.d=d→∃j,x.p= [j])→(xt d xs ls).length=xs.length
 | [],_=>rfl
 |x::l,h=>by
  have ih:=Xs (xs:=xs) (ls:=l) (d:=d) fun y hy=>h y (by simp [hy])
  simp only [xt]
  split
  ·rename_i hd
   obtain⟨j,hj⟩:=h x (by simp) hd
   rw [hj]
   split
   ·rename_i h1 _;cases h1
   ·rw [List.length_set];exact ih
   ·exact ih
  ·exact ih
theorem Js {d i:Nat}{xs:List D}: ∀{ls:List yW},(∀x∈ls,x.d=d→∃j,x.p= [j]∧j≠i)→(xt d xs ls)[i]? =xs[i]?
 | [],_=>rfl
 |x::l,h=>by
  have ih:=Js (xs:=xs) (ls:=l) (d:=d) (i:=i) fun y hy=>h y (by simp [hy])
  simp only [xt]
  split
  ·rename_i hd
   obtain⟨j,hj,hne⟩:=h x (by simp) hd
   rw [hj]
   split
   ·rename_i h1 _;cases h1
   ·rename_i j' ys h1 h2
    cases h1
    rw [List.getElem?_set_ne hne];exact ih
   ·exact ih
  ·exact ih
theorem jj {d i:Nat}{xs ys:List D}(hi:i<xs.length): ∀{ls:List yW},qh ls→(∀x∈ls,x.d=d→∃j,x.p= [j])→∀x∈ls,x.d=d→x.p= [i]→x.out=some ys→(xt d xs ls)[i]? =some (.lst x.e ys)
 | [],_,_,x,hx,_,_,_=>by simp at hx
 |y::l,hs,h,x,hx,hd,hp,ho=>by
  simp only [qh]at hs
  simp only [xt]
  rcases List.mem_cons.1 hx with rfl|hx
  ·rw [if_pos hd,hp,ho]
   simp only
   rw [List.getElem?_set,if_pos rfl,if_pos (by rw [Xs fun y hy=>h y (by simp [hy])];exact hi)]
  ·have ih:=jj (xs:=xs) hi hs.2 (fun y hy=>h y (by simp [hy])) x hx hd hp ho
   by_cases hy:y.d=d
   ·obtain⟨i',j',h1,h2,hne⟩:=jp (XO hs.1 x hx) (by rw [hy,hd])
    rw [hp]at h2;cases h2
    rw [if_pos hy,h1]
    split
    ·rename_i h3 _;cases h3
    ·rename_i j'' ys' h3 h4
     cases h3
     rw [List.getElem?_set_ne hne];exact ih
    ·exact ih
   ·rw [if_neg hy];exact ih
theorem VH {d:Nat}: ∀{ls:List yW},va d ls=false→∀x∈ls,x.d=d→∃ys,x.out=some ys
 | [],_,x,hx,_=>by simp at hx
 |y::l,h,x,hx,hd=>by
  simp only [va]at h
  rcases List.mem_cons.1 hx with rfl|hx
  ·rw [if_pos hd]at h
   cases ho:x.out with
   |none=>rw [ho]at h;simp at h
   |some ys=>exact⟨ys,rfl⟩
  ·by_cases hy:y.d=d
   ·rw [if_pos hy,Bool.or_eq_false_iff]at h;exact VH h.2 x hx hd
   ·rw [if_neg hy]at h;exact VH h x hx hd
theorem jS {d:Nat}: ∀{ls:List yW},(∀x∈ls,x.d≠d)→va d ls=false
 | [],_=>rfl
 |y::l,h=>by
  simp only [va]
  rw [if_neg (h y (by simp))]
  exact jS fun x hx=>h x (by simp [hx])
def trL (d:Nat)(q:List Nat):List yW→Option Pl
 | []=>none
 |x::l=>if x.d=d then(match x.p,q with| [],q=>some (.root x.id q)| [j],i::q'=>if i=j then some (.root x.id q')else trL d q l|_,_=>trL d q l)else trL d q l
theorem jz {d:Nat}{q:List Nat}{p:Pl}: ∀{ls:List yW},trL d q ls=some p→∃x∈ls,x.d=d∧∃q',q=x.p++q'∧p= .root x.id q'
 | [],h=>by cases h
 |x::l,h=>by
  simp only [trL]at h
  have nx:trL d q l=some p→∃y∈x::l,y.d=d∧∃q',q=y.p++q'∧p= .root y.id q':=fun h=>by
   obtain⟨y,hy,rest⟩:=jz h;exact⟨y,by simp [hy],rest⟩
  split at h
  ·rename_i hd
   split at h
   ·rename_i h1;cases h;exact⟨x,by simp,hd,_,by rw [h1];rfl,rfl⟩
   ·rename_i j i q' h1
    split at h
    ·rename_i hij;cases h;subst hij;exact⟨x,by simp,hd,q',by rw [h1];rfl,rfl⟩
    ·exact nx h
   ·exact nx h
  ·exact nx h
theorem zAe {d:Nat}{q:List Nat}: ∀{ls:List yW},qh ls→∀x∈ls,x.d=d→(x.p= []∨∃j,x.p= [j])→trL d (x.p++q) ls=some (.root x.id q)
 | [],_,x,hx,_,_=>by simp at hx
 |y::l,hs,x,hx,hd,hp=>by
  simp only [qh]at hs
  simp only [trL]
  rcases List.mem_cons.1 hx with rfl|hx
  ·rw [if_pos hd]
   rcases hp with hp|⟨j,hp⟩<;>rw [hp]<;>simp
  ·have ih:=zAe (q:=q) hs.2 x hx hd hp
   by_cases hy:y.d=d
   ·obtain⟨i',j',h1,h2,hne⟩:=jp (XO hs.1 x hx) (by rw [hy,hd])
    rw [if_pos hy,h1]
    rw [h2]at ih⊢
    simp only [List.cons_append,List.nil_append]at ih⊢
    rw [if_neg (fun e=>hne e.symm)]
    exact ih
   ·rw [if_neg hy];exact ih
def KL (id:Nat)(q:List Nat):List yW→Option Pl
 | []=>none
 |x::l=>if x.id=id then some (.root x.d (x.p++q))else KL id q l
theorem Kx {q:List Nat}: ∀{ls:List yW},(ls.map (·.id)).Nodup→∀x∈ls,KL x.id q ls=some (.root x.d (x.p++q))
 | [],_,x,hx=>by simp at hx
 |y::l,hn,x,hx=>by
  simp only [List.map_cons,List.nodup_cons]at hn
  simp only [KL]
  rcases List.mem_cons.1 hx with rfl|hx
  ·rw [if_pos rfl]
  ·rw [if_neg (fun e=>hn.1 (by rw [e];exact List.mem_map.2 ⟨x,hx,rfl⟩))]
   exact Kx hn.2 x hx
section
variable {P:Program} {τ:Ty} {lo:Nat} {w0:Fz} {ow:Nat→Option Pl} {hd:Nat→Value} {bk:Nat→Nat} {st:St} {a:Act} {w:World}
mutual
theorem JJ {w w':World}{rr rr':List (Nat×zn)}{bb bb':List (Nat×List AV)}{hd hd':Nat→Value}{bk bk':Nat→Nat}{bad:Nat→Prop}(h0: ∀d,bad d→QC rr rr' hd hd' d)(hD: ∀d,¬bad d→yh w w' rr rr' hd hd' d)(hB: ∀t,yg bb bb' bk bk' t):
  ∀(v:AV) (x:Value),(∀d∈v.pm,¬bad d)→AvR τ w rr bb hd bk v x→AvR τ w' rr' bb' hd' bk' v x
 | .int k n,x,_,h=>by simpa only [AvR]using h
 | .bool b,x,_,h=>by simpa only [AvR]using h
 | .nil,x,_,h=>by simpa only [AvR]using h
 | .dead,x,_,h=>by simp only [AvR]
 | .raw u,x,_,h=>by simpa only [AvR]using h
 | .sl d p off len e,x,hp,h=>by
  simp only [AvR]at h⊢
  refine⟨h.1,fun R' hR' hok=> ?_⟩
  by_cases hd0:bad d
  ·cases p with
   |cons i q=>exact absurd hd0 (hp d (by simp [AV.pm]))
   |nil=>
    obtain⟨R,hR,he⟩:=h0 d hd0 R' hR'
    have :=h.2 R hR (by simp [zf])
    simp only [yA]at this⊢
    rw [he];exact this
  ·obtain⟨R,hR,he,hk⟩:=hD d hd0 R' hR'
   obtain⟨hp0,hi⟩:=hk p hok
   rw [he,hi]
   exact h.2 R hR hp0
 | .ep d p i,x,hp,h=>by
  simp only [AvR]at h⊢
  refine⟨h.1,fun R' hR' hok=> ?_⟩
  by_cases hd0:bad d
  ·cases p with
   |cons i q=>exact absurd hd0 (hp d (by simp [AV.pm]))
   |nil=>
    obtain⟨R,hR,he⟩:=h0 d hd0 R' hR'
    have :=h.2 R hR (by simp [zf])
    simp only [yA]at this⊢
    rw [he];exact this
  ·obtain⟨R,hR,he,hk⟩:=hD d hd0 R' hR'
   obtain⟨hp0,hi⟩:=hk p hok
   rw [he,hi]
   exact h.2 R hR hp0
 | .bp t i,x,_,h=>by
  simp only [AvR]at h⊢
  refine⟨h.1,fun hl=> ?_⟩
  obtain⟨h1,h2⟩:=hB t hl
  rw [h2]
  exact h.2 h1
 | .agg vs,x,hp,h=>by
  simp only [AvR]at h⊢
  obtain⟨cs,h1,h2⟩:=h
  exact⟨cs,h1,vp h0 hD hB vs cs (by simpa only [AV.pm]using hp) h2⟩
 | .tup vs,x,hp,h=>by
  simp only [AvR]at h⊢
  obtain⟨cs,h1,h2⟩:=h
  exact⟨cs,h1,vp h0 hD hB vs cs (by simpa only [AV.pm]using hp) h2⟩
 | .fn f vs,x,hp,h=>by
  simp only [AvR]at h⊢
  obtain⟨cs,h1,h2⟩:=h
  exact⟨cs,h1,vp h0 hD hB vs cs (by simpa only [AV.pm]using hp) h2⟩
theorem vp {w w':World}{rr rr':List (Nat×zn)}{bb bb':List (Nat×List AV)}{hd hd':Nat→Value}{bk bk':Nat→Nat}{bad:Nat→Prop}(h0: ∀d,bad d→QC rr rr' hd hd' d)(hD: ∀d,¬bad d→yh w w' rr rr' hd hd' d)(hB: ∀t,yg bb bb' bk bk' t):
  ∀(vs:List AV) (xs:List Value),(∀d∈AV.pmL vs,¬bad d)→zW τ w rr bb hd bk vs xs→zW τ w' rr' bb' hd' bk' vs xs
 | [],xs,_,h=>by simpa only [zW]using h
 |v::vs,xs,hp,h=>by
  simp only [AV.pmL,List.mem_append]at hp
  simp only [zW]at h⊢
  obtain⟨x,xs',h1,h2,h3⟩:=h
  exact⟨x,xs',h1,JJ h0 hD hB v x (fun d hd=>hp d (.inl hd)) h2,vp h0 hD hB vs xs' (fun d hd=>hp d (.inr hd)) h3⟩
end
theorem zAm (h:zb τ lo w0 ow hd bk st a w):zb τ lo w0 ow hd bk st.cut a w:=by
 have hb: ∀t,(∃cs,lk st.cut.b t=some cs)→∃cs,lk st.b t=some cs:=fun t ⟨cs,hcs⟩=>by
  simp only [St.cut,zy]at hcs
  cases hx:lk st.b t with
  |none=>rw [hx]at hcs;cases hcs
  |some u=>exact⟨u,rfl⟩
 refine⟨h.big,h.defers,h.size,h.low,h.below,h.ge,h.new,fun k v hv'=> ?_,h.root,fun t vs hv'=> ?_,h.pin⟩
 ·simp only [St.cut,zy]at hv'
  cases hx:lk st.s k with
  |none=>rw [hx]at hv';cases hv'
  |some u=>rw [hx]at hv';cases hv';exact Xh hb u _ (h.slot k u hx)
 ·simp only [St.cut,zy]at hv'
  cases hx:lk st.b t with
  |none=>rw [hx]at hv';cases hv'
  |some u=>
   rw [hx]at hv';cases hv'
   obtain⟨cs,ty,h1,h2,h3⟩:=h.box t u hx
   exact⟨cs,ty,h1,h2,vH hb u cs h3⟩
theorem XC {vs:List AV}{outs:List Out}: ∀{own:List Nat} {ls:List yW} {ob:Prop},vN τ st vs outs own=some (ls,ob)→ob→(∀x∈ls,∃ob',Yb τ st vs outs x.id=some (x,ob')∧ob')∧ls.map (·.id)=own
 | [],ls,ob,he,hob=>by
  simp only [vN,Option.some.injEq,Prod.mk.injEq]at he
  obtain⟨rfl,rfl⟩:=he
  exact⟨fun x hx=>by simp at hx,rfl⟩
 |id::own,ls,ob,he,hob=>by
  simp only [vN]at he
  split at he
  ·rename_i x p xs q e1 e2
   simp only [Option.some.injEq,Prod.mk.injEq]at he
   obtain⟨rfl,rfl⟩:=he
   obtain⟨h1,h2⟩:=XC e2 hob.2
   have hid:x.id=id:=by
    unfold Yb at e1
    split at e1
    ·split at e1
     ·split at e1
      ·split at e1<;>first|(cases e1;rfl)|cases e1
      ·cases e1
     ·cases e1
    ·cases e1
   refine⟨fun y hy=> ?_,by simp [h2,hid]⟩
   rcases List.mem_cons.1 hy with rfl|hy
   ·exact⟨p,by rw [hid];exact e1,hob.1⟩
   ·exact h1 y hy
  ·cases he
theorem Xv {e:TypeId}{ys:List D}{id:Nat}: ∀{outs:List Out},WM outs id=some (e,ys)→(id,e,ys)∈outs
 | [],h=>by cases h
 |(k,e',ys')::l,h=>by
  simp only [WM]at h
  split at h
  ·rename_i hk;cases h;subst hk;simp
  ·exact List.mem_cons_of_mem _ (Xv h)
structure Ke (τ:Ty)(st:St)(vs:List AV)(outs:List Out)(x:yW)(len:Nat)(R:zn):Prop where
 cell:wc vs x.id= .sl x.d x.p 0 len x.e
 root:lk st.r x.d=some R
 ex:R.o= .ex
 pos:0<sz τ x.e
 path:zf R.xs x.p
 elem:qZ R.e R.xs x.p=x.e
 whole:len*sz τ x.e=(yE R.xs x.p).length
 short:x.p= []∨∃j ys,x.p= [j]∧x.out=some ys
 out: ∀ys,x.out=some ys→(x.id,x.e,ys)∈outs
theorem Jl {vs:List AV}{outs:List Out}{id:Nat}{x:yW}{ob:Prop}(he:Yb τ st vs outs id=some (x,ob))(hob:ob): ∃len R,Ke τ st vs outs x len R:=by
 unfold Yb at he
 split at he
 ·rename_i d p len e hc
  split at he
  ·rename_i R hR
   split at he
   ·rename_i hex
    obtain⟨hex,hpos⟩:=hex
    have hex:R.o= .ex:=by cases ho:R.o<;>rw [ho]at hex<;>first|rfl|cases hex
    split at he
    ·rename_i ho
     simp only [Option.some.injEq,Prod.mk.injEq]at he
     obtain⟨rfl,rfl⟩:=he
     exact⟨len,R,hc,hR,hex,hpos,by simp [zf],by simpa [qZ]using hob.1,by simpa [yE]using hob.2, .inl rfl,fun ys h=>by cases h⟩
    ·rename_i e' ys ho
     simp only [Option.some.injEq,Prod.mk.injEq]at he
     obtain⟨rfl,rfl⟩:=he
     obtain⟨h1,h2,rfl⟩:=hob
     exact⟨len,R,hc,hR,hex,hpos,by simp [zf],by simpa [qZ]using h1,by simpa [yE]using h2, .inl rfl,fun ys h=>by cases h;exact Xv ho⟩
    ·rename_i j e' ys ho
     simp only [Option.some.injEq,Prod.mk.injEq]at he
     obtain⟨rfl,rfl⟩:=he
     obtain⟨h1,h2,h3,rfl⟩:=hob
     exact⟨len,R,hc,hR,hex,hpos,h1,h2,h3, .inr ⟨j,ys,rfl,rfl⟩,fun ys h=>by cases h;exact Xv ho⟩
    ·cases he
   ·cases he
  ·cases he
 ·cases he
theorem zA3 {vs:List AV}{cv:List Value}(hv:zW τ w st.r st.b hd bk vs cv){id d:Nat}{p:List Nat}{off len:Nat}{e:TypeId}(hc:wc vs id= .sl d p off len e):AvR τ w st.r st.b hd bk (.sl d p off len e) (yS cv id):=by
 obtain⟨h1,h2⟩:=zj.1 hv
 unfold wc at hc
 rw [List.getD_eq_getElem?_getD]at hc
 cases hx:vs[id / 16]? with
 |none=>rw [hx]at hc;simp only [Option.getD_none]at hc;split at hc<;>cases hc
 |some v=>
  rw [hx]at hc
  simp only [Option.getD_some]at hc
  have hlt:id / 16<cv.length:=by rw [h1];exact(List.getElem?_eq_some_iff.1 hx).1
  have hcv:=List.getElem?_eq_getElem hlt
  have hav:=h2 _ _ _ hx hcv
  have sub: ∀(us:List AV) (cs:List Value),zW τ w st.r st.b hd bk us cs→us.getD (id%16) .dead= .sl d p off len e→AvR τ w st.r st.b hd bk (.sl d p off len e) (cs.toArray.getD (id%16) undef):=fun us cs hr hu=>by
   obtain⟨g1,g2⟩:=zj.1 hr
   rw [List.getD_eq_getElem?_getD]at hu
   cases hy:us[id%16]? with
   |none=>rw [hy]at hu;cases hu
   |some u=>
    rw [hy]at hu
    simp only [Option.getD_some]at hu
    subst hu
    have hl:id%16<cs.length:=by rw [g1];exact(List.getElem?_eq_some_iff.1 hy).1
    have :=g2 _ _ _ hy (List.getElem?_eq_getElem hl)
    rw [Array.getD_eq_getD_getElem?,List.getElem?_toArray,List.getElem?_eq_getElem hl]
    exact this
  unfold yS
  rw [hcv]
  cases v with
  |agg us=>
   simp only [AvR]at hav
   obtain⟨cs,e1,hr⟩:=hav
   rw [e1]
   exact sub us cs hr hc
  |fn f us=>
   simp only [AvR]at hav
   obtain⟨cs,e1,hr⟩:=hav
   rw [e1]
   exact sub us cs hr hc
  |sl d' p' off' len' e'=>
   simp only at hc
   split at hc
   ·cases hc
    have :=hav
    simp only [AvR]at hav
    obtain⟨⟨A,n,c,e1⟩,-⟩:=hav
    rw [e1]at this⊢
    exact this
   ·cases hc
  |_=>simp only at hc;split at hc<;>cases hc
end
theorem Un (vs:List AV)(id:Nat):wc vs id=(xB (vs.getD (id / 16) .dead)).getD (id%16) .dead:=by
 unfold wc
 have one: ∀v:AV,(if id%16=0 then v else .dead)= [v].getD (id%16) .dead:=fun v=>by
  split
  ·rename_i h;rw [h];rfl
  ·rename_i h
   rw [List.getD_eq_getElem?_getD,List.getElem?_eq_none (by simp;omega)]
   rfl
 cases vs.getD (id / 16) .dead<;>first|rfl|exact one _
theorem kh (own:List Nat)(m:Nat)(v:AV)(vs:List AV):wi own m (v::vs)=Zo own m 0 (xB v)++wi own (m+1) vs:=by
 simp only [wi]
 cases v<;>rfl
theorem Jw {own:List Nat}{m n:Nat}: ∀{us:List AV} {i j:Nat} {u:AV},us[j]? =some u→own.contains (zX m (i+j))=false→n∈u.nm→n∈Zo own m i us
 | [],i,j,u,h,_,_=>by simp at h
 |y::us,i,j,u,h,hc,hn=>by
  simp only [Zo,List.mem_append]
  cases j with
  |zero=>
   simp at h;subst h
   left
   rw [Nat.add_zero]at hc
   rw [if_neg (by rw [hc];simp)]
   exact hn
  |succ j=>
   right
   exact Jw (j:=j) (by simpa using h) (by rw [show i+1+j=i+(j+1)from by omega];exact hc) hn
theorem WR {own:List Nat}{n:Nat}: ∀{vs:List AV} {i m j:Nat} {v u:AV},vs[m]? =some v→(xB v)[j]? =some u→own.contains (zX (i+m) j)=false→n∈u.nm→n∈wi own i vs
 | [],i,m,j,v,u,h,_,_,_=>by simp at h
 |y::vs,i,m,j,v,u,h,hu,hc,hn=>by
  rw [kh,List.mem_append]
  cases m with
  |zero=>
   simp at h;subst h
   left
   exact Jw (j:=j) hu (by rw [Nat.zero_add];exact hc) hn
  |succ m=>
   right
   exact WR (m:=m) (by simpa using h) hu (by rw [show i+1+m=i+(m+1)from by omega];exact hc) hn
section
variable {P:Program} {τ:Ty} {lo:Nat} {w0:Fz} {ow:Nat→Option Pl} {hd:Nat→Value} {bk:Nat→Nat} {st:St} {a:Act} {w:World}
def xW (ow:Nat→Option Pl)(ls:List yW):Nat→Option Pl:=fun b=>match ow b with|some (.root d q)=>trL d q ls|_=>none
theorem vm {ls:List yW}{b:Nat}{p:Pl}(h:xW ow ls b=some p): ∃d q,ow b=some (.root d q)∧∃x∈ls,x.d=d∧∃q',q=x.p++q'∧p= .root x.id q':=by
 unfold xW at h
 split at h
 ·rename_i d q ho;exact⟨d,q,ho,jz h⟩
 ·cases h
theorem WN {ls:List yW}{d:Nat}{o:O3}(hn: ∀x∈ls,x.d≠d){b:Nat}(hr:rel (md o d) (ow b)):xW ow ls b=none:=by
 cases ho:xW ow ls b with
 |none=>rfl
 |some p=>
  obtain⟨d',q,h1,x,hx,h2,-⟩:=vm ho
  rw [h1]at hr
  cases o<;>simp only [md,rel]at hr
  ·cases hr
  ·obtain⟨q',hq'⟩:=hr;cases hq';exact absurd h2 (hn x hx)
  ·rcases hr with hr|hr
   ·cases hr
   ·cases hr;exact absurd h2 (hn x hx)
theorem VJ (h:zb τ lo w0 ow hd bk st a w){vs:List AV}{cv:List Value}(hv:zW τ w st.r st.b hd bk vs cv){outs:List Out}{x:yW}{len:Nat}{R:zn}(hx:Ke τ st vs outs x len R):
  yA w (hd x.d) x.p=some (yS cv x.id)∧Rp (sz τ) lo w ow (.ex x.d x.p) (.lst x.e (yE R.xs x.p)) (yS cv x.id):=by
 have hav:=zA3 hv hx.cell
 simp only [AvR]at hav
 obtain⟨hv',hin,hsub⟩:=hav.2 R hx.root hx.path
 obtain⟨m',e',u,i1,i2,-,i3,i4,-⟩:=wg x.p _ _ _ _ (h.root x.d R hx.root) hx.path
 have hm:=i4 x.d [] (by rw [hx.ex];rfl)
 rw [hin]at i1;cases i1
 rw [hx.elem]at i3
 subst i3;subst hm
 obtain⟨A,n,c,A',c',hnw,e1,e2,hle,-,-,hoff,-⟩:=hsub
 obtain⟨rfl,rfl⟩:=hoff rfl
 obtain⟨zs,⟨k1,N,k2,k3,k4⟩,-⟩:=(zt _ _).1 i2
 have hN:N=n:=by
  rw [e1]at k3
  rcases k3.2 with⟨q,h0⟩|⟨g,cap,cur,q,_⟩
  ·cases q;exact h0
  ·cases q;rfl
 have hnl:n=len:=by
  have :=hx.whole
  rw [k2,hN]at this
  exact(Nat.eq_of_mul_eq_mul_right hx.pos this).symm
 have heq:yS cv x.id=hv':=by rw [e1,e2,hnl]
 rw [heq]
 exact⟨hin,i2⟩
theorem kN (h:zb τ lo w0 ow hd bk st a w){vs:List AV}{cv:List Value}(hv:zW τ w st.r st.b hd bk vs cv){ts:List TypeId}{as:List VT}{ob:Prop}(he:yV τ st ts vs=some (as,ob))(hob:ob){own:List Nat}{outs:List Out}{ls:List yW}{ob2:Prop}
  (hl:vN τ st vs outs own=some (ls,ob2)) (hob2:ob2) (hsep:qh ls) (hap:apart (wi own 0 vs) ls=true) (hfew:few as=true):VZ (sz τ) lo w (xW ow ls) own as cv:=by
 obtain⟨a1,a2⟩:=Xc he hob
 obtain⟨v1,v2⟩:=zj.1 hv
 obtain⟨l1,l2⟩:=XC hl hob2
 refine⟨by omega,fun m x c hx hc=> ?_⟩
 have hm:m<vs.length:=by rw [a1];exact(List.getElem?_eq_some_iff.1 hx).1
 have hvm:=List.getElem?_eq_getElem hm
 obtain⟨t,ob',e1,e2⟩:=a2 m _ x hvm hx
 have h16:x.cells.length≤16:=by have :=List.all_eq_true.1 hfew x (List.mem_of_getElem? hx);simpa using this
 obtain⟨cs,c1,c2,c3,c4⟩:=Kv e1 e2 (v2 m _ c hvm hc)
 obtain⟨r1,r2⟩:=zj.1 c3
 refine⟨cs,by omega,fun j d cj hd hcj=> ?_,c2⟩
 have hj:j<x.cells.length:=(List.getElem?_eq_some_iff.1 hd).1
 have hju:j<(xB vs[m]).length:=by omega
 have hu:=List.getElem?_eq_getElem hju
 have hav:=r2 j _ cj hu hcj
 have hid1:zX m j / 16=m:=by unfold zX;omega
 have hid2:zX m j%16=j:=by unfold zX;omega
 have hca:wc vs (zX m j)=(xB vs[m])[j]:=by
  have g1:vs.getD m .dead=vs[m]:=by rw [List.getD_eq_getElem?_getD,hvm];rfl
  rw [Un,hid1,hid2,g1,List.getD_eq_getElem?_getD,hu]
  rfl
 unfold gm
 split
 ·rename_i hcon
  have :zX m j∈ls.map (·.id):=by rw [l2];exact List.contains_iff_mem.1 hcon
  obtain⟨y,hy,hyid⟩:=List.mem_map.1 this
  obtain⟨oby,ey1,ey2⟩:=l1 y hy
  obtain⟨len,R,hok⟩:=Jl ey1 ey2
  obtain⟨q1,q2⟩:=VJ h hv hok
  have hcell:=hok.cell
  rw [hyid,hca]at hcell
  have hval:yS cv y.id=cj:=by
   have hcc:cv[m]? =some c:=hc
   rw [hyid]
   unfold yS
   rw [hid1,hid2,hcc]
   rcases c2 with⟨d',c',rfl,rfl,rfl⟩|⟨ds,rfl,rfl⟩|⟨f,ds,rfl,rfl⟩
   ·have h0:j=0:=by simp only [VT.cells,List.length_cons,List.length_nil]at hj;omega
    subst h0
    simp at hcj
    rw [hcell]at hav
    simp only [AvR]at hav
    obtain⟨⟨A,n,c',e⟩,-⟩:=hav
    rw [hcj,e]
   ·simp only
    rw [Array.getD_eq_getD_getElem?,List.getElem?_toArray,hcj];rfl
   ·simp only
    rw [Array.getD_eq_getD_getElem?,List.getElem?_toArray,hcj];rfl
  rw [hval]at q2
  have hd':d= .lst y.e (yE R.xs y.p):=by
   rcases c4 j _ d hu hd with⟨ob',k1,k2⟩|⟨k1,-⟩
   ·rw [hcell]at k1
    simp only [cellsOf,hok.root,Option.some.injEq,Prod.mk.injEq]at k1
    rw [←k1.1,Nat.zero_mul,List.drop_zero,hok.whole,List.take_length]
   ·rw [hcell]at k1;cases k1
  rw [hd',←hyid]
  refine xn _ _ _ _ _ y.p [] _ (fun b q hb hq=> ?_) q2
  unfold xW
  rw [hq]
  have hsp:y.p= []∨∃j,y.p= [j]:=by
   rcases hok.short with h|⟨j,ys,h,-⟩
   ·exact .inl h
   ·exact .inr ⟨j,h⟩
  simpa using zAe (q:=q) hsep y hy rfl hsp
 ·rename_i hcon
  have hcon:own.contains (zX m j)=false:=by simpa using hcon
  rcases c4 j _ d hu hd with⟨ob',k1,k2⟩|⟨k1,e,rfl⟩
  ·refine qP h (fun d' R hd' hR b hb hr=>WN (fun y hy e=> ?_) hr) hav k1 k2 lo
   have hmem:=WR (own:=own) (i:=0) hvm hu (by rw [Nat.zero_add];exact hcon) hd'
   have :=List.all_eq_true.1 (List.all_eq_true.1 hap _ hmem) y hy
   rw [e]at this
   simp at this
  ·rw [k1]at hav
   simp only [AvR]at hav
   subst hav
   exact(zt _ _).2 ⟨[],⟨rfl,0,by simp,none,0,rfl,Nat.le_refl _,by unfold maxLen;omega,fun h=>absurd rfl h⟩,fun i x u hx=>by simp at hx⟩
end
section
variable {P:Program} {τ:Ty} {lo:Nat} {w0:Fz} {ow:Nat→Option Pl} {hd:Nat→Value} {bk:Nat→Nat} {st:St} {a:Act} {w:World}
def qb (ow:Nat→Option Pl)(ls:List yW)(n t:Nat)(ow':Nat→Option Pl):Nat→Option Pl:=fun b=>
 if b<n∧(xW ow ls b).isNone=true then ow b else match ow' b with
  |some (.root k q)=>if 1000000≤k then KL (k - 1000000) q ls else some (.root (zX t k) q)
  |_=>none
theorem ja (h:zb τ lo w0 ow hd bk st a w){vs:List AV}{cv:List Value}(hv:zW τ w st.r st.b hd bk vs cv){own:List Nat}{outs:List Out}{ls:List yW}{ob2:Prop}
  (hl:vN τ st vs outs own=some (ls,ob2)) (hob2:ob2) (hsep:qh ls) (hnd:own.Nodup) {t:Nat} {w':World} {ow':Nat→Option Pl}
  (hk:yl ⟨w,fun b=>xW ow ls b=none,fun _=>none⟩ w') (hlow: ∀b,b<w.heap.size→xW ow ls b=none→ow' b=none) (hnew: ∀b p,ow' b=some p→b<w'.heap.size∧lo≤b∧∃d q,p= .root d q)
  (hout: ∀x∈outs,Rp (sz τ) lo w' ow' (.ex (XJ x.1) []) (.lst x.2.1 x.2.2) (yS cv x.1)):
  zb τ lo w0 (qb ow ls w.heap.size t ow') hd bk (qR st ls) a w':=by
 obtain⟨l1,l2⟩:=XC hl hob2
 have hok: ∀x∈ls,∃len R,Ke τ st vs outs x len R:=fun x hx=>by
  obtain⟨ob,e1,e2⟩:=l1 x hx;exact Jl e1 e2
 have hids:(ls.map (·.id)).Nodup:=by rw [l2];exact hnd
 have old: ∀b,b<w.heap.size→xW ow ls b=none→w'.heap[b]? =w.heap[b]? ∧qb ow ls w.heap.size t ow' b=ow b:=fun b hb hn=>
  ⟨hk.block b hb hn,by unfold qb;rw [if_pos ⟨hb,by rw [hn];rfl⟩]⟩
 have back: ∀x∈ls,∀b q,ow' b=some (.root (XJ x.id) q)→qb ow ls w.heap.size t ow' b=some (.root x.d (x.p++q)):=fun x hx b q hb=>by
  have : ¬(b<w.heap.size∧(xW ow ls b).isNone=true):=fun⟨h1,h2⟩=>by
   rw [hlow b h1 (by cases ho:xW ow ls b with|none=>rfl|some p=>rw [ho]at h2;cases h2)]at hb;cases hb
  unfold qb
  rw [if_neg this,hb]
  simp only
  rw [if_pos (by unfold XJ;omega),show XJ x.id - 1000000=x.id from by unfold XJ;omega]
  exact Kx hids x hx
 have hge: ∀b p,qb ow ls w.heap.size t ow' b=some p→p≠ .ext→b<w'.heap.size→lo≤b∧w0.fre b:=fun b p hb hp hlt=>by
  by_cases hc:b<w.heap.size∧(xW ow ls b).isNone=true
  ·unfold qb at hb;rw [if_pos hc]at hb;exact h.ge b p hc.1 hb hp
  ·unfold qb at hb
   rw [if_neg hc]at hb
   have ho': ∃p',ow' b=some p':=by
    cases ho:ow' b with
    |none=>rw [ho]at hb;cases hb
    |some p'=>exact⟨p',rfl⟩
   obtain⟨p',ho'⟩:=ho'
   refine⟨(hnew b p' ho').2.1,fun hlt0=> ?_⟩
   have hbw:b<w.heap.size:=Nat.lt_of_lt_of_le hlt0 h.below.size
   cases hoi:xW ow ls b with
   |none=>exact absurd ⟨hbw,by rw [hoi];rfl⟩ hc
   |some p2=>
    obtain⟨d,q,ho,-⟩:=vm hoi
    exact(h.ge b _ hbw ho (by simp)).2 hlt0
 have hc:=zAm h
 have hpf:=Vu st
 have hr: ∀d,lk (qR st ls).r d=if va d ls=true then none else(lk st.r d).map fun R=>{R with xs:=xt d R.xs ls}:=fun d=>VL ls st.r d
 have hrel: ∀(d:Nat) (R:zn),(∀x∈ls,x.d≠d)→∀b,b<w.heap.size→rel (md R.o d) (ow b)→w'.heap[b]? =w.heap[b]? ∧qb ow ls w.heap.size t ow' b=ow b:=fun d R hn b hb hr=>old b hb (WN hn hr)
 have h0: ∀d,(∃x∈ls,x.d=d)→QC st.cut.r (qR st ls).r hd hd d:=fun d _ R' hR'=>by
  rw [hr]at hR'
  split at hR'
  ·cases hR'
  ·cases hx:lk st.r d with
   |none=>rw [hx]at hR';cases hR'
   |some R=>exact⟨R,hx,rfl⟩
 have hD: ∀d,¬(∃x∈ls,x.d=d)→yh w w' st.cut.r (qR st ls).r hd hd d:=fun d hn R' hR'=>by
  have hn': ∀x∈ls,x.d≠d:=fun x hx e=>hn ⟨x,hx,e⟩
  rw [hr,jS hn']at hR'
  simp only [Bool.false_eq_true,if_false]at hR'
  cases hx:lk st.r d with
  |none=>rw [hx]at hR';cases hR'
  |some R=>
   rw [hx]at hR'
   simp only [Option.map_some,Option.some.injEq]at hR'
   subst hR'
   refine⟨R,hx,rfl,fun p hp=> ?_⟩
   simp only [VN hn']at hp⊢
   exact⟨hp,yu p _ _ _ _ (h.root d R hx) hp (fun b o A n c hb hrl hcell=>by
    rw [xP (hrel d R hn' b hb hrl).1];exact hcell)⟩
 have hB: ∀t,yg st.cut.b (qR st ls).b bk bk t:=fun t hl=>⟨hl,rfl⟩
 have hbad: ∀d,(∃x∈ls,x.d=d)→Yn d st.cut:=fun d ⟨x,hx,e⟩=>by
  obtain⟨len,R,ho⟩:=hok x hx
  subst e
  exact hpf x.d R ho.root ho.ex
 refine⟨h.big,h.defers,h.size,Nat.le_trans h.low hk.size,h.below.step hk.os hk.tape hk.output hk.size (fun b hb hf=> ?_),fun b p hlt hb hp=>hge b p hb hp hlt,fun b hb=> ?_,fun k v hv'=> ?_,fun d R' hR'=> ?_,fun k us hv'=> ?_,fun d R' i hR' hp=> ?_⟩
 ·refine hk.block b hb ?_
  show xW ow ls b=none
  cases hoi:xW ow ls b with
  |none=>rfl
  |some p=>
   obtain⟨d,q,ho,-⟩:=vm hoi
   exact absurd (h.ge b _ hb ho (by simp)).2 hf
 ·have hb':w.heap.size≤b:=Nat.le_trans hk.size hb
  unfold qb
  rw [if_neg (fun hh=>by omega)]
  cases ho:ow' b with
  |none=>rfl
  |some p=>have :=(hnew b p ho).1;omega
 ·exact JJ h0 hD hB v _ (fun d hd' hb=>(hbad d hb).s k v hv' hd') (hc.slot k v hv')
 ·rw [hr]at hR'
  split at hR'
  ·cases hR'
  ·rename_i hg
   have hg:va d ls=false:=by simpa using hg
   cases hx:lk st.r d with
   |none=>rw [hx]at hR';cases hR'
   |some R=>
    rw [hx]at hR'
    simp only [Option.map_some,Option.some.injEq]at hR'
    subst hR'
    by_cases hin: ∃x∈ls,x.d=d
    ·have hex:R.o= .ex:=by
      obtain⟨x,hxm,rfl⟩:=hin
      obtain⟨len,R2,ho⟩:=hok x hxm
      have :=ho.root;rw [hx]at this;cases this
      exact ho.ex
     simp only [hex]
     by_cases hroot: ∃x∈ls,x.d=d∧x.p= []
     ·obtain⟨x,hxm,rfl,hp⟩:=hroot
      obtain⟨ys,hys⟩:=VH hg x hxm rfl
      obtain⟨len,R2,ho⟩:=hok x hxm
      have :=ho.root;rw [hx]at this;cases this
      obtain⟨q1,-⟩:=VJ h hv ho
      rw [hp]at q1
      simp only [yA,Option.some.injEq]at q1
      have he:=ho.elem
      rw [hp]at he
      simp only [qZ]at he
      simp only [WH hsep x hxm rfl hp hys]
      have :=hout _ (ho.out ys hys)
      simp only at this
      rw [←q1,←he]at this
      exact xn _ _ _ _ _ [] [] _ (fun b q _ hb=>by
       have :=back x hxm b q (by simpa using hb)
       rw [hp]at this
       simpa using this) this
     ·have hone: ∀x∈ls,x.d=d→∃j ys,x.p= [j]∧x.out=some ys:=fun x hxm e=>by
       obtain⟨len,R2,ho⟩:=hok x hxm
       rcases ho.short with hs|hs
       ·exact absurd ⟨x,hxm,e,hs⟩ hroot
       ·exact hs
      have hone': ∀x∈ls,x.d=d→∃j,x.p= [j]:=fun x hxm e=>by obtain⟨j,ys,h1,-⟩:=hone x hxm e;exact⟨j,h1⟩
      have hrt:=h.root d R hx
      rw [hex]at hrt
      obtain⟨zs,k1,k5⟩:=(zt _ _).1 hrt
      have hlen:(xt d R.xs ls).length=R.xs.length:=Xs hone'
      have hnil: ∀b,ow b=some (.root d [])→xW ow ls b=none:=fun b hb=>by
       cases hoi:xW ow ls b with
       |none=>rfl
       |some p=>
        obtain⟨d',q,h1,x,hxm,h2,q',h3,-⟩:=vm hoi
        rw [hb]at h1;cases h1
        obtain⟨j,hj⟩:=hone' x hxm h2
        rw [hj]at h3;simp at h3
      have k1':Hd (sz τ) lo w' (qb ow ls w.heap.size t ow') (.ex d []) R.e (hd d) R.xs.length zs:=by
       obtain⟨m1,N,m2,m3,m4⟩:=k1
       refine⟨m1,N,m2,⟨m3.1,?_⟩,fun b hb=> ?_⟩
       ·rcases m3.2 with hn|⟨g,cap,cur,hv2,hb2,hg2,rest⟩
        ·exact .inl hn
        ·have hgo:=m4 g (by rw [hv2];rfl)
         have hglt:g<w.heap.size:=(Array.getElem?_eq_some_iff.1 hg2).1
         exact .inr ⟨g,cap,cur,hv2,hb2,by rw [(old g hglt (hnil g hgo)).1];exact hg2,rest⟩
       ·have hgo:=m4 b hb
        rw [(old b (m3.lt b hb).2 (hnil b hgo)).2];exact hgo
      refine(zt _ _).2 ⟨zs,by rw [hlen];exact k1',fun i y u hy hu=> ?_⟩
      have hi:i<R.xs.length:=by rw [←hlen];exact(List.getElem?_eq_some_iff.1 hy).1
      by_cases hsel: ∃x∈ls,x.d=d∧x.p= [i]
      ·obtain⟨x,hxm,rfl,hp⟩:=hsel
       obtain⟨j,ys,hj,hys⟩:=hone x hxm rfl
       obtain⟨len,R2,ho⟩:=hok x hxm
       have :=ho.root;rw [hx]at this;cases this
       rw [jj hi hsep hone' x hxm rfl hp hys]at hy
       cases hy
       obtain⟨q1,-⟩:=VJ h hv ho
       rw [hp]at q1
       obtain⟨b1,o1,n1,c1,hv',hN,hb1,hr1,hc1⟩:=xy k1 hu
       rw [hv']at q1
       simp only [yA,hc1,Option.bind_some,Option.some.injEq]at q1
       have :=hout _ (ho.out ys hys)
       simp only at this
       rw [←q1]at this
       refine xn _ _ _ _ _ [] ([]++ [i]) _ (fun b q _ hb=> ?_) this
       have :=back x hxm b q (by simpa using hb)
       rw [hp]at this
       simpa using this
      ·rw [Js (fun x hxm e=>by
        obtain⟨j,hj⟩:=hone' x hxm e
        exact⟨j,hj,fun e2=>hsel ⟨x,hxm,e,by rw [hj,e2]⟩⟩)]at hy
       refine yC _ _ hk.size _ _ _ (fun b hb hr=>old b hb ?_) (k5 i y u hy hu)
       obtain⟨q,hq⟩:=hr
       cases hoi:xW ow ls b with
       |none=>rfl
       |some p=>
        obtain⟨d',q',h1,x,hxm,h2,q2,h3,-⟩:=vm hoi
        rw [hq]at h1
        simp only [Option.some.injEq,Pl.root.injEq,List.nil_append]at h1
        obtain⟨rfl,rfl⟩:=h1
        obtain⟨j,hj⟩:=hone' x hxm h2
        rw [hj]at h3
        simp only [List.cons_append,List.nil_append,List.cons.injEq]at h3
        exact absurd ⟨x,hxm,h2,by rw [hj,h3.1]⟩ hsel
    ·have hn': ∀x∈ls,x.d≠d:=fun x hx e=>hin ⟨x,hx,e⟩
     simp only [VN hn']
     exact yC _ _ hk.size _ _ _ (fun b hb hr=>hrel d R hn' b hb hr) (h.root d R hx)
 ·obtain⟨cs,ty,q1,q2,q3⟩:=hc.box k us hv'
  have hlt:bk k<w.heap.size:=(Array.getElem?_eq_some_iff.1 q1).1
  have hno:xW ow ls (bk k)=none:=by unfold xW;rw [q2]
  exact⟨cs,ty,by rw [(old _ hlt hno).1];exact q1,by rw [(old _ hlt hno).2];exact q2,vp h0 hD hB us cs (fun d hd' hb=>(hbad d hb).b k us hv' hd') q3⟩
 ·rw [hr]at hR'
  split at hR'
  ·cases hR'
  ·cases hx:lk st.r d with
   |none=>rw [hx]at hR';cases hR'
   |some R=>
    rw [hx]at hR'
    simp only [Option.map_some,Option.some.injEq]at hR'
    subst hR'
    exact h.pin d R i hx hp
theorem kf (h:zb τ lo w0 ow hd bk st a w){vs:List AV}{cv:List Value}(hv:zW τ w st.r st.b hd bk vs cv){own:List Nat}{outs:List Out}{ls:List yW}{ob2:Prop}
  (hl:vN τ st vs outs own=some (ls,ob2)) (hob2:ob2) (hsep:qh ls) (hnd:own.Nodup) {t:Nat} {ress:List VT} (hs:szL τ (zm ress)) (hfl:(zm ress).length≤1000000) {e:Ending} {w':World} (hp:ub τ lo w (xW ow ls) outs ress cv e w'):
  ∃z ow' hd',e= .returned z∧zb τ lo w0 ow' hd' bk (yU t 0 (zm ress) (qR st ls)) a w'∧AvR τ w' (yU t 0 (zm ress) (qR st ls)).r (yU t 0 (zm ress) (qR st ls)).b hd' bk (xx (yp τ t 0 ress)) z:=by
 obtain⟨rs,ow',he,hk,hlow,hnew,hres,hout⟩:=hp
 have h1:=ja h hv hl hob2 hsep hnd (t:=t) hk hlow hnew hout
 have e2: ∀b j q,j<1000000→ow' b=some (.root j q)→qb ow ls w.heap.size t ow' b=some (.root (zX t j) q):=fun b j q hj hq=>by
  have : ¬(b<w.heap.size∧(xW ow ls b).isNone=true):=fun⟨h1,h2⟩=>by
   rw [hlow b h1 (by cases ho:xW ow ls b with|none=>rfl|some p=>rw [ho]at h2;cases h2)]at hq;cases hq
  unfold qb
  rw [if_neg this,hq]
  simp only
  rw [if_neg (by omega)]
 obtain⟨cs,k1,k2,k3⟩:=Zc (bk:=bk) (τ:=τ) (rr:=(yU t 0 (zm ress) (qR st ls)).r) (bb:=(yU t 0 (zm ress) (qR st ls)).b) (t:=t) hres
 have k2': ∀(i:Nat) (d:D) (c:Value),(zm ress)[i]? =some d→cs[i]? =some c→Rp (sz τ) lo w' (qb ow ls w.heap.size t ow') (.ex (zX t (0+i)) []) d c:=fun i d c hd hc=>by
  have hi:i<1000000:=Nat.lt_of_lt_of_le (List.getElem?_eq_some_iff.1 hd).1 hfl
  exact xn _ _ _ _ _ [] [] _ (fun b q _ e=>e2 b _ q (by omega) e) (k2 i d c hd hc)
 obtain⟨hd',r1,r2,r3⟩:=XM t (zm ress) 0 (qR st ls) hd cs h1 k1 k2'
 exact⟨vV rs,_,hd',he,r1,WS (k3 w' hd' (vQ (ow:=qb ow ls w.heap.size t ow') (lo:=lo) t (zm ress) 0 cs k1 hs (fun i d c h1 h2=>⟨_,k2' i d c h1 h2⟩) (fun i e xs c h1 h2=>(r3 i e xs c h1 h2).2)))⟩
def Vf (P:Program)(τ:Ty)(own:List Nat)(outs:List Out)(o:Oper)(K:St→Prop)(st:St):Prop:=
 match zv o with
 |some (f,args,ts)=>
  match yV τ st ts.toList (args.toList.map (ev st)),vN τ st (args.toList.map (ev st)) outs own with
  |some (as,ob),some (ls,ob2)=>apart (wi own 0 (args.toList.map (ev st))) ls=true∧ZU own=true∧few as=true∧ob∧ob2∧qh ls∧
    ∃ress,FnG P τ f as own outs ress∧szL τ (zm ress)∧(zm ress).length≤1000000∧K ((yU (zq o) 0 (zm ress) (qR st ls)).put o.dst (xx (yp τ (zq o) 0 ress)))
  |_,_=>False
 |none=>False
theorem Vs (h:zb τ lo w0 ow hd bk st a w){o:Oper}{f:FuncId}{args:Array Operand}{ts:Array TypeId}(hc:zv o=some (f,args,ts))(hcl:vc P f):(execOp a.eval o).run P w= .ok (.enter f (args.toList.map a.eval).toArray) w:=by
 obtain⟨fn,hfn,hname,hbody⟩:=hcl
 obtain⟨dst,op,oty,pos,after,guard⟩:=o
 unfold zv at hc
 simp only at hc
 split at hc
 ·rename_i c
  split at hc
  ·rename_i f' hcal
   cases hc
   obtain⟨callee,args',ats⟩:=c
   simp only at hcal
   subst hcal
   rw [execOp_call_go]
   unfold callFunc
   have h1: ¬fn.name= "runtime.NumGoroutine" :=by simpa using hname
   have h2: ¬fn.body=none:=by cases hb:fn.body with
    |none=>rw [hb]at hbody;simp at hbody
    |some c=>simp
   have h3:Array.map a.eval args'=(args'.toList.map a.eval).toArray:=by cases args';simp
   simp [hfn,h1,h2,h3]
  ·cases hc
 ·cases hc
theorem Kp {own:List Nat}{outs:List Out}{o:Oper}{K:St→Prop}{Q:Exit→Act→World→Prop}{K':Act→World→Prop}(hd: ∀k,o.dst=some k→k<a.tmps.size)(h:Rel τ lo w0 st a w)(ha:Vf P τ own outs o K st)
  (hK: ∀st' x w',K st'→Rel τ lo w0 st' (a.put o.dst x) w'→K' (a.put o.dst x) w'):o.wp P a w K' Q:=by
 obtain⟨ow,hd',bk,hr⟩:=h
 unfold Vf at ha
 split at ha
 ·rename_i f args ts hc
  split at ha
  ·rename_i as ob ls ob2 hargs hlends
   obtain⟨hap,hnd,hfew,hob,hob2,hsep,ress,⟨hcl,hcall⟩,hsz,hfl,hK1⟩:=ha
   have hev:zW τ w st.r st.b hd' bk (args.toList.map (ev st)) (args.toList.map a.eval):=zj.2 ⟨by simp,fun i v x hv hx=>by
    rw [List.getElem?_map]at hv hx
    cases hk:args.toList[i]? with
    |none=>rw [hk]at hv;cases hv
    |some p=>rw [hk]at hv hx;cases hv;cases hx;exact zY hr p⟩
   have hA:=kN hr hev hargs hob hlends hob2 hsep hap hfew
   have hC:=hcall lo w (xW ow ls) _ hr.low (fun b p hb=>by
    obtain⟨d,q,ho,x,hx,-,q',-,hp⟩:=vm hb
    have hlt:b<w.heap.size:=by
     rcases Nat.lt_or_ge b w.heap.size with h'|h'
     ·exact h'
     ·rw [hr.new b h']at ho;cases ho
    exact⟨hlt,(hr.ge b _ hlt ho (by simp)).1,_,_,hp⟩) hA
   unfold Oper.wp
   rw [Vs hr hc hcl]
   simp only [Oper.upon]
   refine hC.mono fun e w' hpost=> ?_
   obtain⟨z,ow',hd2,he,r1,r2⟩:=kf hr hev hlends hob2 hsep (wX hnd) (t:=zq o) hsz hfl hpost
   subst he
   exact hK _ z w' hK1 (yj r1 hd r2)
  ·exact ha.elim
 ·exact ha.elim
def QJ (P:Program)(τ:Ty)(al:List Nat)(t:Nat)(own:List Nat)(outs:List Out)(all:List Oper)(K:St→Prop):List Oper→St→Prop
 | [],st=>K st
 |o::os,st=>
  match o.guard with
  |none=>if o.dst=some t then Vf P τ own outs o (QJ P τ al t own outs all K os) st else aop P τ al o (QJ P τ al t own outs all K os) st
  |some (j,want)=>False
theorem Zt (hτ:zu P τ)(hpos:yR τ){al:List Nat}{t:Nat}{own:List Nat}{outs:List Out}{all:List Oper}{K:St→Prop}{Q:Exit→Act→World→Prop}(hQ: ∀st a w,K st→Rel τ lo w0 st a w→Q .normal a w):
  ∀(os:List Oper) (st:St) (a:Act) (w:World),yw a.tmps.size os=true→Rel τ lo w0 st a w→QJ P τ al t own outs all K os st→wpList P all.toArray Q os a w
 | [],st,a,w,_,h,ha=>wpList_nil (hQ st a w ha h)
 |o::os,st,a,w,hd,h,ha=>by
  have hd1: ∀k,o.dst=some k→k<a.tmps.size:=fun k hk=>by
   have :=List.all_eq_true.1 hd o (by simp)
   rw [hk]at this
   simpa using this
  have hd2:yw a.tmps.size os=true:=List.all_eq_true.2 fun x hx=>List.all_eq_true.1 hd x (by simp [hx])
  refine wpList_step fun K' hK'=> ?_
  simp only [QJ]at ha
  split at ha
  ·rename_i hg
   rw [if_pos (by simp [Region.wanted,hg])]
   split at ha
   ·exact Kp hd1 h ha fun st' x w' h1 h2=>hK' _ _ (Zt hτ hpos hQ os st' _ w' (by rw [xX];exact hd2) h2 h1)
   ·exact wa hτ hpos hd1 h ha fun st' x w' h1 h2=>hK' _ _ (Zt hτ hpos hQ os st' _ w' (by rw [xX];exact hd2) h2 h1)
  ·exact ha.elim
end
theorem xm {P:Program}{τ:Ty}{Q:Exit→St→Prop}{st:St}(t:Nat)(own:List Nat)(outs:List Out)(hτ:zu P τ)(hpos:yR τ)(al:List Nat){id:Nat}{ops:List Oper}(hd:yw st.n ops=true)(h:QJ P τ al t own outs ops (Q .normal) ops st):awp P τ (.region id ops.toArray false) Q st:=fun lo w0 a w hr=>by
 have hn:a.tmps.size=st.n:=by obtain⟨ow,hd,bk,h⟩:=hr;exact h.size
 refine wp_region_lit (Zt hτ hpos (fun st a w h1 h2=>⟨st,h2,h1⟩) ops st a w (by rw [hn];exact hd) hr h)
section
variable {P:Program} {τ:Ty} {np:Bool} {all:List Oper}
theorem jq (Q:St→Prop)(l2:List Oper): ∀(l1:List Oper) (st:St),xi P np τ all Q (l1++l2) st=xi P np τ all (fun st=>xi P np τ all Q l2 st) l1 st
 | [],st=>rfl
 |o::os,st=>by simp only [List.cons_append,xi,jq Q l2 os]
theorem xI (n:Nat){Q:St→Prop}{os:List Oper}{st:St}(h: ∀K:St→Prop,(∀st,xi P np τ all Q (os.drop n) st→K st)→xi P np τ all K (os.take n) st):xi P np τ all Q os st:=by
 have :=h _ fun _ h=>h
 rwa [←jq,List.take_append_drop]at this
theorem Ks {al:List Nat}(Q:St→Prop)(l2:List Oper): ∀(l1:List Oper) (st:St),qO P τ al all Q (l1++l2) st=qO P τ al all (fun st=>qO P τ al all Q l2 st) l1 st
 | [],st=>rfl
 |o::os,st=>by
  have e:qO P τ al all Q (os++l2)=qO P τ al all (fun st=>qO P τ al all Q l2 st) os:=funext fun st=>Ks Q l2 os st
  simp only [List.cons_append,qO,e]
theorem qI (n:Nat){al:List Nat}{Q:St→Prop}{os:List Oper}{st:St}(h: ∀K:St→Prop,(∀st,qO P τ al all Q (os.drop n) st→K st)→qO P τ al all K (os.take n) st):qO P τ al all Q os st:=by
 have :=h _ fun _ h=>h
 rwa [←Ks,List.take_append_drop]at this
def xw (P:Program)(np:Bool)(τ:Ty)(all:List Oper)(E:List Rec→St→Prop):List Oper→Nat→List Rec→St→Prop
 | [],_,cs,st=>E cs st
 |o::os,k,cs,st=>
  match o.guard with
  |none=>vv P np τ o st fun δ=>xw P np τ all E os (k+1) (⟨k,fp o st,δ.wr⟩::cs) (st.app o.dst δ)
  |some (j,want)=>
   match xQ all st j with
   |some (some b)=>
    brB b (if want=true then vv P np τ o (yQ all st j true) fun δ=>xw P np τ all E os (k+1) (⟨k,fp o (yQ all st j true),δ.wr⟩::cs) ((yQ all st j true).app o.dst δ)else xw P np τ all E os (k+1) (⟨k,fp o (yQ all st j true),Dl.skip.wr⟩::cs) ((yQ all st j true).app o.dst Dl.skip))
     (if want=false then vv P np τ o (yQ all st j false) fun δ=>xw P np τ all E os (k+1) (⟨k,fp o (yQ all st j false),δ.wr⟩::cs) ((yQ all st j false).app o.dst δ)else xw P np τ all E os (k+1) (⟨k,fp o (yQ all st j false),Dl.skip.wr⟩::cs) ((yQ all st j false).app o.dst Dl.skip))
   |some none=>xw P np τ all E os (k+1) (⟨k,fp o st,Dl.skip.wr⟩::cs) (st.app o.dst Dl.skip)
   |none=>False
theorem uL (C:List Rec→Prop)(Q:St→Prop): ∀(os:List Oper) (k:Nat) (cs:List Rec) (st:St),xw P np τ all (fun cs st=>C cs∧Q st) os k cs st=vT P np τ all C Q os k cs st
 | [],k,cs,st=>rfl
 |o::os,k,cs,st=>by
  unfold xw vT
  simp only [uL C Q os]
  rfl
theorem jb (E:List Rec→St→Prop)(l2:List Oper): ∀(l1:List Oper) (k:Nat) (cs:List Rec) (st:St),xw P np τ all E (l1++l2) k cs st=xw P np τ all (fun cs st=>xw P np τ all E l2 (k+l1.length) cs st) l1 k cs st
 | [],k,cs,st=>rfl
 |o::os,k,cs,st=>by
  have e: ∀cs st,xw P np τ all E (os++l2) (k+1) cs st=xw P np τ all (fun cs st=>xw P np τ all E l2 (k+(o::os).length) cs st) os (k+1) cs st:=fun cs st=>by
   rw [jb E l2 os (k+1) cs st,List.length_cons,show k+1+os.length=k+(os.length+1)from by omega]
  simp only [List.cons_append,xw,e]
theorem XE (n:Nat){E:List Rec→St→Prop}{os:List Oper}{k:Nat}{cs:List Rec}{st:St}(hn:n≤os.length)(h: ∀K:List Rec→St→Prop,(∀cs st,xw P np τ all E (os.drop n) (k+n) cs st→K cs st)→xw P np τ all K (os.take n) k cs st):xw P np τ all E os k cs st:=by
 have :=h _ fun _ _ h=>h
 have hl:(os.take n).length=n:=by rw [List.length_take];omega
 have e:xw P np τ all (fun cs st=>xw P np τ all E (os.drop n) (k+(os.take n).length) cs st) (os.take n) k cs st:=by rw [hl];exact this
 rw [←jb,List.take_append_drop]at e
 exact e
theorem yN (np:Bool){Q:Exit→St→Prop}{st:St}(hτ:zu P τ)(hpos:yR τ)(hmix:P.follows .mixedOrders=true){id:Nat}{ops:List Oper}(hs:WV np ops (ancT ops)=true)(hd:yw st.n ops=true)(h: ∀E:List Rec→St→Prop,(∀cs st,chk ops (ancT ops) cs=true→Q .normal st→E cs st)→xw P np τ ops E ops 0 [] (st.start np ops)):awp P τ (.region id ops.toArray true) Q st:=
 xO np hτ hpos hmix hs hd fun C hC=>by
  rw [←uL]
  exact h _ fun cs st h1 h2=>⟨hC cs h1,h2⟩
end
inductive XT where
 |v (x:VT)
 |clo (f:FuncId) (ds:List D)
 |ref (d:D)
def XT.cells :XT→List D
 | .v x=>x.cells
 | .clo _ ds=>ds
 | .ref d=> [d]
section
variable {P:Program} {τ:Ty} {lo:Nat} {w0:Fz} {ow:Nat→Option Pl} {hd:Nat→Value} {bk:Nat→Nat} {st:St} {a:Act} {w:World}
end
section
variable {P:Program} {τ:Ty} {lo:Nat} {w0:Fz} {ow:Nat→Option Pl} {hd:Nat→Value} {bk:Nat→Nat} {st:St} {a:Act} {w:World}
end
section
variable {P:Program} {τ:Ty} {lo:Nat} {w0:Fz} {ow:Nat→Option Pl} {hd:Nat→Value} {bk:Nat→Nat} {st:St} {a:Act} {w:World}
theorem zBZ {t:Nat}(hsz:t<a.tmps.size):a.put (some t) (a.eval (.tmp t))=a:=by
 unfold Act.put Act.eval
 simp only
 congr 1
 apply Array.ext_getElem?
 intro i
 rw [Array.getElem?_setIfInBounds]
 split
 ·rename_i e;subst e
  first
   |(rw [if_pos hsz,Array.getD_eq_getD_getElem?,Array.getElem?_eq_getElem hsz];rfl)
   |(rw [Array.getD_eq_getD_getElem?,Array.getElem?_eq_getElem hsz];simp)
   |(simp [hsz])
 ·rfl
end
section
variable {P:Program} {τ:Ty} {lo:Nat} {w0:Fz} {ow:Nat→Option Pl} {hd:Nat→Value} {bk:Nat→Nat} {st:St} {a:Act} {w:World}
attribute [push_cast] List.set_cons_succ
end
section
variable {P:Program} {τ:Ty} {lo:Nat} {w0:Fz} {ow:Nat→Option Pl} {hd:Nat→Value} {bk:Nat→Nat} {st:St} {a:Act} {w:World}
end
end Go.Proofs.Ythepmdkpbjfdcaa
