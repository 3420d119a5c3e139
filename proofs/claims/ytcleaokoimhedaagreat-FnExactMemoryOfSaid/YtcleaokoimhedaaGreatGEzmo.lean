/- Regions whose order is drawn, VI: a step is what the real operation does; nothing new is spoken of; the rule. -/
import Derived.Test.YtcleaokoimhedaaGreatGCzmo
namespace Go.Proofs.YtcleaokoimhedaaGreat
open Go.RowKit
set_option linter.unusedVariables false
set_option linter.unusedSimpArgs false
def yj (np:Bool)(o:Oper):Bool:=
 match o.op with
 | .box _ _=>true
 | .alloc _=>true
 | .makeSlice _ _ _=>true
 | .buildSlice _ _ _=>true
 | .load _ _=>np
 | .call c=>match c.callee with
  | .value _=>true
  | .builtin .append=>true
  |_=>false
 |_=>false
theorem qG {np:Bool}{o:Oper}{x:FuncId×Array Operand×Array TypeId}(h:yH o=some x):yj np o=true:=by
 unfold yH at h
 unfold yj
 cases ho:o.op<;>rw [ho]at h<;>simp at h⊢
 rename_i c
 cases hc:c.callee<;>rw [hc]at h<;>simp at h⊢
section
variable {P:Program} {np:Bool} {τ:Ty} {lo:Nat} {w0:Fz} {ow:Nat→Option Pl} {hd:Nat→Value} {bk:Nat→Nat} {st:St} {a:Act} {w:World}
theorem ZC (t:Nat): ∀(ds:List D) (j:Nat) (st:St),yR (own t) st→j+ds.length≤16→xh st (yf t j ds st)∧∀k,lk (yf t j ds st).r k=(lk (vA t j ds) k).or (lk st.r k)
 | [],j,st,_,_=>⟨xh.refl st,fun k=>by simp [yf,vA,xA]⟩
 | .int _ _::ds,j,st,hf,hl=>by
  simp only [yf,vA]
  exact ZC t ds (j+1) st hf (by simp only [List.length_cons]at hl;omega)
 | .bool _::ds,j,st,hf,hl=>by
  simp only [yf,vA]
  exact ZC t ds (j+1) st hf (by simp only [List.length_cons]at hl;omega)
 | .hole::ds,j,st,hf,hl=>by
  simp only [yf,vA]
  exact ZC t ds (j+1) st hf (by simp only [List.length_cons]at hl;omega)
 | .lst e xs::ds,j,st,hf,hl=>by
  simp only [List.length_cons]at hl
  have s1:=qo hf (yh (t:=t) (j:=j) (by omega)) ⟨.ex,e,xs,none⟩
  obtain⟨h1,h2⟩:=ZC t ds (j+1) (st.addR (zc t j) ⟨.ex,e,xs,none⟩) (s1.free hf) (by omega)
  simp only [yf,vA]
  refine⟨s1.trans h1,fun k=> ?_⟩
  rw [h2,YI]
  simp only [St.addR,zi,xA]
  cases lk (vA t (j+1) ds) k with
  |some x=>simp
  |none=>
   by_cases e:zc t j=k
   ·simp [e]
   ·simp [e]
theorem yr {x y:Option (Dl×Prop)}{z:Dl×Prop}(h:orE x y=some z):x=some z∨y=some z:=by
 unfold orE at h
 split at h
 ·exact .inl h
 ·exact .inr h
theorem ZB {v:AV}(d:Option Tmp):Cov (st.put d v) (st.app d ⟨v,[],[],[]⟩):=qZ (xh.refl st) rfl rfl fun k R h=>by simpa [xA]using h
theorem zHG (hτ:zz P τ)(hpos:yW τ)(h:zl τ lo w0 ow hd bk st a w){o:Oper}(hf:yj np o=true→yR (own (zw o)) st)(hpf:np=true→PF st){δ:Dl}{ob:Prop}(he:wy np τ o st=some (δ,ob))(hob:ob):
  ∃st1 v,vq P τ lo w0 a w o st1 v∧Cov (st1.put o.dst v) (st.app o.dst δ):=by
 have plain:((qw τ o st).map fun y=>((⟨y.1,[],[],[]⟩:Dl),y.2))=some (δ,ob)→∃st1 v,vq P τ lo w0 a w o st1 v∧Cov (st1.put o.dst v) (st.app o.dst δ):=fun he=>by
  cases hv:qw τ o st with
  |none=>rw [hv]at he;cases he
  |some y=>
   rw [hv]at he
   simp only [Option.map_some,Option.some.injEq,Prod.mk.injEq]at he
   obtain⟨rfl,rfl⟩:=he
   obtain⟨z,hz,hr⟩:=JD hτ hpos h hv hob
   exact⟨st,y.1,⟨z,w,ow,hd,bk, .inl hz,h,hr⟩,ZB _⟩
 have wrapV: ∀{s:Sem Value} {z:Value} {w':World},s.run P w= .ok z w'→(do pure (.value (←s)):Sem Next).run P w= .ok (.value z) w':=fun{s z w'} hs=>by rw [Sem.run_bind,hs,Result.andThen_ok,Sem.run_pure]
 obtain⟨dst,op,ty,pos,after,guard⟩:=o
 unfold wy at he
 cases op<;>simp only at he
 case box e x=>
  split at he
  ·rename_i t vs hvs
   simp only [Option.some.injEq,Prod.mk.injEq]at he
   obtain⟨rfl,rfl⟩:=he
   have hf':=hf rfl
   obtain⟨us,hus,hur⟩:=qa hvs (zk h x)
   obtain⟨ow',bk',r1,r2,r3,r4⟩:=uq h t hob e vs us hur hf' (fun n hn=>hf'.ev x n (Vj hvs n hn))
   refine⟨_, .bp t 0,⟨.pointer (some ⟨w.heap.size,0,none⟩),_,ow',hd,bk', .inl (wrapV ?_),r1,by simp only [AvR];exact⟨⟨_,rfl⟩,fun _=>by rw [r2]⟩⟩,zE5 _ r3 r4⟩
   simp [Instr.box,newVar,newRow,newObj,Sem.run,hus]
  ·cases he
 case alloc e=>
  split at he
  ·rename_i t k b ht
   simp only [Option.some.injEq,Prod.mk.injEq]at he
   obtain⟨rfl,rfl⟩:=he
   have hf':=hf rfl
   have hz: ∃z:Value,(zeroValue e).run P w= .ok z w∧z.cells=(k.cells.map CK.zero).toArray:=by
    cases k with
    |sc c=>obtain⟨i,i1,i2,i3,i4⟩:=QM hτ ht;exact⟨c.zero,by simp [zeroValue,typeInfo,i1,i3],by cases c<;>rfl⟩
    |st cs fs=>obtain⟨F,_,_,i,i1,i2,i3,i4⟩:=ye hτ ht;exact⟨_,by simp [zeroValue,typeInfo,i1,i3];rfl,by simp [Value.cells,TK.cells]⟩
   obtain⟨z,hz1,hz2⟩:=hz
   obtain⟨ow',bk',r1,r2,r3,r4⟩:=uq h t hob e (k.cells.map ZZ) (k.cells.map CK.zero) (zp.2 ⟨by simp,fun i v x hv hx=>by
    rw [List.getElem?_map]at hv hx
    cases hk:k.cells[i]? with
    |none=>rw [hk]at hv;cases hv
    |some c=>rw [hk]at hv hx;cases hv;cases hx;exact Vz c⟩) hf' (fun n hn=>by
    obtain⟨v,hv,hm⟩:=yG.1 hn
    obtain⟨c,_,rfl⟩:=List.mem_map.1 hv
    cases c<;>simp [ZZ,AV.nm]at hm)
   refine⟨_, .bp t 0,⟨.pointer (some ⟨w.heap.size,0,none⟩),_,ow',hd,bk', .inl (wrapV ?_),r1,by simp only [AvR];exact⟨⟨_,rfl⟩,fun _=>by rw [r2]⟩⟩,zE5 _ r3 r4⟩
   unfold Instr.alloc
   rw [Sem.run_bind,hz1,Result.andThen_ok]
   simp [newVar,newRow,newObj,Sem.run,hz2]
  ·cases he
 case makeSlice t l c=>
  split at he
  ·obtain⟨st1,v,h1,h2⟩:=zHq (hf rfl) he
   exact⟨st1,v,kK hτ h rfl h1 hob,h2 _⟩
  ·cases he
 case buildSlice t len parts=>
  split at he
  ·rcases yr he with he|he
   ·obtain⟨st1,v,h1,h2⟩:=zJQ (hf rfl) he
    exact⟨st1,v,UJ hτ h rfl h1,h2 _⟩
   ·rcases yr he with he|he
    ·obtain⟨st1,v,h1,h2⟩:=zHm (o:=⟨some _, .buildSlice t len parts,ty,pos,after,guard⟩) hτ h rfl (hf rfl) he
     exact⟨st1,v,h1,h2 _⟩
    ·obtain⟨st1,v,h1,h2⟩:=zHn (o:=⟨some _, .buildSlice t len parts,ty,pos,after,guard⟩) hτ h rfl (hf rfl) he hob
     exact⟨st1,v,h1,h2 _⟩
  ·cases he
 case load t x=>
  rcases yr he with he|he
  ·cases dst with
   |none=>simp [Zt]at he
   |some t0=>
    have hnp:np=true:=by
     unfold Zt at he
     split at he
     ·split at he
      ·split at he
       ·rename_i hc;exact hc.1
       ·cases he
      ·cases he
     ·cases he
    obtain⟨st1,v,h1,h2⟩:=zGS (o:=⟨some t0, .load t x,ty,pos,after,guard⟩) hτ hpos h rfl rfl (hf hnp) he hob
    exact⟨st1,v,h1,h2 _⟩
  unfold Xz at he
  cases hv:vj τ st t (ev st x)with
  |none=>rw [hv]at he;cases he
  |some y=>
   rw [hv]at he
   simp only [Option.map_some,Option.some.injEq,Prod.mk.injEq]at he
   obtain⟨rfl,rfl⟩:=he
   obtain⟨z,hz,hr⟩:=JD (o:=⟨dst, .load t x,ty,pos,after,guard⟩) hτ hpos h (show qw τ _ st=some (y.1,y.2)from hv) hob
   exact⟨st,_,⟨z,w,ow,hd,bk, .inl hz,h,zEa hr⟩,ZB _⟩
 case store t p x=>
  rcases yr he with he|he
  rotate_left
  ·split at he
   ·rename_i hnp
    obtain⟨st1,h1,h2⟩:=zEn (o:=⟨dst, .store t p x,ty,pos,after,guard⟩) hτ h (hpf hnp) rfl he hob
    exact⟨st1,_,h1,h2 _⟩
   ·cases he
  cases hp:ev st p with
  |bp b i=>
   rw [hp]at he
   obtain⟨st1,h1,h2⟩:=zEm (o:=⟨dst, .store t p x,ty,pos,after,guard⟩) hτ h rfl hp he
   exact⟨st1,_,h1,h2 _⟩
  |ep d q i=>
   rw [hp]at he
   obtain⟨st1,u,h1,h2⟩:=zGg he
   exact⟨st1,u,Kv (al:= []) hτ hpos h rfl (by rw [hp];exact h1) hob,h2 _⟩
  |_=>rw [hp]at he;simp [wE]at he
 case call c=>
  obtain⟨callee,args,argTypes⟩:=c
  simp only at he
  split at he
  ·split at he
   ·rename_i t x y t1 t2 h1 h2
    split at he
    ·rename_i htt
     subst htt
     have e1:args= #[x,y]:=by cases args;simp at h1;subst h1;rfl
     have e2:argTypes= #[t1,t1]:=by cases argTypes;simp at h2;subst h2;rfl
     subst e1;subst e2
     rcases yr he with he|he
     ·obtain⟨st1,v,ob1,k1,k2,k3⟩:=zIr (hf rfl) he hob
      refine⟨st1,v,ui (dl:=St.delR0) (fun st ow hd d h=>⟨ZJ h d,by simp [St.delR0,xU,is1]⟩) hτ h (fun v w' hr=> ?_) k1 k2,k3 _⟩
      simp [execOp,resolve,invoke,builtin,hr]
     ·obtain⟨st1,v,k1,k2⟩:=zG4 (o:=⟨some _, .call ⟨.builtin .append,#[x,y],#[t1,t1]⟩,ty,pos,after,guard⟩) hτ h (fun v w' hr=>by simp [execOp,resolve,invoke,builtin,hr]) (hf rfl) he hob
      exact⟨st1,v,k1,k2 _⟩
    ·cases he
   ·cases he
  ·exact plain he
 all_goals exact plain he
theorem zFw {o:Oper}{δ:Dl}{Q:Exit→Act→World→Prop}{K':Act→World→Prop}(hdn: ∀k,o.dst=some k→k<a.tmps.size)(h:Rel τ lo w0 st a w)(hf:yR (own (zw o)) st)(ha:Wo P τ o st δ)
  (hK: ∀x w',Rel τ lo w0 (st.app o.dst δ) (a.put o.dst x) w'→K' (a.put o.dst x) w'):o.wp P a w K' Q:=by
 unfold Wo at ha
 split at ha
 rotate_left
 ·exact ha.elim
 rename_i f as T cells ds ob hact
 obtain⟨hob,ds',ress,⟨⟨fn,hfn,hname,hbody⟩,hlen,hcall⟩,hsz,h16,rfl⟩:=ha
 unfold YR at hact
 cases hc:yH o with
 |none=>rw [hc]at hact;cases hact
 |some y=>
  obtain⟨f',args,ts⟩:=y
  rw [hc]at hact
  simp only at hact
  split at hact
  rotate_left
  ·cases hact
  rename_i T' vs hvs
  cases hT:lk st.b T' with
  |none=>rw [hT]at hact;cases hact
  |some cells'=>
   rw [hT]at hact
   simp only at hact
   split at hact
   rotate_left
   ·cases hact
   rename_i ds0 ob1 as0 ob2 hds has
   simp only [Option.some.injEq,Prod.mk.injEq]at hact
   obtain⟨rfl,rfl,rfl,rfl,rfl,rfl⟩:=hact
   obtain⟨ow,hd,bk,hr⟩:=h
   have hev:ze τ w st.r st.b hd bk (args.toList.map (ev st)) (args.toList.map a.eval):=zp.2 ⟨by simp,fun i v x hv hx=>by
    rw [List.getElem?_map]at hv hx
    cases hk:args.toList[i]? with
    |none=>rw [hk]at hv;cases hv
    |some p=>rw [hk]at hv hx;cases hv;cases hx;exact zk hr p⟩
   rw [hvs]at hev
   simp only [ze]at hev
   obtain⟨x0,xs,hxs,hx0,hxs2⟩:=hev
   simp only [AvR]at hx0
   have hptr:=hx0.2 ⟨_,hT⟩
   subst hptr
   obtain⟨cs,ty,b1,b2,b3,b4,b5⟩:=zF6 hr hT hds hob.1
   have hA:=zEK hr hT hxs2 has hob.2
   have hC:=hcall w (bk T') cs xs ty b1 b2 b5 hA
   have hexec:(execOp a.eval o).run P w= .ok (.enter f' (args.toList.map a.eval).toArray) w:=by
    obtain⟨dst,op,oty,pos,after,guard⟩:=o
    unfold yH at hc
    simp only at hc
    split at hc
    ·rename_i c
     split at hc
     ·rename_i f' hcal
      cases hc
      obtain⟨callee,args',ats⟩:=c
      simp only at hcal
      subst hcal
      rw [execOp_call_go]
      unfold callFunc
      have h1: ¬fn.name= "runtime.NumGoroutine" :=by simpa using hname
      have h2: ¬fn.body=none:=by cases hb:fn.body with
       |none=>rw [hb]at hbody;simp at hbody
       |some c=>simp
      have h3:Array.map a.eval args'=(args'.toList.map a.eval).toArray:=by cases args';simp
      simp [hfn,h1,h2,h3]
     ·cases hc
    ·cases hc
   unfold Oper.wp
   rw [hexec,hxs]
   simp only [Oper.upon]
   refine hC.mono fun e w' hpost=> ?_
   obtain⟨z,ow',hd2,he,r1,r2⟩:=zEe hr hT b3 (by rw [hlen,b4]) (t:=zw o) hsz hpost
   subst he
   have hfree:yR (own (zw o)) (st.setB T' (qI cells' ds')):=⟨hf.s,fun k cs' hcs'=>by
    simp only [St.setB,zi]at hcs'
    split at hcs'
    ·cases hcs'
     intro n hn
     obtain⟨v,hv,hm⟩:=yG.1 hn
     rcases JP hv with hv|⟨k,m,rfl⟩|⟨b,rfl⟩
     ·exact hf.b T' cells' hT n (yG.2 ⟨v,hv,hm⟩)
     ·simp [AV.nm]at hm
     ·simp [AV.nm]at hm
    ·exact hf.b k cs' hcs'⟩
   obtain⟨k1,k2⟩:=ZC (zw o) (zr ress) 0 _ hfree (by omega)
   refine hK z w' (xg (xQ r1 hdn r2) ⟨?_,fun k v hv=> .inr ?_,fun k us hus=> ?_,fun k R hR=> ?_⟩)
   ·rw [jE,zGd];exact k1.n.symm
   ·rw [Zo]at hv
    cases hdd:o.dst with
    |none=>rw [hdd]at hv;simp only [St.put];rw [k1.s];simpa [St.setB]using hv
    |some d=>
     rw [hdd]at hv
     simp only [St.put,zi]
     simp only [Option.some.injEq]at hv
     split at hv
     ·rename_i e;rw [if_pos e];exact hv
     ·rename_i e;rw [if_neg e,k1.s];exact hv
   ·rw [wd]at hus
    have e:lk ((yf (zw o) 0 (zr ress) (st.setB T' (qI cells' ds'))).put o.dst (qJ (xO τ (zw o) 0 ress))).b k=lk (st.setB T' (qI cells' ds')).b k:=by
     cases o.dst<;>exact k1.b k
    rw [e]
    simp only [St.setB,zi]at hus⊢
    split
    ·rename_i e;rw [if_pos e]at hus;simpa using hus
    ·rename_i e;rw [if_neg e,xA]at hus;simpa using hus
   ·rw [we]at hR
    have e:lk ((yf (zw o) 0 (zr ress) (st.setB T' (qI cells' ds'))).put o.dst (qJ (xO τ (zw o) 0 ress))).r k=lk (yf (zw o) 0 (zr ress) (st.setB T' (qI cells' ds'))).r k:=by
     cases o.dst<;>rfl
    rw [e,k2]
    simpa [St.setB]using hR
theorem Xp (hτ:zz P τ)(hpos:yW τ){o:Oper}{δ:Dl}{Q:Exit→Act→World→Prop}{K':Act→World→Prop}(hdn: ∀k,o.dst=some k→k<a.tmps.size)(h:Rel τ lo w0 st a w)(hf:yj np o=true→yR (own (zw o)) st)(hpf:np=true→PF st)(ha:qT P np τ o st δ)
  (hK: ∀x w',Rel τ lo w0 (st.app o.dst δ) (a.put o.dst x) w'→K' (a.put o.dst x) w'):o.wp P a w K' Q:=by
 unfold qT at ha
 rcases ha with ha|ha|ha
 ·exact ha.2.2.2.2.2.2 st ⟨fun _ _=>rfl,fun _ _=>rfl,fun _ _=>rfl⟩ hpf lo w0 a w Q K' hdn h hK
 ·unfold kW at ha
  cases hc:yH o with
  |none=>rw [hc]at ha;exact ha.elim
  |some x=>
   obtain⟨f,args,ts⟩:=x
   rw [hc]at ha
   simp only at ha
   split at ha
   ·rename_i as ob us vs hargs hevs
    obtain⟨hob,pm,ress,⟨hcl,hcall⟩,hpm,hsz,hlen,rfl⟩:=ha
    obtain⟨ow,hd',bk,hr⟩:=h
    have hev:ze τ w st.r st.b hd' bk (args.toList.map (ev st)) (args.toList.map a.eval):=zp.2 ⟨by simp,fun i v x hv hx=>by
     rw [List.getElem?_map]at hv hx
     cases hk:args.toList[i]? with
     |none=>rw [hk]at hv;cases hv
     |some p=>rw [hk]at hv hx;cases hv;cases hx;exact zk hr p⟩
    have hA:=Qd hr w.heap.size hev hargs hob
    have hC:=hcall w _ hA
    unfold Oper.wp
    rw [zF9 hc hcl]
    simp only [Oper.upon]
    refine hC.mono fun e w' hpost=> ?_
    obtain⟨cs0,cs,ow',hd2,h0,he,r1,r2⟩:=zEg hr (t:=zw o) hsz hpost
    subst he
    obtain⟨k1,k2⟩:=ZC (zw o) ress 0 st (hf (qG hc)) (by omega)
    obtain⟨x0,xs,hx0,hv0⟩: ∃x0 xs,args.toList=x0::xs∧ev st x0= .agg us:=by
     cases hal:args.toList with
     |nil=>rw [hal]at hevs;simp at hevs
     |cons x0 xs=>
      rw [hal]at hevs
      simp only [List.map_cons,List.cons.injEq]at hevs
      exact⟨x0,xs,rfl,hevs.1⟩
    have hv1:ev (yf (zw o) 0 ress st) x0= .agg us:=by
     rw [←hv0]
     cases x0<;>simp only [ev]
     rw [k1.s]
    have hx:=zk r1 x0
    rw [hv1]at hx
    simp only [AvR]at hx
    obtain⟨cs1,e1,r3⟩:=hx
    rw [hx0]at h0
    simp only [List.map_cons,List.getElem?_cons_zero,Option.some.injEq]at h0
    rw [e1]at h0
    have :cs1=cs0:=by simpa using h0
    subst this
    have hrel:=xQ (d:=o.dst) r1 hdn (v:= .agg (Ze pm .dead us++yd τ (zw o) 0 ress)) (x:= .agg (List.toArray (Ze pm undef cs1++cs))) (by
     simp only [AvR]
     exact⟨_,rfl,vo (zB7 r3 pm hpm) r2⟩)
    exact hK _ w' (xg hrel (qZ k1 rfl rfl fun k R hR=>by rw [k2];simpa using hR))
   ·exact ha.elim
 cases hc:yH o with
 |some x=>
  obtain⟨f,args,ts⟩:=x
  rw [hc]at ha
  simp only at ha
  cases hargs:yu τ st ts.toList (args.toList.map (ev st))with
  |none=>rw [hargs]at ha;exact zFw hdn h (hf (qG hc)) ha.2 hK
  |some y=>
   obtain⟨as,ob⟩:=y
   rw [hargs]at ha
   obtain⟨hob,ress,h1,h2,h3,rfl⟩:=ha
   refine wo (al:= []) (K:=fun s=>s=(yf (zw o) 0 (zr ress) st).put o.dst (qJ (xO τ (zw o) 0 ress))) hτ hpos hdn h ?_ ?_
   ·unfold aop
    rw [hc]
    simp only [hargs]
    exact⟨hob,ress,h1,h2,rfl⟩
   ·rintro st' x w' rfl hrel
    obtain⟨k1,k2⟩:=ZC (zw o) (zr ress) 0 st (hf (qG hc)) (by omega)
    exact hK x w' (xg hrel (qZ k1 rfl rfl fun k R hR=>by rw [k2];simpa using hR))
 |none=>
  rw [hc]at ha
  simp only at ha
  cases he:wy np τ o st with
  |none=>rw [he]at ha;exact ha.elim
  |some y=>
   obtain⟨δ',ob⟩:=y
   rw [he]at ha
   obtain⟨hob,rfl⟩:=ha
   obtain⟨ow,hd,bk,hr⟩:=h
   obtain⟨st1,v,r1,r2⟩:=zHG hτ hpos hr hf hpf he hob
   exact zCt hdn r1 r2 hK
end
section
variable {P:Program} {np:Bool} {τ:Ty} {st:St} {ns:Nat→Bool}
def NS (ns:Nat→Bool)(v:AV):Prop:= ∀n∈v.nm,ns n=false
theorem ym {v:AV}(h:v.nm= []):NS ns v:=fun n hn=>by rw [h]at hn;simp at hn
theorem uS {vs:List AV}(h: ∀v∈vs,NS ns v):NS ns (.agg vs):=fun n hn=>by
 simp only [AV.nm]at hn
 obtain⟨v,hv,hm⟩:=yG.1 hn
 exact h v hv n hm
theorem NS_ar (k:IntKind)(n:Int):NS ns (ar k n).1:=by unfold ar;cases k<;>exact ym rfl
theorem ar_ns {k:IntKind}{n:Int}{v:AV}{ob:Prop}(h:some (ar k n)=some (v,ob)):NS ns v:=by
 have h1:=Option.some.inj h
 have :=NS_ar (ns:=ns) k n
 rw [h1]at this
 exact this
theorem US {d:Nat}{p:List Nat}{v u:AV}{o o':Prop}(h:onR st d p v o=some (u,o'))(hv:NS ns v):NS ns u:=by
 unfold onR at h
 split at h
 ·cases h;exact hv
 ·cases h
theorem zCk {d:Nat}{p:List Nat}{i:Nat}{xs:List D}{c:CK}(h:ns (2*d)=false):NS ns (Zr τ d p i xs c):=by
 cases c with
 |int k=>exact ym rfl
 |bool=>exact ym rfl
 |sl e=>intro n hn;simp only [Zr,AV.nm,List.mem_singleton]at hn;subst hn;exact h
theorem zA5 {d:Nat}{p:List Nat}{xs:List D}(h:ns (2*d)=false): ∀(cs:List CK) (i:Nat),∀v∈wX τ d p xs i cs,NS ns v
 | [],i,v,hv=>by simp [wX]at hv
 |c::cs,i,v,hv=>by
  simp only [wX,List.mem_cons]at hv
  rcases hv with rfl|hv
  ·exact zCk h
  ·exact zA5 h cs (i+1) v hv
theorem ur (hf:yR ns st){b:Nat}{cs:List AV}(hb:lk st.b b=some cs): ∀v∈cs,NS ns v:=fun v hv n hn=>hf.b b cs hb n (yG.2 ⟨v,hv,hn⟩)
theorem zDO (hf:yR ns st){t:TypeId}{v u:AV}{ob:Prop}(hv:NS ns v)(h:vj τ st t v=some (u,ob)):NS ns u:=by
 cases v<;>simp only [vj]at h<;>try(cases h;done)
 ·rename_i d p i
  have hd:ns (2*d)=false:=hv _ (by simp [AV.nm])
  split at h
  ·cases h;exact zCk hd
  ·cases h;exact uS (zA5 hd _ _)
  ·cases h
 ·rename_i b i
  split at h
  ·rename_i cs _ _ hcs _
   cases h
   rw [List.getD_eq_getElem?_getD]
   cases hx:cs[i]? with
   |none=>exact ym rfl
   |some v=>exact ur hf hcs v (List.mem_of_getElem? hx)
  ·rename_i cs _ _ _ hcs _
   cases h
   exact uS fun v hv=>ur hf hcs v (List.mem_of_mem_drop (List.mem_of_mem_take hv))
  ·cases h
mutual
theorem zFI {ds bs:Nat→Bool}: ∀(v:AV),NS ns v→NS ns (v.kill ds bs)
 | .int k n,h=>h
 | .bool b,h=>h
 | .sl d p off len e,h=>by
  simp only [AV.kill];split
  ·exact ym rfl
  ·exact h
 | .nil,h=>h
 | .ep d p i,h=>by
  simp only [AV.kill];split
  ·exact ym rfl
  ·exact h
 | .bp t i,h=>by
  simp only [AV.kill];split
  ·exact ym rfl
  ·exact h
 | .agg vs,h=>fun n hn=>JK vs (fun n hn=>h n (by simpa only [AV.nm]using hn)) n (by simpa only [AV.kill,AV.nm]using hn)
 | .tup vs,h=>fun n hn=>JK vs (fun n hn=>h n (by simpa only [AV.nm]using hn)) n (by simpa only [AV.kill,AV.nm]using hn)
 | .fn f vs,h=>fun n hn=>JK vs (fun n hn=>h n (by simpa only [AV.nm]using hn)) n (by simpa only [AV.kill,AV.nm]using hn)
 | .dead,h=>h
 | .raw u,h=>h
theorem JK {ds bs:Nat→Bool}: ∀(vs:List AV),(∀n∈AV.nmL vs,ns n=false)→∀n∈AV.nmL (AV.killL ds bs vs),ns n=false
 | [],h,n,hn=>by simp [AV.killL,AV.nmL]at hn
 |v::vs,h,n,hn=>by
  simp only [AV.killL,AV.nmL,List.mem_append]at hn
  rcases hn with hn|hn
  ·exact zFI v (fun n hn=>h n (by simp [AV.nmL,hn])) n hn
  ·exact JK vs (fun n hn=>h n (by simp [AV.nmL,hn])) n hn
end
theorem zJf {np:Bool}{v u:AV}(h:NS ns u):NS ns (wg np st v u):=by
 unfold wg
 split
 ·split
  ·split
   ·exact zFI u h
   ·exact h
  ·exact h
 ·exact h
theorem Vl {v:AV}{vs:List AV}(h:fieldsOf v=some vs)(hv:NS ns v): ∀u∈vs,NS ns u:=fun u hu n hn=>hv n (Vj h n (yG.2 ⟨u,hu,hn⟩))
theorem jT {α:Type}{cells vs:List α}{i:Nat}{x:α}(h:x∈lay cells i vs):x∈cells∨x∈vs:=by
 unfold lay at h
 simp only [List.mem_append]at h
 rcases h with(h|h)|h
 ·exact .inl (List.mem_of_mem_take h)
 ·exact .inr h
 ·exact .inl (List.mem_of_mem_drop h)
theorem zC0 {fs:List (Nat×TypeId)}: ∀(parts:List (Nat×AV)) (cells us:List AV),(∀v∈cells,NS ns v)→(∀x∈parts,NS ns x.2)→wL τ fs cells parts=some us→∀v∈us,NS ns v
 | [],cells,us,hc,_,h=>by simp only [wL,Option.some.injEq]at h;subst h;exact hc
 |(i,v)::rest,cells,us,hc,hp,h=>by
  simp only [wL]at h
  split at h
  ·rename_i x vs h1 h2
   split at h
   ·refine zC0 rest _ us (fun u hu=> ?_) (fun x hx=>hp x (by simp [hx])) h
    rcases jT hu with hu|hu
    ·exact hc u hu
    ·exact Vl h2 (hp (i,v) (by simp)) u hu
   ·cases h
  ·cases h
theorem zLH (hf:yR ns st){o:Oper}{v:AV}{ob:Prop}(h:qw τ o st=some (v,ob)):NS ns v:=by
 obtain⟨dst,op,ty,pos,after,guard⟩:=o
 have ev': ∀x,NS ns (ev st x):=fun x=>hf.ev x
 unfold qw at h
 cases op<;>simp only at h<;>try(cases h;done)
 case move x=>cases h;exact ev' x
 case assign x=>cases h;exact ev' x
 case nilCheck x=>
  unfold zAW at h
  have hx:=ev' x
  split at h
  ·rename_i t i hev
   rw [hev]at hx
   split at h
   ·cases h;exact hx
   ·cases h
  ·cases h
 case pick c x y=>
  split at h
  ·cases h;split
   ·exact ev' x
   ·exact ev' y
  ·cases h
 case load t x=>exact zDO hf (ev' x) h
 case fieldAddr t x f=>
  unfold Yb at h
  have hx:=ev' x
  split at h
  ·split at h
   ·cases hv:ev st x<;>rw [hv]at h<;>rw [hv]at hx<;>simp only at h<;>try(cases h;done)
    ·exact US h (fun n hn=>hx n (by simpa [AV.nm]using hn))
    ·split at h
     ·cases h;exact fun n hn=>hx n (by simpa [AV.nm]using hn)
     ·cases h
   ·cases h
  ·cases h
 case indexAddr t x ix=>
  unfold Yc at h
  have hx:=ev' x
  split at h
  ·cases hv:ev st x<;>rw [hv]at h<;>rw [hv]at hx<;>(try simp only at h)<;>try(cases h;done)
   cases hi:ev st ix<;>rw [hi]at h<;>(try simp only at h)<;>try(cases h;done)
   split at h
   ·exact US h (fun n hn=>hx n (by simpa [AV.nm]using hn))
   ·cases h
  ·cases h
 case field t x f=>
  have hx:=ev' x
  obtain⟨us,k,e1,e2⟩:=kH h
  rw [e1]at hx
  exact fun n hn=>hx n (by simp only [AV.nm];exact yG.2 ⟨_,List.mem_of_getElem? e2,hn⟩)
 case extract x i=>
  have hx:=ev' x
  cases hv:ev st x<;>rw [hv]at h<;>rw [hv]at hx<;>simp only at h<;>try(cases h;done)
  rename_i vs
  cases hi:vs[i]? with
  |none=>rw [hi]at h;cases h
  |some u=>
   rw [hi]at h;cases h
   exact fun n hn=>hx n (by simp only [AV.nm];exact yG.2 ⟨_,List.mem_of_getElem? hi,hn⟩)
 case binOp op t x y r=>
  split at h
  ·rcases zA0 h with⟨k,n,rfl⟩|⟨b,rfl⟩<;>exact ym rfl
  ·unfold jF at h
   split at h
   ·split at h<;>cases h<;>exact ym rfl
   ·cases h
  ·rcases zAx h with⟨b,rfl⟩;exact ym rfl
  ·cases h
 case unOp op t x=>
  unfold unE at h
  split at h
  ·exact ar_ns h
  ·cases h;exact ym rfl
  ·cases h
 case build t parts=>
  unfold WJ at h
  split at h
  ·rename_i ks fs b ht
   cases hfl:wL τ fs (ks.map ZZ) (parts.toList.map fun x=>(x.1,ev st x.2))with
   |none=>rw [hfl]at h;cases h
   |some us=>
    rw [hfl]at h;cases h
    refine uS (zC0 _ _ _ (fun v hv=> ?_) (fun x hx=> ?_) hfl)
    ·obtain⟨c,_,rfl⟩:=List.mem_map.1 hv
     cases c<;>exact ym rfl
    ·obtain⟨y,_,rfl⟩:=List.mem_map.1 hx
     exact ev' _
  ·cases h
 case convert s d x=>
  split at h
  ·rcases zCU h with⟨k,n,rfl⟩<;>exact ym rfl
  ·cases h
 case slice t x l u m=>
  split at h
  ·unfold Yi at h
   have hx:=ev' x
   split at h
   ·cases hv:ev st x<;>rw [hv]at h<;>rw [hv]at hx<;>simp only at h<;>try(cases h;done)
    split at h
    ·split at h
     ·exact US h (fun n hn=>hx n (by simpa [AV.nm]using hn))
     ·cases h
    ·cases h
   ·cases h
  ·cases h
 case call c=>
  unfold wv at h
  split at h
  ·split at h
   ·split at h
    ·unfold JN at h
     split at h
     ·exact US h (ym rfl)
     ·cases h;exact ym rfl
     ·cases h
    ·cases h
   ·unfold zAQ at h
    split at h
    ·cases h;exact ym rfl
    ·cases h
   ·unfold zAS at h
    split at h
    ·cases h;exact ym rfl
    ·cases h
   ·unfold jV at h
    split at h
    ·cases h;exact ym rfl
    ·cases h
   ·cases h
  ·cases h
theorem QQ (t:Nat)(ho: ∀n,own t n=true→ns n=false): ∀(ds:List D) (j:Nat),j+ds.length≤16→∀v∈yd τ t j ds,NS ns v
 | [],j,_,v,hv=>by simp [yd]at hv
 | .lst e xs::ds,j,hl,v,hv=>by
  simp only [List.length_cons]at hl
  simp only [yd,List.mem_cons]at hv
  rcases hv with rfl|hv
  ·intro n hn
   simp only [AV.nm,List.mem_singleton]at hn
   subst hn
   exact ho _ (yh (by omega))
  ·exact QQ t ho ds (j+1) (by omega) v hv
 | .int k n::ds,j,hl,v,hv=>by
  simp only [List.length_cons]at hl
  simp only [yd,List.mem_cons]at hv
  rcases hv with rfl|hv
  ·exact ym rfl
  ·exact QQ t ho ds (j+1) (by omega) v hv
 | .bool b::ds,j,hl,v,hv=>by
  simp only [List.length_cons]at hl
  simp only [yd,List.mem_cons]at hv
  rcases hv with rfl|hv
  ·exact ym rfl
  ·exact QQ t ho ds (j+1) (by omega) v hv
 | .hole::ds,j,hl,v,hv=>by
  simp only [List.length_cons]at hl
  simp only [yd,List.mem_cons]at hv
  rcases hv with rfl|hv
  ·exact ym rfl
  ·exact QQ t ho ds (j+1) (by omega) v hv
theorem QS (t:Nat)(ho: ∀n,own t n=true→ns n=false): ∀(xs:List VT) (j:Nat),j+(zr xs).length≤16→∀v∈xO τ t j xs,NS ns v
 | [],j,_,v,hv=>by simp [xO]at hv
 | .c d::xs,j,hl,v,hv=>by
  simp only [zr,VT.cells,List.length_append,List.length_cons,List.length_nil]at hl
  simp only [xO,List.mem_cons]at hv
  rcases hv with rfl|hv
  ·have :=QQ (τ:=τ) t ho [d] j (by simp only [List.length_cons,List.length_nil];omega)
   cases hr:yd τ t j [d]with
   |nil=>exact ym rfl
   |cons y ys=>rw [hr]at this;exact this y (by simp)
  ·exact QS t ho xs (j+1) (by omega) v hv
 | .agg ds::xs,j,hl,v,hv=>by
  simp only [zr,VT.cells,List.length_append]at hl
  simp only [xO,List.mem_cons]at hv
  rcases hv with rfl|hv
  ·exact uS (QQ t ho ds j (by omega))
  ·exact QS t ho xs (j+ds.length) (by omega) v hv
 | .fn f ds::xs,j,hl,v,hv=>by
  simp only [zr,VT.cells,List.length_append]at hl
  simp only [xO,List.mem_cons]at hv
  rcases hv with rfl|hv
  ·exact ym rfl
  ·exact QS t ho xs (j+ds.length) (by omega) v hv
theorem zEz (hf:yR ns st){o:Oper}{δ:Dl}(ho:yj np o=true→∀n,own (zw o) n=true→ns n=false)(ha:qT P np τ o st δ):NS ns δ.v∧∀x∈δ.bx,∀v∈x.2,NS ns v:=by
 have sl: ∀{t:Nat} {len:Nat} {e:TypeId},(∀n,own t n=true→ns n=false)→NS ns (.sl (zc t 0) [] 0 len e):=fun{t len e} h n hn=>by
  simp only [AV.nm,List.mem_singleton]at hn;subst hn;exact h _ (yh (by omega))
 unfold qT at ha
 rcases ha with ha|ha|ha
 ·obtain⟨-,-,h3,-,h5,-⟩:=ha
  refine⟨?_,fun x hx=>by rw [h5]at hx;simp at hx⟩
  rcases h3 with⟨k,m,h3⟩|⟨f,xs,h3,-⟩<;>rw [h3]<;>intro n hn
  ·simp [AV.nm]at hn
  ·simp only [AV.nm]at hn
   obtain⟨v,hv,hm⟩:=yG.1 hn
   obtain⟨x,-,rfl⟩:=List.mem_map.1 hv
   exact hf.ev x n hm
 ·unfold kW at ha
  cases hc:yH o with
  |none=>rw [hc]at ha;exact ha.elim
  |some x=>
   obtain⟨f,args,ts⟩:=x
   rw [hc]at ha
   simp only at ha
   split at ha
   ·rename_i as ob us vs hargs hevs
    obtain⟨hob,pm,ress,hfn,hpm,hsz,hlen,rfl⟩:=ha
    refine⟨?_,fun x hx=>by simp at hx⟩
    obtain⟨x0,hv0⟩: ∃x0,ev st x0= .agg us:=by
     cases hal:args.toList with
     |nil=>rw [hal]at hevs;simp at hevs
     |cons x0 xs=>
      rw [hal]at hevs
      simp only [List.map_cons,List.cons.injEq]at hevs
      exact⟨x0,hevs.1⟩
    have hu:=hf.ev x0
    rw [hv0]at hu
    have hr:=QS (τ:=τ) (zw o) (ho (qG hc)) [.agg ress] 0 (by simpa only [zr,VT.cells,List.append_nil,Nat.zero_add]using hlen)
    have hr2:=hr _ List.mem_cons_self
    intro n hn
    simp only [AV.nm]at hn
    obtain⟨v,hv,hm⟩:=yG.1 hn
    rcases List.mem_append.1 hv with hv|hv
    ·obtain⟨i,hi,rfl⟩:=List.mem_map.1 hv
     have hil:=hpm i hi
     refine hu n ?_
     simp only [AV.nm]
     refine yG.2 ⟨us.getD i .dead,?_,hm⟩
     rw [List.getD_eq_getElem?_getD,List.getElem?_eq_getElem hil]
     exact List.getElem_mem hil
    ·refine hr2 n ?_
     simp only [AV.nm]
     exact yG.2 ⟨v,hv,hm⟩
   ·exact ha.elim
 cases hc:yH o with
 |some x=>
  obtain⟨f,args,ts⟩:=x
  rw [hc]at ha
  simp only at ha
  cases hargs:yu τ st ts.toList (args.toList.map (ev st))with
  |none=>
   rw [hargs]at ha
   have hab:=ha.2
   unfold Wo at hab
   split at hab
   rotate_left
   ·exact hab.elim
   rename_i f' as T cells ds ob hact
   obtain⟨-,ds',ress,-,-,h3,rfl⟩:=hab
   have hT:lk st.b T=some cells:=by
    unfold YR at hact
    rw [hc]at hact
    simp only at hact
    split at hact
    ·rename_i T' vs hvs
     cases hT:lk st.b T' with
     |none=>rw [hT]at hact;cases hact
     |some cells'=>
      rw [hT]at hact
      simp only at hact
      split at hact
      ·simp only [Option.some.injEq,Prod.mk.injEq]at hact
       obtain⟨rfl,rfl,rfl,rfl,rfl,rfl⟩:=hact
       exact hT
      ·cases hact
    ·cases hact
   refine⟨?_,fun x hx=> ?_⟩
   ·have hr:=QS (τ:=τ) (zw o) (ho (qG hc)) ress 0 (by omega)
    unfold qJ
    split
    ·rename_i v hv;rw [hv]at hr;exact hr v (by simp)
    ·intro n hn
     simp only [AV.nm]at hn
     obtain⟨v,hv,hm⟩:=yG.1 hn
     exact hr v hv n hm
   ·simp only [List.mem_singleton]at hx;subst hx
    intro v hv
    rcases JP hv with hv|⟨k,m,rfl⟩|⟨b,rfl⟩
    ·exact ur hf hT v hv
    ·exact ym rfl
    ·exact ym rfl
  |some y=>
   rw [hargs]at ha
   obtain⟨hob,ress,h1,h2,h3,rfl⟩:=ha
   refine⟨?_,fun x hx=>by simp at hx⟩
   have hr:=QS (τ:=τ) (zw o) (ho (qG hc)) ress 0 (by omega)
   unfold qJ
   split
   ·rename_i v hv;rw [hv]at hr;exact hr v (by simp)
   ·intro n hn
    simp only [AV.nm]at hn
    obtain⟨v,hv,hm⟩:=yG.1 hn
    exact hr v hv n hm
 |none=>
  rw [hc]at ha
  simp only at ha
  cases he:wy np τ o st with
  |none=>rw [he]at ha;exact ha.elim
  |some y=>
   obtain⟨δ',ob⟩:=y
   rw [he]at ha
   obtain⟨hob,rfl⟩:=ha
   clear hob hc
   have plain:((qw τ o st).map fun y=>((⟨y.1,[],[],[]⟩:Dl),y.2))=some (δ,ob)→NS ns δ.v∧∀x∈δ.bx,∀v∈x.2,NS ns v:=fun he=>by
    cases hv:qw τ o st with
    |none=>rw [hv]at he;cases he
    |some y=>rw [hv]at he;cases he;exact⟨zLH hf hv,fun x hx=>by simp at hx⟩
   obtain⟨dst,op,ty,pos,after,guard⟩:=o
   unfold wy at he
   cases op<;>simp only at he
   case box e x=>
    split at he
    ·rename_i t vs hvs
     cases he
     refine⟨fun n hn=> ?_,fun x hx=> ?_⟩
     ·simp only [AV.nm,List.mem_singleton]at hn;subst hn;exact ho rfl _ zAX
     ·simp only [List.mem_singleton]at hx;subst hx;exact Vl hvs (hf.ev _)
    ·cases he
   case alloc e=>
    split at he
    ·rename_i t k b ht
     cases he
     refine⟨fun n hn=> ?_,fun x hx=> ?_⟩
     ·simp only [AV.nm,List.mem_singleton]at hn;subst hn;exact ho rfl _ zAX
     ·simp only [List.mem_singleton]at hx;subst hx
      intro v hv
      obtain⟨c,_,rfl⟩:=List.mem_map.1 hv
      cases c<;>exact ym rfl
    ·cases he
   case makeSlice t l c=>
    split at he
    ·unfold JO at he
     split at he
     ·split at he
      ·split at he
       ·cases he;exact⟨sl (ho rfl),fun x hx=>by simp at hx⟩
       ·cases he
      ·cases he
     ·cases he
    ·cases he
   case buildSlice t len parts=>
    split at he
    ·rcases yr he with he|he
     ·unfold kx at he
      split at he
      ·split at he
       ·split at he
        ·cases he;exact⟨sl (ho rfl),fun x hx=>by simp at hx⟩
        ·cases he
       ·cases he
      ·cases he
     ·rcases yr he with he|he
      ·unfold Vo at he
       split at he
       ·split at he
        ·split at he
         ·split at he
          ·cases he;exact⟨sl (ho rfl),fun x hx=>by simp at hx⟩
          ·cases he
         ·cases he
        ·cases he
       ·cases he
      ·unfold Vp at he
       split at he
       ·split at he
        ·split at he
         ·rename_i R _ _ hR _
          split at he
          ·cases he;exact⟨sl (ho rfl),fun x hx=>by simp at hx⟩
          ·cases he
         ·cases he
        ·cases he
       ·cases he
    ·cases he
   case load t x=>
    rcases yr he with he|he
    ·unfold Zt at he
     split at he
     ·split at he
      ·split at he
       ·rename_i hc;cases he;exact⟨sl (ho hc.1),fun x hx=>by simp at hx⟩
       ·cases he
      ·cases he
     ·cases he
    unfold Xz at he
    cases hv:vj τ st t (ev st x)with
    |none=>rw [hv]at he;cases he
    |some y=>rw [hv]at he;cases he;exact⟨zJf (zDO hf (hf.ev x) hv),fun x hx=>by simp at hx⟩
   case store t p x=>
    rcases yr he with he|he
    rotate_left
    ·split at he
     ·cases hp:ev st p<;>rw [hp]at he<;>simp only [Zn]at he<;>try(cases he;done)
      rename_i d q i
      cases q with
      |cons _ _=>simp at he
      |nil=>
       simp only at he
       split at he
       ·split at he
        ·split at he
         ·cases he;exact⟨ym rfl,fun x hx=>by simp at hx⟩
         ·cases he
        ·cases he
       ·cases he
     ·cases he
    cases hp:ev st p<;>rw [hp]at he<;>simp only [wE]at he<;>try(cases he;done)
    ·split at he
     ·split at he
      ·split at he
       ·cases he;exact⟨ym rfl,fun x hx=>by simp at hx⟩
       ·cases he;exact⟨ym rfl,fun x hx=>by simp at hx⟩
       ·cases he
      ·cases he
     ·cases he
    ·split at he
     ·rename_i vs cells hvs hcells
      split at he
      ·cases he
       refine⟨ym rfl,fun x hx=> ?_⟩
       simp only [List.mem_singleton]at hx;subst hx
       intro v hv
       rcases jT hv with hv|hv
       ·exact ur hf hcells v hv
       ·exact Vl hvs (hf.ev _) v hv
      ·cases he
     ·cases he
   case call c=>
    obtain⟨callee,args,argTypes⟩:=c
    simp only at he
    split at he
    ·split at he
     ·split at he
      ·have h1:=ho rfl
       rcases yr he with he|he
       ·unfold Ve at he
        split at he
        ·split at he
         ·split at he
          ·split at he
           ·unfold Yp at he
            split at he
            ·cases he;exact⟨sl h1,fun x hx=>by simp at hx⟩
            ·split at he
             ·split at he
              ·cases he;exact⟨sl h1,fun x hx=>by simp at hx⟩
              ·cases he
             ·cases he
            ·cases he
           ·cases he
          ·cases he
         ·cases he
        ·cases he
       ·unfold Yo at he
        split at he
        ·split at he
         ·split at he
          ·split at he
           ·unfold YW at he
            split at he
            ·cases he;exact⟨sl h1,fun x hx=>by simp at hx⟩
            ·split at he
             ·split at he
              ·cases he;exact⟨sl h1,fun x hx=>by simp at hx⟩
              ·cases he
             ·cases he
            ·cases he
           ·cases he
          ·cases he
         ·cases he
        ·cases he
      ·cases he
     ·cases he
    ·exact plain he
   all_goals exact plain he
theorem kq (hf:yR ns st){d:Option Tmp}{δ:Dl}(h:NS ns δ.v∧∀x∈δ.bx,∀v∈x.2,NS ns v):yR ns (st.app d δ):=by
 refine⟨fun k v hv=> ?_,fun k cs hc=> ?_⟩
 ·rw [Zo]at hv
  split at hv
  ·cases hv;exact h.1
  ·exact hf.s k v hv
 ·rw [wd]at hc
  cases hx:lk δ.bx k with
  |some cs'=>
   rw [hx]at hc
   simp only [Option.some_or,Option.some.injEq]at hc
   subst hc
   intro n hn
   obtain⟨v,hv,hm⟩:=yG.1 hn
   exact h.2 _ (WW hx) v hv n hm
  |none=>rw [hx]at hc;simp only [Option.none_or]at hc;exact hf.b k cs hc
theorem VX {all:List Oper}(hf:yR ns st){o:Oper}{δ:Dl}(ho:yj np o=true→∀n,own (zw o) n=true→ns n=false)(ha:xW P np τ all o st δ):yR ns (st.app o.dst δ):=by
 have skip:yR ns (st.app o.dst Dl.skip):=kq hf ⟨ym rfl,fun x hx=>by simp [Dl.skip]at hx⟩
 unfold xW at ha
 split at ha
 ·exact kq hf (zEz hf ho ha)
 ·rename_i j want _
  split at ha
  ·rename_i b _
   by_cases e:b=want
   ·exact kq hf (zEz hf ho (ha.1 e))
   ·have :=ha.2 (by cases b<;>cases want<;>simp_all);subst this;exact skip
  ·subst ha;exact skip
  ·exact ha.elim
end
structure Xn (ns:Nat→Bool)(st:St):Prop where
 s: ∀k v,lk st.s k=some v→∀n∈v.pm,ns n=false
 b: ∀k cs,lk st.b k=some cs→∀n∈AV.pmL cs,ns n=false
theorem zHD (v:Value):(cv1 v).pm= []:=by unfold cv1;split<;>rfl
theorem cv_pm (v:Value):(cv v).pm= []:=by
 unfold cv
 split
 ·rename_i cs
  simp only [AV.pm]
  rw [List.eq_nil_iff_forall_not_mem]
  intro n hn
  obtain⟨v,hv,hm⟩:=vP.1 hn
  obtain⟨x,_,rfl⟩:=List.mem_map.1 hv
  rw [zHD]at hm
  simp at hm
 ·exact zHD _
theorem Xn.ev {ns:Nat→Bool}{st:St}(h:Xn ns st)(x:Operand): ∀n∈(ev st x).pm,ns n=false:=by
 intro n hn
 cases x with
 |tmp t=>
  simp only [Go.Proofs.YtcleaokoimhedaaGreat.ev]at hn
  cases hx:lk st.s t with
  |none=>rw [hx]at hn;simp [AV.pm]at hn
  |some v=>rw [hx]at hn;exact h.s t v hx n hn
 |const v=>simp only [Go.Proofs.YtcleaokoimhedaaGreat.ev,cv_pm]at hn;simp at hn
 |func f=>simp [Go.Proofs.YtcleaokoimhedaaGreat.ev,AV.pm,AV.pmL]at hn
 |global g=>simp [Go.Proofs.YtcleaokoimhedaaGreat.ev,AV.pm]at hn
theorem zB1 {n d:Nat}{p:List Nat}{off len:Nat}{e:TypeId}(h:n∈(AV.sl d p off len e).pm):n=d:=by
 cases p<;>simp [AV.pm]at h;exact h
theorem zGb {n d:Nat}{p:List Nat}{i:Nat}(h:n∈(AV.ep d p i).pm):n=d:=by
 cases p<;>simp [AV.pm]at h;exact h
theorem zER {v:AV}{vs:List AV}(h:fieldsOf v=some vs): ∀n,n∈AV.pmL vs→n∈v.pm:=by
 intro n hn
 cases v<;>simp only [fieldsOf]at h<;>cases h<;>(try simp only [AV.pmL,List.append_nil]at hn)<;>first|exact hn|(simp only [AV.pm]at hn⊢;exact hn)
mutual
theorem zKb : ∀(v:AV) (n:Nat),n∈v.pm→2*n∈v.nm
 | .int k m,n,h=>by simp [AV.pm]at h
 | .bool b,n,h=>by simp [AV.pm]at h
 | .sl d p off len e,n,h=>by have :=zB1 h;subst this;simp [AV.nm]
 | .nil,n,h=>by simp [AV.pm]at h
 | .ep d p i,n,h=>by have :=zGb h;subst this;simp [AV.nm]
 | .bp t i,n,h=>by simp [AV.pm]at h
 | .agg vs,n,h=>by simp only [AV.pm,AV.nm]at h⊢;exact Wb vs n h
 | .tup vs,n,h=>by simp only [AV.pm,AV.nm]at h⊢;exact Wb vs n h
 | .fn f vs,n,h=>by simp only [AV.pm,AV.nm]at h⊢;exact Wb vs n h
 | .dead,n,h=>by simp [AV.pm]at h
 | .raw u,n,h=>by simp [AV.pm]at h
theorem Wb : ∀(vs:List AV) (n:Nat),n∈AV.pmL vs→2*n∈AV.nmL vs
 | [],n,h=>by simp [AV.pmL]at h
 |v::vs,n,h=>by
  simp only [AV.pmL,AV.nmL,List.mem_append]at h⊢
  rcases h with h|h
  ·exact .inl (zKb v n h)
  ·exact .inr (Wb vs n h)
end
mutual
theorem zFJ {ds bs:Nat→Bool}: ∀(v:AV) (n:Nat),n∈(v.kill ds bs).pm→ds n=false
 | .int k m,n,h=>by simp [AV.kill,AV.pm]at h
 | .bool b,n,h=>by simp [AV.kill,AV.pm]at h
 | .sl d p off len e,n,h=>by
  simp only [AV.kill]at h
  split at h
  ·simp [AV.pm]at h
  ·rename_i hd;have :=zB1 h;subst this;simpa using hd
 | .nil,n,h=>by simp [AV.kill,AV.pm]at h
 | .ep d p i,n,h=>by
  simp only [AV.kill]at h
  split at h
  ·simp [AV.pm]at h
  ·rename_i hd;have :=zGb h;subst this;simpa using hd
 | .bp t i,n,h=>by simp only [AV.kill]at h;split at h<;>simp [AV.pm]at h
 | .agg vs,n,h=>by simp only [AV.kill,AV.pm]at h;exact JL vs n h
 | .tup vs,n,h=>by simp only [AV.kill,AV.pm]at h;exact JL vs n h
 | .fn f vs,n,h=>by simp only [AV.kill,AV.pm]at h;exact JL vs n h
 | .dead,n,h=>by simp [AV.kill,AV.pm]at h
 | .raw u,n,h=>by simp [AV.kill,AV.pm]at h
theorem JL {ds bs:Nat→Bool}: ∀(vs:List AV) (n:Nat),n∈AV.pmL (AV.killL ds bs vs)→ds n=false
 | [],n,h=>by simp [AV.killL,AV.pmL]at h
 |v::vs,n,h=>by
  simp only [AV.killL,AV.pmL,List.mem_append]at h
  rcases h with h|h
  ·exact zFJ v n h
  ·exact JL vs n h
end
section
variable {P:Program} {τ:Ty} {st:St} {ns:Nat→Bool}
def NSp (ns:Nat→Bool)(v:AV):Prop:= ∀n∈v.pm,ns n=false
mutual
theorem zAL {ds bs:Nat→Bool}: ∀(v:AV),NSp ns v→NSp ns (v.kill ds bs)
 | .int k n,h=>h
 | .bool b,h=>h
 | .sl d p off len e,h=>by
  simp only [AV.kill];split
  ·intro n hn;simp [AV.pm]at hn
  ·exact h
 | .nil,h=>h
 | .ep d p i,h=>by
  simp only [AV.kill];split
  ·intro n hn;simp [AV.pm]at hn
  ·exact h
 | .bp t i,h=>by
  simp only [AV.kill];split
  ·intro n hn;simp [AV.pm]at hn
  ·exact h
 | .agg vs,h=>fun n hn=>JJ vs (fun n hn=>h n (by simpa only [AV.pm]using hn)) n (by simpa only [AV.kill,AV.pm]using hn)
 | .tup vs,h=>fun n hn=>JJ vs (fun n hn=>h n (by simpa only [AV.pm]using hn)) n (by simpa only [AV.kill,AV.pm]using hn)
 | .fn f vs,h=>fun n hn=>JJ vs (fun n hn=>h n (by simpa only [AV.pm]using hn)) n (by simpa only [AV.kill,AV.pm]using hn)
 | .dead,h=>h
 | .raw u,h=>h
theorem JJ {ds bs:Nat→Bool}: ∀(vs:List AV),(∀n∈AV.pmL vs,ns n=false)→∀n∈AV.pmL (AV.killL ds bs vs),ns n=false
 | [],h,n,hn=>by simp [AV.killL,AV.pmL]at hn
 |v::vs,h,n,hn=>by
  simp only [AV.killL,AV.pmL,List.mem_append]at hn
  rcases hn with hn|hn
  ·exact zAL v (fun n hn=>h n (by simp [AV.pmL,hn])) n hn
  ·exact JJ vs (fun n hn=>h n (by simp [AV.pmL,hn])) n hn
end
theorem zJe {np:Bool}{v u:AV}(h:NSp ns u):NSp ns (wg np st v u):=by
 unfold wg
 split
 ·split
  ·split
   ·exact zAL u h
   ·exact h
  ·exact h
 ·exact h
theorem yp {v:AV}(h:v.pm= []):NSp ns v:=fun n hn=>by rw [h]at hn;simp at hn
theorem Kz {vs:List AV}(h: ∀v∈vs,NSp ns v):NSp ns (.agg vs):=fun n hn=>by
 simp only [AV.pm]at hn
 obtain⟨v,hv,hm⟩:=vP.1 hn
 exact h v hv n hm
theorem zMd (k:IntKind)(n:Int):NSp ns (ar k n).1:=by unfold ar;cases k<;>exact yp rfl
theorem ar_np {k:IntKind}{n:Int}{v:AV}{ob:Prop}(h:some (ar k n)=some (v,ob)):NSp ns v:=by
 have h1:=Option.some.inj h
 have :=zMd (ns:=ns) k n
 rw [h1]at this
 exact this
theorem UR {d:Nat}{p:List Nat}{v u:AV}{o o':Prop}(h:onR st d p v o=some (u,o'))(hv:NSp ns v):NSp ns u:=by
 unfold onR at h
 split at h
 ·cases h;exact hv
 ·cases h
theorem zCj {d:Nat}{p:List Nat}{i:Nat}{xs:List D}{c:CK}(h:ns d=false):NSp ns (Zr τ d p i xs c):=by
 cases c with
 |int k=>exact yp rfl
 |bool=>exact yp rfl
 |sl e=>intro n hn;simp only [Zr]at hn;have :=zB1 hn;subst this;exact h
theorem zA4 {d:Nat}{p:List Nat}{xs:List D}(h:ns d=false): ∀(cs:List CK) (i:Nat),∀v∈wX τ d p xs i cs,NSp ns v
 | [],i,v,hv=>by simp [wX]at hv
 |c::cs,i,v,hv=>by
  simp only [wX,List.mem_cons]at hv
  rcases hv with rfl|hv
  ·exact zCj h
  ·exact zA4 h cs (i+1) v hv
theorem zCf (hf:Xn ns st){b:Nat}{cs:List AV}(hb:lk st.b b=some cs): ∀v∈cs,NSp ns v:=fun v hv n hn=>hf.b b cs hb n (vP.2 ⟨v,hv,hn⟩)
theorem zJS (hf:Xn ns st){t:TypeId}{v u:AV}{ob:Prop}(hv:NSp ns v)(h:vj τ st t v=some (u,ob))(hex: ∀d p i R,v= .ep d p i→lk st.r d=some R→ns d=true→R.o= .ex∧∀n,ns n=true→n=d):NSp ns (wg true st v u):=by
 cases v<;>simp only [vj]at h<;>try(cases h;done)
 ·rename_i d p i
  cases hR:lk st.r d with
  |none=>rw [hR]at h;cases h
  |some R=>
   rw [hR]at h
   have key:(ns d=false→NSp ns u)→NSp ns (wg true st (.ep d p i) u):=fun hu=>by
    simp only [wg,hR]
    by_cases hd:ns d=false
    ·split
     ·exact zAL u (hu hd)
     ·exact hu hd
    ·obtain⟨e1,e2⟩:=hex d p i R rfl hR (by simpa using hd)
     rw [if_pos ⟨trivial,by rw [e1];rfl⟩]
     intro n hn
     have h1:=zFJ u n hn
     cases hns:ns n with
     |false=>rfl
     |true=>have :=e2 n hns;subst this;simp [is1]at h1
   refine key fun hd=> ?_
   cases ht:tk τ t with
   |none=>rw [ht]at h;cases h
   |some y=>
    obtain⟨K,by_⟩:=y
    rw [ht]at h
    cases K with
    |sc c=>simp only [Option.some.injEq,Prod.mk.injEq]at h;rw [←h.1];exact zCj hd
    |st ks fs=>simp only [Option.some.injEq,Prod.mk.injEq]at h;rw [←h.1];exact Kz (zA4 hd _ _)
 ·rename_i b i
  refine zJe ?_
  split at h
  ·rename_i cs _ _ hcs _
   cases h
   rw [List.getD_eq_getElem?_getD]
   cases hx:cs[i]? with
   |none=>exact yp rfl
   |some v=>exact zCf hf hcs v (List.mem_of_getElem? hx)
  ·rename_i cs _ _ _ hcs _
   cases h
   exact Kz fun v hv=>zCf hf hcs v (List.mem_of_mem_drop (List.mem_of_mem_take hv))
  ·cases h
theorem Vk {v:AV}{vs:List AV}(h:fieldsOf v=some vs)(hv:NSp ns v): ∀u∈vs,NSp ns u:=fun u hu n hn=>hv n (zER h n (vP.2 ⟨u,hu,hn⟩))
theorem zCz {fs:List (Nat×TypeId)}: ∀(parts:List (Nat×AV)) (cells us:List AV),(∀v∈cells,NSp ns v)→(∀x∈parts,NSp ns x.2)→wL τ fs cells parts=some us→∀v∈us,NSp ns v
 | [],cells,us,hc,_,h=>by simp only [wL,Option.some.injEq]at h;subst h;exact hc
 |(i,v)::rest,cells,us,hc,hp,h=>by
  simp only [wL]at h
  split at h
  ·rename_i x vs h1 h2
   split at h
   ·refine zCz rest _ us (fun u hu=> ?_) (fun x hx=>hp x (by simp [hx])) h
    rcases jT hu with hu|hu
    ·exact hc u hu
    ·exact Vk h2 (hp (i,v) (by simp)) u hu
   ·cases h
  ·cases h
theorem zLG (hf:Xn ns st){o:Oper}(hnl: ∀t x,o.op≠ .load t x){v:AV}{ob:Prop}(h:qw τ o st=some (v,ob)):NSp ns v:=by
 obtain⟨dst,op,ty,pos,after,guard⟩:=o
 have ev': ∀x,NSp ns (ev st x):=fun x=>hf.ev x
 unfold qw at h
 cases op<;>simp only at h<;>try(cases h;done)
 case load t x=>exact absurd rfl (hnl t x)
 case move x=>cases h;exact ev' x
 case assign x=>cases h;exact ev' x
 case nilCheck x=>
  unfold zAW at h
  have hx:=ev' x
  split at h
  ·rename_i t i hev
   rw [hev]at hx
   split at h
   ·cases h;exact hx
   ·cases h
  ·cases h
 case pick c x y=>
  split at h
  ·cases h;split
   ·exact ev' x
   ·exact ev' y
  ·cases h
 case fieldAddr t x f=>
  unfold Yb at h
  have hx:=ev' x
  split at h
  ·split at h
   ·cases hv:ev st x<;>rw [hv]at h<;>rw [hv]at hx<;>simp only at h<;>try(cases h;done)
    ·exact UR h (fun n hn=>hx n (by simpa [AV.pm]using hn))
    ·split at h
     ·cases h;exact fun n hn=>hx n (by simp [AV.pm]at hn)
     ·cases h
   ·cases h
  ·cases h
 case indexAddr t x ix=>
  unfold Yc at h
  have hx:=ev' x
  split at h
  ·cases hv:ev st x<;>rw [hv]at h<;>rw [hv]at hx<;>(try simp only at h)<;>try(cases h;done)
   cases hi:ev st ix<;>rw [hi]at h<;>(try simp only at h)<;>try(cases h;done)
   split at h
   ·exact UR h (fun n hn=>hx n (by simpa [AV.pm]using hn))
   ·cases h
  ·cases h
 case field t x f=>
  have hx:=ev' x
  obtain⟨us,k,e1,e2⟩:=kH h
  rw [e1]at hx
  exact fun n hn=>hx n (by simp only [AV.pm];exact vP.2 ⟨_,List.mem_of_getElem? e2,hn⟩)
 case extract x i=>
  have hx:=ev' x
  cases hv:ev st x<;>rw [hv]at h<;>rw [hv]at hx<;>simp only at h<;>try(cases h;done)
  rename_i vs
  cases hi:vs[i]? with
  |none=>rw [hi]at h;cases h
  |some u=>
   rw [hi]at h;cases h
   exact fun n hn=>hx n (by simp only [AV.pm];exact vP.2 ⟨_,List.mem_of_getElem? hi,hn⟩)
 case binOp op t x y r=>
  split at h
  ·rcases zA0 h with⟨k,n,rfl⟩|⟨b,rfl⟩<;>exact yp rfl
  ·unfold jF at h
   split at h
   ·split at h<;>cases h<;>exact yp rfl
   ·cases h
  ·rcases zAx h with⟨b,rfl⟩;exact yp rfl
  ·cases h
 case unOp op t x=>
  unfold unE at h
  split at h
  ·exact ar_np h
  ·cases h;exact yp rfl
  ·cases h
 case build t parts=>
  unfold WJ at h
  split at h
  ·rename_i ks fs b ht
   cases hfl:wL τ fs (ks.map ZZ) (parts.toList.map fun x=>(x.1,ev st x.2))with
   |none=>rw [hfl]at h;cases h
   |some us=>
    rw [hfl]at h;cases h
    refine Kz (zCz _ _ _ (fun v hv=> ?_) (fun x hx=> ?_) hfl)
    ·obtain⟨c,_,rfl⟩:=List.mem_map.1 hv
     cases c<;>exact yp rfl
    ·obtain⟨y,_,rfl⟩:=List.mem_map.1 hx
     exact ev' _
  ·cases h
 case convert s d x=>
  split at h
  ·rcases zCU h with⟨k,n,rfl⟩<;>exact yp rfl
  ·cases h
 case slice t x l u m=>
  split at h
  ·unfold Yi at h
   have hx:=ev' x
   split at h
   ·cases hv:ev st x<;>rw [hv]at h<;>rw [hv]at hx<;>simp only at h<;>try(cases h;done)
    split at h
    ·split at h
     ·exact UR h (fun n hn=>hx n (by simpa [AV.pm]using hn))
     ·cases h
    ·cases h
   ·cases h
  ·cases h
 case call c=>
  unfold wv at h
  split at h
  ·split at h
   ·split at h
    ·unfold JN at h
     split at h
     ·exact UR h (yp rfl)
     ·cases h;exact yp rfl
     ·cases h
    ·cases h
   ·unfold zAQ at h
    split at h
    ·cases h;exact yp rfl
    ·cases h
   ·unfold zAS at h
    split at h
    ·cases h;exact yp rfl
    ·cases h
   ·unfold jV at h
    split at h
    ·cases h;exact yp rfl
    ·cases h
   ·cases h
  ·cases h
theorem QR (t:Nat): ∀(ds:List D) (j:Nat),∀v∈yd τ t j ds,v.pm= []
 | [],j,v,hv=>by simp [yd]at hv
 | .lst e xs::ds,j,v,hv=>by
  simp only [yd,List.mem_cons]at hv
  rcases hv with rfl|hv
  ·rfl
  ·exact QR t ds (j+1) v hv
 | .int k n::ds,j,v,hv=>by
  simp only [yd,List.mem_cons]at hv
  rcases hv with rfl|hv
  ·rfl
  ·exact QR t ds (j+1) v hv
 | .bool b::ds,j,v,hv=>by
  simp only [yd,List.mem_cons]at hv
  rcases hv with rfl|hv
  ·rfl
  ·exact QR t ds (j+1) v hv
 | .hole::ds,j,v,hv=>by
  simp only [yd,List.mem_cons]at hv
  rcases hv with rfl|hv
  ·rfl
  ·exact QR t ds (j+1) v hv
theorem We (t:Nat): ∀(xs:List VT) (j:Nat),∀v∈xO τ t j xs,NSp ns v
 | [],j,v,hv=>by simp [xO]at hv
 | .c d::xs,j,v,hv=>by
  simp only [xO,List.mem_cons]at hv
  rcases hv with rfl|hv
  ·have :=QR (τ:=τ) t [d] j
   cases hr:yd τ t j [d]with
   |nil=>exact yp rfl
   |cons y ys=>rw [hr]at this;exact yp (this y (by simp))
  ·exact We t xs (j+1) v hv
 | .agg ds::xs,j,v,hv=>by
  simp only [xO,List.mem_cons]at hv
  rcases hv with rfl|hv
  ·exact Kz fun v hv=>yp (QR t ds j v hv)
  ·exact We t xs (j+ds.length) v hv
 | .fn f ds::xs,j,v,hv=>by
  simp only [xO,List.mem_cons]at hv
  rcases hv with rfl|hv
  ·exact yp rfl
  ·exact We t xs (j+ds.length) v hv
theorem zEy (hf:Xn ns st)(hex: ∀x d p i R,ev st x= .ep d p i→lk st.r d=some R→ns d=true→R.o= .ex∧∀n,ns n=true→n=d){o:Oper}{δ:Dl}(ha:qT P true τ o st δ):NSp ns δ.v∧∀x∈δ.bx,∀v∈x.2,NSp ns v:=by
 have sl: ∀{t:Nat} {len:Nat} {e:TypeId},NSp ns (.sl (zc t 0) [] 0 len e):=fun{t len e}=>yp rfl
 unfold qT at ha
 rcases ha with ha|ha|ha
 ·obtain⟨-,-,h3,-,h5,-⟩:=ha
  refine⟨?_,fun x hx=>by rw [h5]at hx;simp at hx⟩
  rcases h3 with⟨k,m,h3⟩|⟨f,xs,h3,-⟩<;>rw [h3]<;>intro n hn
  ·simp [AV.pm]at hn
  ·simp only [AV.pm]at hn
   obtain⟨v,hv,hm⟩:=vP.1 hn
   obtain⟨x,-,rfl⟩:=List.mem_map.1 hv
   exact hf.ev x n hm
 ·unfold kW at ha
  cases hc:yH o with
  |none=>rw [hc]at ha;exact ha.elim
  |some x=>
   obtain⟨f,args,ts⟩:=x
   rw [hc]at ha
   simp only at ha
   split at ha
   ·rename_i as ob us vs hargs hevs
    obtain⟨hob,pm,ress,hfn,hpm,hsz,hlen,rfl⟩:=ha
    refine⟨?_,fun x hx=>by simp at hx⟩
    obtain⟨x0,hv0⟩: ∃x0,ev st x0= .agg us:=by
     cases hal:args.toList with
     |nil=>rw [hal]at hevs;simp at hevs
     |cons x0 xs=>
      rw [hal]at hevs
      simp only [List.map_cons,List.cons.injEq]at hevs
      exact⟨x0,hevs.1⟩
    have hu:=hf.ev x0
    rw [hv0]at hu
    have hr:=We (ns:=ns) (τ:=τ) (zw o) [.agg ress] 0
    have hr2:=hr _ List.mem_cons_self
    intro n hn
    simp only [AV.pm]at hn
    obtain⟨v,hv,hm⟩:=vP.1 hn
    rcases List.mem_append.1 hv with hv|hv
    ·obtain⟨i,hi,rfl⟩:=List.mem_map.1 hv
     have hil:=hpm i hi
     refine hu n ?_
     simp only [AV.pm]
     refine vP.2 ⟨us.getD i .dead,?_,hm⟩
     rw [List.getD_eq_getElem?_getD,List.getElem?_eq_getElem hil]
     exact List.getElem_mem hil
    ·refine hr2 n ?_
     simp only [AV.pm]
     exact vP.2 ⟨v,hv,hm⟩
   ·exact ha.elim
 cases hc:yH o with
 |some x=>
  obtain⟨f,args,ts⟩:=x
  rw [hc]at ha
  simp only at ha
  cases hargs:yu τ st ts.toList (args.toList.map (ev st))with
  |none=>rw [hargs]at ha;exact absurd ha.1 (by simp)
  |some y=>
   rw [hargs]at ha
   obtain⟨hob,ress,h1,h2,h3,rfl⟩:=ha
   refine⟨?_,fun x hx=>by simp at hx⟩
   have hr:=We (ns:=ns) (τ:=τ) (zw o) ress 0
   unfold qJ
   split
   ·rename_i v hv;rw [hv]at hr;exact hr v (by simp)
   ·intro n hn
    simp only [AV.pm]at hn
    obtain⟨v,hv,hm⟩:=vP.1 hn
    exact hr v hv n hm
 |none=>
  rw [hc]at ha
  simp only at ha
  cases he:wy true τ o st with
  |none=>rw [he]at ha;exact ha.elim
  |some y=>
   obtain⟨δ',ob⟩:=y
   rw [he]at ha
   obtain⟨hob,rfl⟩:=ha
   clear hob hc
   have plain:(∀t x,o.op≠ .load t x)→((qw τ o st).map fun y=>((⟨y.1,[],[],[]⟩:Dl),y.2))=some (δ,ob)→NSp ns δ.v∧∀x∈δ.bx,∀v∈x.2,NSp ns v   :=fun hnl he=>by
    cases hv:qw τ o st with
    |none=>rw [hv]at he;cases he
    |some y=>rw [hv]at he;cases he;exact⟨zLG hf hnl hv,fun x hx=>by simp at hx⟩
   obtain⟨dst,op,ty,pos,after,guard⟩:=o
   unfold wy at he
   cases op<;>simp only at he
   case box e x=>
    split at he
    ·rename_i t vs hvs
     cases he
     refine⟨fun n hn=> ?_,fun x hx=> ?_⟩
     ·simp [AV.pm]at hn
     ·simp only [List.mem_singleton]at hx;subst hx;exact Vk hvs (hf.ev _)
    ·cases he
   case alloc e=>
    split at he
    ·rename_i t k b ht
     cases he
     refine⟨fun n hn=> ?_,fun x hx=> ?_⟩
     ·simp [AV.pm]at hn
     ·simp only [List.mem_singleton]at hx;subst hx
      intro v hv
      obtain⟨c,_,rfl⟩:=List.mem_map.1 hv
      cases c<;>exact yp rfl
    ·cases he
   case makeSlice t l c=>
    split at he
    ·unfold JO at he
     split at he
     ·split at he
      ·split at he
       ·cases he;exact⟨sl,fun x hx=>by simp at hx⟩
       ·cases he
      ·cases he
     ·cases he
    ·cases he
   case buildSlice t len parts=>
    split at he
    ·rcases yr he with he|he
     ·unfold kx at he
      split at he
      ·split at he
       ·split at he
        ·cases he;exact⟨sl,fun x hx=>by simp at hx⟩
        ·cases he
       ·cases he
      ·cases he
     ·rcases yr he with he|he
      ·unfold Vo at he
       split at he
       ·split at he
        ·split at he
         ·split at he
          ·cases he;exact⟨sl,fun x hx=>by simp at hx⟩
          ·cases he
         ·cases he
        ·cases he
       ·cases he
      ·unfold Vp at he
       split at he
       ·split at he
        ·split at he
         ·rename_i R _ _ hR _
          split at he
          ·cases he;exact⟨sl,fun x hx=>by simp at hx⟩
          ·cases he
         ·cases he
        ·cases he
       ·cases he
    ·cases he
   case load t x=>
    rcases yr he with he|he
    ·unfold Zt at he
     split at he
     ·split at he
      ·split at he
       ·cases he;exact⟨sl,fun x hx=>by simp at hx⟩
       ·cases he
      ·cases he
     ·cases he
    unfold Xz at he
    cases hv:vj τ st t (ev st x)with
    |none=>rw [hv]at he;cases he
    |some y=>rw [hv]at he;cases he;exact⟨zJS hf (hf.ev x) hv (fun d p i R e1 e2 e3=>hex x d p i R e1 e2 e3),fun x hx=>by simp at hx⟩
   case store t p x=>
    rcases yr he with he|he
    rotate_left
    ·split at he
     ·cases hp:ev st p<;>rw [hp]at he<;>simp only [Zn]at he<;>try(cases he;done)
      rename_i d q i
      cases q with
      |cons _ _=>simp at he
      |nil=>
       simp only at he
       split at he
       ·split at he
        ·split at he
         ·cases he;exact⟨yp rfl,fun x hx=>by simp at hx⟩
         ·cases he
        ·cases he
       ·cases he
     ·cases he
    cases hp:ev st p<;>rw [hp]at he<;>simp only [wE]at he<;>try(cases he;done)
    ·split at he
     ·split at he
      ·split at he
       ·cases he;exact⟨yp rfl,fun x hx=>by simp at hx⟩
       ·cases he;exact⟨yp rfl,fun x hx=>by simp at hx⟩
       ·cases he
      ·cases he
     ·cases he
    ·split at he
     ·rename_i vs cells hvs hcells
      split at he
      ·cases he
       refine⟨yp rfl,fun x hx=> ?_⟩
       simp only [List.mem_singleton]at hx;subst hx
       intro v hv
       rcases jT hv with hv|hv
       ·exact zCf hf hcells v hv
       ·exact Vk hvs (hf.ev _) v hv
      ·cases he
     ·cases he
   case call c=>
    obtain⟨callee,args,argTypes⟩:=c
    simp only at he
    split at he
    ·split at he
     ·split at he
      ·rcases yr he with he|he
       ·unfold Ve at he
        split at he
        ·split at he
         ·split at he
          ·split at he
           ·unfold Yp at he
            split at he
            ·cases he;exact⟨sl,fun x hx=>by simp at hx⟩
            ·split at he
             ·split at he
              ·cases he;exact⟨sl,fun x hx=>by simp at hx⟩
              ·cases he
             ·cases he
            ·cases he
           ·cases he
          ·cases he
         ·cases he
        ·cases he
       ·unfold Yo at he
        split at he
        ·split at he
         ·split at he
          ·split at he
           ·unfold YW at he
            split at he
            ·cases he;exact⟨sl,fun x hx=>by simp at hx⟩
            ·split at he
             ·split at he
              ·cases he;exact⟨sl,fun x hx=>by simp at hx⟩
              ·cases he
             ·cases he
            ·cases he
           ·cases he
          ·cases he
         ·cases he
        ·cases he
      ·cases he
     ·cases he
    ·exact plain (fun t x e=>by cases e) he
   all_goals exact plain (fun t x e=>by cases e) he
theorem Zy (t:Nat): ∀(ds:List D) (j:Nat),j+ds.length≤16→∀x∈vA t j ds,own t (2*x.1)=true
 | [],j,_,x,hx=>by simp [vA]at hx
 | .int _ _::ds,j,hl,x,hx=>by simp only [vA]at hx;exact Zy t ds (j+1) (by simp only [List.length_cons]at hl;omega) x hx
 | .bool _::ds,j,hl,x,hx=>by simp only [vA]at hx;exact Zy t ds (j+1) (by simp only [List.length_cons]at hl;omega) x hx
 | .hole::ds,j,hl,x,hx=>by simp only [vA]at hx;exact Zy t ds (j+1) (by simp only [List.length_cons]at hl;omega) x hx
 | .lst e xs::ds,j,hl,x,hx=>by
  simp only [List.length_cons]at hl
  simp only [vA,List.mem_append,List.mem_singleton]at hx
  rcases hx with hx|rfl
  ·exact Zy t ds (j+1) (by omega) x hx
  ·exact yh (by omega)
theorem zG0 {np:Bool}{o:Oper}{δ:Dl}(ha:qT P np τ o st δ): ∀x∈δ.add,(yj np o=true∧own (zw o) (2*x.1)=true)∨(∃R0,lk st.r x.1=some R0∧R0.o=x.2.o):=by
 intro x hx
 unfold qT at ha
 rcases ha with ha|ha|ha
 ·obtain⟨-,-,-,-,-,h0|⟨d,R,R0,h6,h7,h8,-⟩,-⟩:=ha
  ·rw [h0]at hx;cases hx
  rw [h6]at hx
  simp only [List.mem_singleton]at hx
  subst hx
  exact .inr ⟨R0,h7,h8⟩
 ·unfold kW at ha
  cases hc:yH o with
  |none=>rw [hc]at ha;exact ha.elim
  |some y=>
   obtain⟨f,args,ts⟩:=y
   rw [hc]at ha
   simp only at ha
   split at ha
   ·obtain⟨hob,pm,ress,hfn,hpm,hsz,hlen,rfl⟩:=ha
    exact .inl ⟨qG hc,Zy _ _ 0 (by omega) x hx⟩
   ·exact ha.elim
 cases hc:yH o with
 |some y=>
  obtain⟨f,args,ts⟩:=y
  rw [hc]at ha
  simp only at ha
  cases hargs:yu τ st ts.toList (args.toList.map (ev st))with
  |none=>
   rw [hargs]at ha
   have hab:=ha.2
   unfold Wo at hab
   split at hab
   ·obtain⟨-,ds',ress,-,-,h3,rfl⟩:=hab
    exact .inl ⟨qG hc,Zy _ _ 0 (by omega) x hx⟩
   ·exact hab.elim
  |some y=>
   rw [hargs]at ha
   obtain⟨hob,ress,h1,h2,h3,rfl⟩:=ha
   exact .inl ⟨qG hc,Zy _ _ 0 (by omega) x hx⟩
 |none=>
  rw [hc]at ha
  simp only at ha
  cases he:wy np τ o st with
  |none=>rw [he]at ha;exact ha.elim
  |some y=>
   obtain⟨δ',ob⟩:=y
   rw [he]at ha
   obtain⟨hob,rfl⟩:=ha
   clear hob hc
   have plain:((qw τ o st).map fun y=>((⟨y.1,[],[],[]⟩:Dl),y.2))=some (δ,ob)→False:=fun he=>by
    cases hv:qw τ o st with
    |none=>rw [hv]at he;cases he
    |some y=>rw [hv]at he;cases he;simp at hx
   have hm: ∀{R:zq},x∈ [(zc (zw o) 0,R)]→own (zw o) (2*x.1)=true:=fun{R} h=>by
    simp only [List.mem_singleton]at h;subst h;exact yh (by omega)
   obtain⟨dst,op,ty,pos,after,guard⟩:=o
   unfold wy at he
   cases op<;>simp only at he
   case box e x'=>split at he<;>cases he;simp at hx
   case alloc e=>split at he<;>cases he;simp at hx
   case makeSlice t l c=>
    split at he
    ·unfold JO at he
     split at he
     ·split at he
      ·split at he
       ·cases he;exact .inl ⟨rfl,hm hx⟩
       ·cases he
      ·cases he
     ·cases he
    ·cases he
   case buildSlice t len parts=>
    split at he
    ·rcases yr he with he|he
     ·unfold kx at he
      split at he
      ·split at he
       ·split at he
        ·cases he;exact .inl ⟨rfl,hm hx⟩
        ·cases he
       ·cases he
      ·cases he
     ·rcases yr he with he|he
      ·unfold Vo at he
       split at he
       ·split at he
        ·split at he
         ·split at he
          ·cases he;exact .inl ⟨rfl,hm hx⟩
          ·cases he
         ·cases he
        ·cases he
       ·cases he
      ·unfold Vp at he
       split at he
       ·split at he
        ·split at he
         ·rename_i R _ _ hR _
          split at he
          ·cases he;rcases List.mem_cons.1 hx with hx|hx
           ·exact .inl ⟨rfl,hm (List.mem_singleton.2 hx)⟩
           ·simp only [List.mem_singleton]at hx;subst hx;exact .inr ⟨R,hR,rfl⟩
          ·cases he
         ·cases he
        ·cases he
       ·cases he
    ·cases he
   case load t x'=>
    rcases yr he with he|he
    ·unfold Zt at he
     split at he
     ·split at he
      ·rename_i R _ _ hR _
       split at he
       ·rename_i hc
        cases he;rcases List.mem_cons.1 hx with hx|hx
        ·exact .inl ⟨hc.1,hm (List.mem_singleton.2 hx)⟩
        ·simp only [List.mem_singleton]at hx;subst hx;exact .inr ⟨R,hR,rfl⟩
       ·cases he
      ·cases he
     ·cases he
    unfold Xz at he
    cases hv:vj τ st t (ev st x')with
    |none=>rw [hv]at he;cases he
    |some y=>rw [hv]at he;cases he;simp at hx
   case store t p x'=>
    rcases yr he with he|he
    ·cases hp:ev st p<;>rw [hp]at he<;>simp only [wE]at he<;>try(cases he;done)
     ·split at he
      ·rename_i R _ _ _ hR _ _
       split at he
       ·split at he
        ·cases he;simp only [List.mem_singleton]at hx;subst hx;exact .inr ⟨R,hR,rfl⟩
        ·cases he;simp only [List.mem_singleton]at hx;subst hx;exact .inr ⟨R,hR,rfl⟩
        ·cases he
       ·cases he
      ·cases he
     ·split at he
      ·split at he
       ·cases he;simp at hx
       ·cases he
      ·cases he
    ·split at he
     ·cases hp:ev st p<;>rw [hp]at he<;>simp only [Zn]at he<;>try(cases he;done)
      rename_i d q i
      cases q with
      |cons _ _=>simp at he
      |nil=>
       simp only at he
       split at he
       ·rename_i R vs hR _
        split at he
        ·split at he
         ·cases he;simp only [List.mem_singleton]at hx;subst hx;exact .inr ⟨R,hR,rfl⟩
         ·cases he
        ·cases he
       ·cases he
     ·cases he
   case call c=>
    obtain⟨callee,args,argTypes⟩:=c
    simp only at he
    split at he
    ·split at he
     ·split at he
      ·rcases yr he with he|he
       ·unfold Ve at he
        split at he
        ·split at he
         ·split at he
          ·split at he
           ·unfold Yp at he
            split at he
            ·cases he;exact .inl ⟨rfl,hm hx⟩
            ·split at he
             ·split at he
              ·cases he;exact .inl ⟨rfl,hm hx⟩
              ·cases he
             ·cases he
            ·cases he
           ·cases he
          ·cases he
         ·cases he
        ·cases he
       ·unfold Yo at he
        split at he
        ·split at he
         ·split at he
          ·split at he
           ·unfold YW at he
            split at he
            ·cases he;exact .inl ⟨rfl,hm hx⟩
            ·split at he
             ·split at he
              ·cases he;exact .inl ⟨rfl,hm hx⟩
              ·cases he
             ·cases he
            ·cases he
           ·cases he
          ·cases he
         ·cases he
        ·cases he
      ·cases he
     ·cases he
    ·exact(plain he).elim
   all_goals exact(plain he).elim
theorem Kj {bad:Nat}(hf:Xn (· ==bad) st){d:Option Tmp}{δ:Dl}(h:NSp (· ==bad) δ.v∧∀x∈δ.bx,∀v∈x.2,NSp (· ==bad) v):YO bad (st.app d δ):=by
 refine⟨fun k v hv hm=> ?_,fun k cs hc hm=> ?_⟩
 ·rw [Zo]at hv
  split at hv
  ·cases hv;have :=h.1 bad hm;simp at this
  ·have :=hf.s k v hv bad hm;simp at this
 ·rw [wd]at hc
  cases hx:lk δ.bx k with
  |some cs'=>
   rw [hx]at hc
   simp only [Option.some_or,Option.some.injEq]at hc
   subst hc
   obtain⟨v,hv,hm⟩:=vP.1 hm
   have :=h.2 _ (WW hx) v hv bad hm
   simp at this
  |none=>rw [hx]at hc;simp only [Option.none_or]at hc;have :=hf.b k cs hc bad hm;simp at this
theorem UO {bad:Nat}(h:YO bad st):Xn (· ==bad) st:=⟨fun k v hv n hn=>by
 by_cases e:n=bad
 ·subst e;exact absurd hn (h.s k v hv)
 ·simpa using e,fun k cs hc n hn=>by
 by_cases e:n=bad
 ·subst e;exact absurd hn (h.b k cs hc)
 ·simpa using e⟩
theorem zH2 {t bad:Nat}(h:yR (own t) st)(hb:own t (2*bad)=true):Xn (· ==bad) st:=⟨fun k v hv n hn=>by
 by_cases e:n=bad
 ·subst e;have :=h.s k v hv _ (zKb v n hn);rw [hb]at this;cases this
 ·simpa using e,fun k cs hc n hn=>by
 by_cases e:n=bad
 ·subst e;have :=h.b k cs hc _ (Wb cs n hn);rw [hb]at this;cases this
 ·simpa using e⟩
theorem zGq (hpf:PF st){o:Oper}{δ:Dl}(hf:yj true o=true→yR (own (zw o)) st)(ha:qT P true τ o st δ):PF (st.app o.dst δ):=by
 intro d R hR hex
 have old: ∀R0,lk st.r d=some R0→R0.o= .ex→YO d (st.app o.dst δ):=fun R0 h1 h2=>by
  have hfr:=UO (hpf d R0 h1 h2)
  refine Kj hfr (zEy hfr (fun x d' p i R' e1 e2 e3=> ?_) ha)
  have :d'=d:=by simpa using e3
  subst this
  rw [h1]at e2;cases e2
  exact⟨h2,fun n hn=>by simpa using hn⟩
 rw [we]at hR
 cases hx:lk δ.add d with
 |some R'=>
  rw [hx]at hR
  simp only [Option.some_or,Option.some.injEq]at hR
  subst hR
  rcases zG0 ha _ (WW hx)with⟨h1,h2⟩|⟨R0,h1,h2⟩
  ·have hfr:=zH2 (hf h1) h2
   refine Kj hfr (zEy hfr (fun x d' p i R' e1 e2 e3=> ?_) ha)
   have :d'=d:=by simpa using e3
   subst this
   have :=(hf h1).ev x (2*d') (by rw [e1];simp [AV.nm])
   rw [h2]at this;cases this
  ·exact old R0 h1 (by rw [h2];exact hex)
 |none=>
  rw [hx]at hR
  simp only [Option.none_or]at hR
  split at hR
  ·cases hR
  ·exact old R hR hex
theorem zEt (hpf:PF st)(d:Option Tmp):PF (st.app d Dl.skip):=by
 intro k R hR hex
 rw [we]at hR
 have hR':lk st.r k=some R:=by simpa [Dl.skip,xA]using hR
 exact Kj (UO (hpf k R hR' hex)) ⟨yp rfl,fun x hx=>by simp [Dl.skip]at hx⟩
theorem zAd {all:List Oper}(hpf:PF st){o:Oper}{δ:Dl}(hf:yj true o=true→yR (own (zw o)) st)(ha:xW P true τ all o st δ):PF (st.app o.dst δ):=by
 unfold xW at ha
 split at ha
 ·exact zGq hpf hf ha
 ·rename_i j want _
  split at ha
  ·rename_i b _
   by_cases e:b=want
   ·exact zGq hpf hf (ha.1 e)
   ·have :=ha.2 (by cases b<;>cases want<;>simp_all);subst this;exact zEt hpf _
  ·subst ha;exact zEt hpf _
  ·exact ha.elim
end
def vw (np:Bool)(all:List Oper):Bool:=(List.range all.length).all fun j=>(List.range all.length).all fun k=>match all[j]?,all[k]? with
 |some x,some y=>j==k|| !(yj np x&&yj np y)||zw x !=zw y
 |_,_=>true
def Zb (ops:List Oper):List (List Nat):=
 ops.foldl (fun acc o=>acc++ [o.after.toList.foldl (fun l e=>if Region.binds .any e then(e.on::acc.getD e.on []).foldl (fun l n=>if l.contains n then l else n::l) l else l) []]) []
def Yj (np:Bool)(ops:List Oper)(A:List (List Nat)):Bool:=VE ops A&&(vw np ops&&QL ops ops.length 0 (Array.replicate ops.length false))
def St.clean (np:Bool)(ops:List Oper)(st:St):St:=
 let ts:=(ops.filter (yj np)).map zw
 st.kill (fun d=>ts.contains (d / 16)) (fun t=>ts.contains t)
theorem UU {t u:Nat}(h:t≠u): ∀n,own t n=true→own u n=false:=fun n hn=>by
 unfold own at*
 split at hn
 ·rename_i h1;rw [if_pos h1];simp only [beq_iff_eq,beq_eq_false_iff_ne]at*;omega
 ·rename_i h1;rw [if_neg h1];simp only [beq_iff_eq,beq_eq_false_iff_ne]at*;omega
mutual
theorem zFH {ds bs:Nat→Bool}: ∀(v:AV) (n:Nat),n∈(v.kill ds bs).nm→(∃d,n=2*d∧ds d=false)∨(∃t,n=2*t+1∧bs t=false)
 | .int k m,n,h=>by simp [AV.kill,AV.nm]at h
 | .bool b,n,h=>by simp [AV.kill,AV.nm]at h
 | .sl d p off len e,n,h=>by
  simp only [AV.kill]at h
  split at h
  ·simp [AV.nm]at h
  ·rename_i hd;simp only [AV.nm,List.mem_singleton]at h;exact .inl ⟨d,h,by simpa using hd⟩
 | .nil,n,h=>by simp [AV.kill,AV.nm]at h
 | .ep d p i,n,h=>by
  simp only [AV.kill]at h
  split at h
  ·simp [AV.nm]at h
  ·rename_i hd;simp only [AV.nm,List.mem_singleton]at h;exact .inl ⟨d,h,by simpa using hd⟩
 | .bp t i,n,h=>by
  simp only [AV.kill]at h
  split at h
  ·simp [AV.nm]at h
  ·rename_i hd;simp only [AV.nm,List.mem_singleton]at h;exact .inr ⟨t,h,by simpa using hd⟩
 | .agg vs,n,h=>Qn vs n (by simpa only [AV.kill,AV.nm]using h)
 | .tup vs,n,h=>Qn vs n (by simpa only [AV.kill,AV.nm]using h)
 | .fn f vs,n,h=>Qn vs n (by simpa only [AV.kill,AV.nm]using h)
 | .dead,n,h=>by simp [AV.kill,AV.nm]at h
 | .raw u,n,h=>by simp [AV.kill,AV.nm]at h
theorem Qn {ds bs:Nat→Bool}: ∀(vs:List AV) (n:Nat),n∈AV.nmL (AV.killL ds bs vs)→(∃d,n=2*d∧ds d=false)∨(∃t,n=2*t+1∧bs t=false)
 | [],n,h=>by simp [AV.killL,AV.nmL]at h
 |v::vs,n,h=>by
  simp only [AV.killL,AV.nmL,List.mem_append]at h
  rcases h with h|h
  ·exact zFH v n h
  ·exact Qn vs n h
end
theorem Xg {st:St}{ds bs:Nat→Bool}{t:Nat}(h1: ∀d,d / 16=t→ds d=true)(h2:bs t=true):yR (own t) (st.kill ds bs):=by
 have key: ∀n,((∃d,n=2*d∧ds d=false)∨(∃t,n=2*t+1∧bs t=false))→own t n=false:=by
  rintro n (⟨d,rfl,hd⟩|⟨u,rfl,hu⟩)
  ·unfold own
   rw [if_neg (by omega)]
   simp only [beq_eq_false_iff_ne]
   intro e
   rw [h1 d (by omega)]at hd;cases hd
  ·unfold own
   rw [if_pos (by omega)]
   simp only [beq_eq_false_iff_ne]
   intro e
   have :u=t:=by omega
   subst this
   rw [h2]at hu;cases hu
 refine⟨fun k v hv n hn=> ?_,fun k cs hc n hn=> ?_⟩
 ·simp only [St.kill,yC]at hv
  cases hx:lk st.s k with
  |none=>rw [hx]at hv;cases hv
  |some u=>rw [hx]at hv;cases hv;exact key n (zFH u n hn)
 ·simp only [St.kill,yC]at hc
  cases hx:lk st.b k with
  |none=>rw [hx]at hc;cases hc
  |some u=>rw [hx]at hc;cases hc;exact key n (Qn u n hn)
section
variable {P:Program} {np:Bool} {τ:Ty} {lo:Nat} {w0:Fz} {st:St} {a:Act} {w:World}
theorem kc (h:Rel τ lo w0 st a w)(ds bs:Nat→Bool):Rel τ lo w0 (st.kill ds bs) a w:=by
 obtain⟨ow,hd,bk,h⟩:=h
 have hD: ∀k,ds k=false→xL w w st.r (st.kill ds bs).r hd hd k:=fun k _ R' hR'=>⟨R',hR',rfl,fun p hp=>⟨hp,rfl⟩⟩
 have hB: ∀t,bs t=false→xK st.b (st.kill ds bs).b bk bk t:=fun t _ hl=>by
  simp only [St.kill,yC]at hl
  obtain⟨cs,hcs⟩:=hl
  cases hx:lk st.b t with
  |none=>rw [hx]at hcs;cases hcs
  |some cs'=>exact⟨⟨cs',rfl⟩,rfl⟩
 refine⟨ow,hd,bk,h.big,h.defers,h.size,h.low,h.below,h.ge,h.new,fun k v hv'=> ?_,h.root,fun t vs hv'=> ?_,h.pin⟩
 ·simp only [St.kill,yC]at hv'
  cases hx:lk st.s k with
  |none=>rw [hx]at hv';cases hv'
  |some u=>rw [hx]at hv';cases hv';exact xE hD hB u _ (h.slot k u hx)
 ·simp only [St.kill,yC]at hv'
  cases hx:lk st.b t with
  |none=>rw [hx]at hv';cases hv'
  |some u=>
   rw [hx]at hv';cases hv'
   obtain⟨cs,ty,h1,h2,h3⟩:=h.box t u hx
   exact⟨cs,ty,h1,h2,yE hD hB u cs h3⟩
def Inv (np:Bool)(all:List Oper)(listed:Array Bool)(st:St):Prop:= ∀(j:Nat) (o:Oper),all[j]? =some o→listed.getD j true=false→yj np o=true→yR (own (zw o)) st
theorem YU (hτ:zz P τ)(hpos:yW τ){all:List Oper}{A:List (List Nat)}(hm:vw np all=true){Q:St→Prop}{Q':Exit→Act→World→Prop}(hQ: ∀st a w,Q st→Rel τ lo w0 st a w→Q' .normal a w):
  ∀(fuel:Nat) (cs:List Rec) (listed:Array Bool) (st:St) (a:Act) (w:World),yv a.tmps.size all=true→Inv np all listed st→(np=true→PF st)→Rel τ lo w0 st a w→Wx P np τ all A Q cs fuel listed st→wpAny P .any all.toArray Q' fuel listed a w
 |0,cs,listed,st,a,w,_,_,_,hr,h=>⟨h.1,hQ _ _ _ h.2 hr⟩
 |fuel+1,cs,listed,st,a,w,hd,hinv,hpf,hr,h=>by
  refine⟨fun h0=>hQ _ _ _ (h.1 h0) hr,fun j hj=> ?_⟩
  obtain⟨o,δ,ho,hstep,-,hrest⟩:=h.2 j hj
  have hun:=(mem_ready.1 hj).1
  have hd1: ∀k,o.dst=some k→k<a.tmps.size:=fun k hk=>by
   have :=List.all_eq_true.1 hd o (List.mem_of_getElem? ho)
   rw [hk]at this
   simpa using this
  have hf:yj np o=true→yR (own (zw o)) st:=hinv j o ho hun
  have hinv':Inv np all (listed.setIfInBounds j true) (st.app o.dst δ):=fun k ok hk hkun hmk=>by
   have hkj:k≠j:=by
    rintro rfl
    have hlt:k<all.length:=(List.getElem?_eq_some_iff.1 hk).1
    rw [Array.getD_eq_getD_getElem?]at hkun hun
    have hls:k<listed.size:=by
     rcases Nat.lt_or_ge k listed.size with h|h
     ·exact h
     ·rw [Array.getElem?_eq_none h]at hun;cases hun
    simp [hls]at hkun
   rw [getD_set_ne true (Ne.symm hkj)]at hkun
   refine VX (hinv k ok hk hkun hmk) (fun hmo n hn=> ?_) hstep
   have hjl:j<all.length:=(List.getElem?_eq_some_iff.1 ho).1
   have hkl:k<all.length:=(List.getElem?_eq_some_iff.1 hk).1
   have h1:=List.all_eq_true.1 (List.all_eq_true.1 hm j (List.mem_range.2 hjl)) k (List.mem_range.2 hkl)
   rw [ho,hk]at h1
   simp only [hmo,hmk,Bool.and_self,Bool.not_true,Bool.or_false,Bool.or_eq_true,beq_iff_eq,bne_iff_ne,ne_eq]at h1
   rcases h1 with h1|h1
   ·exact absurd h1.symm hkj
   ·exact UU h1 n hn
  have hpf':np=true→PF (st.app o.dst δ):=fun e=>by subst e;exact zAd (hpf rfl) hf hstep
  have next: ∀x w',Rel τ lo w0 (st.app o.dst δ) (a.put o.dst x) w'→wpAny P .any all.toArray Q' fuel (listed.setIfInBounds j true) (a.put o.dst x) w':=fun x w' hr'=>
   YU hτ hpos hm hQ fuel cs _ _ _ w' (by rw [yw];exact hd) hinv' hpf' hr' hrest
  unfold wpOp
  rw [List.getElem?_toArray,ho]
  simp only
  have run:qT P np τ o st δ→o.wp P a w (wpAny P .any all.toArray Q' fuel (listed.setIfInBounds j true)) Q':=fun ha=>Xp hτ hpos hd1 hr hf hpf ha next
  have skip:δ=Dl.skip→wpAny P .any all.toArray Q' fuel (listed.setIfInBounds j true) (a.put o.dst undef) w:=fun he=>by
   refine next undef w ?_
   rw [he]
   obtain⟨ow,hd',bk,hrr⟩:=hr
   exact xg (xQ hrr hd1 (v:= .tup []) (x:=undef) (by simp only [AvR];exact⟨[],rfl,by simp [ze]⟩)) (ZB _)
  unfold xW at hstep
  split at hstep
  ·rename_i hg
   rw [if_pos (by simp [Region.wanted,hg])]
   exact .inl (run hstep)
  ·rename_i g want hg
   split at hstep
   ·rename_i b hgv
    have hy:=vN hr hgv
    by_cases hb:b=want
    ·rw [if_pos (by simp [Region.wanted,hg,hy,hb])]
     exact .inl (run (hstep.1 hb))
    ·rw [if_neg (by simp [Region.wanted,hg,hy,hb])]
     exact skip (hstep.2 (by cases b<;>cases want<;>simp_all))
   ·rename_i hgv
    have hy:=vN hr hgv
    rw [if_neg (by simp [Region.wanted,hg,hy])]
    exact skip hstep
   ·exact hstep.elim
theorem YJ {all:List Oper}{j:Nat}{o:Oper}(h:all[j]? =some o)(hm:yj np o=true):((all.filter (yj np)).map zw).contains (zw o)=true:=by
 simp only [List.contains_iff_mem]
 exact List.mem_map.2 ⟨o,List.mem_filter.2 ⟨List.mem_of_getElem? h,hm⟩,rfl⟩
def ux (r:List (Nat×zq)):List Nat:=(r.filter fun x=>x.2.o.own).map (·.1)
mutual
def AV.cut (ids:List Nat):AV→AV
 | .int k n=> .int k n
 | .bool b=> .bool b
 | .sl d p off len e=>match p with| []=> .sl d [] off len e|i::q=>if ids.contains d then .dead else .sl d (i::q) off len e
 | .nil=> .nil
 | .ep d p i=>match p with| []=> .ep d [] i|j::q=>if ids.contains d then .dead else .ep d (j::q) i
 | .bp t i=> .bp t i
 | .agg vs=> .agg (AV.cutL ids vs)
 | .tup vs=> .tup (AV.cutL ids vs)
 | .fn f vs=> .fn f (AV.cutL ids vs)
 | .dead=> .dead
 | .raw u=> .raw u
def AV.cutL (ids:List Nat):List AV→List AV
 | []=> []
 |v::vs=>v.cut ids::AV.cutL ids vs
end
def St.cut (st:St):St:={st with s:=vx (AV.cut (ux st.r)) st.s,b:=vx (AV.cutL (ux st.r)) st.b}
mutual
theorem VG {rr:List (Nat×zq)}{bb bb':List (Nat×List AV)}{hd:Nat→Value}{bk:Nat→Nat}{ids:List Nat}(hb: ∀t,(∃cs,lk bb' t=some cs)→∃cs,lk bb t=some cs): ∀(v:AV) (x:Value),AvR τ w rr bb hd bk v x→AvR τ w rr bb' hd bk (v.cut ids) x
 | .int k n,x,h=>by simpa only [AV.cut,AvR]using h
 | .bool b,x,h=>by simpa only [AV.cut,AvR]using h
 | .sl d p off len e,x,h=>by
  cases p with
  |nil=>simpa only [AV.cut,AvR]using h
  |cons i q=>
   simp only [AV.cut]
   split
   ·simp only [AvR]
   ·simpa only [AvR]using h
 | .nil,x,h=>by simpa only [AV.cut,AvR]using h
 | .ep d p i,x,h=>by
  cases p with
  |nil=>simpa only [AV.cut,AvR]using h
  |cons j q=>
   simp only [AV.cut]
   split
   ·simp only [AvR]
   ·simpa only [AvR]using h
 | .bp t i,x,h=>by
  simp only [AV.cut,AvR]at h⊢
  exact⟨h.1,fun hl=>h.2 (hb t hl)⟩
 | .agg vs,x,h=>by
  simp only [AV.cut,AvR]at h⊢
  obtain⟨cs,h1,h2⟩:=h
  exact⟨cs,h1,wJ hb vs cs h2⟩
 | .tup vs,x,h=>by
  simp only [AV.cut,AvR]at h⊢
  obtain⟨cs,h1,h2⟩:=h
  exact⟨cs,h1,wJ hb vs cs h2⟩
 | .fn f vs,x,h=>by
  simp only [AV.cut,AvR]at h⊢
  obtain⟨cs,h1,h2⟩:=h
  exact⟨cs,h1,wJ hb vs cs h2⟩
 | .dead,x,h=>by simp only [AV.cut,AvR]
 | .raw u,x,h=>by simpa only [AV.cut,AvR]using h
theorem wJ {rr:List (Nat×zq)}{bb bb':List (Nat×List AV)}{hd:Nat→Value}{bk:Nat→Nat}{ids:List Nat}(hb: ∀t,(∃cs,lk bb' t=some cs)→∃cs,lk bb t=some cs): ∀(vs:List AV) (xs:List Value),ze τ w rr bb hd bk vs xs→ze τ w rr bb' hd bk (AV.cutL ids vs) xs
 | [],xs,h=>by simpa only [AV.cutL,ze]using h
 |v::vs,xs,h=>by
  simp only [AV.cutL,ze]at h⊢
  obtain⟨x,xs',h1,h2,h3⟩:=h
  exact⟨x,xs',h1,VG hb v x h2,wJ hb vs xs' h3⟩
end
mutual
theorem zCo {ids:List Nat}: ∀(v:AV) (n:Nat),n∈(v.cut ids).pm→ids.contains n=false
 | .int k m,n,h=>by simp [AV.cut,AV.pm]at h
 | .bool b,n,h=>by simp [AV.cut,AV.pm]at h
 | .sl d p off len e,n,h=>by
  cases p with
  |nil=>simp [AV.cut,AV.pm]at h
  |cons i q=>
   simp only [AV.cut]at h
   split at h
   ·simp [AV.pm]at h
   ·rename_i hc;have :=zB1 h;subst this;simpa using hc
 | .nil,n,h=>by simp [AV.cut,AV.pm]at h
 | .ep d p i,n,h=>by
  cases p with
  |nil=>simp [AV.cut,AV.pm]at h
  |cons j q=>
   simp only [AV.cut]at h
   split at h
   ·simp [AV.pm]at h
   ·rename_i hc;have :=zGb h;subst this;simpa using hc
 | .bp t i,n,h=>by simp [AV.cut,AV.pm]at h
 | .agg vs,n,h=>by simp only [AV.cut,AV.pm]at h;exact QJ vs n h
 | .tup vs,n,h=>by simp only [AV.cut,AV.pm]at h;exact QJ vs n h
 | .fn f vs,n,h=>by simp only [AV.cut,AV.pm]at h;exact QJ vs n h
 | .dead,n,h=>by simp [AV.cut,AV.pm]at h
 | .raw u,n,h=>by simp [AV.cut,AV.pm]at h
theorem QJ {ids:List Nat}: ∀(vs:List AV) (n:Nat),n∈AV.pmL (AV.cutL ids vs)→ids.contains n=false
 | [],n,h=>by simp [AV.cutL,AV.pmL]at h
 |v::vs,n,h=>by
  simp only [AV.cutL,AV.pmL,List.mem_append]at h
  rcases h with h|h
  ·exact zCo v n h
  ·exact QJ vs n h
end
theorem Qi (st:St):PF st.cut:=by
 intro d R hR hex
 have hc:(ux st.r).contains d=true:=by
  simp only [List.contains_iff_mem,ux]
  exact List.mem_map.2 ⟨(d,R),List.mem_filter.2 ⟨WW hR,by rw [hex];rfl⟩,rfl⟩
 refine⟨fun k v hv hm=> ?_,fun k cs hcs hm=> ?_⟩
 ·simp only [St.cut,yC]at hv
  cases hx:lk st.s k with
  |none=>rw [hx]at hv;cases hv
  |some u=>rw [hx]at hv;cases hv;rw [zCo u d hm]at hc;cases hc
 ·simp only [St.cut,yC]at hcs
  cases hx:lk st.b k with
  |none=>rw [hx]at hcs;cases hcs
  |some u=>rw [hx]at hcs;cases hcs;rw [QJ u d hm]at hc;cases hc
theorem Up (h:Rel τ lo w0 st a w):Rel τ lo w0 st.cut a w:=by
 obtain⟨ow,hd,bk,h⟩:=h
 have hb: ∀t,(∃cs,lk st.cut.b t=some cs)→∃cs,lk st.b t=some cs:=fun t ⟨cs,hcs⟩=>by
  simp only [St.cut,yC]at hcs
  cases hx:lk st.b t with
  |none=>rw [hx]at hcs;cases hcs
  |some u=>exact⟨u,rfl⟩
 refine⟨ow,hd,bk,h.big,h.defers,h.size,h.low,h.below,h.ge,h.new,fun k v hv'=> ?_,h.root,fun t vs hv'=> ?_,h.pin⟩
 ·simp only [St.cut,yC]at hv'
  cases hx:lk st.s k with
  |none=>rw [hx]at hv';cases hv'
  |some u=>rw [hx]at hv';cases hv';exact VG hb u _ (h.slot k u hx)
 ·simp only [St.cut,yC]at hv'
  cases hx:lk st.b t with
  |none=>rw [hx]at hv';cases hv'
  |some u=>
   rw [hx]at hv';cases hv'
   obtain⟨cs,ty,h1,h2,h3⟩:=h.box t u hx
   exact⟨cs,ty,h1,h2,wJ hb u cs h3⟩
def St.start (np:Bool)(ops:List Oper)(st:St):St:=if np=true then(st.clean np ops).cut else st.clean np ops
mutual
theorem zHB {ids:List Nat}: ∀(v:AV) (n:Nat),n∈(v.cut ids).nm→n∈v.nm
 | .int k m,n,h=>h
 | .bool b,n,h=>h
 | .sl d p off len e,n,h=>by
  cases p with
  |nil=>exact h
  |cons i q=>
   simp only [AV.cut]at h
   split at h
   ·simp [AV.nm]at h
   ·exact h
 | .nil,n,h=>h
 | .ep d p i,n,h=>by
  cases p with
  |nil=>exact h
  |cons j q=>
   simp only [AV.cut]at h
   split at h
   ·simp [AV.nm]at h
   ·exact h
 | .bp t i,n,h=>h
 | .agg vs,n,h=>by simp only [AV.cut,AV.nm]at h⊢;exact WL vs n h
 | .tup vs,n,h=>by simp only [AV.cut,AV.nm]at h⊢;exact WL vs n h
 | .fn f vs,n,h=>by simp only [AV.cut,AV.nm]at h⊢;exact WL vs n h
 | .dead,n,h=>h
 | .raw u,n,h=>h
theorem WL {ids:List Nat}: ∀(vs:List AV) (n:Nat),n∈AV.nmL (AV.cutL ids vs)→n∈AV.nmL vs
 | [],n,h=>h
 |v::vs,n,h=>by
  simp only [AV.cutL,AV.nmL,List.mem_append]at h⊢
  rcases h with h|h
  ·exact .inl (zHB v n h)
  ·exact .inr (WL vs n h)
end
theorem kg {ns:Nat→Bool}{st:St}(h:yR ns st):yR ns st.cut:=by
 refine⟨fun k v hv n hn=> ?_,fun k cs hcs n hn=> ?_⟩
 ·simp only [St.cut,yC]at hv
  cases hx:lk st.s k with
  |none=>rw [hx]at hv;cases hv
  |some u=>rw [hx]at hv;cases hv;exact h.s k u hx n (zHB u n hn)
 ·simp only [St.cut,yC]at hcs
  cases hx:lk st.b k with
  |none=>rw [hx]at hcs;cases hcs
  |some u=>rw [hx]at hcs;cases hcs;exact h.b k u hx n (WL u n hn)
theorem zEM (hτ:zz P τ)(hpos:yW τ)(hmix:P.follows .mixedOrders=true){A:List (List Nat)}{Q:Exit→St→Prop}{id:Nat}{ops:List Oper}(hs:Yj np ops A=true)(hd:yv st.n ops=true)(h: ∀C:List Rec→Prop,(∀cs,chk ops A cs=true→C cs)→Zc P np τ ops C (Q .normal) ops 0 [] (st.start np ops)):awp P τ (.region id ops.toArray true) Q st:=fun lo w0 a w hr=>by
 simp only [Yj,Bool.and_eq_true]at hs
 obtain⟨h1,h2,h3⟩:=hs
 have hn:a.tmps.size=st.n:=by obtain⟨ow,hd,bk,h⟩:=hr;exact h.size
 have hrc:Rel τ lo w0 (st.clean np ops) a {w with drawn:=w.drawn+1}:=by
  obtain⟨ow,hd,bk,h⟩:=kc hr (fun d=>((ops.filter (yj np)).map zw).contains (d / 16)) (fun t=>((ops.filter (yj np)).map zw).contains t)
  exact⟨ow,hd,bk,Jz h⟩
 have hr':Rel τ lo w0 (st.start np ops) a {w with drawn:=w.drawn+1}:=by
  unfold St.start
  split
  ·exact Up hrc
  ·exact hrc
 have hpf:np=true→PF (st.start np ops):=fun e=>by unfold St.start;rw [if_pos e];exact Qi _
 refine wp_region_any hmix ?_
 have hlex':=(Ka ops 0 [] _ _ (Eqv.refl _) (h _ fun _ h=>h)).2
 have hany:=Qa (fun st st' he ⟨s,h1,h2⟩=>⟨s,he.symm.trans h1,h2⟩) h1 ops 0 [] (Array.replicate ops.length false) _ (by simp) (fun j o _ hj=>by
  rw [Array.getD_eq_getD_getElem?,Array.getElem?_replicate]at hj
  split at hj<;>simp at hj) h3 hlex'
 have :=YU (Q':=fun e a' w'=> ∃st',Rel τ lo w0 st' a' w'∧Q e st') hτ hpos h2 (fun st' a w ⟨s,he,hq⟩ hr=>⟨s,xg hr he.cov,hq⟩) ops.length [] (Array.replicate ops.length false) (st.start np ops) a {w with drawn:=w.drawn+1} (by rw [hn];exact hd) (fun j o ho _ hm=>by
  have hfc:yR (own (zw o)) (st.clean np ops):=by
   refine Xg (fun d hdt=> ?_) (YJ ho hm)
   rw [hdt];exact YJ ho hm
  unfold St.start
  split
  ·exact kg hfc
  ·exact hfc) hpf hr' hany
 simpa using this
theorem xY (np:Bool)(hτ:zz P τ)(hpos:yW τ)(hmix:P.follows .mixedOrders=true){Q:Exit→St→Prop}{id:Nat}{ops:List Oper}(hs:Yj np ops (Zb ops)=true)(hd:yv st.n ops=true)(h: ∀C:List Rec→Prop,(∀cs,chk ops (Zb ops) cs=true→C cs)→Zc P np τ ops C (Q .normal) ops 0 [] (st.start np ops)):awp P τ (.region id ops.toArray true) Q st:=zEM hτ hpos hmix hs hd h
end
def xr (P:Program)(np:Bool)(τ:Ty)(all:List Oper)(Q:St→Prop):List Oper→St→Prop
 | [],st=>Q st
 |o::os,st=>
  match o.guard with
  |none=>wl P np τ o st fun δ=>xr P np τ all Q os (st.app o.dst δ)
  |some (j,want)=>
   match qY all st j with
   |some (some b)=>
    brB b (if want=true then wl P np τ o (yk all st j true) fun δ=>xr P np τ all Q os ((yk all st j true).app o.dst δ)else xr P np τ all Q os ((yk all st j true).app o.dst Dl.skip))
     (if want=false then wl P np τ o (yk all st j false) fun δ=>xr P np τ all Q os ((yk all st j false).app o.dst δ)else xr P np τ all Q os ((yk all st j false).app o.dst Dl.skip))
   |some none=>xr P np τ all Q os (st.app o.dst Dl.skip)
   |none=>False
theorem Eqv.free {ns:Nat→Bool}{st st':St}(h:Eqv st st')(hf:yR ns st):yR ns st':=⟨fun k v hv=>hf.s k v (by rw [←h.s];exact hv),fun k v hv=>hf.b k v (by rw [←h.b];exact hv)⟩
theorem Eqv.pf {st st':St}(h:Eqv st st')(hf:PF st):PF st':=fun d R hR hex=>by
 have :=hf d R (by rw [←h.r];exact hR) hex
 exact⟨fun k v hv=>this.s k v (by rw [←h.s];exact hv),fun k v hv=>this.b k v (by rw [←h.b];exact hv)⟩
section
variable {P:Program} {np:Bool} {τ:Ty} {lo:Nat} {w0:Fz} {st:St} {a:Act} {w:World}
theorem Ui (hτ:zz P τ)(hpos:yW τ){all:List Oper}(hm:vw np all=true){Q:St→Prop}{Q':Exit→Act→World→Prop}(hQ: ∀st a w,Q st→Rel τ lo w0 st a w→Q' .normal a w):
  ∀(os:List Oper) (k:Nat) (st:St) (a:Act) (w:World),(∀j,os[j]? =all[k+j]?)→yv a.tmps.size all=true→(∀j o,k≤j→all[j]? =some o→yj np o=true→yR (own (zw o)) st)→(np=true→PF st)→Rel τ lo w0 st a w→xr P np τ all Q os st→wpList P all.toArray Q' os a w
 | [],k,st,a,w,_,_,_,_,hr,h=>wpList_nil (hQ _ _ _ h hr)
 |o::os,k,st,a,w,hl,hd,hinv,hpf,hr,h=>by
  have ho:all[k]? =some o:=by simpa using (hl 0).symm
  have hd1: ∀j,o.dst=some j→j<a.tmps.size:=fun j hj=>by
   have :=List.all_eq_true.1 hd o (List.mem_of_getElem? ho)
   rw [hj]at this
   simpa using this
  refine wpList_step fun K' hK'=> ?_
  -- from any state that says the same
  have next: ∀st,(∀j o,k≤j→all[j]? =some o→yj np o=true→yR (own (zw o)) st)→(np=true→PF st)→∀δ,xW P np τ all o st δ→xr P np τ all Q os (st.app o.dst δ)→∀x w',Rel τ lo w0 (st.app o.dst δ) (a.put o.dst x) w'→K' (a.put o.dst x) w':=fun st hinv hpf δ hstep hrest x w' hr'=>by
   have hf:yj np o=true→yR (own (zw o)) st:=hinv k o (Nat.le_refl _) ho
   refine hK' _ _ (Ui hτ hpos hm hQ os (k+1) _ _ w' (fun j=>by have :=hl (j+1);simpa [Nat.add_assoc,Nat.add_comm 1 j]using this) (by rw [yw];exact hd) (fun j oj hkj hj hmk=> ?_) (fun e=>by subst e;exact zAd (hpf rfl) hf hstep) hr' hrest)
   refine VX (hinv j oj (by omega) hj hmk) (fun hmo n hn=> ?_) hstep
   have hkl:k<all.length:=(List.getElem?_eq_some_iff.1 ho).1
   have hjl:j<all.length:=(List.getElem?_eq_some_iff.1 hj).1
   have h1:=List.all_eq_true.1 (List.all_eq_true.1 hm k (List.mem_range.2 hkl)) j (List.mem_range.2 hjl)
   rw [ho,hj]at h1
   simp only [hmo,hmk,Bool.and_self,Bool.not_true,Bool.or_false,Bool.or_eq_true,beq_iff_eq,bne_iff_ne,ne_eq]at h1
   rcases h1 with h1|h1
   ·omega
   ·exact UU h1 n hn
  have run: ∀st,(∀j o,k≤j→all[j]? =some o→yj np o=true→yR (own (zw o)) st)→(np=true→PF st)→Rel τ lo w0 st a w→∀δ,qT P np τ o st δ→xW P np τ all o st δ→xr P np τ all Q os (st.app o.dst δ)→o.wp P a w K' Q':=fun st hinv hpf hr δ ha hs hrest=>Xp hτ hpos hd1 hr (hinv k o (Nat.le_refl _) ho) hpf ha (next st hinv hpf δ hs hrest)
  have skip: ∀st,(∀j o,k≤j→all[j]? =some o→yj np o=true→yR (own (zw o)) st)→(np=true→PF st)→Rel τ lo w0 st a w→xW P np τ all o st Dl.skip→xr P np τ all Q os (st.app o.dst Dl.skip)→K' (a.put o.dst undef) w:=fun st hinv hpf hr hs hrest=>by
   refine next st hinv hpf Dl.skip hs hrest undef w ?_
   obtain⟨ow,hd',bk,hrr⟩:=hr
   exact xg (xQ hrr hd1 (v:= .tup []) (x:=undef) (by simp only [AvR];exact⟨[],rfl,by simp [ze]⟩)) (ZB _)
  simp only [xr]at h
  split at h
  ·rename_i hg
   rw [if_pos (by simp [Region.wanted,hg])]
   obtain⟨δ,h1,h2⟩:=wm h
   exact run st hinv hpf hr δ h1 (by unfold xW;rw [hg];exact h1) h2
  ·rename_i g want hg
   split at h
   ·rename_i b hgv
    have hy:=vN hr hgv
    have he:=uL hgv
    have hgv':qY all (yk all st g b) g=some (some b):=by rw [WP (st:=st) fun o' d _ _=>he.s d];exact hgv
    have hinv': ∀j o,k≤j→all[j]? =some o→yj np o=true→yR (own (zw o)) (yk all st g b):=fun j o h1 h2 h3=>he.free (hinv j o h1 h2 h3)
    have hpf':np=true→PF (yk all st g b):=fun e=>he.pf (hpf e)
    have hr':Rel τ lo w0 (yk all st g b) a w:=xg hr he.cov
    have hb:if want=b then wl P np τ o (yk all st g b) fun δ=>xr P np τ all Q os ((yk all st g b).app o.dst δ)else xr P np τ all Q os ((yk all st g b).app o.dst Dl.skip):=by
     cases b
     ·exact h.2 rfl
     ·exact h.1 rfl
    by_cases hw:want=b
    ·rw [if_pos hw]at hb
     rw [if_pos (by simp [Region.wanted,hg,hy,hw])]
     obtain⟨δ,h1,h2⟩:=wm hb
     refine run _ hinv' hpf' hr' δ h1 ?_ h2
     unfold xW;rw [hg];simp only [hgv']
     exact⟨fun _=>h1,fun e'=>by subst hw;cases want<;>cases e'⟩
    ·rw [if_neg hw]at hb
     rw [if_neg (by simp [Region.wanted,hg,hy];exact fun e=>hw e.symm)]
     refine skip _ hinv' hpf' hr' ?_ hb
     unfold xW;rw [hg];simp only [hgv']
     exact⟨fun h=>absurd h.symm hw,fun _=>by first|rfl|trivial⟩
   ·rename_i hgv
    have hy:=vN hr hgv
    rw [if_neg (by simp [Region.wanted,hg,hy])]
    refine skip st hinv hpf hr ?_ h
    unfold xW;rw [hg];simp only [hgv]
   ·exact h.elim
theorem YA (h:Rel τ lo w0 st a w)(ops:List Oper):Rel τ lo w0 (st.start np ops) a w:=by
 have h1:Rel τ lo w0 (st.clean np ops) a w:=kc h _ _
 unfold St.start
 split
 ·exact Up h1
 ·exact h1
theorem ZX {ops:List Oper}{j:Nat}{o:Oper}(ho:ops[j]? =some o)(hm:yj np o=true):yR (own (zw o)) (st.start np ops):=by
 have hfc:yR (own (zw o)) (st.clean np ops):=by
  refine Xg (fun d hdt=> ?_) (YJ ho hm)
  rw [hdt];exact YJ ho hm
 unfold St.start
 split
 ·exact kg hfc
 ·exact hfc
theorem zf (np:Bool)(hτ:zz P τ)(hpos:yW τ){Q:Exit→St→Prop}{id:Nat}{ops:List Oper}(hs:vw np ops=true)(hd:yv st.n ops=true)(h:xr P np τ ops (Q .normal) ops (st.start np ops)):awp P τ (.region id ops.toArray false) Q st:=fun lo w0 a w hr=>by
 have hn:a.tmps.size=st.n:=by obtain⟨ow,hd,bk,h⟩:=hr;exact h.size
 refine wp_region_lit (Ui (np:=np) hτ hpos hs (fun st a w h1 h2=>⟨st,h2,h1⟩) ops 0 (st.start np ops) a w (by simp) (by rw [hn];exact hd) (fun j o _ ho hm=>ZX ho hm) (fun e=>by unfold St.start;rw [if_pos e];exact Qi _) (YA hr ops) h)
def St.settle (e:TypeId)(t:Nat)(st:St):St:=
 let y:=hom [] (.sl e) st (zc t 0) (ev st (.tmp t))
 y.1.put (some t) y.2.1
theorem qj (e:TypeId)(t:Nat)(ht:t<st.n){c:Code}{Q:Exit→St→Prop}(h:awp P τ c Q (st.settle e t)):awp P τ c Q st:=fun lo w0 a w hr=>by
 obtain⟨ow,hd,bk,hrr⟩:=hr
 have hx:=zk hrr (.tmp t)
 obtain⟨ow',hd',r1,r2,-,-⟩:=VL hrr [] (.sl e) (zc t 0) hx
 have hsz:t<a.tmps.size:=by rw [hrr.size];exact ht
 have hrel:=xQ (d:=some t) r1 (fun k hk=>by cases hk;exact hsz) r2
 have hput:a.put (some t) (a.eval (.tmp t))=a:=by
  unfold Act.put Act.eval
  simp only
  congr 1
  apply Array.ext_getElem?
  intro i
  rw [Array.getElem?_setIfInBounds]
  split
  ·rename_i e;subst e
   first
    |(rw [if_pos hsz,Array.getD_eq_getD_getElem?,Array.getElem?_eq_getElem hsz];rfl)
    |(rw [Array.getD_eq_getD_getElem?,Array.getElem?_eq_getElem hsz];simp)
    |(simp [hsz])
  ·rfl
 rw [hput]at hrel
 exact h lo w0 a w hrel
end
def yA (τ:Ty)(st:St):ResultVar→Option (AV×Prop)
 | .tmp t=>some (ev st (.tmp t),True)
 | .cell a t=>vj τ st t (ev st (.tmp a))
def zo (τ:Ty)(st:St):List ResultVar→Option (List AV×Prop)
 | []=>some ([],True)
 |r::rs=>match yA τ st r,zo τ st rs with
  |some (v,p),some (vs,q)=>some (v::vs,p∧q)
  |_,_=>none
def RetR (τ:Ty)(rs:List ResultVar)(ress:List VT)(e:Exit)(st:St):Prop:=(e= .ret∨e= .normal)∧
 match zo τ st rs with
 |some (vs,ob)=>ob∧zd τ st vs ress
 |none=>False
section
variable {P:Program} {τ:Ty} {lo:Nat} {w0:Fz} {ow:Nat→Option Pl} {hd:Nat→Value} {bk:Nat→Nat} {st:St} {a:Act} {w:World}
theorem zLg {t:TypeId}{u z:Value}(h:(Instr.loadAt t u).run P w= .ok z w):(do loadVar t (←asAddr u):Sem Value).run P w= .ok z w:=by
 unfold Instr.loadAt at h
 rw [Sem.run_bind]at h⊢
 have bad:Instr.sureAddr u=stuck "an address expected (no nilCheck in front?)" →False:=fun e=>by
  rw [e]at h
  simp [stuck,Sem.run,Result.andThen]at h
 cases u with
 |pointer q=>
  cases q with
  |none=>exact(bad rfl).elim
  |some b=>simpa [Instr.sureAddr,asAddr]using h
 |_=>exact(bad rfl).elim
theorem zGe (hτ:zz P τ)(hpos:yW τ)(h:zl τ lo w0 ow hd bk st a w){r:ResultVar}{v:AV}{ob:Prop}(he:yA τ st r=some (v,ob))(hob:ob):
  ∃z,(match r with| .tmp t=>pure (a.tmps.getD t undef)| .cell c t=>do loadVar t (←asAddr (a.tmps.getD c undef)):Sem Value).run P w= .ok z w∧AvR τ w st.r st.b hd bk v z:=by
 cases r with
 |tmp t=>
  simp only [yA,Option.some.injEq,Prod.mk.injEq]at he
  obtain⟨rfl,rfl⟩:=he
  exact⟨a.tmps.getD t undef,Sem.run_pure ..,zk h (.tmp t)⟩
 |cell c t=>
  obtain⟨z,hz,hv⟩:=kJ hτ hpos h (zk h (.tmp c)) he hob
  exact⟨z,zLg hz,hv⟩
theorem vU (hτ:zz P τ)(hpos:yW τ)(h:zl τ lo w0 ow hd bk st a w){fn:Func}{rs:List ResultVar}(hrs:fn.results=rs.toArray){vs:List AV}{ob:Prop}(he:zo τ st rs=some (vs,ob))(hob:ob):
  ∃xs,(results fn a.tmps).run P w= .ok (wc xs) w∧ze τ w st.r st.b hd bk vs xs:=by
 have key: ∀(g:ResultVar→Sem Value),(∀t,g (.tmp t)=pure (a.tmps.getD t undef))→(∀c t,g (.cell c t)=do loadVar t (←asAddr (a.tmps.getD c undef)))→∀(rs:List ResultVar) (vs:List AV) (ob:Prop),zo τ st rs=some (vs,ob)→ob→∃xs,(rs.mapM g).run P w= .ok xs w∧ze τ w st.r st.b hd bk vs xs:=by
  intro g hg1 hg2 rs
  induction rs with
  |nil=>
   intro vs ob he _
   simp only [zo,Option.some.injEq,Prod.mk.injEq]at he
   obtain⟨rfl,rfl⟩:=he
   exact⟨[],by simp,by simp [ze]⟩
  |cons r rs ih=>
   intro vs ob he hob
   simp only [zo]at he
   split at he
   ·rename_i v p vs' q e1 e2
    simp only [Option.some.injEq,Prod.mk.injEq]at he
    obtain⟨rfl,rfl⟩:=he
    obtain⟨z,hz,hv⟩:=zGe hτ hpos h e1 hob.1
    obtain⟨xs,hx,hvs⟩:=ih vs' q e2 hob.2
    refine⟨z::xs,?_,by simp only [ze];exact⟨z,xs,rfl,hv,hvs⟩⟩
    have hg:(g r).run P w= .ok z w:=by
     cases r with
     |tmp t=>rw [hg1];exact hz
     |cell c t=>rw [hg2];exact hz
    rw [List.mapM_cons,Sem.run_bind,hg,Result.andThen_ok,Sem.run_bind,hx,Result.andThen_ok,Sem.run_pure]
   ·cases he
 unfold results
 rw [hrs,Array.mapM_eq_mapM_toList]
 obtain⟨xs,hx,hv⟩:=key (fun x=>match x with| .tmp t=>pure (a.tmps.getD t undef)| .cell c t=>do loadVar t (←asAddr (a.tmps.getD c undef))) (fun _=>rfl) (fun _ _=>rfl) rs vs ob he hob
 refine⟨xs,?_,hv⟩
 rw [Sem.run_bind]
 have hm: ∀(m:Sem (List Value)),m.run P w= .ok xs w→((List.toArray<$>m:Sem (Array Value))).run P w= .ok xs.toArray w:=fun m hm=>by
  rw [map_eq_pure_bind,Sem.run_bind,hm,Result.andThen_ok]
  simp
 refine Eq.trans (congrArg (fun r=>Result.andThen r (fun(vs:Array Value) w'=>Sem.run P (pure (if h:vs.size=1 then vs[0]else Value.tuple vs)) w')) (hm _ hx)) ?_
 rw [Result.andThen_ok,Sem.run_pure]
 match xs with
 | []=>simp [wc]
 | [t]=>simp [wc]
 |t::t'::ts=>simp [wc]
theorem qm (hτ:zz P τ)(hpos:yW τ){f:FuncId}{fn:Func}{c:Code}{rs:List ResultVar}{args ress:List VT}(hfn:P.funcs[f]? =some fn)(hname:(fn.name== "runtime.NumGoroutine")=false)(hb:fn.body=some c)(hres:fn.results=rs.toArray)(hn:args.length≤fn.ntmps)(hfew:few args=true)(hs:szA τ args)
  (h:awp P τ c (RetR τ rs ress) (Zp τ fn.ntmps args)):Fn P τ f args ress:=by
 refine⟨⟨fn,hfn,hname,by rw [hb];rfl⟩,fun w cargs hargs=> ?_⟩
 have hstart:Rel τ w.heap.size (.plain w) (Zp τ fn.ntmps args) {tmps:=cargs.toArray++Array.replicate (fn.ntmps - cargs.toArray.size) undef,defers:= []} w:=⟨_,_,_,Vf hs hfew hn hargs⟩
 refine calls_of_wp hfn hb (Go.wp_mono (h w.heap.size (.plain w) _ w hstart) fun e a' w' ⟨st',⟨ow,hd,bk,hr⟩,he,hret0⟩=> ?_)
 have hpost:a'.defers= []∧∃v,(results fn a'.tmps).run P w'= .ok v w'∧Jy τ w ress (.returned v) w':=by
  split at hret0
  ·rename_i avs ob0 hrv
   obtain⟨hob0,hret⟩:=hret0
   obtain⟨xs,hrun,hv⟩:=vU hτ hpos hr hres hrv hob0
   refine⟨hr.defers,_,hrun,?_⟩
   unfold zd at hret
   split at hret
   ·rename_i us hus
    split at hret
    ·rename_i is ob hcells
     obtain⟨cs,k1,k2⟩:=vC (S:=sz τ) (lo:=w.heap.size) (ow:=xV ow is) 0 hus hv
     obtain⟨m1,m2⟩:=vQ hr hcells hret.2 hret.1 k1
     refine⟨_,xV ow is,rfl,hr.below.to_below,fun b hlt=> ?_,fun b p hp=> ?_,k2 m1 fun i d c hd hc=>by rw [Nat.zero_add];exact m2 i d c hd hc⟩
     ·unfold xV
      split
      ·rename_i d q ho
       have :=(hr.ge b _ (by have :=hr.below.to_below.size;omega) ho (by simp)).1
       omega
      ·rfl
     ·unfold xV at hp
      split at hp
      ·rename_i d q ho
       split at hp
       ·cases hp
        refine⟨?_,by simp⟩
        rcases Nat.lt_or_ge b w'.heap.size with h'|h'
        ·exact h'
        ·rw [hr.new b h']at ho;cases ho
       ·cases hp
      ·cases hp
    ·exact hret.elim
   ·exact hret.elim
  ·exact hret0.elim
 rcases he with rfl|rfl<;>exact hpost
end
def ZW (id:Nat):Nat:=1000000+id
abbrev Out :=Nat×TypeId×List D
def zBo (τ:Ty)(lo:Nat)(w:World)(ow:Nat→Option Pl)(outs:List Out)(ress:List VT)(cargs:List Value)(e:Ending)(w':World):Prop:=
 ∃vs ow',e= .returned (wc vs)∧xR ⟨w,fun b=>ow b=none,fun _=>none⟩ w'∧(∀b,b<w.heap.size→ow b=none→ow' b=none)∧(∀b p,ow' b=some p→b<w'.heap.size∧lo≤b∧∃d q,p= .root d q)∧
  wj (sz τ) lo w' ow' 0 ress vs∧∀x∈outs,Rp (sz τ) lo w' ow' (.ex (ZW x.1) []) (.lst x.2.1 x.2.2) (yO cargs x.1)
def FnG (P:Program)(τ:Ty)(f:FuncId)(args:List VT)(own:List Nat)(outs:List Out)(ress:List VT):Prop:=
 vp P f∧∀(lo:Nat) (w:World) (ow:Nat→Option Pl) (cargs:List Value),lo≤w.heap.size→(∀b p,ow b=some p→b<w.heap.size∧lo≤b∧∃d q,p= .root d q)→Ky (sz τ) lo w ow own args cargs→
  Calls P f cargs.toArray w (zBo τ lo w ow outs ress cargs)
def UI (own:List Nat):List (Nat×zq)→List (Nat×zq)
 | []=> []
 |(d,R)::l=>(d,if own.contains d then⟨.ex,R.e,R.xs,some d⟩else R)::UI own l
theorem zDM (own:List Nat): ∀(l:List (Nat×zq)) (d:Nat),lk (UI own l) d=(lk l d).map fun R=>if own.contains d then⟨.ex,R.e,R.xs,some d⟩else R
 | [],d=>rfl
 |(k,R)::l,d=>by
  simp only [UI,zi]
  split
  ·rename_i e;subst e;rfl
  ·exact zDM own l d
def Zi (τ:Ty)(n:Nat)(own:List Nat)(args:List VT):St:={n:=n,s:=wI τ 0 args,b:= [],r:=UI own (xX 0 args)}
section
variable {P:Program} {τ:Ty} {lo:Nat} {w0:Fz} {ow:Nat→Option Pl} {hd:Nat→Value} {bk:Nat→Nat} {st:St} {a:Act} {w:World}
theorem zCY {n:Nat}{own:List Nat}{args:List VT}{cargs:List Value}(hs:szA τ args)(hfew:few args=true)(hn:args.length≤n)(hlo:lo≤w.heap.size)(how: ∀b p,ow b=some p→b<w.heap.size∧lo≤b∧∃d q,p= .root d q)(h:Ky (sz τ) lo w ow own args cargs):
  zl τ lo ⟨w,fun b=>ow b=none,fun id=>some (yO cargs id)⟩ ow (yO cargs) (bk0 (yO cargs)) (Zi τ n own args) {tmps:=cargs.toArray++Array.replicate (n - cargs.toArray.size) undef,defers:= []} w:=by
 obtain⟨hl,hargs⟩:=h
 have hdiv: ∀m i,i<16→(zc m i) / 16=m∧(zc m i)%16=i:=fun m i hi=>by unfold zc;omega
 have hcell: ∀(m:Nat) (x:VT) (v:Value),args[m]? =some x→cargs[m]? =some v→∃cs:List Value,cs.length=x.cells.length∧(∀(i:Nat) (d:D) (c:Value),x.cells[i]? =some d→cs[i]? =some c→Rp (sz τ) lo w ow (gm own (zc m i)) d c∧(yO cargs (zc m i)=c∨xj d=true))∧WD x v cs:=fun m x v hx hv=>by
  have h16:x.cells.length≤16:=by have :=List.all_eq_true.1 hfew x (List.mem_of_getElem? hx);simpa using this
  obtain⟨cs,h1,h2,h3⟩:=hargs m x v hx hv
  refine⟨cs,h1,fun i d c hd hc=>⟨h2 i d c hd hc,?_⟩,h3⟩
  have hi:i<16:=by have :=(List.getElem?_eq_some_iff.1 hd).1;omega
  rcases h3 with⟨d',c',rfl,rfl,rfl⟩|⟨ds,rfl,rfl⟩|⟨f,ds,rfl,rfl⟩
  ·simp only [VT.cells]at hd
   cases i with
   |succ i=>simp at hd
   |zero=>
    simp at hd hc;subst hd;subst hc
    cases d' with
    |int k n=>right;rfl
    |bool b=>right;rfl
    |hole=>
     left
     have h9:=h2 0 _ _ rfl rfl
     simp only [Rp]at h9
     obtain⟨A,n',c',rfl⟩:=h9
     simp only [yO,(hdiv m 0 (by omega)).1,hv]
    |lst e xs=>
     left
     obtain⟨A,n',c',rfl,-⟩:=xI (h2 0 _ _ rfl rfl)
     simp only [yO,(hdiv m 0 (by omega)).1,hv]
  ·left
   simp only [yO,(hdiv m i hi).1,(hdiv m i hi).2,hv]
   rw [Array.getD_eq_getD_getElem?,List.getElem?_toArray,hc]
   rfl
  ·left
   simp only [yO,(hdiv m i hi).1,(hdiv m i hi).2,hv]
   rw [Array.getD_eq_getD_getElem?,List.getElem?_toArray,hc]
   rfl
 have hroot: ∀d R,lk (Zi τ n own args).r d=some R→Rp (sz τ) lo w ow (md R.o d) (.lst R.e R.xs) (yO cargs d)∧(R.pin=none∨R.pin=some d):=fun d R hR=>by
  simp only [Zi,zDM]at hR
  cases hx:lk (xX 0 args) d with
  |none=>rw [hx]at hR;cases hR
  |some R0=>
   rw [hx]at hR
   simp only [Option.map_some,Option.some.injEq]at hR
   obtain⟨m,x,k,h1,h2,h3,h4⟩:=Zl args 0 d R0 hx
   rw [Nat.zero_add]at h4
   have hm:m<cargs.length:=by rw [hl];exact(List.getElem?_eq_some_iff.1 h1).1
   obtain⟨cs,c1,c2,-⟩:=hcell m x _ h1 (List.getElem?_eq_getElem hm)
   have hk:k<cs.length:=by rw [c1];exact(List.getElem?_eq_some_iff.1 h2).1
   obtain⟨q1,q2⟩:=c2 k _ _ h2 (List.getElem?_eq_getElem hk)
   rcases q2 with q2|q2
   ·rw [←h4]at q1 q2
    rw [q2]
    unfold gm at q1
    split at hR
    ·rename_i ho
     rw [if_pos ho]at q1
     subst hR
     exact⟨q1, .inr rfl⟩
    ·rename_i ho
     rw [if_neg ho]at q1
     subst hR
     rw [h3]
     exact⟨q1, .inl (wq args 0 d R0 hx)⟩
   ·cases q2
 refine⟨fun j ad hj had=>(by simp only [Option.some.injEq]at had;simp only [bk0];rw [show 1000000+j - 1=999999+j from by omega,had]),rfl,?_,hlo,xR.start ⟨w,fun b=>ow b=none,_⟩,fun b p _ hb _=>⟨(how b p hb).2.1,fun _ hk=>by rw [show ow b=none from hk]at hb;cases hb⟩,fun b hb=> ?_,fun k v hv=> ?_,fun d R hR=>(hroot d R hR).1,fun t vs hv=>by simp [Zi,lk]at hv,fun d R i hR hp=> ?_⟩
 ·simp [Zi,hl];omega
 ·cases ho:ow b with
  |none=>rfl
  |some p=>have :=(how b p ho).1;omega
 ·obtain⟨m,x,h1,h2,h3⟩:=XM args 0 k v hv
  rw [Nat.zero_add]at h2
  subst h2;subst h3
  have hm:k<cargs.length:=by rw [hl];exact(List.getElem?_eq_some_iff.1 h1).1
  have hget:(cargs.toArray++Array.replicate (n - cargs.toArray.size) undef).getD k undef=cargs[k]:=by
   rw [Array.getD_eq_getD_getElem?,Array.getElem?_append_left (by simpa using hm)]
   simp [hm]
  have hv':cargs[k]? =some cargs[k]:=List.getElem?_eq_getElem hm
  obtain⟨cs,c1,c2,c3⟩:=hcell k x _ h1 hv'
  have hsx:szL τ x.cells:=hs x (List.mem_of_getElem? h1)
  have hres:=vL (τ:=τ) (lo:=lo) (w:=w) (ow:=ow) (hd:=yO cargs) (bk:=bk0 (yO cargs)) (rr:=(Zi τ n own args).r) (bb:=(Zi τ n own args).b) k x.cells 0 cs c1 hsx (fun i d c hd hc=>⟨_,(c2 i d c hd hc).1⟩) (fun i e xs c hd hc=>by
   rcases(c2 i _ c hd hc).2 with q|q
   ·rw [Nat.zero_add];exact q
   ·cases q)
  rw [hget]
  rcases c3 with⟨d,c,rfl,rfl,hc⟩|⟨ds,rfl,hc⟩|⟨f,ds,rfl,hc⟩
  ·simp only [VT.cells]at hres
   rw [hc]
   have e:yd τ k 0 [d]= [(yd τ k 0 [d]).headD .dead]:=by cases d<;>rfl
   rw [e]at hres
   simp only [ze]at hres
   obtain⟨y,ys,e1,h4,-⟩:=hres
   cases e1
   exact h4
  ·rw [hc];simp only [wZ,AvR];exact⟨cs,rfl,hres⟩
  ·rw [hc];simp only [wZ,AvR];exact⟨cs,rfl,hres⟩
 ·rcases(hroot d R hR).2 with q|q
  ·rw [q]at hp;cases hp
  ·rw [q]at hp;cases hp;rfl
def wY (st:St)(is:List (Option Nat)):List Out→Prop
 | []=>True
 |(id,e,ys)::l=>(match lk st.r id with|some R=>R.pin=some id∧R.o= .ex∧R.e=e∧R.xs=ys|none=>False)∧is.contains (some id)=false∧wY st is l
theorem zBO {is:List (Option Nat)}: ∀{outs:List Out},wY st is outs→∀x∈outs,(∃R,lk st.r x.1=some R∧R.pin=some x.1∧R.o= .ex∧R.e=x.2.1∧R.xs=x.2.2)∧is.contains (some x.1)=false
 | [],_,x,hx=>by simp at hx
 |(id,e,ys)::l,h,x,hx=>by
  simp only [wY]at h
  rcases List.mem_cons.1 hx with rfl|hx
  ·refine⟨?_,h.2.1⟩
   have :=h.1
   split at this
   ·rename_i R hR;exact⟨R,hR,this⟩
   ·exact this.elim
  ·exact zBO h.2.2 x hx
def Zg (τ:Ty)(st:St)(vs:List AV)(ress:List VT)(outs:List Out):Prop:=
 match qQ ress vs with
 |some us=>match vV τ st (zr ress) us with
  |some (is,ob)=>XN is=true∧ob∧wY st is outs
  |none=>False
 |none=>False
def RetG (τ:Ty)(rs:List ResultVar)(ress:List VT)(outs:List Out)(e:Exit)(st:St):Prop:=(e= .ret∨e= .normal)∧
 match zo τ st rs with
 |some (vs,ob)=>ob∧Zg τ st vs ress outs
 |none=>False
theorem Ja : ∀(l:List (Option Nat)) (j d:Nat),l.contains (some d)=false→Yh l j d=none
 | [],j,d,_=>rfl
 |none::l,j,d,h=>by
  simp only [Yh]
  exact Ja l (j+1) d (by simpa using h)
 |some d'::l,j,d,h=>by
  simp only [List.contains_cons,Bool.or_eq_false_iff]at h
  have hne:d'≠d:=by rintro rfl;simp at h
  simp only [Yh,if_neg hne]
  exact Ja l (j+1) d h.2
theorem JV {is:List (Option Nat)}{b:Nat}{p:Pl}(h:xV ow is b=some p): ∃d q j,ow b=some (.root d q)∧Yh is 0 d=some j∧p= .root j q:=by
 unfold xV at h
 split at h
 ·rename_i d q ho
  split at h
  ·rename_i j hj;cases h;exact⟨d,q,j,ho,hj,rfl⟩
  ·cases h
 ·cases h
theorem QV (hτ:zz P τ)(hpos:yW τ){f:FuncId}{fn:Func}{c:Code}{rs:List ResultVar}{own:List Nat}{outs:List Out}{args ress:List VT}(hfn:P.funcs[f]? =some fn)(hname:(fn.name== "runtime.NumGoroutine")=false)(hb:fn.body=some c)(hres:fn.results=rs.toArray)(hn:args.length≤fn.ntmps)(hfew:few args=true)(hs:szA τ args)
  (h:awp P τ c (RetG τ rs ress outs) (Zi τ fn.ntmps own args)):FnG P τ f args own outs ress:=by
 refine⟨⟨fn,hfn,hname,by rw [hb];rfl⟩,fun lo w ow0 cargs hlo how hargs=> ?_⟩
 have hstart:Rel τ lo ⟨w,fun b=>ow0 b=none,fun id=>some (yO cargs id)⟩ (Zi τ fn.ntmps own args) {tmps:=cargs.toArray++Array.replicate (fn.ntmps - cargs.toArray.size) undef,defers:= []} w:=⟨_,_,_,zCY hs hfew hn hlo how hargs⟩
 refine calls_of_wp hfn hb (Go.wp_mono (h lo _ _ w hstart) fun e a' w' ⟨st',⟨ow,hd,bk,hr⟩,he,hret0⟩=> ?_)
 have hpost:a'.defers= []∧∃v,(results fn a'.tmps).run P w'= .ok v w'∧zBo τ lo w ow0 outs ress cargs (.returned v) w':=by
  split at hret0
  ·rename_i avs ob0 hrv
   obtain⟨hob0,hret⟩:=hret0
   obtain⟨xs,hrun,hv⟩:=vU hτ hpos hr hres hrv hob0
   refine⟨hr.defers,_,hrun,?_⟩
   unfold Zg at hret
   split at hret
   ·rename_i us hus
    split at hret
    ·rename_i is ob hcells
     obtain⟨hdup,hob,hout⟩:=hret
     have hout':=zBO hout
     let ow2:Nat→Option Pl:=fun b=>match xV ow is b with
      |some p=>some p
      |none=>match ow b with|some (.root d q)=>if(outs.any fun x=>x.1==d)=true then some (.root (ZW d) q)else none|_=>none
     have e1: ∀b p,xV ow is b=some p→ow2 b=some p:=fun b p hp=>by simp only [ow2,hp]
     have e2: ∀b p,ow2 b=some p→∃d q,ow b=some (.root d q)∧∃d' q',p= .root d' q':=fun b p hp=>by
      simp only [ow2]at hp
      split at hp
      ·rename_i p' hp'
       obtain⟨d,q,j,h1,h2,h3⟩:=JV hp'
       cases hp
       exact⟨d,q,h1,j,q,h3⟩
      ·split at hp
       ·rename_i d q ho
        split at hp
        ·cases hp;exact⟨d,q,ho,_,_,rfl⟩
        ·cases hp
       ·cases hp
     obtain⟨cs,k1,k2⟩:=vC (S:=sz τ) (lo:=lo) (ow:=ow2) 0 hus hv
     obtain⟨m1,m2⟩:=vQ hr hcells hob hdup k1
     refine⟨_,ow2,rfl,⟨hr.below.os,hr.below.tape,hr.below.output,hr.below.size,hr.below.block⟩,fun b hlt hb0=> ?_,fun b p hp=> ?_,k2 m1 fun i d c hd hc=> ?_,fun x hx=> ?_⟩
     ·cases ho2:ow2 b with
      |none=>rfl
      |some p=>
       obtain⟨d,q,ho,-⟩:=e2 b p ho2
       have hlt':b<w'.heap.size:=Nat.lt_of_lt_of_le hlt hr.below.size
       exact absurd hb0 ((hr.ge b _ hlt' ho (by simp)).2 hlt)
     ·obtain⟨d,q,ho,hp'⟩:=e2 b p hp
      have hlt:b<w'.heap.size:=by
       rcases Nat.lt_or_ge b w'.heap.size with h'|h'
       ·exact h'
       ·rw [hr.new b h']at ho;cases ho
      exact⟨hlt,(hr.ge b _ hlt ho (by simp)).1,hp'⟩
     ·rw [Nat.zero_add]
      refine yM _ _ (Nat.le_refl _) _ _ _ (fun b hb hrel=>⟨rfl,?_⟩) (m2 i d c hd hc)
      obtain⟨q,hq⟩:=hrel
      rw [hq]
      exact e1 b _ hq
     ·obtain⟨⟨R,hR,hp,ho,he',hx'⟩,hni⟩:=hout' x hx
      have hroot:=hr.root _ R hR
      rw [ho,he',hx']at hroot
      have hpin:hd x.1=yO cargs x.1:=by have :=hr.pin _ R _ hR hp;exact(Option.some.inj this).symm
      rw [hpin]at hroot
      refine qN _ _ _ _ _ [] [] _ (fun b q hb hq=> ?_) hroot
      have hnone:xV ow is b=none:=by
       unfold xV
       simp only [List.nil_append]at hq
       rw [hq]
       simp only [Ja is 0 _ hni]
      simp only [List.nil_append]at hq⊢
      simp only [ow2,hnone,hq]
      rw [if_pos (List.any_eq_true.2 ⟨x,hx,by simp⟩)]
    ·exact hret.elim
   ·exact hret.elim
  ·exact hret0.elim
 rcases he with rfl|rfl<;>exact hpost
end
structure yy where
 id:Nat
 d:Nat
 p:List Nat
 e:TypeId
 out:Option (List D)
def je :List Out→Nat→Option (TypeId×List D)
 | [],_=>none
 |(k,e,ys)::l,id=>if k=id then some (e,ys)else je l id
def wV (vs:List AV)(id:Nat):AV:=
 match vs.getD (id / 16) .dead with
 | .agg us=>us.getD (id%16) .dead
 | .fn _ us=>us.getD (id%16) .dead
 |v=>if id%16=0 then v else .dead
def Qp (τ:Ty)(st:St)(vs:List AV)(outs:List Out)(id:Nat):Option (yy×Prop):=
 match wV vs id with
 | .sl d p 0 len e=>match lk st.r d with
  |some R=>if R.o.isEx=true∧0<sz τ e then
    match p,je outs id with
    | [],none=>some (⟨id,d,[],e,none⟩,R.e=e∧len*sz τ e=R.xs.length)
    | [],some (e',ys)=>some (⟨id,d,[],e,some ys⟩,R.e=e∧len*sz τ e=R.xs.length∧e'=e)
    | [j],some (e',ys)=>some (⟨id,d,[j],e,some ys⟩,zn R.xs [j]∧vJ R.e R.xs [j]=e∧len*sz τ e=(yU R.xs [j]).length∧e'=e)
    |_,_=>none
   else none
  |none=>none
 |_=>none
def xv (τ:Ty)(st:St)(vs:List AV)(outs:List Out):List Nat→Option (List yy×Prop)
 | []=>some ([],True)
 |id::l=>match Qp τ st vs outs id,xv τ st vs outs l with
  |some (x,p),some (xs,q)=>some (x::xs,p∧q)
  |_,_=>none
def zDq (x y:yy):Prop:=if x.d=y.d then(match x.p,y.p with| [i],[j]=>i≠j|_,_=>False)else True
def zDp (x:yy):List yy→Prop
 | []=>True
 |y::l=>zDq x y∧zDp x l
def vE :List yy→Prop
 | []=>True
 |x::l=>zDp x l∧vE l
def VV (own:List Nat)(m:Nat):Nat→List AV→List Nat
 |_,[]=> []
 |j,u::us=>(if own.contains (zc m j)=true then []else u.nm)++VV own m (j+1) us
def ZD (own:List Nat):Nat→List AV→List Nat
 |_,[]=> []
 |m,v::vs=>(match v with| .agg us=>VV own m 0 us| .fn _ us=>VV own m 0 us|v=>VV own m 0 [v])++ZD own (m+1) vs
def qX (d:Nat)(xs:List D):List yy→List D
 | []=>xs
 |x::l=>if x.d=d then(match x.p,x.out with| [],some ys=>ys| [j],some ys=>(qX d xs l).set j (.lst x.e ys)|_,_=>qX d xs l)else qX d xs l
def vy (d:Nat):List yy→Bool
 | []=>false
 |x::l=>if x.d=d then(x.out.isNone||vy d l)else vy d l
def Xx (ls:List yy):List (Nat×zq)→List (Nat×zq)
 | []=> []
 |(d,R)::l=>if vy d ls=true then Xx ls l else(d,{R with xs:=qX d R.xs ls})::Xx ls l
def wC (st:St)(ls:List yy):St:={st.cut with r:=Xx ls st.r}
def apart (ns:List Nat)(ls:List yy):Bool:=ns.all fun n=>ls.all fun x=> !(2*x.d==n)
theorem Qs (ls:List yy): ∀(r:List (Nat×zq)) (d:Nat),lk (Xx ls r) d=if vy d ls=true then none else(lk r d).map fun R=>{R with xs:=qX d R.xs ls}
 | [],d=>by simp [Xx,lk]
 |(k,R)::l,d=>by
  simp only [Xx]
  by_cases hg:vy k ls=true
  ·rw [if_pos hg,Qs ls l d,zi]
   by_cases hk:k=d
   ·subst hk;rw [if_pos hg,if_pos hg]
   ·rw [if_neg hk]
  ·rw [if_neg hg,zi,zi,Qs ls l d]
   by_cases hk:k=d
   ·subst hk;rw [if_pos rfl,if_neg hg,if_pos rfl];rfl
   ·rw [if_neg hk,if_neg hk]
theorem Jd {x:yy}: ∀{l:List yy},zDp x l→∀y∈l,zDq x y
 | [],_,y,hy=>by simp at hy
 |z::l,h,y,hy=>by
  simp only [zDp]at h
  rcases List.mem_cons.1 hy with rfl|hy
  ·exact h.1
  ·exact Jd h.2 y hy
theorem zDr {x y:yy}(h:zDq x y)(hd:x.d=y.d): ∃i j,x.p= [i]∧y.p= [j]∧i≠j:=by
 unfold zDq at h
 rw [if_pos hd]at h
 split at h
 ·rename_i i j h1 h2;exact⟨i,j,h1,h2,h⟩
 ·exact h.elim
theorem Qv {d:Nat}{xs:List D}: ∀{ls:List yy},(∀x∈ls,x.d≠d)→qX d xs ls=xs
 | [],_=>rfl
 |x::l,h=>by
  simp only [qX]
  rw [if_neg (h x (by simp))]
  exact Qv fun y hy=>h y (by simp [hy])
theorem JS {d:Nat}{xs ys:List D}: ∀{ls:List yy},vE ls→∀x∈ls,x.d=d→x.p= []→x.out=some ys→qX d xs ls=ys
 | [],_,x,hx,_,_,_=>by simp at hx
 |y::l,h,x,hx,hd,hp,ho=>by
  simp only [vE]at h
  simp only [qX]
  rcases List.mem_cons.1 hx with rfl|hx
  ·rw [if_pos hd,hp,ho]
  ·by_cases hy:y.d=d
   ·obtain⟨i,j,-,h2,-⟩:=zDr (Jd h.1 x hx) (by rw [hy,hd])
    rw [hp]at h2;cases h2
   ·rw [if_neg hy];exact JS h.2 x hx hd hp ho
theorem VO {d:Nat}{xs:List D}: ∀{ls:List yy},(∀x∈ls,x.d=d→∃j,x.p= [j])→(qX d xs ls).length=xs.length
 | [],_=>rfl
 |x::l,h=>by
  have ih:=VO (xs:=xs) (ls:=l) (d:=d) fun y hy=>h y (by simp [hy])
  simp only [qX]
  split
  ·rename_i hd
   obtain⟨j,hj⟩:=h x (by simp) hd
   rw [hj]
   split
   ·rename_i h1 _;cases h1
   ·rw [List.length_set];exact ih
   ·exact ih
  ·exact ih
theorem Ki {d i:Nat}{xs:List D}: ∀{ls:List yy},(∀x∈ls,x.d=d→∃j,x.p= [j]∧j≠i)→(qX d xs ls)[i]? =xs[i]?
 | [],_=>rfl
 |x::l,h=>by
  have ih:=Ki (xs:=xs) (ls:=l) (d:=d) (i:=i) fun y hy=>h y (by simp [hy])
  simp only [qX]
  split
  ·rename_i hd
   obtain⟨j,hj,hne⟩:=h x (by simp) hd
   rw [hj]
   split
   ·rename_i h1 _;cases h1
   ·rename_i j' ys h1 h2
    cases h1
    rw [List.getElem?_set_ne hne];exact ih
   ·exact ih
  ·exact ih
theorem kz {d i:Nat}{xs ys:List D}(hi:i<xs.length): ∀{ls:List yy},vE ls→(∀x∈ls,x.d=d→∃j,x.p= [j])→∀x∈ls,x.d=d→x.p= [i]→x.out=some ys→(qX d xs ls)[i]? =some (.lst x.e ys)
 | [],_,_,x,hx,_,_,_=>by simp at hx
 |y::l,hs,h,x,hx,hd,hp,ho=>by
  simp only [vE]at hs
  simp only [qX]
  rcases List.mem_cons.1 hx with rfl|hx
  ·rw [if_pos hd,hp,ho]
   simp only
   rw [List.getElem?_set,if_pos rfl,if_pos (by rw [VO fun y hy=>h y (by simp [hy])];exact hi)]
  ·have ih:=kz (xs:=xs) hi hs.2 (fun y hy=>h y (by simp [hy])) x hx hd hp ho
   by_cases hy:y.d=d
   ·obtain⟨i',j',h1,h2,hne⟩:=zDr (Jd hs.1 x hx) (by rw [hy,hd])
    rw [hp]at h2;cases h2
    rw [if_pos hy,h1]
    split
    ·rename_i h3 _;cases h3
    ·rename_i j'' ys' h3 h4
     cases h3
     rw [List.getElem?_set_ne hne];exact ih
    ·exact ih
   ·rw [if_neg hy];exact ih
theorem JH {d:Nat}: ∀{ls:List yy},vy d ls=false→∀x∈ls,x.d=d→∃ys,x.out=some ys
 | [],_,x,hx,_=>by simp at hx
 |y::l,h,x,hx,hd=>by
  simp only [vy]at h
  rcases List.mem_cons.1 hx with rfl|hx
  ·rw [if_pos hd]at h
   cases ho:x.out with
   |none=>rw [ho]at h;simp at h
   |some ys=>exact⟨ys,rfl⟩
  ·by_cases hy:y.d=d
   ·rw [if_pos hy,Bool.or_eq_false_iff]at h;exact JH h.2 x hx hd
   ·rw [if_neg hy]at h;exact JH h x hx hd
theorem ku {d:Nat}: ∀{ls:List yy},(∀x∈ls,x.d≠d)→vy d ls=false
 | [],_=>rfl
 |y::l,h=>by
  simp only [vy]
  rw [if_neg (h y (by simp))]
  exact ku fun x hx=>h x (by simp [hx])
def trL (d:Nat)(q:List Nat):List yy→Option Pl
 | []=>none
 |x::l=>if x.d=d then(match x.p,q with| [],q=>some (.root x.id q)| [j],i::q'=>if i=j then some (.root x.id q')else trL d q l|_,_=>trL d q l)else trL d q l
theorem zD7 {d:Nat}{q:List Nat}{p:Pl}: ∀{ls:List yy},trL d q ls=some p→∃x∈ls,x.d=d∧∃q',q=x.p++q'∧p= .root x.id q'
 | [],h=>by cases h
 |x::l,h=>by
  simp only [trL]at h
  have nx:trL d q l=some p→∃y∈x::l,y.d=d∧∃q',q=y.p++q'∧p= .root y.id q':=fun h=>by
   obtain⟨y,hy,rest⟩:=zD7 h;exact⟨y,by simp [hy],rest⟩
  split at h
  ·rename_i hd
   split at h
   ·rename_i h1;cases h;exact⟨x,by simp,hd,_,by rw [h1];rfl,rfl⟩
   ·rename_i j i q' h1
    split at h
    ·rename_i hij;cases h;subst hij;exact⟨x,by simp,hd,q',by rw [h1];rfl,rfl⟩
    ·exact nx h
   ·exact nx h
  ·exact nx h
theorem zIS {d:Nat}{q:List Nat}: ∀{ls:List yy},vE ls→∀x∈ls,x.d=d→(x.p= []∨∃j,x.p= [j])→trL d (x.p++q) ls=some (.root x.id q)
 | [],_,x,hx,_,_=>by simp at hx
 |y::l,hs,x,hx,hd,hp=>by
  simp only [vE]at hs
  simp only [trL]
  rcases List.mem_cons.1 hx with rfl|hx
  ·rw [if_pos hd]
   rcases hp with hp|⟨j,hp⟩<;>rw [hp]<;>simp
  ·have ih:=zIS (q:=q) hs.2 x hx hd hp
   by_cases hy:y.d=d
   ·obtain⟨i',j',h1,h2,hne⟩:=zDr (Jd hs.1 x hx) (by rw [hy,hd])
    rw [if_pos hy,h1]
    rw [h2]at ih⊢
    simp only [List.cons_append,List.nil_append]at ih⊢
    rw [if_neg (fun e=>hne e.symm)]
    exact ih
   ·rw [if_neg hy];exact ih
def zBr (id:Nat)(q:List Nat):List yy→Option Pl
 | []=>none
 |x::l=>if x.id=id then some (.root x.d (x.p++q))else zBr id q l
theorem ke {q:List Nat}: ∀{ls:List yy},(ls.map (·.id)).Nodup→∀x∈ls,zBr x.id q ls=some (.root x.d (x.p++q))
 | [],_,x,hx=>by simp at hx
 |y::l,hn,x,hx=>by
  simp only [List.map_cons,List.nodup_cons]at hn
  simp only [zBr]
  rcases List.mem_cons.1 hx with rfl|hx
  ·rw [if_pos rfl]
  ·rw [if_neg (fun e=>hn.1 (by rw [e];exact List.mem_map.2 ⟨x,hx,rfl⟩))]
   exact ke hn.2 x hx
section
variable {P:Program} {τ:Ty} {lo:Nat} {w0:Fz} {ow:Nat→Option Pl} {hd:Nat→Value} {bk:Nat→Nat} {st:St} {a:Act} {w:World}
mutual
theorem Ju {w w':World}{rr rr':List (Nat×zq)}{bb bb':List (Nat×List AV)}{hd hd':Nat→Value}{bk bk':Nat→Nat}{bad:Nat→Prop}(h0: ∀d,bad d→Wq rr rr' hd hd' d)(hD: ∀d,¬bad d→xL w w' rr rr' hd hd' d)(hB: ∀t,xK bb bb' bk bk' t):
  ∀(v:AV) (x:Value),(∀d∈v.pm,¬bad d)→AvR τ w rr bb hd bk v x→AvR τ w' rr' bb' hd' bk' v x
 | .int k n,x,_,h=>by simpa only [AvR]using h
 | .bool b,x,_,h=>by simpa only [AvR]using h
 | .nil,x,_,h=>by simpa only [AvR]using h
 | .dead,x,_,h=>by simp only [AvR]
 | .raw u,x,_,h=>by simpa only [AvR]using h
 | .sl d p off len e,x,hp,h=>by
  simp only [AvR]at h⊢
  refine⟨h.1,fun R' hR' hok=> ?_⟩
  by_cases hd0:bad d
  ·cases p with
   |cons i q=>exact absurd hd0 (hp d (by simp [AV.pm]))
   |nil=>
    obtain⟨R,hR,he⟩:=h0 d hd0 R' hR'
    have :=h.2 R hR (by simp [zn])
    simp only [yK]at this⊢
    rw [he];exact this
  ·obtain⟨R,hR,he,hk⟩:=hD d hd0 R' hR'
   obtain⟨hp0,hi⟩:=hk p hok
   rw [he,hi]
   exact h.2 R hR hp0
 | .ep d p i,x,hp,h=>by
  simp only [AvR]at h⊢
  refine⟨h.1,fun R' hR' hok=> ?_⟩
  by_cases hd0:bad d
  ·cases p with
   |cons i q=>exact absurd hd0 (hp d (by simp [AV.pm]))
   |nil=>
    obtain⟨R,hR,he⟩:=h0 d hd0 R' hR'
    have :=h.2 R hR (by simp [zn])
    simp only [yK]at this⊢
    rw [he];exact this
  ·obtain⟨R,hR,he,hk⟩:=hD d hd0 R' hR'
   obtain⟨hp0,hi⟩:=hk p hok
   rw [he,hi]
   exact h.2 R hR hp0
 | .bp t i,x,_,h=>by
  simp only [AvR]at h⊢
  refine⟨h.1,fun hl=> ?_⟩
  obtain⟨h1,h2⟩:=hB t hl
  rw [h2]
  exact h.2 h1
 | .agg vs,x,hp,h=>by
  simp only [AvR]at h⊢
  obtain⟨cs,h1,h2⟩:=h
  exact⟨cs,h1,ZI h0 hD hB vs cs (by simpa only [AV.pm]using hp) h2⟩
 | .tup vs,x,hp,h=>by
  simp only [AvR]at h⊢
  obtain⟨cs,h1,h2⟩:=h
  exact⟨cs,h1,ZI h0 hD hB vs cs (by simpa only [AV.pm]using hp) h2⟩
 | .fn f vs,x,hp,h=>by
  simp only [AvR]at h⊢
  obtain⟨cs,h1,h2⟩:=h
  exact⟨cs,h1,ZI h0 hD hB vs cs (by simpa only [AV.pm]using hp) h2⟩
theorem ZI {w w':World}{rr rr':List (Nat×zq)}{bb bb':List (Nat×List AV)}{hd hd':Nat→Value}{bk bk':Nat→Nat}{bad:Nat→Prop}(h0: ∀d,bad d→Wq rr rr' hd hd' d)(hD: ∀d,¬bad d→xL w w' rr rr' hd hd' d)(hB: ∀t,xK bb bb' bk bk' t):
  ∀(vs:List AV) (xs:List Value),(∀d∈AV.pmL vs,¬bad d)→ze τ w rr bb hd bk vs xs→ze τ w' rr' bb' hd' bk' vs xs
 | [],xs,_,h=>by simpa only [ze]using h
 |v::vs,xs,hp,h=>by
  simp only [AV.pmL,List.mem_append]at hp
  simp only [ze]at h⊢
  obtain⟨x,xs',h1,h2,h3⟩:=h
  exact⟨x,xs',h1,Ju h0 hD hB v x (fun d hd=>hp d (.inl hd)) h2,ZI h0 hD hB vs xs' (fun d hd=>hp d (.inr hd)) h3⟩
end
theorem zIe (h:zl τ lo w0 ow hd bk st a w):zl τ lo w0 ow hd bk st.cut a w:=by
 have hb: ∀t,(∃cs,lk st.cut.b t=some cs)→∃cs,lk st.b t=some cs:=fun t ⟨cs,hcs⟩=>by
  simp only [St.cut,yC]at hcs
  cases hx:lk st.b t with
  |none=>rw [hx]at hcs;cases hcs
  |some u=>exact⟨u,rfl⟩
 refine⟨h.big,h.defers,h.size,h.low,h.below,h.ge,h.new,fun k v hv'=> ?_,h.root,fun t vs hv'=> ?_,h.pin⟩
 ·simp only [St.cut,yC]at hv'
  cases hx:lk st.s k with
  |none=>rw [hx]at hv';cases hv'
  |some u=>rw [hx]at hv';cases hv';exact VG hb u _ (h.slot k u hx)
 ·simp only [St.cut,yC]at hv'
  cases hx:lk st.b t with
  |none=>rw [hx]at hv';cases hv'
  |some u=>
   rw [hx]at hv';cases hv'
   obtain⟨cs,ty,h1,h2,h3⟩:=h.box t u hx
   exact⟨cs,ty,h1,h2,wJ hb u cs h3⟩
theorem Xw {vs:List AV}{outs:List Out}: ∀{own:List Nat} {ls:List yy} {ob:Prop},xv τ st vs outs own=some (ls,ob)→ob→(∀x∈ls,∃ob',Qp τ st vs outs x.id=some (x,ob')∧ob')∧ls.map (·.id)=own
 | [],ls,ob,he,hob=>by
  simp only [xv,Option.some.injEq,Prod.mk.injEq]at he
  obtain⟨rfl,rfl⟩:=he
  exact⟨fun x hx=>by simp at hx,rfl⟩
 |id::own,ls,ob,he,hob=>by
  simp only [xv]at he
  split at he
  ·rename_i x p xs q e1 e2
   simp only [Option.some.injEq,Prod.mk.injEq]at he
   obtain⟨rfl,rfl⟩:=he
   obtain⟨h1,h2⟩:=Xw e2 hob.2
   have hid:x.id=id:=by
    unfold Qp at e1
    split at e1
    ·split at e1
     ·split at e1
      ·split at e1<;>first|(cases e1;rfl)|cases e1
      ·cases e1
     ·cases e1
    ·cases e1
   refine⟨fun y hy=> ?_,by simp [h2,hid]⟩
   rcases List.mem_cons.1 hy with rfl|hy
   ·exact⟨p,by rw [hid];exact e1,hob.1⟩
   ·exact h1 y hy
  ·cases he
theorem Km {e:TypeId}{ys:List D}{id:Nat}: ∀{outs:List Out},je outs id=some (e,ys)→(id,e,ys)∈outs
 | [],h=>by cases h
 |(k,e',ys')::l,h=>by
  simp only [je]at h
  split at h
  ·rename_i hk;cases h;subst hk;simp
  ·exact List.mem_cons_of_mem _ (Km h)
structure uR (τ:Ty)(st:St)(vs:List AV)(outs:List Out)(x:yy)(len:Nat)(R:zq):Prop where
 cell:wV vs x.id= .sl x.d x.p 0 len x.e
 root:lk st.r x.d=some R
 ex:R.o= .ex
 pos:0<sz τ x.e
 path:zn R.xs x.p
 elem:vJ R.e R.xs x.p=x.e
 whole:len*sz τ x.e=(yU R.xs x.p).length
 short:x.p= []∨∃j ys,x.p= [j]∧x.out=some ys
 out: ∀ys,x.out=some ys→(x.id,x.e,ys)∈outs
theorem KY {vs:List AV}{outs:List Out}{id:Nat}{x:yy}{ob:Prop}(he:Qp τ st vs outs id=some (x,ob))(hob:ob): ∃len R,uR τ st vs outs x len R:=by
 unfold Qp at he
 split at he
 ·rename_i d p len e hc
  split at he
  ·rename_i R hR
   split at he
   ·rename_i hex
    obtain⟨hex,hpos⟩:=hex
    have hex:R.o= .ex:=by cases ho:R.o<;>rw [ho]at hex<;>first|rfl|cases hex
    split at he
    ·rename_i ho
     simp only [Option.some.injEq,Prod.mk.injEq]at he
     obtain⟨rfl,rfl⟩:=he
     exact⟨len,R,hc,hR,hex,hpos,by simp [zn],by simpa [vJ]using hob.1,by simpa [yU]using hob.2, .inl rfl,fun ys h=>by cases h⟩
    ·rename_i e' ys ho
     simp only [Option.some.injEq,Prod.mk.injEq]at he
     obtain⟨rfl,rfl⟩:=he
     obtain⟨h1,h2,rfl⟩:=hob
     exact⟨len,R,hc,hR,hex,hpos,by simp [zn],by simpa [vJ]using h1,by simpa [yU]using h2, .inl rfl,fun ys h=>by cases h;exact Km ho⟩
    ·rename_i j e' ys ho
     simp only [Option.some.injEq,Prod.mk.injEq]at he
     obtain⟨rfl,rfl⟩:=he
     obtain⟨h1,h2,h3,rfl⟩:=hob
     exact⟨len,R,hc,hR,hex,hpos,h1,h2,h3, .inr ⟨j,ys,rfl,rfl⟩,fun ys h=>by cases h;exact Km ho⟩
    ·cases he
   ·cases he
  ·cases he
 ·cases he
theorem zI0 {vs:List AV}{cv:List Value}(hv:ze τ w st.r st.b hd bk vs cv){id d:Nat}{p:List Nat}{off len:Nat}{e:TypeId}(hc:wV vs id= .sl d p off len e):AvR τ w st.r st.b hd bk (.sl d p off len e) (yO cv id):=by
 obtain⟨h1,h2⟩:=zp.1 hv
 unfold wV at hc
 rw [List.getD_eq_getElem?_getD]at hc
 cases hx:vs[id / 16]? with
 |none=>rw [hx]at hc;simp only [Option.getD_none]at hc;split at hc<;>cases hc
 |some v=>
  rw [hx]at hc
  simp only [Option.getD_some]at hc
  have hlt:id / 16<cv.length:=by rw [h1];exact(List.getElem?_eq_some_iff.1 hx).1
  have hcv:=List.getElem?_eq_getElem hlt
  have hav:=h2 _ _ _ hx hcv
  have sub: ∀(us:List AV) (cs:List Value),ze τ w st.r st.b hd bk us cs→us.getD (id%16) .dead= .sl d p off len e→AvR τ w st.r st.b hd bk (.sl d p off len e) (cs.toArray.getD (id%16) undef):=fun us cs hr hu=>by
   obtain⟨g1,g2⟩:=zp.1 hr
   rw [List.getD_eq_getElem?_getD]at hu
   cases hy:us[id%16]? with
   |none=>rw [hy]at hu;cases hu
   |some u=>
    rw [hy]at hu
    simp only [Option.getD_some]at hu
    subst hu
    have hl:id%16<cs.length:=by rw [g1];exact(List.getElem?_eq_some_iff.1 hy).1
    have :=g2 _ _ _ hy (List.getElem?_eq_getElem hl)
    rw [Array.getD_eq_getD_getElem?,List.getElem?_toArray,List.getElem?_eq_getElem hl]
    exact this
  unfold yO
  rw [hcv]
  cases v with
  |agg us=>
   simp only [AvR]at hav
   obtain⟨cs,e1,hr⟩:=hav
   rw [e1]
   exact sub us cs hr hc
  |fn f us=>
   simp only [AvR]at hav
   obtain⟨cs,e1,hr⟩:=hav
   rw [e1]
   exact sub us cs hr hc
  |sl d' p' off' len' e'=>
   simp only at hc
   split at hc
   ·cases hc
    have :=hav
    simp only [AvR]at hav
    obtain⟨⟨A,n,c,e1⟩,-⟩:=hav
    rw [e1]at this⊢
    exact this
   ·cases hc
  |_=>simp only at hc;split at hc<;>cases hc
end
theorem zG8 (vs:List AV)(id:Nat):wV vs id=(qO (vs.getD (id / 16) .dead)).getD (id%16) .dead:=by
 unfold wV
 have one: ∀v:AV,(if id%16=0 then v else .dead)= [v].getD (id%16) .dead:=fun v=>by
  split
  ·rename_i h;rw [h];rfl
  ·rename_i h
   rw [List.getD_eq_getElem?_getD,List.getElem?_eq_none (by simp;omega)]
   rfl
 cases vs.getD (id / 16) .dead<;>first|rfl|exact one _
theorem zEk (own:List Nat)(m:Nat)(v:AV)(vs:List AV):ZD own m (v::vs)=VV own m 0 (qO v)++ZD own (m+1) vs:=by
 simp only [ZD]
 cases v<;>rfl
theorem zBW {own:List Nat}{m n:Nat}: ∀{us:List AV} {i j:Nat} {u:AV},us[j]? =some u→own.contains (zc m (i+j))=false→n∈u.nm→n∈VV own m i us
 | [],i,j,u,h,_,_=>by simp at h
 |y::us,i,j,u,h,hc,hn=>by
  simp only [VV,List.mem_append]
  cases j with
  |zero=>
   simp at h;subst h
   left
   rw [Nat.add_zero]at hc
   rw [if_neg (by rw [hc];simp)]
   exact hn
  |succ j=>
   right
   exact zBW (j:=j) (by simpa using h) (by rw [show i+1+j=i+(j+1)from by omega];exact hc) hn
theorem Ue {own:List Nat}{n:Nat}: ∀{vs:List AV} {i m j:Nat} {v u:AV},vs[m]? =some v→(qO v)[j]? =some u→own.contains (zc (i+m) j)=false→n∈u.nm→n∈ZD own i vs
 | [],i,m,j,v,u,h,_,_,_=>by simp at h
 |y::vs,i,m,j,v,u,h,hu,hc,hn=>by
  rw [zEk,List.mem_append]
  cases m with
  |zero=>
   simp at h;subst h
   left
   exact zBW (j:=j) hu (by rw [Nat.zero_add];exact hc) hn
  |succ m=>
   right
   exact Ue (m:=m) (by simpa using h) hu (by rw [show i+1+m=i+(m+1)from by omega];exact hc) hn
section
variable {P:Program} {τ:Ty} {lo:Nat} {w0:Fz} {ow:Nat→Option Pl} {hd:Nat→Value} {bk:Nat→Nat} {st:St} {a:Act} {w:World}
def yx (ow:Nat→Option Pl)(ls:List yy):Nat→Option Pl:=fun b=>match ow b with|some (.root d q)=>trL d q ls|_=>none
theorem qR {ls:List yy}{b:Nat}{p:Pl}(h:yx ow ls b=some p): ∃d q,ow b=some (.root d q)∧∃x∈ls,x.d=d∧∃q',q=x.p++q'∧p= .root x.id q':=by
 unfold yx at h
 split at h
 ·rename_i d q ho;exact⟨d,q,ho,zD7 h⟩
 ·cases h
theorem JW {ls:List yy}{d:Nat}{o:O3}(hn: ∀x∈ls,x.d≠d){b:Nat}(hr:rel (md o d) (ow b)):yx ow ls b=none:=by
 cases ho:yx ow ls b with
 |none=>rfl
 |some p=>
  obtain⟨d',q,h1,x,hx,h2,-⟩:=qR ho
  rw [h1]at hr
  cases o<;>simp only [md,rel]at hr
  ·cases hr
  ·obtain⟨q',hq'⟩:=hr;cases hq';exact absurd h2 (hn x hx)
  ·rcases hr with hr|hr
   ·cases hr
   ·cases hr;exact absurd h2 (hn x hx)
theorem Qq (h:zl τ lo w0 ow hd bk st a w){vs:List AV}{cv:List Value}(hv:ze τ w st.r st.b hd bk vs cv){outs:List Out}{x:yy}{len:Nat}{R:zq}(hx:uR τ st vs outs x len R):
  yK w (hd x.d) x.p=some (yO cv x.id)∧Rp (sz τ) lo w ow (.ex x.d x.p) (.lst x.e (yU R.xs x.p)) (yO cv x.id):=by
 have hav:=zI0 hv hx.cell
 simp only [AvR]at hav
 obtain⟨hv',hin,hsub⟩:=hav.2 R hx.root hx.path
 obtain⟨m',e',u,i1,i2,-,i3,i4,-⟩:=YG x.p _ _ _ _ (h.root x.d R hx.root) hx.path
 have hm:=i4 x.d [] (by rw [hx.ex];rfl)
 rw [hin]at i1;cases i1
 rw [hx.elem]at i3
 subst i3;subst hm
 obtain⟨A,n,c,A',c',hnw,e1,e2,hle,-,-,hoff,-⟩:=hsub
 obtain⟨rfl,rfl⟩:=hoff rfl
 obtain⟨zs,⟨k1,N,k2,k3,k4⟩,-⟩:=(zy _ _).1 i2
 have hN:N=n:=by
  rw [e1]at k3
  rcases k3.2 with⟨q,h0⟩|⟨g,cap,cur,q,_⟩
  ·cases q;exact h0
  ·cases q;rfl
 have hnl:n=len:=by
  have :=hx.whole
  rw [k2,hN]at this
  exact(Nat.eq_of_mul_eq_mul_right hx.pos this).symm
 have heq:yO cv x.id=hv':=by rw [e1,e2,hnl]
 rw [heq]
 exact⟨hin,i2⟩
theorem Vg (h:zl τ lo w0 ow hd bk st a w){vs:List AV}{cv:List Value}(hv:ze τ w st.r st.b hd bk vs cv){ts:List TypeId}{as:List VT}{ob:Prop}(he:yu τ st ts vs=some (as,ob))(hob:ob){own:List Nat}{outs:List Out}{ls:List yy}{ob2:Prop}
  (hl:xv τ st vs outs own=some (ls,ob2)) (hob2:ob2) (hsep:vE ls) (hap:apart (ZD own 0 vs) ls=true) (hfew:few as=true):Ky (sz τ) lo w (yx ow ls) own as cv:=by
 obtain⟨a1,a2⟩:=KE he hob
 obtain⟨v1,v2⟩:=zp.1 hv
 obtain⟨l1,l2⟩:=Xw hl hob2
 refine⟨by omega,fun m x c hx hc=> ?_⟩
 have hm:m<vs.length:=by rw [a1];exact(List.getElem?_eq_some_iff.1 hx).1
 have hvm:=List.getElem?_eq_getElem hm
 obtain⟨t,ob',e1,e2⟩:=a2 m _ x hvm hx
 have h16:x.cells.length≤16:=by have :=List.all_eq_true.1 hfew x (List.mem_of_getElem? hx);simpa using this
 obtain⟨cs,c1,c2,c3,c4⟩:=zCV e1 e2 (v2 m _ c hvm hc)
 obtain⟨r1,r2⟩:=zp.1 c3
 refine⟨cs,by omega,fun j d cj hd hcj=> ?_,c2⟩
 have hj:j<x.cells.length:=(List.getElem?_eq_some_iff.1 hd).1
 have hju:j<(qO vs[m]).length:=by omega
 have hu:=List.getElem?_eq_getElem hju
 have hav:=r2 j _ cj hu hcj
 have hid1:zc m j / 16=m:=by unfold zc;omega
 have hid2:zc m j%16=j:=by unfold zc;omega
 have hca:wV vs (zc m j)=(qO vs[m])[j]:=by
  have g1:vs.getD m .dead=vs[m]:=by rw [List.getD_eq_getElem?_getD,hvm];rfl
  rw [zG8,hid1,hid2,g1,List.getD_eq_getElem?_getD,hu]
  rfl
 unfold gm
 split
 ·rename_i hcon
  have :zc m j∈ls.map (·.id):=by rw [l2];exact List.contains_iff_mem.1 hcon
  obtain⟨y,hy,hyid⟩:=List.mem_map.1 this
  obtain⟨oby,ey1,ey2⟩:=l1 y hy
  obtain⟨len,R,hok⟩:=KY ey1 ey2
  obtain⟨q1,q2⟩:=Qq h hv hok
  have hcell:=hok.cell
  rw [hyid,hca]at hcell
  have hval:yO cv y.id=cj:=by
   have hcc:cv[m]? =some c:=hc
   rw [hyid]
   unfold yO
   rw [hid1,hid2,hcc]
   rcases c2 with⟨d',c',rfl,rfl,rfl⟩|⟨ds,rfl,rfl⟩|⟨f,ds,rfl,rfl⟩
   ·have h0:j=0:=by simp only [VT.cells,List.length_cons,List.length_nil]at hj;omega
    subst h0
    simp at hcj
    rw [hcell]at hav
    simp only [AvR]at hav
    obtain⟨⟨A,n,c',e⟩,-⟩:=hav
    rw [hcj,e]
   ·simp only
    rw [Array.getD_eq_getD_getElem?,List.getElem?_toArray,hcj];rfl
   ·simp only
    rw [Array.getD_eq_getD_getElem?,List.getElem?_toArray,hcj];rfl
  rw [hval]at q2
  have hd':d= .lst y.e (yU R.xs y.p):=by
   rcases c4 j _ d hu hd with⟨ob',k1,k2⟩|⟨k1,-⟩
   ·rw [hcell]at k1
    simp only [cellsOf,hok.root,Option.some.injEq,Prod.mk.injEq]at k1
    rw [←k1.1,Nat.zero_mul,List.drop_zero,hok.whole,List.take_length]
   ·rw [hcell]at k1;cases k1
  rw [hd',←hyid]
  refine qN _ _ _ _ _ y.p [] _ (fun b q hb hq=> ?_) q2
  unfold yx
  rw [hq]
  have hsp:y.p= []∨∃j,y.p= [j]:=by
   rcases hok.short with h|⟨j,ys,h,-⟩
   ·exact .inl h
   ·exact .inr ⟨j,h⟩
  simpa using zIS (q:=q) hsep y hy rfl hsp
 ·rename_i hcon
  have hcon:own.contains (zc m j)=false:=by simpa using hcon
  rcases c4 j _ d hu hd with⟨ob',k1,k2⟩|⟨k1,e,rfl⟩
  ·refine ZO h (fun d' R hd' hR b hb hr=>JW (fun y hy e=> ?_) hr) hav k1 k2 lo
   have hmem:=Ue (own:=own) (i:=0) hvm hu (by rw [Nat.zero_add];exact hcon) hd'
   have :=List.all_eq_true.1 (List.all_eq_true.1 hap _ hmem) y hy
   rw [e]at this
   simp at this
  ·rw [k1]at hav
   simp only [AvR]at hav
   subst hav
   exact(zy _ _).2 ⟨[],⟨rfl,0,by simp,none,0,rfl,Nat.le_refl _,by unfold maxLen;omega,fun h=>absurd rfl h⟩,fun i x u hx=>by simp at hx⟩
end
section
variable {P:Program} {τ:Ty} {lo:Nat} {w0:Fz} {ow:Nat→Option Pl} {hd:Nat→Value} {bk:Nat→Nat} {st:St} {a:Act} {w:World}
def xP (ow:Nat→Option Pl)(ls:List yy)(n t:Nat)(ow':Nat→Option Pl):Nat→Option Pl:=fun b=>
 if b<n∧(yx ow ls b).isNone=true then ow b else match ow' b with
  |some (.root k q)=>if 1000000≤k then zBr (k - 1000000) q ls else some (.root (zc t k) q)
  |_=>none
theorem zDI (h:zl τ lo w0 ow hd bk st a w){vs:List AV}{cv:List Value}(hv:ze τ w st.r st.b hd bk vs cv){own:List Nat}{outs:List Out}{ls:List yy}{ob2:Prop}
  (hl:xv τ st vs outs own=some (ls,ob2)) (hob2:ob2) (hsep:vE ls) (hnd:own.Nodup) {t:Nat} {w':World} {ow':Nat→Option Pl}
  (hk:xR ⟨w,fun b=>yx ow ls b=none,fun _=>none⟩ w') (hlow: ∀b,b<w.heap.size→yx ow ls b=none→ow' b=none) (hnew: ∀b p,ow' b=some p→b<w'.heap.size∧lo≤b∧∃d q,p= .root d q)
  (hout: ∀x∈outs,Rp (sz τ) lo w' ow' (.ex (ZW x.1) []) (.lst x.2.1 x.2.2) (yO cv x.1)):
  zl τ lo w0 (xP ow ls w.heap.size t ow') hd bk (wC st ls) a w':=by
 obtain⟨l1,l2⟩:=Xw hl hob2
 have hok: ∀x∈ls,∃len R,uR τ st vs outs x len R:=fun x hx=>by
  obtain⟨ob,e1,e2⟩:=l1 x hx;exact KY e1 e2
 have hids:(ls.map (·.id)).Nodup:=by rw [l2];exact hnd
 have old: ∀b,b<w.heap.size→yx ow ls b=none→w'.heap[b]? =w.heap[b]? ∧xP ow ls w.heap.size t ow' b=ow b:=fun b hb hn=>
  ⟨hk.block b hb hn,by unfold xP;rw [if_pos ⟨hb,by rw [hn];rfl⟩]⟩
 have back: ∀x∈ls,∀b q,ow' b=some (.root (ZW x.id) q)→xP ow ls w.heap.size t ow' b=some (.root x.d (x.p++q)):=fun x hx b q hb=>by
  have : ¬(b<w.heap.size∧(yx ow ls b).isNone=true):=fun⟨h1,h2⟩=>by
   rw [hlow b h1 (by cases ho:yx ow ls b with|none=>rfl|some p=>rw [ho]at h2;cases h2)]at hb;cases hb
  unfold xP
  rw [if_neg this,hb]
  simp only
  rw [if_pos (by unfold ZW;omega),show ZW x.id - 1000000=x.id from by unfold ZW;omega]
  exact ke hids x hx
 have hge: ∀b p,xP ow ls w.heap.size t ow' b=some p→p≠ .ext→b<w'.heap.size→lo≤b∧w0.fre b:=fun b p hb hp hlt=>by
  by_cases hc:b<w.heap.size∧(yx ow ls b).isNone=true
  ·unfold xP at hb;rw [if_pos hc]at hb;exact h.ge b p hc.1 hb hp
  ·unfold xP at hb
   rw [if_neg hc]at hb
   have ho': ∃p',ow' b=some p':=by
    cases ho:ow' b with
    |none=>rw [ho]at hb;cases hb
    |some p'=>exact⟨p',rfl⟩
   obtain⟨p',ho'⟩:=ho'
   refine⟨(hnew b p' ho').2.1,fun hlt0=> ?_⟩
   have hbw:b<w.heap.size:=Nat.lt_of_lt_of_le hlt0 h.below.size
   cases hoi:yx ow ls b with
   |none=>exact absurd ⟨hbw,by rw [hoi];rfl⟩ hc
   |some p2=>
    obtain⟨d,q,ho,-⟩:=qR hoi
    exact(h.ge b _ hbw ho (by simp)).2 hlt0
 have hc:=zIe h
 have hpf:=Qi st
 have hr: ∀d,lk (wC st ls).r d=if vy d ls=true then none else(lk st.r d).map fun R=>{R with xs:=qX d R.xs ls}:=fun d=>Qs ls st.r d
 have hrel: ∀(d:Nat) (R:zq),(∀x∈ls,x.d≠d)→∀b,b<w.heap.size→rel (md R.o d) (ow b)→w'.heap[b]? =w.heap[b]? ∧xP ow ls w.heap.size t ow' b=ow b:=fun d R hn b hb hr=>old b hb (JW hn hr)
 have h0: ∀d,(∃x∈ls,x.d=d)→Wq st.cut.r (wC st ls).r hd hd d:=fun d _ R' hR'=>by
  rw [hr]at hR'
  split at hR'
  ·cases hR'
  ·cases hx:lk st.r d with
   |none=>rw [hx]at hR';cases hR'
   |some R=>exact⟨R,hx,rfl⟩
 have hD: ∀d,¬(∃x∈ls,x.d=d)→xL w w' st.cut.r (wC st ls).r hd hd d:=fun d hn R' hR'=>by
  have hn': ∀x∈ls,x.d≠d:=fun x hx e=>hn ⟨x,hx,e⟩
  rw [hr,ku hn']at hR'
  simp only [Bool.false_eq_true,if_false]at hR'
  cases hx:lk st.r d with
  |none=>rw [hx]at hR';cases hR'
  |some R=>
   rw [hx]at hR'
   simp only [Option.map_some,Option.some.injEq]at hR'
   subst hR'
   refine⟨R,hx,rfl,fun p hp=> ?_⟩
   simp only [Qv hn']at hp⊢
   exact⟨hp,xu p _ _ _ _ (h.root d R hx) hp (fun b o A n c hb hrl hcell=>by
    rw [qp (hrel d R hn' b hb hrl).1];exact hcell)⟩
 have hB: ∀t,xK st.cut.b (wC st ls).b bk bk t:=fun t hl=>⟨hl,rfl⟩
 have hbad: ∀d,(∃x∈ls,x.d=d)→YO d st.cut:=fun d ⟨x,hx,e⟩=>by
  obtain⟨len,R,ho⟩:=hok x hx
  subst e
  exact hpf x.d R ho.root ho.ex
 refine⟨h.big,h.defers,h.size,Nat.le_trans h.low hk.size,h.below.step hk.os hk.tape hk.output hk.size (fun b hb hf=> ?_),fun b p hlt hb hp=>hge b p hb hp hlt,fun b hb=> ?_,fun k v hv'=> ?_,fun d R' hR'=> ?_,fun k us hv'=> ?_,fun d R' i hR' hp=> ?_⟩
 ·refine hk.block b hb ?_
  show yx ow ls b=none
  cases hoi:yx ow ls b with
  |none=>rfl
  |some p=>
   obtain⟨d,q,ho,-⟩:=qR hoi
   exact absurd (h.ge b _ hb ho (by simp)).2 hf
 ·have hb':w.heap.size≤b:=Nat.le_trans hk.size hb
  unfold xP
  rw [if_neg (fun hh=>by omega)]
  cases ho:ow' b with
  |none=>rfl
  |some p=>have :=(hnew b p ho).1;omega
 ·exact Ju h0 hD hB v _ (fun d hd' hb=>(hbad d hb).s k v hv' hd') (hc.slot k v hv')
 ·rw [hr]at hR'
  split at hR'
  ·cases hR'
  ·rename_i hg
   have hg:vy d ls=false:=by simpa using hg
   cases hx:lk st.r d with
   |none=>rw [hx]at hR';cases hR'
   |some R=>
    rw [hx]at hR'
    simp only [Option.map_some,Option.some.injEq]at hR'
    subst hR'
    by_cases hin: ∃x∈ls,x.d=d
    ·have hex:R.o= .ex:=by
      obtain⟨x,hxm,rfl⟩:=hin
      obtain⟨len,R2,ho⟩:=hok x hxm
      have :=ho.root;rw [hx]at this;cases this
      exact ho.ex
     simp only [hex]
     by_cases hroot: ∃x∈ls,x.d=d∧x.p= []
     ·obtain⟨x,hxm,rfl,hp⟩:=hroot
      obtain⟨ys,hys⟩:=JH hg x hxm rfl
      obtain⟨len,R2,ho⟩:=hok x hxm
      have :=ho.root;rw [hx]at this;cases this
      obtain⟨q1,-⟩:=Qq h hv ho
      rw [hp]at q1
      simp only [yK,Option.some.injEq]at q1
      have he:=ho.elem
      rw [hp]at he
      simp only [vJ]at he
      simp only [JS hsep x hxm rfl hp hys]
      have :=hout _ (ho.out ys hys)
      simp only at this
      rw [←q1,←he]at this
      exact qN _ _ _ _ _ [] [] _ (fun b q _ hb=>by
       have :=back x hxm b q (by simpa using hb)
       rw [hp]at this
       simpa using this) this
     ·have hone: ∀x∈ls,x.d=d→∃j ys,x.p= [j]∧x.out=some ys:=fun x hxm e=>by
       obtain⟨len,R2,ho⟩:=hok x hxm
       rcases ho.short with hs|hs
       ·exact absurd ⟨x,hxm,e,hs⟩ hroot
       ·exact hs
      have hone': ∀x∈ls,x.d=d→∃j,x.p= [j]:=fun x hxm e=>by obtain⟨j,ys,h1,-⟩:=hone x hxm e;exact⟨j,h1⟩
      have hrt:=h.root d R hx
      rw [hex]at hrt
      obtain⟨zs,k1,k5⟩:=(zy _ _).1 hrt
      have hlen:(qX d R.xs ls).length=R.xs.length:=VO hone'
      have hnil: ∀b,ow b=some (.root d [])→yx ow ls b=none:=fun b hb=>by
       cases hoi:yx ow ls b with
       |none=>rfl
       |some p=>
        obtain⟨d',q,h1,x,hxm,h2,q',h3,-⟩:=qR hoi
        rw [hb]at h1;cases h1
        obtain⟨j,hj⟩:=hone' x hxm h2
        rw [hj]at h3;simp at h3
      have k1':Hd (sz τ) lo w' (xP ow ls w.heap.size t ow') (.ex d []) R.e (hd d) R.xs.length zs:=by
       obtain⟨m1,N,m2,m3,m4⟩:=k1
       refine⟨m1,N,m2,⟨m3.1,?_⟩,fun b hb=> ?_⟩
       ·rcases m3.2 with hn|⟨g,cap,cur,hv2,hb2,hg2,rest⟩
        ·exact .inl hn
        ·have hgo:=m4 g (by rw [hv2];rfl)
         have hglt:g<w.heap.size:=(Array.getElem?_eq_some_iff.1 hg2).1
         exact .inr ⟨g,cap,cur,hv2,hb2,by rw [(old g hglt (hnil g hgo)).1];exact hg2,rest⟩
       ·have hgo:=m4 b hb
        rw [(old b (m3.lt b hb).2 (hnil b hgo)).2];exact hgo
      refine(zy _ _).2 ⟨zs,by rw [hlen];exact k1',fun i y u hy hu=> ?_⟩
      have hi:i<R.xs.length:=by rw [←hlen];exact(List.getElem?_eq_some_iff.1 hy).1
      by_cases hsel: ∃x∈ls,x.d=d∧x.p= [i]
      ·obtain⟨x,hxm,rfl,hp⟩:=hsel
       obtain⟨j,ys,hj,hys⟩:=hone x hxm rfl
       obtain⟨len,R2,ho⟩:=hok x hxm
       have :=ho.root;rw [hx]at this;cases this
       rw [kz hi hsep hone' x hxm rfl hp hys]at hy
       cases hy
       obtain⟨q1,-⟩:=Qq h hv ho
       rw [hp]at q1
       obtain⟨b1,o1,n1,c1,hv',hN,hb1,hr1,hc1⟩:=qM k1 hu
       rw [hv']at q1
       simp only [yK,hc1,Option.bind_some,Option.some.injEq]at q1
       have :=hout _ (ho.out ys hys)
       simp only at this
       rw [←q1]at this
       refine qN _ _ _ _ _ [] ([]++ [i]) _ (fun b q _ hb=> ?_) this
       have :=back x hxm b q (by simpa using hb)
       rw [hp]at this
       simpa using this
      ·rw [Ki (fun x hxm e=>by
        obtain⟨j,hj⟩:=hone' x hxm e
        exact⟨j,hj,fun e2=>hsel ⟨x,hxm,e,by rw [hj,e2]⟩⟩)]at hy
       refine yM _ _ hk.size _ _ _ (fun b hb hr=>old b hb ?_) (k5 i y u hy hu)
       obtain⟨q,hq⟩:=hr
       cases hoi:yx ow ls b with
       |none=>rfl
       |some p=>
        obtain⟨d',q',h1,x,hxm,h2,q2,h3,-⟩:=qR hoi
        rw [hq]at h1
        simp only [Option.some.injEq,Pl.root.injEq,List.nil_append]at h1
        obtain⟨rfl,rfl⟩:=h1
        obtain⟨j,hj⟩:=hone' x hxm h2
        rw [hj]at h3
        simp only [List.cons_append,List.nil_append,List.cons.injEq]at h3
        exact absurd ⟨x,hxm,h2,by rw [hj,h3.1]⟩ hsel
    ·have hn': ∀x∈ls,x.d≠d:=fun x hx e=>hin ⟨x,hx,e⟩
     simp only [Qv hn']
     exact yM _ _ hk.size _ _ _ (fun b hb hr=>hrel d R hn' b hb hr) (h.root d R hx)
 ·obtain⟨cs,ty,q1,q2,q3⟩:=hc.box k us hv'
  have hlt:bk k<w.heap.size:=(Array.getElem?_eq_some_iff.1 q1).1
  have hno:yx ow ls (bk k)=none:=by unfold yx;rw [q2]
  exact⟨cs,ty,by rw [(old _ hlt hno).1];exact q1,by rw [(old _ hlt hno).2];exact q2,ZI h0 hD hB us cs (fun d hd' hb=>(hbad d hb).b k us hv' hd') q3⟩
 ·rw [hr]at hR'
  split at hR'
  ·cases hR'
  ·cases hx:lk st.r d with
   |none=>rw [hx]at hR';cases hR'
   |some R=>
    rw [hx]at hR'
    simp only [Option.map_some,Option.some.injEq]at hR'
    subst hR'
    exact h.pin d R i hx hp
theorem zEf (h:zl τ lo w0 ow hd bk st a w){vs:List AV}{cv:List Value}(hv:ze τ w st.r st.b hd bk vs cv){own:List Nat}{outs:List Out}{ls:List yy}{ob2:Prop}
  (hl:xv τ st vs outs own=some (ls,ob2)) (hob2:ob2) (hsep:vE ls) (hnd:own.Nodup) {t:Nat} {ress:List VT} (hs:szL τ (zr ress)) (hfl:(zr ress).length≤1000000) {e:Ending} {w':World} (hp:zBo τ lo w (yx ow ls) outs ress cv e w'):
  ∃z ow' hd',e= .returned z∧zl τ lo w0 ow' hd' bk (yf t 0 (zr ress) (wC st ls)) a w'∧AvR τ w' (yf t 0 (zr ress) (wC st ls)).r (yf t 0 (zr ress) (wC st ls)).b hd' bk (qJ (xO τ t 0 ress)) z:=by
 obtain⟨rs,ow',he,hk,hlow,hnew,hres,hout⟩:=hp
 have h1:=zDI h hv hl hob2 hsep hnd (t:=t) hk hlow hnew hout
 have e2: ∀b j q,j<1000000→ow' b=some (.root j q)→xP ow ls w.heap.size t ow' b=some (.root (zc t j) q):=fun b j q hj hq=>by
  have : ¬(b<w.heap.size∧(yx ow ls b).isNone=true):=fun⟨h1,h2⟩=>by
   rw [hlow b h1 (by cases ho:yx ow ls b with|none=>rfl|some p=>rw [ho]at h2;cases h2)]at hq;cases hq
  unfold xP
  rw [if_neg this,hq]
  simp only
  rw [if_neg (by omega)]
 obtain⟨cs,k1,k2,k3⟩:=XV (bk:=bk) (τ:=τ) (rr:=(yf t 0 (zr ress) (wC st ls)).r) (bb:=(yf t 0 (zr ress) (wC st ls)).b) (t:=t) hres
 have k2': ∀(i:Nat) (d:D) (c:Value),(zr ress)[i]? =some d→cs[i]? =some c→Rp (sz τ) lo w' (xP ow ls w.heap.size t ow') (.ex (zc t (0+i)) []) d c:=fun i d c hd hc=>by
  have hi:i<1000000:=Nat.lt_of_lt_of_le (List.getElem?_eq_some_iff.1 hd).1 hfl
  exact qN _ _ _ _ _ [] [] _ (fun b q _ e=>e2 b _ q (by omega) e) (k2 i d c hd hc)
 obtain⟨hd',r1,r2,r3⟩:=QD t (zr ress) 0 (wC st ls) hd cs h1 k1 k2'
 exact⟨wc rs,_,hd',he,r1,QE (k3 w' hd' (vL (ow:=xP ow ls w.heap.size t ow') (lo:=lo) t (zr ress) 0 cs k1 hs (fun i d c h1 h2=>⟨_,k2' i d c h1 h2⟩) (fun i e xs c h1 h2=>(r3 i e xs c h1 h2).2)))⟩
def ub (P:Program)(τ:Ty)(own:List Nat)(outs:List Out)(o:Oper)(K:St→Prop)(st:St):Prop:=
 match yH o with
 |some (f,args,ts)=>
  match yu τ st ts.toList (args.toList.map (ev st)),xv τ st (args.toList.map (ev st)) outs own with
  |some (as,ob),some (ls,ob2)=>apart (ZD own 0 (args.toList.map (ev st))) ls=true∧Xa own=true∧few as=true∧ob∧ob2∧vE ls∧
    ∃ress,FnG P τ f as own outs ress∧szL τ (zr ress)∧(zr ress).length≤1000000∧K ((yf (zw o) 0 (zr ress) (wC st ls)).put o.dst (qJ (xO τ (zw o) 0 ress)))
  |_,_=>False
 |none=>False
theorem YZ (h:zl τ lo w0 ow hd bk st a w){o:Oper}{f:FuncId}{args:Array Operand}{ts:Array TypeId}(hc:yH o=some (f,args,ts))(hcl:vp P f):(execOp a.eval o).run P w= .ok (.enter f (args.toList.map a.eval).toArray) w:=by
 obtain⟨fn,hfn,hname,hbody⟩:=hcl
 obtain⟨dst,op,oty,pos,after,guard⟩:=o
 unfold yH at hc
 simp only at hc
 split at hc
 ·rename_i c
  split at hc
  ·rename_i f' hcal
   cases hc
   obtain⟨callee,args',ats⟩:=c
   simp only at hcal
   subst hcal
   rw [execOp_call_go]
   unfold callFunc
   have h1: ¬fn.name= "runtime.NumGoroutine" :=by simpa using hname
   have h2: ¬fn.body=none:=by cases hb:fn.body with
    |none=>rw [hb]at hbody;simp at hbody
    |some c=>simp
   have h3:Array.map a.eval args'=(args'.toList.map a.eval).toArray:=by cases args';simp
   simp [hfn,h1,h2,h3]
  ·cases hc
 ·cases hc
theorem zCQ {own:List Nat}{outs:List Out}{o:Oper}{K:St→Prop}{Q:Exit→Act→World→Prop}{K':Act→World→Prop}(hd: ∀k,o.dst=some k→k<a.tmps.size)(h:Rel τ lo w0 st a w)(ha:ub P τ own outs o K st)
  (hK: ∀st' x w',K st'→Rel τ lo w0 st' (a.put o.dst x) w'→K' (a.put o.dst x) w'):o.wp P a w K' Q:=by
 obtain⟨ow,hd',bk,hr⟩:=h
 unfold ub at ha
 split at ha
 ·rename_i f args ts hc
  split at ha
  ·rename_i as ob ls ob2 hargs hlends
   obtain⟨hap,hnd,hfew,hob,hob2,hsep,ress,⟨hcl,hcall⟩,hsz,hfl,hK1⟩:=ha
   have hev:ze τ w st.r st.b hd' bk (args.toList.map (ev st)) (args.toList.map a.eval):=zp.2 ⟨by simp,fun i v x hv hx=>by
    rw [List.getElem?_map]at hv hx
    cases hk:args.toList[i]? with
    |none=>rw [hk]at hv;cases hv
    |some p=>rw [hk]at hv hx;cases hv;cases hx;exact zk hr p⟩
   have hA:=Vg hr hev hargs hob hlends hob2 hsep hap hfew
   have hC:=hcall lo w (yx ow ls) _ hr.low (fun b p hb=>by
    obtain⟨d,q,ho,x,hx,-,q',-,hp⟩:=qR hb
    have hlt:b<w.heap.size:=by
     rcases Nat.lt_or_ge b w.heap.size with h'|h'
     ·exact h'
     ·rw [hr.new b h']at ho;cases ho
    exact⟨hlt,(hr.ge b _ hlt ho (by simp)).1,_,_,hp⟩) hA
   unfold Oper.wp
   rw [YZ hr hc hcl]
   simp only [Oper.upon]
   refine hC.mono fun e w' hpost=> ?_
   obtain⟨z,ow',hd2,he,r1,r2⟩:=zEf hr hev hlends hob2 hsep (Zm hnd) (t:=zw o) hsz hfl hpost
   subst he
   exact hK _ z w' hK1 (xQ r1 hd r2)
  ·exact ha.elim
 ·exact ha.elim
def jB (P:Program)(τ:Ty)(al:List Nat)(t:Nat)(own:List Nat)(outs:List Out)(all:List Oper)(K:St→Prop):List Oper→St→Prop
 | [],st=>K st
 |o::os,st=>
  match o.guard with
  |none=>if o.dst=some t then ub P τ own outs o (jB P τ al t own outs all K os) st else aop P τ al o (jB P τ al t own outs all K os) st
  |some (j,want)=>False
theorem Vc (hτ:zz P τ)(hpos:yW τ){al:List Nat}{t:Nat}{own:List Nat}{outs:List Out}{all:List Oper}{K:St→Prop}{Q:Exit→Act→World→Prop}(hQ: ∀st a w,K st→Rel τ lo w0 st a w→Q .normal a w):
  ∀(os:List Oper) (st:St) (a:Act) (w:World),yv a.tmps.size os=true→Rel τ lo w0 st a w→jB P τ al t own outs all K os st→wpList P all.toArray Q os a w
 | [],st,a,w,_,h,ha=>wpList_nil (hQ st a w ha h)
 |o::os,st,a,w,hd,h,ha=>by
  have hd1: ∀k,o.dst=some k→k<a.tmps.size:=fun k hk=>by
   have :=List.all_eq_true.1 hd o (by simp)
   rw [hk]at this
   simpa using this
  have hd2:yv a.tmps.size os=true:=List.all_eq_true.2 fun x hx=>List.all_eq_true.1 hd x (by simp [hx])
  refine wpList_step fun K' hK'=> ?_
  simp only [jB]at ha
  split at ha
  ·rename_i hg
   rw [if_pos (by simp [Region.wanted,hg])]
   split at ha
   ·exact zCQ hd1 h ha fun st' x w' h1 h2=>hK' _ _ (Vc hτ hpos hQ os st' _ w' (by rw [yw];exact hd2) h2 h1)
   ·exact wo hτ hpos hd1 h ha fun st' x w' h1 h2=>hK' _ _ (Vc hτ hpos hQ os st' _ w' (by rw [yw];exact hd2) h2 h1)
  ·exact ha.elim
end
theorem qD {P:Program}{τ:Ty}{Q:Exit→St→Prop}{st:St}(t:Nat)(own:List Nat)(outs:List Out)(hτ:zz P τ)(hpos:yW τ)(al:List Nat){id:Nat}{ops:List Oper}(hd:yv st.n ops=true)(h:jB P τ al t own outs ops (Q .normal) ops st):awp P τ (.region id ops.toArray false) Q st:=fun lo w0 a w hr=>by
 have hn:a.tmps.size=st.n:=by obtain⟨ow,hd,bk,h⟩:=hr;exact h.size
 refine wp_region_lit (Vc hτ hpos (fun st a w h1 h2=>⟨st,h2,h1⟩) ops st a w (by rw [hn];exact hd) hr h)
section
variable {P:Program} {τ:Ty} {np:Bool} {all:List Oper}
theorem zDs (Q:St→Prop)(l2:List Oper): ∀(l1:List Oper) (st:St),xr P np τ all Q (l1++l2) st=xr P np τ all (fun st=>xr P np τ all Q l2 st) l1 st
 | [],st=>rfl
 |o::os,st=>by simp only [List.cons_append,xr,zDs Q l2 os]
theorem yD (n:Nat){Q:St→Prop}{os:List Oper}{st:St}(h: ∀K:St→Prop,(∀st,xr P np τ all Q (os.drop n) st→K st)→xr P np τ all K (os.take n) st):xr P np τ all Q os st:=by
 have :=h _ fun _ h=>h
 rwa [←zDs,List.take_append_drop]at this
theorem zCT {al:List Nat}(Q:St→Prop)(l2:List Oper): ∀(l1:List Oper) (st:St),vF P τ al all Q (l1++l2) st=vF P τ al all (fun st=>vF P τ al all Q l2 st) l1 st
 | [],st=>rfl
 |o::os,st=>by
  have e:vF P τ al all Q (os++l2)=vF P τ al all (fun st=>vF P τ al all Q l2 st) os:=funext fun st=>zCT Q l2 os st
  simp only [List.cons_append,vF,e]
theorem zm (n:Nat){al:List Nat}{Q:St→Prop}{os:List Oper}{st:St}(h: ∀K:St→Prop,(∀st,vF P τ al all Q (os.drop n) st→K st)→vF P τ al all K (os.take n) st):vF P τ al all Q os st:=by
 have :=h _ fun _ h=>h
 rwa [←zCT,List.take_append_drop]at this
def vI (P:Program)(np:Bool)(τ:Ty)(all:List Oper)(E:List Rec→St→Prop):List Oper→Nat→List Rec→St→Prop
 | [],_,cs,st=>E cs st
 |o::os,k,cs,st=>
  match o.guard with
  |none=>wl P np τ o st fun δ=>vI P np τ all E os (k+1) (⟨k,fp o st,δ.wr⟩::cs) (st.app o.dst δ)
  |some (j,want)=>
   match qY all st j with
   |some (some b)=>
    brB b (if want=true then wl P np τ o (yk all st j true) fun δ=>vI P np τ all E os (k+1) (⟨k,fp o (yk all st j true),δ.wr⟩::cs) ((yk all st j true).app o.dst δ)else vI P np τ all E os (k+1) (⟨k,fp o (yk all st j true),Dl.skip.wr⟩::cs) ((yk all st j true).app o.dst Dl.skip))
     (if want=false then wl P np τ o (yk all st j false) fun δ=>vI P np τ all E os (k+1) (⟨k,fp o (yk all st j false),δ.wr⟩::cs) ((yk all st j false).app o.dst δ)else vI P np τ all E os (k+1) (⟨k,fp o (yk all st j false),Dl.skip.wr⟩::cs) ((yk all st j false).app o.dst Dl.skip))
   |some none=>vI P np τ all E os (k+1) (⟨k,fp o st,Dl.skip.wr⟩::cs) (st.app o.dst Dl.skip)
   |none=>False
theorem zAM (C:List Rec→Prop)(Q:St→Prop): ∀(os:List Oper) (k:Nat) (cs:List Rec) (st:St),vI P np τ all (fun cs st=>C cs∧Q st) os k cs st=Zc P np τ all C Q os k cs st
 | [],k,cs,st=>rfl
 |o::os,k,cs,st=>by
  unfold vI Zc
  simp only [zAM C Q os]
  rfl
theorem zDJ (E:List Rec→St→Prop)(l2:List Oper): ∀(l1:List Oper) (k:Nat) (cs:List Rec) (st:St),vI P np τ all E (l1++l2) k cs st=vI P np τ all (fun cs st=>vI P np τ all E l2 (k+l1.length) cs st) l1 k cs st
 | [],k,cs,st=>rfl
 |o::os,k,cs,st=>by
  have e: ∀cs st,vI P np τ all E (os++l2) (k+1) cs st=vI P np τ all (fun cs st=>vI P np τ all E l2 (k+(o::os).length) cs st) os (k+1) cs st:=fun cs st=>by
   rw [zDJ E l2 os (k+1) cs st,List.length_cons,show k+1+os.length=k+(os.length+1)from by omega]
  simp only [List.cons_append,vI,e]
theorem yb (n:Nat){E:List Rec→St→Prop}{os:List Oper}{k:Nat}{cs:List Rec}{st:St}(hn:n≤os.length)(h: ∀K:List Rec→St→Prop,(∀cs st,vI P np τ all E (os.drop n) (k+n) cs st→K cs st)→vI P np τ all K (os.take n) k cs st):vI P np τ all E os k cs st:=by
 have :=h _ fun _ _ h=>h
 have hl:(os.take n).length=n:=by rw [List.length_take];omega
 have e:vI P np τ all (fun cs st=>vI P np τ all E (os.drop n) (k+(os.take n).length) cs st) (os.take n) k cs st:=by rw [hl];exact this
 rw [←zDJ,List.take_append_drop]at e
 exact e
theorem zx (np:Bool){Q:Exit→St→Prop}{st:St}(hτ:zz P τ)(hpos:yW τ)(hmix:P.follows .mixedOrders=true){id:Nat}{ops:List Oper}(hs:Yj np ops (Zb ops)=true)(hd:yv st.n ops=true)(h: ∀E:List Rec→St→Prop,(∀cs st,chk ops (Zb ops) cs=true→Q .normal st→E cs st)→vI P np τ ops E ops 0 [] (st.start np ops)):awp P τ (.region id ops.toArray true) Q st:=
 xY np hτ hpos hmix hs hd fun C hC=>by
  rw [←zAM]
  exact h _ fun cs st h1 h2=>⟨hC cs h1,h2⟩
end
inductive XT where
 |v (x:VT)
 |clo (f:FuncId) (ds:List D)
 |ref (d:D)
def XT.cells :XT→List D
 | .v x=>x.cells
 | .clo _ ds=>ds
 | .ref d=> [d]
def VS :Value→Value
 | .slice A _ _=> .pointer A
 |_=>undef
def bxD :D→Prop
 | .lst _ xs=>xs≠ []
 |_=>False
def Vb (S:TypeId→Nat)(lo:Nat)(w:World)(ow:Nat→Option Pl):XT→Value→Prop
 | .v x,v=>Ym S lo w ow x v
 | .clo f ds,v=> ∃cs:List Value,v= .func (.func f) #[] (cs.map VS).toArray∧RpS S lo w ow ds cs∧∀d∈ds,bxD d
 | .ref d,v=> ∃c:Value,v=VS c∧Rp S lo w ow .sh d c∧bxD d
def Xm (S:TypeId→Nat)(lo:Nat)(w:World)(ow:Nat→Option Pl):List XT→List Value→Prop
 | [],vs=>vs= []
 |x::xs,vs=> ∃v vs',vs=v::vs'∧Vb S lo w ow x v∧Xm S lo w ow xs vs'
def FnX (P:Program)(τ:Ty)(f:FuncId)(args:List XT)(ress:List VT):Prop:=
 vp P f∧∀(w:World) (cargs:List Value),Xm (sz τ) w.heap.size w (fun _=>none) args cargs→Calls P f cargs.toArray w (Jy τ w ress)
theorem zAl {S:TypeId→Nat}{lo:Nat}{w:World}{ow:Nat→Option Pl}: ∀{xs:List XT} {vs:List Value},Xm S lo w ow xs vs→vs.length=xs.length∧∀(i:Nat) (x:XT) (v:Value),xs[i]? =some x→vs[i]? =some v→Vb S lo w ow x v
 | [],vs,h=>by simp only [Xm]at h;subst h;exact⟨rfl,fun i d c h=>by simp at h⟩
 |x::xs,vs,h=>by
  simp only [Xm]at h
  obtain⟨v,vs',rfl,h1,h2⟩:=h
  obtain⟨h3,h4⟩:=zAl h2
  refine⟨by simp [h3],fun i d' c' hd hc=> ?_⟩
  cases i with
  |zero=>simp at hd hc;subst hd;subst hc;exact h1
  |succ i=>exact h4 i d' c' (by simpa using hd) (by simpa using hc)
def epL (i:Nat):Nat→List D→List AV
 |_,[]=> []
 |j,_::ds=> .ep (zc i j) [] 0::epL i (j+1) ds
def Jg (τ:Ty)(i:Nat):XT→AV
 | .v x=>wZ τ i x
 | .clo f ds=> .fn f (epL i 0 ds)
 | .ref d=> .ep (zc i 0) [] 0
def YC (τ:Ty):Nat→List XT→List (Nat×AV)
 |_,[]=> []
 |i,x::xs=>(i,Jg τ i x)::YC τ (i+1) xs
def Zj (τ:Ty)(n:Nat)(args:List XT):St:={n:=n,s:=YC τ 0 args,b:= [],r:=xX 0 (args.map fun x=> .agg x.cells)}
def fewX (args:List XT):Bool:=args.all fun x=>decide (x.cells.length≤16)
def szX (τ:Ty)(args:List XT):Prop:= ∀x∈args,szL τ x.cells
section
variable {P:Program} {τ:Ty} {lo:Nat} {w0:Fz} {ow:Nat→Option Pl} {hd:Nat→Value} {bk:Nat→Nat} {st:St} {a:Act} {w:World}
theorem Kd : ∀(args:List XT) (i k:Nat) (v:AV),lk (YC τ i args) k=some v→∃m x,args[m]? =some x∧k=i+m∧v=Jg τ k x
 | [],i,k,v,h=>by simp [YC,lk]at h
 |x::args,i,k,v,h=>by
  simp only [YC,zi]at h
  split at h
  ·rename_i e;subst e;cases h;exact⟨0,x,rfl,rfl,rfl⟩
  ·obtain⟨m,y,h1,h2,h3⟩:=Kd args (i+1) k v h
   exact⟨m+1,y,by simpa using h1,by omega,h3⟩
def zCK (x:XT)(v:Value)(cs:List Value):Prop:=
 (∃d c,x= .v (.c d)∧cs= [c]∧v=c)∨(∃ds,x= .v (.agg ds)∧v= .agg cs.toArray)∨(∃f ds,x= .v (.fn f ds)∧v= .func (.func f) #[] cs.toArray)∨
  (∃f ds,x= .clo f ds∧v= .func (.func f) #[] (cs.map VS).toArray∧∀d∈ds,bxD d)∨(∃d c,x= .ref d∧cs= [c]∧v=VS c∧bxD d)
theorem zFo {S:TypeId→Nat}{w:World}{ow:Nat→Option Pl}{x:XT}{v:Value}(h:Vb S lo w ow x v):
  ∃cs:List Value,cs.length=x.cells.length∧(∀(i:Nat) (d:D) (c:Value),x.cells[i]? =some d→cs[i]? =some c→Rp S lo w ow .sh d c)∧zCK x v cs:=by
 cases x with
 |v x=>
  cases x with
  |c d=>
   refine⟨[v],rfl,fun i d' c' hd hc=> ?_, .inl ⟨d,v,rfl,rfl,rfl⟩⟩
   simp only [XT.cells,VT.cells]at hd
   cases i with
   |succ i=>simp at hd
   |zero=>simp at hd hc;subst hd;subst hc;exact h
  |agg ds=>
   simp only [Vb,Ym]at h
   obtain⟨cs,rfl,hr⟩:=h
   obtain⟨h1,h2⟩:=ZK hr
   exact⟨cs,h1,h2, .inr (.inl ⟨ds,rfl,rfl⟩)⟩
  |fn f ds=>
   simp only [Vb,Ym]at h
   obtain⟨cs,rfl,hr⟩:=h
   obtain⟨h1,h2⟩:=ZK hr
   exact⟨cs,h1,h2, .inr (.inr (.inl ⟨f,ds,rfl,rfl⟩))⟩
 |clo f ds=>
  simp only [Vb]at h
  obtain⟨cs,rfl,hr,hb⟩:=h
  obtain⟨h1,h2⟩:=ZK hr
  exact⟨cs,h1,h2, .inr (.inr (.inr (.inl ⟨f,ds,rfl,rfl,hb⟩)))⟩
 |ref d=>
  simp only [Vb]at h
  obtain⟨c,rfl,hr,hb⟩:=h
  refine⟨[c],rfl,fun i d' c' hd hc=> ?_, .inr (.inr (.inr (.inr ⟨d,c,rfl,rfl,rfl,hb⟩)))⟩
  simp only [XT.cells]at hd
  cases i with
  |succ i=>simp at hd
  |zero=>simp at hd hc;subst hd;subst hc;exact hr
theorem zMg {S:TypeId→Nat}{w:World}{ow:Nat→Option Pl}{d:D}{c:Value}(h:Rp S lo w ow .sh d c)(hb:bxD d): ∃b o n k,c= .slice (some ⟨b,o,none⟩) n k:=by
 cases d with
 |int k n=>exact hb.elim
 |bool b=>exact hb.elim
 |hole=>exact hb.elim
 |lst e xs=>
  obtain⟨vs,⟨h1,n,h2,A,k,rfl,h3,h4,h5⟩,-⟩:=(zy _ _).1 h
  have hn:n≠0:=fun e0=>hb (List.eq_nil_of_length_eq_zero (by rw [h2,e0,Nat.zero_mul]))
  obtain⟨b,o,rfl,-⟩:=h5 hn
  exact⟨b,o,n,k,rfl⟩
theorem zAB (i:Nat): ∀(ds:List D) (j:Nat),(epL i j ds).length=ds.length
 | [],_=>rfl
 |_::ds,j=>by simp [epL,zAB i ds]
theorem zHH (i:Nat): ∀(ds:List D) (j k:Nat) (v:AV),(epL i j ds)[k]? =some v→v= .ep (zc i (j+k)) [] 0
 | [],j,k,v,h=>by simp [epL]at h
 |_::ds,j,k,v,h=>by
  cases k with
  |zero=>simp [epL]at h;exact h.symm
  |succ k=>have :=zHH i ds (j+1) k v (by simpa [epL]using h);rwa [show j+1+k=j+(k+1)from by omega]at this
theorem zCa {n:Nat}{args:List XT}{cargs:List Value}(hs:szX τ args)(hfew:fewX args=true)(hn:args.length≤n)(h:Xm (sz τ) w.heap.size w (fun _=>none) args cargs):
  ∃hd,zl τ w.heap.size (.plain w) (fun _=>none) hd (fun _=>0) (Zj τ n args) {tmps:=cargs.toArray++Array.replicate (n - cargs.toArray.size) undef,defers:= []} w:=by
 obtain⟨hl,hargs⟩:=zAl h
 have hch: ∀m:Nat,∃cs:List Value,∀(x:XT) (v:Value),args[m]? =some x→cargs[m]? =some v→cs.length=x.cells.length∧(∀(i:Nat) (d:D) (c:Value),x.cells[i]? =some d→cs[i]? =some c→Rp (sz τ) w.heap.size w (fun _=>none) .sh d c)∧zCK x v cs:=fun m=>by
  cases hx:args[m]? with
  |none=>exact⟨[],fun x v h=>by cases h⟩
  |some x=>
   cases hv:cargs[m]? with
   |none=>exact⟨[],fun x v _ h=>by cases h⟩
   |some v=>
    obtain⟨cs,h1,h2,h3⟩:=zFo (hargs m x v hx hv)
    exact⟨cs,fun x' v' hx' hv'=>by cases hx';cases hv';exact⟨h1,h2,h3⟩⟩
 let css:=fun m=>(hch m).choose
 have hcss: ∀(m:Nat) (x:XT) (v:Value),args[m]? =some x→cargs[m]? =some v→(css m).length=x.cells.length∧(∀(i:Nat) (d:D) (c:Value),x.cells[i]? =some d→(css m)[i]? =some c→Rp (sz τ) w.heap.size w (fun _=>none) .sh d c)∧zCK x v (css m):=fun m=>(hch m).choose_spec
 let hd:Nat→Value:=fun d=>(css (d / 16)).getD (d%16) undef
 have h16: ∀(m:Nat) (x:XT),args[m]? =some x→x.cells.length≤16:=fun m x hx=>by have :=List.all_eq_true.1 hfew x (List.mem_of_getElem? hx);simpa using this
 have hhd: ∀(m:Nat) (x:XT) (v:Value) (i:Nat) (c:Value),args[m]? =some x→cargs[m]? =some v→(css m)[i]? =some c→hd (zc m i)=c:=fun m x v i c hx hv hc=>by
  have hi:i<16:=by have :=(hcss m x v hx hv).1;have :=h16 m x hx;have :=(List.getElem?_eq_some_iff.1 hc).1;omega
  have e1:zc m i / 16=m:=by unfold zc;omega
  have e2:zc m i%16=i:=by unfold zc;omega
  simp only [hd,e1,e2]
  rw [List.getD_eq_getElem?_getD,hc]
  rfl
 refine⟨hd,fun j ad hj had=>(by simp [Fz.plain]at had),rfl,?_,Nat.le_refl _,xR.start (.plain w),fun b p _ h=>(by cases h),fun b _=>rfl,fun k v hv=> ?_,fun d R hR=> ?_,fun t vs hv=>by simp [Zj,lk]at hv,fun d R i hR hp=> ?_⟩
 ·simp [Zj,hl];omega
 ·obtain⟨m,x,h1,h2,h3⟩:=Kd args 0 k v hv
  rw [Nat.zero_add]at h2
  subst h2;subst h3
  have hm:k<cargs.length:=by rw [hl];exact(List.getElem?_eq_some_iff.1 h1).1
  have hget:(cargs.toArray++Array.replicate (n - cargs.toArray.size) undef).getD k undef=cargs[k]:=by
   rw [Array.getD_eq_getD_getElem?,Array.getElem?_append_left (by simpa using hm)]
   simp [hm]
  have hv':cargs[k]? =some cargs[k]:=List.getElem?_eq_getElem hm
  obtain⟨c1,c2,c3⟩:=hcss k x _ h1 hv'
  have hsx:szL τ x.cells:=hs x (List.mem_of_getElem? h1)
  have hres:=vL (τ:=τ) (lo:=w.heap.size) (w:=w) (ow:=fun _=>none) (hd:=hd) (bk:=fun _=>0) (rr:=(Zj τ n args).r) (bb:=(Zj τ n args).b) k x.cells 0 (css k) c1 hsx (fun i d c hd hc=>⟨_,c2 i d c hd hc⟩) (fun i e xs c _ hc=>by
   rw [Nat.zero_add];exact hhd k x _ i c h1 hv' hc)
  have hep: ∀(i:Nat) (d:D) (c:Value),x.cells[i]? =some d→(css k)[i]? =some c→bxD d→AvR τ w (Zj τ n args).r (Zj τ n args).b hd (fun _=>0) (.ep (zc k i) [] 0) (VS c):=fun i d c hd' hc hb=>by
   obtain⟨b,o,nn,kk,rfl⟩:=zMg (c2 i d c hd' hc) hb
   simp only [AvR,VS]
   refine⟨⟨_,rfl⟩,fun R _ _=>⟨b,o,nn,kk,?_,rfl⟩⟩
   simp only [yK,hhd k x _ i _ h1 hv' hc]
  rw [hget]
  rcases c3 with⟨d,c,rfl,hcs,hc⟩|⟨ds,rfl,hc⟩|⟨f,ds,rfl,hc⟩|⟨f,ds,rfl,hc,hb⟩|⟨d,c,rfl,hcs,hc,hb⟩
  ·simp only [XT.cells,VT.cells]at hres
   rw [hc]
   have e:yd τ k 0 [d]= [(yd τ k 0 [d]).headD .dead]:=by cases d<;>rfl
   rw [e,hcs]at hres
   simp only [ze]at hres
   obtain⟨y,ys,e1,h4,-⟩:=hres
   cases e1
   exact h4
  ·rw [hc];simp only [Jg,wZ,AvR];exact⟨_,rfl,hres⟩
  ·rw [hc];simp only [Jg,wZ,AvR];exact⟨_,rfl,hres⟩
  ·rw [hc];simp only [Jg,AvR]
   refine⟨_,rfl,zp.2 ⟨by rw [List.length_map,zAB];exact c1,fun i v x hv hx=> ?_⟩⟩
   have :=zHH k ds 0 i v hv
   subst this
   rw [List.getElem?_map]at hx
   cases hci:(css k)[i]? with
   |none=>rw [hci]at hx;cases hx
   |some c=>
    rw [hci]at hx;cases hx
    have hi:i<ds.length:=by have :=(List.getElem?_eq_some_iff.1 hv).1;rwa [zAB]at this
    rw [Nat.zero_add]
    exact hep i _ c (List.getElem?_eq_getElem hi) hci (hb _ (List.getElem_mem hi))
  ·rw [hc]
   simp only [Jg]
   exact hep 0 d c rfl (by rw [hcs];rfl) hb
 ·obtain⟨m,x',k,h1,h2,h3,h4⟩:=Zl _ 0 d R hR
  rw [Nat.zero_add]at h4
  rw [List.getElem?_map]at h1
  cases hx:args[m]? with
  |none=>rw [hx]at h1;cases h1
  |some x=>
   rw [hx]at h1
   simp only [Option.map_some,Option.some.injEq]at h1
   subst h1
   simp only [VT.cells]at h2
   have hm:m<cargs.length:=by rw [hl];exact(List.getElem?_eq_some_iff.1 hx).1
   obtain⟨c1,c2,-⟩:=hcss m x _ hx (List.getElem?_eq_getElem hm)
   have hk:k<(css m).length:=by rw [c1];exact(List.getElem?_eq_some_iff.1 h2).1
   rw [h3,h4,hhd m x _ k _ hx (List.getElem?_eq_getElem hm) (List.getElem?_eq_getElem hk)]
   exact c2 k _ _ h2 (List.getElem?_eq_getElem hk)
 ·rw [wq _ 0 d R hR]at hp;cases hp
theorem QW (hτ:zz P τ)(hpos:yW τ){f:FuncId}{fn:Func}{c:Code}{rs:List ResultVar}{args:List XT}{ress:List VT}(hfn:P.funcs[f]? =some fn)(hname:(fn.name== "runtime.NumGoroutine")=false)(hb:fn.body=some c)(hres:fn.results=rs.toArray)(hn:args.length≤fn.ntmps)(hfew:fewX args=true)(hs:szX τ args)
  (h:awp P τ c (RetR τ rs ress) (Zj τ fn.ntmps args)):FnX P τ f args ress:=by
 refine⟨⟨fn,hfn,hname,by rw [hb];rfl⟩,fun w cargs hargs=> ?_⟩
 obtain⟨hd0,hst0⟩:=zCa hs hfew hn hargs
 have hstart:Rel τ w.heap.size (.plain w) (Zj τ fn.ntmps args) {tmps:=cargs.toArray++Array.replicate (fn.ntmps - cargs.toArray.size) undef,defers:= []} w:=⟨_,_,_,hst0⟩
 refine calls_of_wp hfn hb (Go.wp_mono (h w.heap.size (.plain w) _ w hstart) fun e a' w' ⟨st',⟨ow,hd,bk,hr⟩,he,hret0⟩=> ?_)
 have hpost:a'.defers= []∧∃v,(results fn a'.tmps).run P w'= .ok v w'∧Jy τ w ress (.returned v) w':=by
  split at hret0
  ·rename_i avs ob0 hrv
   obtain⟨hob0,hret⟩:=hret0
   obtain⟨xs,hrun,hv⟩:=vU hτ hpos hr hres hrv hob0
   refine⟨hr.defers,_,hrun,?_⟩
   unfold zd at hret
   split at hret
   ·rename_i us hus
    split at hret
    ·rename_i is ob hcells
     obtain⟨cs,k1,k2⟩:=vC (S:=sz τ) (lo:=w.heap.size) (ow:=xV ow is) 0 hus hv
     obtain⟨m1,m2⟩:=vQ hr hcells hret.2 hret.1 k1
     refine⟨_,xV ow is,rfl,hr.below.to_below,fun b hlt=> ?_,fun b p hp=> ?_,k2 m1 fun i d c hd hc=>by rw [Nat.zero_add];exact m2 i d c hd hc⟩
     ·unfold xV
      split
      ·rename_i d q ho
       have :=(hr.ge b _ (by have :=hr.below.to_below.size;omega) ho (by simp)).1
       omega
      ·rfl
     ·unfold xV at hp
      split at hp
      ·rename_i d q ho
       split at hp
       ·cases hp
        refine⟨?_,by simp⟩
        rcases Nat.lt_or_ge b w'.heap.size with h'|h'
        ·exact h'
        ·rw [hr.new b h']at ho;cases ho
       ·cases hp
      ·cases hp
    ·exact hret.elim
   ·exact hret.elim
  ·exact hret0.elim
 rcases he with rfl|rfl<;>exact hpost
def ZM (τ:Ty)(e1:TypeId)(st:St):AV→Option (D×Prop)
 | .ep d [] 0=>match lk st.r d with
  |some R=>some (.lst R.e R.xs,R.xs≠ [])
  |none=>none
 | .bp t 0=>match lk st.b t with
  |some cs=>(xM τ st cs).map fun x=>(.lst e1 x.1,x.2∧x.1≠ []∧x.1.length≤65536)
  |none=>none
 |_=>none
def XX (τ:Ty)(e1:TypeId)(st:St):List AV→Option (List D×Prop)
 | []=>some ([],True)
 |v::vs=>match ZM τ e1 st v,XX τ e1 st vs with
  |some (d,p),some (ds,q)=>some (d::ds,p∧q)
  |_,_=>none
def Ys (τ:Ty)(e1:TypeId)(st:St)(t:TypeId):AV→Option (XT×Prop)
 | .fn f vs=>(XX τ e1 st vs).map fun x=>(.clo f x.1,x.2)
 | .ep d p i=>(ZM τ e1 st (.ep d p i)).map fun x=>(.ref x.1,x.2)
 | .bp b i=>(ZM τ e1 st (.bp b i)).map fun x=>(.ref x.1,x.2)
 |v=>(vg τ st t v).map fun x=>(.v x.1,x.2)
def ZL (τ:Ty)(e1:TypeId)(st:St):List TypeId→List AV→Option (List XT×Prop)
 |_,[]=>some ([],True)
 |ts,v::vs=>match Ys τ e1 st (ts.headD 0) v,ZL τ e1 st ts.tail vs with
  |some (d,p),some (ds,q)=>some (d::ds,p∧q)
  |_,_=>none
theorem kC (h:zl τ lo w0 ow hd bk st a w){e1:TypeId}(h1:sz τ e1=1)(lo':Nat){v:AV}{x:Value}(hv:AvR τ w st.r st.b hd bk v x){d:D}{ob:Prop}(he:ZM τ e1 st v=some (d,ob))(hob:ob):
  ∃c,x=VS c∧Rp (sz τ) lo' w (fun _=>none) .sh d c∧bxD d:=by
 unfold ZM at he
 split at he
 ·rename_i k
  cases hR:lk st.r k with
  |none=>rw [hR]at he;cases he
  |some R=>
   rw [hR]at he
   simp only [Option.some.injEq,Prod.mk.injEq]at he
   obtain⟨rfl,rfl⟩:=he
   simp only [AvR]at hv
   obtain⟨b,o,n,c,hin,rfl⟩:=hv.2 R hR trivial
   simp only [yK,Option.some.injEq]at hin
   refine⟨hd k,by rw [hin];rfl,?_,hob⟩
   exact zBp (lo:=lo) (QY _ _ (ow':=fun _=>none) _ _ _ (fun _ _ _=>rfl) (h.root k R hR))
 ·rename_i t
  cases hB:lk st.b t with
  |none=>rw [hB]at he;cases he
  |some cs=>
   rw [hB]at he
   dsimp only at he
   cases hc:xM τ st cs with
   |none=>rw [hc]at he;cases he
   |some y=>
    rw [hc]at he
    simp only [Option.map_some,Option.some.injEq,Prod.mk.injEq]at he
    obtain⟨rfl,rfl⟩:=he
    obtain⟨q1,q2,q3⟩:=hob
    obtain⟨vs,ty,hg,-,hvs⟩:=h.box t cs hB
    simp only [AvR]at hv
    have hx:=hv.2 ⟨cs,hB⟩
    subst hx
    obtain⟨k1,k2⟩:=ZK (ZN h lo' hvs hc q1)
    have hlt:bk t<w.heap.size:=(Array.getElem?_eq_some_iff.1 hg).1
    refine⟨.slice (some ⟨bk t,0,none⟩) vs.length vs.length,rfl,(zy _ _).2 ⟨vs,⟨k1,vs.length,by rw [h1,Nat.mul_one,k1],_,_,rfl,Nat.le_refl _,by rw [k1];unfold maxLen;omega,fun _=>⟨bk t,0,rfl,hlt,rfl,fun i u hu=> ?_⟩⟩,fun i x u hx hu=>k2 i x u hx hu⟩,q2⟩
    rw [Nat.zero_add,cell_of_row w (bk t) i _ _ _ hg]
    simpa using hu
 ·cases he
theorem KH (h:zl τ lo w0 ow hd bk st a w){e1:TypeId}(h1:sz τ e1=1)(lo':Nat): ∀{vs:List AV} {xs:List Value} {ds:List D} {ob:Prop},ze τ w st.r st.b hd bk vs xs→XX τ e1 st vs=some (ds,ob)→ob→
  ∃cs:List Value,xs=cs.map VS∧RpS (sz τ) lo' w (fun _=>none) ds cs∧∀d∈ds,bxD d
 | [],xs,ds,ob,hv,he,hob=>by
  simp only [XX,Option.some.injEq,Prod.mk.injEq]at he
  obtain⟨rfl,rfl⟩:=he
  simp only [ze]at hv
  exact⟨[],by simp [hv],by simp [RpS],fun d hd=>by simp at hd⟩
 |v::vs,xs,ds,ob,hv,he,hob=>by
  simp only [ze]at hv
  obtain⟨x,xs',rfl,h2,h3⟩:=hv
  simp only [XX]at he
  split at he
  ·rename_i d p ds' q e1' e2'
   simp only [Option.some.injEq,Prod.mk.injEq]at he
   obtain⟨rfl,rfl⟩:=he
   obtain⟨c,rfl,r1,r2⟩:=kC h h1 lo' h2 e1' hob.1
   obtain⟨cs,rfl,r3,r4⟩:=KH h h1 lo' h3 e2' hob.2
   refine⟨c::cs,rfl,by simp only [RpS];exact⟨c,cs,rfl,r1,r3⟩,fun d hd=> ?_⟩
   rcases List.mem_cons.1 hd with rfl|hd
   ·exact r2
   ·exact r4 d hd
  ·cases he
theorem zF3 (h:zl τ lo w0 ow hd bk st a w){e1:TypeId}(h1:sz τ e1=1)(lo':Nat){t:TypeId}{v:AV}{x:Value}(hv:AvR τ w st.r st.b hd bk v x){d:XT}{ob:Prop}(he:Ys τ e1 st t v=some (d,ob))(hob:ob):Vb (sz τ) lo' w (fun _=>none) d x:=by
 have plain:((vg τ st t v).map fun x=>(XT.v x.1,x.2))=some (d,ob)→Vb (sz τ) lo' w (fun _=>none) d x:=fun he=>by
  cases hc:vg τ st t v with
  |none=>rw [hc]at he;cases he
  |some y=>
   rw [hc]at he
   simp only [Option.map_some,Option.some.injEq,Prod.mk.injEq]at he
   obtain⟨rfl,rfl⟩:=he
   exact jv h lo' hv hc hob
 have bx:((ZM τ e1 st v).map fun x=>(XT.ref x.1,x.2))=some (d,ob)→Vb (sz τ) lo' w (fun _=>none) d x:=fun he=>by
  cases hc:ZM τ e1 st v with
  |none=>rw [hc]at he;cases he
  |some y=>
   rw [hc]at he
   simp only [Option.map_some,Option.some.injEq,Prod.mk.injEq]at he
   obtain⟨rfl,rfl⟩:=he
   exact kC h h1 lo' hv hc hob
 cases v with
 |fn f vs=>
  simp only [Ys]at he
  cases hc:XX τ e1 st vs with
  |none=>rw [hc]at he;cases he
  |some y=>
   rw [hc]at he
   simp only [Option.map_some,Option.some.injEq,Prod.mk.injEq]at he
   obtain⟨rfl,rfl⟩:=he
   simp only [AvR]at hv
   obtain⟨cs,rfl,hr⟩:=hv
   obtain⟨cs',rfl,r1,r2⟩:=KH h h1 lo' hr hc hob
   exact⟨cs',rfl,r1,r2⟩
 |ep d p i=>exact bx he
 |bp t i=>exact bx he
 |agg vs=>exact plain he
 |nil=>exact plain he
 |int k n=>exact plain he
 |bool b=>exact plain he
 |sl d p off len e=>exact plain he
 |tup vs=>exact plain he
 |dead=>exact plain he
 |raw u=>exact plain he
theorem jw (h:zl τ lo w0 ow hd bk st a w){e1:TypeId}(h1:sz τ e1=1)(lo':Nat): ∀{vs:List AV} {xs:List Value} {ts:List TypeId} {ds:List XT} {ob:Prop},ze τ w st.r st.b hd bk vs xs→ZL τ e1 st ts vs=some (ds,ob)→ob→Xm (sz τ) lo' w (fun _=>none) ds xs
 | [],xs,ts,ds,ob,hv,he,hob=>by
  simp only [ZL,Option.some.injEq,Prod.mk.injEq]at he
  obtain⟨rfl,rfl⟩:=he
  simpa only [ze,Xm]using hv
 |v::vs,xs,ts,ds,ob,hv,he,hob=>by
  simp only [ze]at hv
  obtain⟨x,xs',rfl,h2,h3⟩:=hv
  simp only [ZL]at he
  split at he
  ·rename_i d p ds' q e1' e2'
   simp only [Option.some.injEq,Prod.mk.injEq]at he
   obtain⟨rfl,rfl⟩:=he
   simp only [Xm]
   exact⟨x,xs',rfl,zF3 h h1 lo' h2 e1' hob.1,jw h h1 lo' h3 e2' hob.2⟩
  ·cases he
def Zq (st:St)(o:Oper):Option (FuncId×List AV×List TypeId):=
 match o.op with
 | .call c=>match c.callee with
  | .value x=>match ev st x with
   | .fn f vs=>some (f,c.args.toList.map (ev st)++vs,c.argTypes.toList)
   |_=>none
  |_=>none
 |_=>none
def WG (P:Program)(τ:Ty)(e1:TypeId)(o:Oper)(K:St→Prop)(st:St):Prop:=
 match Zq st o with
 |some (f,vs,ts)=>
  match ZL τ e1 st ts vs with
  |some (as,ob)=>ob∧∃ress,FnX P τ f as ress∧szL τ (zr ress)∧K ((yf (zw o) 0 (zr ress) st).put o.dst (qJ (xO τ (zw o) 0 ress)))
  |none=>False
 |none=>False
theorem zGA (h:zl τ lo w0 ow hd bk st a w){o:Oper}{f:FuncId}{vs:List AV}{ts:List TypeId}(hc:Zq st o=some (f,vs,ts))(hcl:vp P f):
  ∃xs:List Value,ze τ w st.r st.b hd bk vs xs∧(execOp a.eval o).run P w= .ok (.enter f xs.toArray) w:=by
 obtain⟨fn,hfn,hname,hbody⟩:=hcl
 obtain⟨dst,op,oty,pos,after,guard⟩:=o
 unfold Zq at hc
 simp only at hc
 split at hc
 ·rename_i c
  split at hc
  ·rename_i x hcal
   split at hc
   ·rename_i f' us hev
    cases hc
    obtain⟨callee,args,ats⟩:=c
    simp only at hcal
    subst hcal
    have hx:=zk h x
    rw [hev]at hx
    simp only [AvR]at hx
    obtain⟨cs,hcs,hr⟩:=hx
    refine⟨args.toList.map a.eval++cs,vo (zp.2 ⟨by simp,fun i v y hv hy=> ?_⟩) hr,?_⟩
    ·rw [List.getElem?_map]at hv hy
     cases hk:args.toList[i]? with
     |none=>rw [hk]at hv;cases hv
     |some p=>rw [hk]at hv hy;cases hv;cases hy;exact zk h p
    ·have h1: ¬fn.name= "runtime.NumGoroutine" :=by simpa using hname
     have h2: ¬fn.body=none:=by cases hb:fn.body with
      |none=>rw [hb]at hbody;simp at hbody
      |some c=>simp
     have h3:Array.map a.eval args++cs.toArray=(args.toList.map a.eval++cs).toArray:=by cases args;simp
     have h4:(Deferred.ofValue (a.eval x) (args.map a.eval))=(pure {target:= .fn (.func f) cs.toArray,args:=args.map a.eval}:Sem Deferred):=by
      rw [hcs];simp [Deferred.ofValue]
     simp only [execOp,resolve,h4,pure_bind,invoke]
     unfold callFunc
     simp [hfn,h1,h2,h3]
   ·cases hc
  ·cases hc
 ·cases hc
theorem KB {e1:TypeId}(h1:sz τ e1=1){o:Oper}{K:St→Prop}{Q:Exit→Act→World→Prop}{K':Act→World→Prop}(hd: ∀k,o.dst=some k→k<a.tmps.size)(h:Rel τ lo w0 st a w)(ha:WG P τ e1 o K st)
  (hK: ∀st' x w',K st'→Rel τ lo w0 st' (a.put o.dst x) w'→K' (a.put o.dst x) w'):o.wp P a w K' Q:=by
 obtain⟨ow,hd',bk,hr⟩:=h
 unfold WG at ha
 split at ha
 ·rename_i f vs ts hc
  split at ha
  ·rename_i as ob hargs
   obtain⟨hob,ress,⟨hcl,hcall⟩,hsz,hK1⟩:=ha
   obtain⟨xs,hxs,hexec⟩:=zGA hr hc hcl
   have hA:=jw hr h1 w.heap.size hxs hargs hob
   have hC:=hcall w _ hA
   unfold Oper.wp
   rw [hexec]
   simp only [Oper.upon]
   refine hC.mono fun e w' hpost=> ?_
   obtain⟨z,ow',hd2,he,r1,r2⟩:=QB hr (t:=zw o) hsz hpost
   subst he
   exact hK _ z w' hK1 (xQ r1 hd r2)
  ·exact ha.elim
 ·exact ha.elim
def mkF (o:Oper):Option (FuncId×List Operand):=
 match o.op with
 | .makeFunc (.func f) first caps=>if first.size=0 then some (f,caps.toList)else none
 |_=>none
theorem Kh (h:zl τ lo w0 ow hd bk st a w){o:Oper}{f:FuncId}{caps:List Operand}(hm:mkF o=some (f,caps)):
  ∃z,(execOp a.eval o).run P w= .ok (.value z) w∧AvR τ w st.r st.b hd bk (.fn f (caps.map (ev st))) z:=by
 obtain⟨dst,op,oty,pos,after,guard⟩:=o
 unfold mkF at hm
 simp only at hm
 split at hm
 ·rename_i f' first caps'
  split at hm
  ·rename_i h0
   cases hm
   have hf:first= #[]:=Array.eq_empty_of_size_eq_zero h0
   subst hf
   refine⟨.func (.func f) #[] (caps'.map a.eval),?_,?_⟩
   ·simp [execOp,Instr.makeFunc]
   ·simp only [AvR]
    refine⟨caps'.toList.map a.eval,by cases caps';simp,zp.2 ⟨by simp,fun i v y hv hy=> ?_⟩⟩
    rw [List.getElem?_map]at hv hy
    cases hk:caps'.toList[i]? with
    |none=>rw [hk]at hv;cases hv
    |some p=>rw [hk]at hv hy;cases hv;cases hy;exact zk h p
  ·cases hm
 ·cases hm
def Wz (P:Program)(τ:Ty)(al:List Nat)(t:Nat)(e1:TypeId)(K:St→Prop):List Oper→St→Prop
 | [],st=>K st
 |o::os,st=>
  match o.guard with
  |none=>
   match mkF o with
   |some (f,caps)=>Wz P τ al t e1 K os (st.put o.dst (.fn f (caps.map (ev st))))
   |none=>if o.dst=some t then WG P τ e1 o (Wz P τ al t e1 K os) st else aop P τ al o (Wz P τ al t e1 K os) st
  |some (j,want)=>False
theorem XF (hτ:zz P τ)(hpos:yW τ){al:List Nat}{t:Nat}{e1:TypeId}(h1:sz τ e1=1){all:List Oper}{K:St→Prop}{Q:Exit→Act→World→Prop}(hQ: ∀st a w,K st→Rel τ lo w0 st a w→Q .normal a w):
  ∀(os:List Oper) (st:St) (a:Act) (w:World),yv a.tmps.size os=true→Rel τ lo w0 st a w→Wz P τ al t e1 K os st→wpList P all.toArray Q os a w
 | [],st,a,w,_,h,ha=>wpList_nil (hQ st a w ha h)
 |o::os,st,a,w,hd,h,ha=>by
  have hd1: ∀k,o.dst=some k→k<a.tmps.size:=fun k hk=>by
   have :=List.all_eq_true.1 hd o (by simp)
   rw [hk]at this
   simpa using this
  have hd2:yv a.tmps.size os=true:=List.all_eq_true.2 fun x hx=>List.all_eq_true.1 hd x (by simp [hx])
  refine wpList_step fun K' hK'=> ?_
  simp only [Wz]at ha
  split at ha
  ·rename_i hg
   rw [if_pos (by simp [Region.wanted,hg])]
   split at ha
   ·rename_i f caps hm
    obtain⟨ow,hd',bk,hr⟩:=h
    obtain⟨z,hz,hv⟩:=Kh (P:=P) hr hm
    unfold Oper.wp
    rw [hz]
    exact hK' _ _ (XF hτ hpos h1 hQ os _ _ w (by rw [yw];exact hd2) (xQ hr hd1 hv) ha)
   ·split at ha
    ·exact KB h1 hd1 h ha fun st' x w' h2 h3=>hK' _ _ (XF hτ hpos h1 hQ os st' _ w' (by rw [yw];exact hd2) h3 h2)
    ·exact wo hτ hpos hd1 h ha fun st' x w' h2 h3=>hK' _ _ (XF hτ hpos h1 hQ os st' _ w' (by rw [yw];exact hd2) h3 h2)
  ·exact ha.elim
end
theorem qh {P:Program}{τ:Ty}{Q:Exit→St→Prop}{st:St}(t:Nat)(e1:TypeId)(h1:sz τ e1=1)(hτ:zz P τ)(hpos:yW τ)(al:List Nat){id:Nat}{ops:List Oper}(hd:yv st.n ops=true)(h:Wz P τ al t e1 (Q .normal) ops st):awp P τ (.region id ops.toArray false) Q st:=fun lo w0 a w hr=>by
 have hn:a.tmps.size=st.n:=by obtain⟨ow,hd,bk,h⟩:=hr;exact h.size
 refine wp_region_lit (XF hτ hpos h1 (fun st a w h1 h2=>⟨st,h2,h1⟩) ops st a w (by rw [hn];exact hd) hr h)
section
variable {P:Program} {τ:Ty} {lo:Nat} {w0:Fz} {ow:Nat→Option Pl} {hd:Nat→Value} {bk:Nat→Nat} {st:St} {a:Act} {w:World}
end
section
variable {P:Program} {τ:Ty} {lo:Nat} {w0:Fz} {ow:Nat→Option Pl} {hd:Nat→Value} {bk:Nat→Nat} {st:St} {a:Act} {w:World}
def St.moveTo (e:TypeId)(t h:Nat)(st:St):St:=
 let y:=hom [] (.sl e) st h (ev st (.tmp t))
 y.1.put (some t) y.2.1
theorem zJy {t:Nat}(hsz:t<a.tmps.size):a.put (some t) (a.eval (.tmp t))=a:=by
 unfold Act.put Act.eval
 simp only
 congr 1
 apply Array.ext_getElem?
 intro i
 rw [Array.getElem?_setIfInBounds]
 split
 ·rename_i e;subst e
  first
   |(rw [if_pos hsz,Array.getD_eq_getD_getElem?,Array.getElem?_eq_getElem hsz];rfl)
   |(rw [Array.getD_eq_getD_getElem?,Array.getElem?_eq_getElem hsz];simp)
   |(simp [hsz])
 ·rfl
theorem zF4 (e:TypeId)(t h:Nat)(ht:t<st.n){c:Code}{Q:Exit→St→Prop}(hK:awp P τ c Q (st.moveTo e t h)):awp P τ c Q st:=fun lo w0 a w hr=>by
 obtain⟨ow,hd,bk,hrr⟩:=hr
 have hx:=zk hrr (.tmp t)
 obtain⟨ow',hd',r1,r2,-,-⟩:=VL hrr [] (.sl e) h hx
 have hsz:t<a.tmps.size:=by rw [hrr.size];exact ht
 have hrel:=xQ (d:=some t) r1 (fun k hk=>by cases hk;exact hsz) r2
 rw [zJy hsz]at hrel
 exact hK lo w0 a w hrel
def zAY :List (Nat×zq)→List (Nat×zq)
 | []=> []
 |(d,R)::l=>(d,⟨R.o,R.e,R.xs,some d⟩)::zAY l
theorem WV : ∀(l:List (Nat×zq)) (d:Nat),lk (zAY l) d=(lk l d).map fun R=>⟨R.o,R.e,R.xs,some d⟩
 | [],d=>rfl
 |(k,R)::l,d=>by
  simp only [zAY,zi]
  split
  ·rename_i e;subst e;rfl
  ·exact WV l d
def wt (τ:Ty)(n:Nat)(args:List VT):St:={n:=n,s:=wI τ 0 args,b:= [],r:=zAY (xX 0 args)}
theorem zCZ {n:Nat}{args:List VT}{cargs:List Value}(hs:szA τ args)(hfew:few args=true)(hn:args.length≤n)(h:ZH (sz τ) w.heap.size w (fun _=>none) args cargs):
  zl τ w.heap.size ⟨w,fun _=>True,fun id=>some (yO cargs id)⟩ (fun _=>none) (yO cargs) (bk0 (yO cargs)) (wt τ n args) {tmps:=cargs.toArray++Array.replicate (n - cargs.toArray.size) undef,defers:= []} w:=by
 have h0:=Vf hs hfew hn h
 have hD: ∀k,noB k=false→xL w w (Zp τ n args).r (wt τ n args).r (yO cargs) (yO cargs) k:=fun k _ R' hR'=>by
  simp only [wt,WV]at hR'
  cases hx:lk (xX 0 args) k with
  |none=>rw [hx]at hR';cases hR'
  |some R=>rw [hx]at hR';cases hR';exact⟨R,hx,rfl,fun p hp=>⟨hp,rfl⟩⟩
 have hB: ∀t,noB t=false→xK (Zp τ n args).b (wt τ n args).b (fun _=>0) (bk0 (yO cargs)) t:=fun t _ hl=>by
  obtain⟨cs,hl⟩:=hl
  simp [wt,lk]at hl
 refine⟨fun j ad hj had=>(by simp only [Option.some.injEq]at had;simp only [bk0];rw [show 1000000+j - 1=999999+j from by omega,had]),h0.defers,h0.size,h0.low,⟨h0.below.os,h0.below.tape,h0.below.output,h0.below.size,h0.below.block⟩,h0.ge,h0.new,fun k v hv=> ?_,fun k R' hR'=> ?_,fun t cs hcs=> ?_,fun k R' j hR' hp=> ?_⟩
 ·have :=xE (τ:=τ) hD hB v _ (h0.slot k v hv)
  rwa [vO]at this
 ·simp only [wt,WV]at hR'
  cases hx:lk (xX 0 args) k with
  |none=>rw [hx]at hR';cases hR'
  |some R=>rw [hx]at hR';cases hR';exact h0.root k R hx
 ·simp [wt,lk]at hcs
 ·simp only [wt,WV]at hR'
  cases hx:lk (xX 0 args) k with
  |none=>rw [hx]at hR';cases hR'
  |some R=>rw [hx]at hR';cases hR';cases hp;rfl
theorem uQ {rr:List (Nat×zq)}{bb:List (Nat×List AV)}: ∀{us:List AV} {cs:List Value} (m:Nat),ze τ w rr bb hd bk us cs→ze τ w rr bb hd bk (us.take m) (cs.take m)∧ze τ w rr bb hd bk (us.drop m) (cs.drop m)
 |us,cs,0,h=>by simpa [ze]using h
 | [],cs,m+1,h=>by simp only [ze]at h;subst h;simp [ze]
 |u::us,cs,m+1,h=>by
  simp only [ze]at h
  obtain⟨c,cs',rfl,h1,h2⟩:=h
  obtain⟨k1,k2⟩:=uQ m h2
  simp only [List.take_succ_cons,List.drop_succ_cons,ze]
  exact⟨⟨c,_,rfl,h1,k1⟩,k2⟩
theorem zGu {S:TypeId→Nat}{ow:Nat→Option Pl}: ∀{ds:List D} {cs:List Value} {j:Nat},cs.length=ds.length→(∀(i:Nat) (d:D) (c:Value),ds[i]? =some d→cs[i]? =some c→Rp S lo w ow (.ex (j+i) []) d c)→RpF S lo w ow j ds cs
 | [],cs,j,h,_=>by simp only [RpF];exact List.eq_nil_of_length_eq_zero (by simpa using h)
 |d::ds,[],j,h,_=>by simp at h
 |d::ds,c::cs,j,h,hr=>by
  simp only [RpF]
  refine⟨c,cs,rfl,by simpa using hr 0 d c rfl rfl,zGu (by simpa using h) fun i d' c' h1 h2=> ?_⟩
  have :=hr (i+1) d' c' (by simpa using h1) (by simpa using h2)
  rwa [show j+(i+1)=j+1+i from by omega]at this
end
def Us (τ:Ty)(T c:Nat)(o:Oper)(K:St→Prop)(st:St):Prop:=
 match o with
 |⟨some t, .call ⟨.builtin .append,args,ats⟩,_,_,_,none⟩=>
  match args.toList,ats.toList with
  | [X,Y],[t1,t2]=>
   t1=t2∧
   match Yo τ st t t1 (ev st X) (ev st Y),ev st X,lk st.b T with
   |some (δ,ob), .sl d [] 0 len e,some cells=>
    match cells[c]?,lk st.r d with
    |some (.sl d1 (j::q) off l1 e1),some R=>(d1==d)=true∧ob∧j<len*sz τ e∧zn R.xs (j::q)∧K ((st.app (some t) δ).setB T (cells.set c (.sl (zc t 0) (j::q) off l1 e1)))
    |_,_=>False
   |_,_,_=>False
  |_,_=>False
 |_=>False
mutual
def AV.ren (d k:Nat):AV→AV
 | .int j n=> .int j n
 | .bool b=> .bool b
 | .sl d' p off len e=>if d'=d then .sl k p off len e else if d'=k then .dead else .sl d' p off len e
 | .nil=> .nil
 | .ep d' p i=>if d'=d then .ep k p i else if d'=k then .dead else .ep d' p i
 | .bp t i=> .bp t i
 | .agg vs=> .agg (AV.renL d k vs)
 | .tup vs=> .tup (AV.renL d k vs)
 | .fn f vs=> .fn f (AV.renL d k vs)
 | .dead=> .dead
 | .raw u=> .raw u
def AV.renL (d k:Nat):List AV→List AV
 | []=> []
 |v::vs=>v.ren d k::AV.renL d k vs
end
def St.ren (d k:Nat)(st:St):St:=
 match lk st.r d with
 |some R=>⟨st.n,vx (AV.ren d k) st.s,vx (AV.renL d k) st.b,(k,R)::rm (is1 d) st.r⟩
 |none=>st
section
variable {P:Program} {τ:Ty} {lo:Nat} {w0:Fz} {ow:Nat→Option Pl} {hd:Nat→Value} {bk:Nat→Nat} {st:St} {a:Act} {w:World}
theorem zG3 (hτ:zz P τ)(h:zl τ lo w0 ow hd bk st a w){o:Oper}{t:Nat}{ty:TypeId}{X Y:Operand}(hrun: ∀v w',(Builtin.append_ #[ty,ty] o.type #[a.eval X,a.eval Y]).run P w= .ok v w'→(execOp a.eval o).run P w= .ok (.value v) w')
  (hf:yR (own t) st) {d len:Nat} {e:TypeId} (hx:ev st X= .sl d [] 0 len e) {δ:Dl} {ob:Prop} (he:Yo τ st t ty (.sl d [] 0 len e) (ev st Y)=some (δ,ob)) (hob:ob):
  ∃st1 v z w' ow' hd',(execOp a.eval o).run P w= .ok (.value z) w'∧zl τ lo w0 ow' hd' bk st1 a w'∧AvR τ w' st1.r st1.b hd' bk v z∧(∀dd,Cov (st1.put dd v) (st.app dd δ))∧
   xh st st1∧(∀T cells,lk st.b T=some cells→w'.heap[bk T]? =w.heap[bk T]?)∧
   ∀(R:zq) (j:Nat) (q:List Nat) (off l1:Nat) (e1:TypeId) (y:Value),lk st.r d=some R→j<len*sz τ e→zn R.xs (j::q)→AvR τ w st.r st.b hd bk (.sl d (j::q) off l1 e1) y→AvR τ w' st1.r st1.b hd' bk (.sl (zc t 0) (j::q) off l1 e1) y:=by
 unfold Yo at he
 split at he
 ·rename_i e0 b1 ht
  split at he
  ·rename_i kt by_ htk
   split at he
   ·rename_i hc
    obtain⟨hby,hz⟩:=hc
    split at he
    ·rename_i ds m ids ob' hsrc
     have hids: ∀d∈ids,own t (2*d)=false:=fun d hd=>hf.ev Y _ (zDv hsrc d hd)
     have hk:zc t 0∉ids:=fun hm=>by have :=hids _ hm;rw [yh (by omega)]at this;cases this
     simp only [YW]at he
     cases hR:lk st.r d with
     |none=>rw [hR]at he;cases he
     |some R=>
      rw [hR]at he
      simp only at he
      split at he
      ·rename_i hcc
       obtain⟨hsh,hRe,hee,hdi⟩:=hcc
       simp only [Option.some.injEq,Prod.mk.injEq]at he
       obtain⟨rfl,rfl⟩:=he
       have hex:=O3.own_ex hsh
       have hX:=zk h X
       rw [hx]at hX
       subst hee
       subst hRe
       obtain⟨hob',hle⟩:=hob
       simp only [AvR]at hX
       obtain⟨hv',hin,A,n,c,A',c',hnw,e1,e2,hle1,hlc,hmx,hf0,hA⟩:=hX.2 R hR (by simp [zn])
       simp only [yK,Option.some.injEq]at hin
       obtain⟨rfl,rfl⟩:=hf0 rfl
       rw [←hin]at e1
       obtain⟨ow1,news,r1,r2,r3,r4,r5,r6⟩:=Uk h (zk h Y) hsrc hob' hk (len*sz τ R.e)
       have hdi':ids.contains d=false:=by simpa using hdi
       have hR1:lk (st.delRs ids).r d=some R:=by
        simp only [St.delRs,xU]
        rw [if_neg (by simpa using hdi)]
        exact hR
       obtain⟨v',w',ow',q1,q2,q3,q4⟩:=KD (P:=P) (k:=zc t 0) (len:=len) (m:=m) (t:=ty) (ty:=o.type) hτ r1 (ZJ r1 d) (by simp [St.delR0,xU,is1]) hR1 (by rw [hex];simp) e1 (by omega) ht htk (Nat.pos_of_ne_zero hz) ds news (a.eval Y) r2 r3 r4 r5
        (fun i x u hx hu=>by
         have :=r6 i x u hx hu
         rw [hex]
         exact this) (by unfold maxLen;omega) (by
         have :(len+m)*by_≤1048576*1024:=Nat.mul_le_mul hle hby
         omega)
       rw [hex]at q2
       have hroot:=q2.root (zc t 0) ⟨.ex,R.e,R.xs.take (len*sz τ R.e)++ds,none⟩ (by simp only [St.addR,zi,if_true])
       rw [yB]at hroot
       obtain⟨A2,n2,c2,hv2,hlen',hnc2,hm2⟩:=xI hroot
       have hxl:R.xs.length=n*sz τ R.e:=by
        obtain⟨A3,n3,c3,e3,l3,-⟩:=xI (h.root d R hR)
        rw [e1]at e3;cases e3
        exact l3
       have hn2:n2=len+m:=by
        have hle3:len*sz τ R.e≤n*sz τ R.e:=Nat.mul_le_mul_right _ (by omega)
        rw [List.length_append,List.length_take,hxl,r4,r3,Nat.min_eq_left hle3,←Nat.add_mul]at hlen'
        exact(Nat.eq_of_mul_eq_mul_right (Nat.pos_of_ne_zero hz) hlen').symm
       have s1:xh st ((st.delRs ids).delR0 d):=⟨rfl,fun _=>rfl,fun _=>rfl⟩
       have s2:=KN (s1.free hf) (yh (t:=t) (j:=0) (by omega))
       have s3:=qo (s2.free (s1.free hf)) (yh (t:=t) (j:=0) (by omega)) ⟨.ex,R.e,R.xs.take (len*sz τ R.e)++ds,none⟩
       refine⟨_, .sl (zc t 0) [] 0 (len+m) R.e,v',w',ow',_,hrun v' w' (by rw [e2];exact q1),q2,?_,fun dd=>qZ (s1.trans (s2.trans s3)) rfl rfl fun j R' hR'=>zDl hR',s1.trans (s2.trans s3),fun T cells hT=> ?_,?_⟩
       ·subst hn2
        subst hv2
        simp only [AvR]
        refine⟨⟨_,_,_,rfl⟩,fun R' hR' hp=>⟨.slice A2 (len+m) c2,by simp only [yK,yB],A2,len+m,c2,A2,c2,nw0,rfl,rfl,by omega,hnc2,hm2,fun _=>⟨rfl,rfl⟩,fun hne0=> ?_⟩⟩
        obtain⟨vs,p1,p2⟩:=(zy _ _).1 hroot
        have hlenv:0<vs.length:=by
         rw [p1.1,hlen']
         exact Nat.mul_pos (by omega) (Nat.pos_of_ne_zero hz)
        obtain⟨b2,o2,n3,c3,hv3,-⟩:=qM p1 (List.getElem?_eq_getElem hlenv)
        cases hv3
        exact⟨b2,o2,rfl,by simp⟩
       ·obtain⟨cs,ty9,b1,b2,-⟩:=r1.box T cells hT
        exact q4 _ T (Array.getElem?_eq_some_iff.1 b1).1 b2
       ·intro R' j q off l1 e9 y hR' hj hp hy
        cases hR'
        simp only [AvR]at hy⊢
        refine⟨hy.1,fun R' hR' hp'=> ?_⟩
        obtain⟨hv9,hin9,hsub9⟩:=hy.2 R hR hp
        refine⟨hv9,?_,hsub9⟩
        rw [yB,q3 hex j q hj hp]
        exact hin9
      ·cases he
    ·cases he
   ·cases he
  ·cases he
 ·cases he
theorem zIf (h:zl τ lo w0 ow hd bk st a w){T:Nat}{us us':List AV}(hT:lk st.b T=some us)(hv: ∀cs:List Value,(∃ty,w.heap[bk T]? =some (.cells cs.toArray ty (0,0)))→ze τ w st.r st.b hd bk us cs→ze τ w st.r st.b hd bk us' cs):zl τ lo w0 ow hd bk (st.setB T us') a w:=by
 have hD: ∀d,noB d=false→xL w w st.r (st.setB T us').r hd hd d:=fun d _ R hR=>⟨R,hR,rfl,fun p hp=>⟨hp,rfl⟩⟩
 have hB: ∀t,noB t=false→xK st.b (st.setB T us').b bk bk t:=fun t _ ⟨cs,hl⟩=>by
  refine⟨?_,rfl⟩
  simp only [St.setB,zi]at hl
  split at hl
  ·rename_i e;subst e;exact⟨us,hT⟩
  ·exact⟨cs,hl⟩
 refine⟨h.big,h.defers,h.size,h.low,h.below,h.ge,h.new,fun k v hk=> ?_,h.root,fun t vs hvs=> ?_,h.pin⟩
 ·have :=xE (τ:=τ) hD hB v _ (h.slot k v hk)
  rwa [vO]at this
 ·simp only [St.setB,zi]at hvs
  split at hvs
  ·rename_i e;subst e;cases hvs
   obtain⟨cs,ty,k1,k2,k3⟩:=h.box T us hT
   have :=yE (τ:=τ) hD hB us' cs (hv cs ⟨ty,k1⟩ k3)
   rw [xG]at this
   exact⟨cs,ty,k1,k2,this⟩
  ·obtain⟨cs,ty,k1,k2,k3⟩:=h.box t vs hvs
   have :=yE (τ:=τ) hD hB vs cs k3
   rw [xG]at this
   exact⟨cs,ty,k1,k2,this⟩
theorem zIZ {rr:List (Nat×zq)}{bb:List (Nat×List AV)}{us:List AV}{cs:List Value}{c:Nat}{v:AV}(h:ze τ w rr bb hd bk us cs)(hv: ∀x,cs[c]? =some x→AvR τ w rr bb hd bk v x):ze τ w rr bb hd bk (us.set c v) cs:=by
 rw [zp]at h⊢
 refine⟨by rw [List.length_set];exact h.1,fun i u x hu hx=> ?_⟩
 rw [List.getElem?_set]at hu
 split at hu
 ·rename_i e;subst e
  split at hu
  ·cases hu;exact hv x hx
  ·cases hu
 ·exact h.2 i u x hu hx
theorem zF1 (hτ:zz P τ){T c:Nat}{o:Oper}(hd1: ∀k,o.dst=some k→k<a.tmps.size){K:St→Prop}{Q:Exit→Act→World→Prop}{K':Act→World→Prop}(h:Rel τ lo w0 st a w)(hf:yR (own (zw o)) st)(ha:Us τ T c o K st)
  (hK: ∀st' x w',K st'→Rel τ lo w0 st' (a.put o.dst x) w'→K' (a.put o.dst x) w'):o.wp P a w K' Q:=by
 obtain⟨dst,op,oty,pos,after,guard⟩:=o
 unfold Us at ha
 split at ha
 rotate_left
 ·exact ha.elim
 rename_i t args ats oty' pos' after' heq
 cases heq
 split at ha
 rotate_left
 ·exact ha.elim
 rename_i X Y t1 t2 hargs hats
 have e1:args= #[X,Y]:=by cases args;simp at hargs;subst hargs;rfl
 obtain⟨htt,ha⟩:=ha
 subst htt
 have e2:ats= #[t1,t1]:=by cases ats;simp at hats;subst hats;rfl
 subst e1;subst e2
 split at ha
 rotate_left
 ·exact ha.elim
 rename_i δ ob d len e cells happ hevx hlk
 split at ha
 rotate_left
 ·exact ha.elim
 rename_i d1 j q off l1 e1 R hcell hR
 obtain⟨hdd,hob,hj,hp,hK1⟩:=ha
 have hdd':d1=d:=by simpa using hdd
 subst hdd'
 obtain⟨ow,hd,bk,hr⟩:=h
 rw [hevx]at happ
 obtain⟨st1,v,z,w',ow',hd',r1,r2,r3,r4,r6,r7,r5⟩:=zG3 (o:=⟨some t, .call ⟨.builtin .append,#[X,Y],#[t1,t1]⟩,oty,pos,after,none⟩) hτ hr (fun v w' hr=>by simp [execOp,resolve,invoke,builtin,hr]) (hf:yR (own t) st) hevx happ hob
 have htl:=hd1 t rfl
 have hr6:=Ws r2 (some t) (fun k hk=>by cases hk;rw [←r2.size];exact htl) v z r3
 have hT:lk (st1.put (some t) v).b T=some cells:=by rw [show(st1.put (some t) v).b=st1.b from rfl,r6.b];exact hlk
 obtain⟨cs0,ty0,b1,b2,b3⟩:=hr.box T cells hlk
 have hr7:=zIf (us':=cells.set c (.sl (zc t 0) (j::q) off l1 e1)) hr6 hT (fun cs ⟨ty,hcs⟩ hav=>zIZ hav fun x hx=>by
  rw [r7 T cells hlk,b1]at hcs
  simp only [Option.some.injEq,Obj.cells.injEq]at hcs
  obtain⟨hcs,-⟩:=hcs
  have hcs:cs0=cs:=by simpa using hcs
  subst hcs
  exact r5 R j q off l1 e1 x hR hj hp ((zp.1 b3).2 c _ x hcell hx))
 unfold Oper.wp
 rw [r1]
 refine hK _ z w' hK1 (xg ⟨ow',hd',bk,hr7⟩ ?_)
 obtain⟨c0,c1,c2,c3⟩:=r4 (some t)
 refine⟨c0,c1,fun k u hu=> ?_,c3⟩
 simp only [St.setB,zi]at hu⊢
 split at hu
 ·rename_i e;rw [if_pos e];exact hu
 ·rename_i e
  rw [if_neg e]
  exact c2 k u hu
mutual
theorem zEr {rr:List (Nat×zq)}{bb bb':List (Nat×List AV)}{d k:Nat}{R:zq}(hR:lk rr d=some R)(hB: ∀t,(∃cs,lk bb' t=some cs)→∃cs,lk bb t=some cs): ∀(v:AV) (x:Value),AvR τ w rr bb hd bk v x→AvR τ w ((k,R)::rm (is1 d) rr) bb' (upd hd k (hd d)) bk (v.ren d k) x
 | .int j n,x,h=>by simpa only [AV.ren,AvR]using h
 | .bool b,x,h=>by simpa only [AV.ren,AvR]using h
 | .nil,x,h=>by simpa only [AV.ren,AvR]using h
 | .dead,x,h=>by simp only [AV.ren,AvR]
 | .raw u,x,h=>by simpa only [AV.ren,AvR]using h
 | .sl d' p off len e,x,h=>by
  simp only [AV.ren]
  split
  ·rename_i e0;subst e0
   simp only [AvR]at h⊢
   refine⟨h.1,fun R' hR' hp=> ?_⟩
   rw [zi,if_pos rfl]at hR';cases hR'
   rw [yB]
   exact h.2 R hR hp
  ·split
   ·simp only [AvR]
   ·rename_i h1 h2
    simp only [AvR]at h⊢
    refine⟨h.1,fun R' hR' hp=> ?_⟩
    rw [zi,if_neg (fun e=>h2 e.symm),xU]at hR'
    split at hR'
    ·cases hR'
    ·rw [yo _ _ h2];exact h.2 R' hR' hp
 | .ep d' p i,x,h=>by
  simp only [AV.ren]
  split
  ·rename_i e0;subst e0
   simp only [AvR]at h⊢
   refine⟨h.1,fun R' hR' hp=> ?_⟩
   rw [zi,if_pos rfl]at hR';cases hR'
   rw [yB]
   exact h.2 R hR hp
  ·split
   ·simp only [AvR]
   ·rename_i h1 h2
    simp only [AvR]at h⊢
    refine⟨h.1,fun R' hR' hp=> ?_⟩
    rw [zi,if_neg (fun e=>h2 e.symm),xU]at hR'
    split at hR'
    ·cases hR'
    ·rw [yo _ _ h2];exact h.2 R' hR' hp
 | .bp t i,x,h=>by
  simp only [AV.ren,AvR]at h⊢
  exact⟨h.1,fun hl=>h.2 (hB t hl)⟩
 | .agg vs,x,h=>by
  simp only [AV.ren,AvR]at h⊢
  obtain⟨cs,h1,h2⟩:=h
  exact⟨cs,h1,QU hR hB vs cs h2⟩
 | .tup vs,x,h=>by
  simp only [AV.ren,AvR]at h⊢
  obtain⟨cs,h1,h2⟩:=h
  exact⟨cs,h1,QU hR hB vs cs h2⟩
 | .fn f vs,x,h=>by
  simp only [AV.ren,AvR]at h⊢
  obtain⟨cs,h1,h2⟩:=h
  exact⟨cs,h1,QU hR hB vs cs h2⟩
theorem QU {rr:List (Nat×zq)}{bb bb':List (Nat×List AV)}{d k:Nat}{R:zq}(hR:lk rr d=some R)(hB: ∀t,(∃cs,lk bb' t=some cs)→∃cs,lk bb t=some cs): ∀(vs:List AV) (xs:List Value),ze τ w rr bb hd bk vs xs→ze τ w ((k,R)::rm (is1 d) rr) bb' (upd hd k (hd d)) bk (AV.renL d k vs) xs
 | [],xs,h=>by simpa only [AV.renL,ze]using h
 |v::vs,xs,h=>by
  simp only [AV.renL,ze]at h⊢
  obtain⟨y,ys,h1,h2,h3⟩:=h
  exact⟨y,ys,h1,zEr hR hB v y h2,QU hR hB vs ys h3⟩
end
theorem zKt (d k:Nat)(hr:Rel τ lo w0 st a w):Rel τ lo w0 (st.ren d k) a w:=by
 unfold St.ren
 cases hR:lk st.r d with
 |none=>exact hr
 |some R=>
  obtain⟨ow,hd,bk,h⟩:=hr
  have h2:=uV h d k R hR
  have hB: ∀t,(∃cs,lk (vx (AV.renL d k) st.b) t=some cs)→∃cs,lk st.b t=some cs:=fun t ⟨cs,hl⟩=>by
   rw [yC]at hl
   cases hx:lk st.b t with
   |none=>rw [hx]at hl;cases hl
   |some us=>exact⟨us,rfl⟩
  refine⟨_,_,bk,h2.big,h2.defers,h2.size,h2.low,h2.below,h2.ge,h2.new,fun j v hv=> ?_,h2.root,fun t vs hvs=> ?_,h2.pin⟩
  ·rw [yC]at hv
   cases hx:lk st.s j with
   |none=>rw [hx]at hv;cases hv
   |some u=>
    rw [hx]at hv
    simp only [Option.map_some,Option.some.injEq]at hv
    subst hv
    exact zEr hR hB u _ (h.slot j u hx)
  ·rw [yC]at hvs
   cases hx:lk st.b t with
   |none=>rw [hx]at hvs;cases hvs
   |some us=>
    rw [hx]at hvs
    simp only [Option.map_some,Option.some.injEq]at hvs
    subst hvs
    obtain⟨cs,ty,k1,k2,k3⟩:=h.box t us hx
    refine⟨cs,ty,k1,?_,QU hR hB us cs k3⟩
    rw [xf (fun q e=>by rw [k2]at e;cases e)]
    exact k2
theorem Vx (hτ:zz P τ)(hpos:yW τ){all:List Oper}(hm:vw false all=true){N:Nat}(hd:yv N all=true){rest:List Oper}{K0:Nat}{Q:St→Prop}{Q':Exit→Act→World→Prop}(hQ: ∀st a w,Q st→a.tmps.size=N→(∀j o,K0≤j→all[j]? =some o→yj false o=true→yR (own (zw o)) st)→Rel τ lo w0 st a w→wpList P all.toArray Q' rest a w):
  ∀(os:List Oper) (k:Nat) (st:St) (a:Act) (w:World),k+os.length=K0→a.tmps.size=N→(∀j x,os[j]? =some x→all[k+j]? =some x)→(∀j o,k≤j→all[j]? =some o→yj false o=true→yR (own (zw o)) st)→Rel τ lo w0 st a w→xr P false τ all Q os st→wpList P all.toArray Q' (os++rest) a w
 | [],k,st,a,w,hk0,hn,_,hinv,hr,h=>hQ st a w h hn (fun j o hj=>hinv j o (by simp at hk0;omega)) hr
 |o::os,k,st,a,w,hk0,hn,hl,hinv,hr,h=>by
  have ho:all[k]? =some o:=by simpa using hl 0 o rfl
  have hd1: ∀j,o.dst=some j→j<a.tmps.size:=fun j hj=>by
   have :=List.all_eq_true.1 hd o (List.mem_of_getElem? ho)
   rw [hj]at this
   rw [hn]
   simpa using this
  refine wpList_step fun K' hK'=> ?_
  have next: ∀st,(∀j o,k≤j→all[j]? =some o→yj false o=true→yR (own (zw o)) st)→∀δ,xW P false τ all o st δ→xr P false τ all Q os (st.app o.dst δ)→∀x w',Rel τ lo w0 (st.app o.dst δ) (a.put o.dst x) w'→K' (a.put o.dst x) w':=fun st hinv δ hstep hrest x w' hr'=>by
   have hf:yj false o=true→yR (own (zw o)) st:=hinv k o (Nat.le_refl _) ho
   refine hK' _ _ (Vx hτ hpos hm hd hQ os (k+1) _ _ w' (by rw [←hk0,List.length_cons];omega) (by rw [yw];exact hn) (fun j x hx=>by have :=hl (j+1) x (by simpa using hx);simpa [Nat.add_assoc,Nat.add_comm 1 j]using this) (fun j oj hkj hj hmk=> ?_) hr' hrest)
   refine VX (hinv j oj (by omega) hj hmk) (fun hmo n hn=> ?_) hstep
   have hkl:k<all.length:=(List.getElem?_eq_some_iff.1 ho).1
   have hjl:j<all.length:=(List.getElem?_eq_some_iff.1 hj).1
   have h1:=List.all_eq_true.1 (List.all_eq_true.1 hm k (List.mem_range.2 hkl)) j (List.mem_range.2 hjl)
   rw [ho,hj]at h1
   simp only [hmo,hmk,Bool.and_self,Bool.not_true,Bool.or_false,Bool.or_eq_true,beq_iff_eq,bne_iff_ne,ne_eq]at h1
   rcases h1 with h1|h1
   ·omega
   ·exact UU h1 n hn
  have run: ∀st,(∀j o,k≤j→all[j]? =some o→yj false o=true→yR (own (zw o)) st)→Rel τ lo w0 st a w→∀δ,qT P false τ o st δ→xW P false τ all o st δ→xr P false τ all Q os (st.app o.dst δ)→o.wp P a w K' Q':=fun st hinv hr δ ha hs hrest=>Xp hτ hpos hd1 hr (hinv k o (Nat.le_refl _) ho) (fun e=>by cases e) ha (next st hinv δ hs hrest)
  have skip: ∀st,(∀j o,k≤j→all[j]? =some o→yj false o=true→yR (own (zw o)) st)→Rel τ lo w0 st a w→xW P false τ all o st Dl.skip→xr P false τ all Q os (st.app o.dst Dl.skip)→K' (a.put o.dst undef) w:=fun st hinv hr hs hrest=>by
   refine next st hinv Dl.skip hs hrest undef w ?_
   obtain⟨ow,hd',bk,hrr⟩:=hr
   exact xg (xQ hrr hd1 (v:= .tup []) (x:=undef) (by simp only [AvR];exact⟨[],rfl,by simp [ze]⟩)) (ZB _)
  simp only [xr]at h
  split at h
  ·rename_i hg
   rw [if_pos (by simp [Region.wanted,hg])]
   obtain⟨δ,h1,h2⟩:=wm h
   exact run st hinv hr δ h1 (by unfold xW;rw [hg];exact h1) h2
  ·rename_i g want hg
   split at h
   ·rename_i b hgv
    have hy:=vN hr hgv
    have he:=uL hgv
    have hgv':qY all (yk all st g b) g=some (some b):=by rw [WP (st:=st) fun o' d _ _=>he.s d];exact hgv
    have hinv': ∀j o,k≤j→all[j]? =some o→yj false o=true→yR (own (zw o)) (yk all st g b):=fun j o h1 h2 h3=>he.free (hinv j o h1 h2 h3)
    have hr':Rel τ lo w0 (yk all st g b) a w:=xg hr he.cov
    have hb:if want=b then wl P false τ o (yk all st g b) fun δ=>xr P false τ all Q os ((yk all st g b).app o.dst δ)else xr P false τ all Q os ((yk all st g b).app o.dst Dl.skip):=by
     cases b
     ·exact h.2 rfl
     ·exact h.1 rfl
    by_cases hw:want=b
    ·rw [if_pos hw]at hb
     rw [if_pos (by simp [Region.wanted,hg,hy,hw])]
     obtain⟨δ,h1,h2⟩:=wm hb
     refine run _ hinv' hr' δ h1 ?_ h2
     unfold xW;rw [hg];simp only [hgv']
     exact⟨fun _=>h1,fun e'=>by subst hw;cases want<;>cases e'⟩
    ·rw [if_neg hw]at hb
     rw [if_neg (by simp [Region.wanted,hg,hy];exact fun e=>hw e.symm)]
     refine skip _ hinv' hr' ?_ hb
     unfold xW;rw [hg];simp only [hgv']
     exact⟨fun h=>absurd h.symm hw,fun _=>by first|rfl|trivial⟩
   ·rename_i hgv
    have hy:=vN hr hgv
    rw [if_neg (by simp [Region.wanted,hg,hy])]
    refine skip st hinv hr ?_ h
    unfold xW;rw [hg];simp only [hgv]
   ·exact h.elim
theorem jx (m T c d k:Nat)(al:List Nat){Q:Exit→St→Prop}(hτ:zz P τ)(hpos:yW τ){id:Nat}{ops:List Oper}{o:Oper}{rest:List Oper}(hs:vw false ops=true)(hd:yv st.n ops=true)(ho:ops.drop m=o::rest)(hmk:yj false o=true)
  (h: ∀K:St→Prop,(∀s,Us τ T c o (fun s'=>vF P τ al ops (fun s=>Q .normal (s.ren d k)) rest s') s→K s)→xr P false τ ops K (ops.take m) (st.start false ops)):awp P τ (.region id ops.toArray false) Q st:=fun lo w0 a w hr=>by
 have hn:a.tmps.size=st.n:=by obtain⟨ow,hd,bk,h⟩:=hr;exact h.size
 have hlen:m<ops.length:=by
  rcases Nat.lt_or_ge m ops.length with h|h
  ·exact h
  ·rw [List.drop_eq_nil_of_le h]at ho;cases ho
 have hom:ops[m]? =some o:=by
  have :=congrArg (fun l=>l[0]?) ho
  simpa using this
 have h1:=h _ fun s hs=>hs
 have key:=Vx (lo:=lo) (w0:=w0) (Q:=fun s=>Us τ T c o (fun s'=>vF P τ al ops (fun s=>Q .normal (s.ren d k)) rest s') s) (Q':=fun e a' w'=> ∃st',Rel τ lo w0 st' a' w'∧Q e st') (rest:=o::rest) (K0:=m) hτ hpos hs hd (fun st1 a1 w1 hq hn1 hinv hr1=>by
  refine wpList_step fun K' hK'=> ?_
  have hd1: ∀k,o.dst=some k→k<a1.tmps.size:=fun k hk=>by
   have :=List.all_eq_true.1 hd o (List.mem_of_getElem? hom)
   rw [hk]at this
   rw [hn1];simpa using this
  have hg:o.guard=none:=by
   unfold Us at hq
   split at hq
   ·rfl
   ·exact hq.elim
  rw [if_pos (by simp [Region.wanted,hg])]
  refine zF1 hτ hd1 hr1 (hinv m o (Nat.le_refl _) hom hmk) hq fun st' x w' hq' hr'=>hK' _ _ ?_
  refine YV hτ hpos (fun st a w h1 h2=>⟨st.ren d k,zKt d k h2,h1⟩) rest st' _ w' ?_ hr' hq'
  rw [yw,hn1]
  refine List.all_eq_true.2 fun x hx=>List.all_eq_true.1 hd x ?_
  have :x∈ops.drop m:=by rw [ho];simp [hx]
  exact List.mem_of_mem_drop this) (ops.take m) 0 (st.start false ops) a w (by rw [List.length_take];omega) hn (fun j x hx=>by
   rw [Nat.zero_add]
   rw [List.getElem?_take]at hx
   split at hx
   ·exact hx
   ·cases hx) (fun j o _ ho hm=>ZX ho hm) (YA hr ops) h1
 rw [←ho,List.take_append_drop]at key
 exact wp_region_lit key
attribute [push_cast] St.ren AV.ren AV.renL Us List.set_cons_succ
end
def Zh (τ:Ty)(n:Nat)(ds:List D)(args:List VT):St:={n:=n,s:=(0, .bp 1000000 0)::wI τ 1 args,b:= [(1000000,yd τ 1000000 0 ds)],r:=zAY (xZ 1000000 0 ds)++xX 1 args}
def wB (τ:Ty)(st:St):Nat→List AV→List D→Prop
 |_,[],[]=>True
 |j,u::us,d::ds=>(match d,u with
   | .int k n, .int k' n'=>k'=k∧n'=n
   | .bool b, .bool b'=>b'=b
   | .lst e xs, .sl d0 [] 0 len e'=>d0=zc 1000000 j∧(match lk st.r d0 with|some R=>R.pin=some d0∧e'=e∧R.e=e∧R.xs.length=len*sz τ e∧sz τ e≠0|none=>False)
   |_,_=>False)∧wB τ st (j+1) us ds
 |_,_,_=>False
def Wu (τ:Ty)(rs:List ResultVar)(ds':List D)(ress:List VT)(e:Exit)(st:St):Prop:=(e= .ret∨e= .normal)∧
 match zo τ st rs with
 |some (vs,ob)=>ob∧zd τ st vs ress∧(match lk st.b 1000000 with|some us=>wB τ st 0 us ds'|none=>False)
 |none=>False
section
variable {P:Program} {τ:Ty} {lo:Nat} {w0:Fz} {ow:Nat→Option Pl} {hd:Nat→Value} {bk:Nat→Nat} {st:St} {a:Act} {w:World}
mutual
theorem zCI {S:TypeId→Nat}{lo lo2:Nat}{w:World}{ow:Nat→Option Pl}: ∀(d:D) (j:Nat) (p:List Nat) (v:Value),(∀b q,ow b=some (.root j (p++q))→lo2≤b)→Rp S lo w ow (.ex j p) d v→Rp S lo2 w ow (.ex j p) d v
 | .int k n,j,p,v,_,h=>by simpa only [Rp]using h
 | .bool b,j,p,v,_,h=>by simpa only [Rp]using h
 | .hole,j,p,v,_,h=>by simpa only [Rp]using h
 | .lst e xs,j,p,v,hb,h=>by
  simp only [Rp]at h⊢
  obtain⟨vs,⟨h0,n,h1,h2,h3⟩,h4⟩:=h
  refine⟨vs,⟨h0,n,h1,⟨h2.1,?_⟩,h3⟩,zAs xs j p 0 vs hb h4⟩
  rcases h2.2 with hn|⟨g,cap,cur,hv,hg,rest⟩
  ·exact .inl hn
  ·exact .inr ⟨g,cap,cur,hv,hb g [] (by simpa using h3 g (by rw [hv];rfl)),rest⟩
theorem zAs {S:TypeId→Nat}{lo lo2:Nat}{w:World}{ow:Nat→Option Pl}: ∀(xs:List D) (j:Nat) (p:List Nat) (k:Nat) (vs:List Value),(∀b q,ow b=some (.root j (p++q))→lo2≤b)→RpL S lo w ow (.ex j p) k xs vs→RpL S lo2 w ow (.ex j p) k xs vs
 | [],j,p,k,vs,_,h=>by simpa only [RpL]using h
 |x::xs,j,p,k,vs,hb,h=>by
  simp only [RpL]at h⊢
  obtain⟨v,vs',h1,h2,h3⟩:=h
  exact⟨v,vs',h1,zCI x j (p++ [k]) v (fun b q e=>hb b (k::q) (by simpa using e)) h2,zAs xs j p (k+1) vs' hb h3⟩
end
def hdB (cs cargs:List Value)(g d:Nat):Value:=if d / 16=1000000 then cs.getD (d%16) undef else yO (Value.pointer (some ⟨g,0,none⟩)::cargs) d
def fzB (w:World)(g:Nat)(cs:List Value):Fz:=⟨w,fun b=>b≠g,fun id=>if id=999999 then some (.pointer (some ⟨g,0,none⟩))else if id / 16=1000000 then some (cs.getD (id%16) undef)else none⟩
def owB (g:Nat):Nat→Option Pl:=fun b=>if b=g then some (.box 1000000)else none
theorem zCX {n:Nat}{ds:List D}{args:List VT}{g:Nat}{cs cargs:List Value}{ty:TypeId}(hs:szA τ args)(hfew:few args=true)(hsm:args.length<100)(hn:args.length+1≤n)(hds:szL τ ds)(h16:ds.length≤16)
  (hg:w.heap[g]? =some (.cells cs.toArray ty (0,0))) (hcl:cs.length=ds.length) (hrd: ∀(i:Nat) (d:D) (c:Value),ds[i]? =some d→cs[i]? =some c→Rp (sz τ) 0 w (owG g) .sh d c) (h:Ky (sz τ) 0 w (owG g) [] args cargs):
  zl τ 0 (fzB w g cs) (owB g) (hdB cs cargs g) (fun _=>g) (Zh τ n ds args) {tmps:=(Value.pointer (some ⟨g,0,none⟩)::cargs).toArray++Array.replicate (n - (Value.pointer (some ⟨g,0,none⟩)::cargs).toArray.size) undef,defers:= []} w:=by
 obtain⟨hl,hargs⟩:=h
 have hlt:g<w.heap.size:=(Array.getElem?_eq_some_iff.1 hg).1
 have conv: ∀{x:D} {c:Value},Rp (sz τ) 0 w (owG g) .sh x c→Rp (sz τ) 0 w (owB g) .sh x c:=fun hx=>yM _ _ (Nat.le_refl _) _ _ _ (fun b hb hr=>⟨rfl,by
  simp only [rel,owG]at hr
  unfold owB owG
  split at hr
  ·cases hr
  ·rename_i e;rw [if_neg e,if_neg e]⟩) hx
 have hdiv: ∀m i,i<16→(zc m i) / 16=m∧(zc m i)%16=i:=fun m i hi=>by unfold zc;omega
 have hcell: ∀(m:Nat) (x:VT) (v:Value),args[m]? =some x→cargs[m]? =some v→∃cs1:List Value,cs1.length=x.cells.length∧(∀(i:Nat) (d:D) (c:Value),x.cells[i]? =some d→cs1[i]? =some c→Rp (sz τ) 0 w (owB g) .sh d c∧(hdB cs cargs g (zc (1+m) i)=c∨xj d=true))∧WD x v cs1:=fun m x v hx hv=>by
  have h16:x.cells.length≤16:=by have :=List.all_eq_true.1 hfew x (List.mem_of_getElem? hx);simpa using this
  have hm:m<args.length:=(List.getElem?_eq_some_iff.1 hx).1
  obtain⟨cs1,h1,h2,h3⟩:=hargs m x v hx hv
  have h2': ∀(i:Nat) (d:D) (c:Value),x.cells[i]? =some d→cs1[i]? =some c→Rp (sz τ) 0 w (owG g) .sh d c:=fun i d c hd hc=>by
   have :=h2 i d c hd hc
   unfold gm at this
   rwa [if_neg (by simp)]at this
  refine⟨cs1,h1,fun i d c hd hc=>⟨conv (h2' i d c hd hc),?_⟩,h3⟩
  have hi:i<16:=by have :=(List.getElem?_eq_some_iff.1 hd).1;omega
  have hv':(Value.pointer (some ⟨g,0,none⟩)::cargs)[1+m]? =some v:=by rw [Nat.add_comm];simpa using hv
  have hne: ¬1+m=1000000:=by omega
  rcases h3 with⟨d',c',rfl,rfl,rfl⟩|⟨ds',rfl,rfl⟩|⟨f,ds',rfl,rfl⟩
  ·simp only [VT.cells]at hd
   cases i with
   |succ i=>simp at hd
   |zero=>
    simp at hd hc;subst hd;subst hc
    cases d' with
    |int k n=>right;rfl
    |bool b=>right;rfl
    |hole=>
     left
     have h9:=h2' 0 _ _ rfl rfl
     simp only [Rp]at h9
     obtain⟨A,n',c',rfl⟩:=h9
     simp only [hdB,yO,(hdiv (1+m) 0 (by omega)).1,if_neg hne,hv']
    |lst e xs=>
     left
     obtain⟨A,n',c',rfl,-⟩:=xI (h2' 0 _ _ rfl rfl)
     simp only [hdB,yO,(hdiv (1+m) 0 (by omega)).1,if_neg hne,hv']
  ·left
   simp only [hdB,yO,(hdiv (1+m) i hi).1,(hdiv (1+m) i hi).2,if_neg hne,hv']
   rw [Array.getD_eq_getD_getElem?,List.getElem?_toArray,hc]
   rfl
  ·left
   simp only [hdB,yO,(hdiv (1+m) i hi).1,(hdiv (1+m) i hi).2,if_neg hne,hv']
   rw [Array.getD_eq_getD_getElem?,List.getElem?_toArray,hc]
   rfl
 have hbx: ∀(j:Nat) (c:Value),j<16→cs[j]? =some c→hdB cs cargs g (zc 1000000 j)=c:=fun j c hj hc=>by
  unfold hdB
  rw [(hdiv 1000000 j hj).1,if_pos rfl,(hdiv 1000000 j hj).2,List.getD_eq_getElem?_getD,hc]
  rfl
 have hroot: ∀d R,lk (Zh τ n ds args).r d=some R→(d / 16=1000000∧R.pin=some d∧∃k c,ds[k]? =some (.lst R.e R.xs)∧cs[k]? =some c∧R.o= .sh∧d=zc 1000000 k∧k<16)∨(R.pin=none∧R.o= .sh∧Rp (sz τ) 0 w (owB g) .sh (.lst R.e R.xs) (hdB cs cargs g d)):=fun d R hR=>by
  simp only [Zh,YI,WV]at hR
  cases hx:lk (xZ 1000000 0 ds) d with
  |some R0=>
   rw [hx]at hR
   simp only [Option.map_some,Option.some_or,Option.some.injEq]at hR
   subst hR
   obtain⟨k,h1,h2,h3⟩:=Qr 1000000 ds 0 d R0 hx
   rw [Nat.zero_add]at h3
   have hk:k<ds.length:=(List.getElem?_eq_some_iff.1 h1).1
   left
   refine⟨by rw [h3];exact(hdiv 1000000 k (by omega)).1,rfl,k,cs[k]'(by omega),h1,List.getElem?_eq_getElem _,h2,h3,by omega⟩
  |none=>
   rw [hx]at hR
   simp only [Option.map_none,Option.none_or]at hR
   obtain⟨m,x,k,h1,h2,h3,h4⟩:=Zl args 1 d R hR
   have hm:m<cargs.length:=by rw [hl];exact(List.getElem?_eq_some_iff.1 h1).1
   obtain⟨cs1,c1,c2,-⟩:=hcell m x _ h1 (List.getElem?_eq_getElem hm)
   have hk:k<cs1.length:=by rw [c1];exact(List.getElem?_eq_some_iff.1 h2).1
   obtain⟨q1,q2⟩:=c2 k _ _ h2 (List.getElem?_eq_getElem hk)
   right
   refine⟨wq args 1 d R hR,h3,?_⟩
   rcases q2 with q2|q2
   ·rw [h4,q2];exact q1
   ·cases q2
 refine⟨fun j ad hj had=> ?_,rfl,?_,Nat.zero_le _,xR.start _,fun b p _ hb hp=>⟨Nat.zero_le _,fun hlt hk=> ?_⟩,fun b hb=> ?_,fun k v hv=> ?_,fun d R hR=> ?_,fun t vs hv=> ?_,fun d R i hR hp=> ?_⟩
 ·simp only [fzB]at had
  split at had
  ·simp only [Option.some.injEq,Value.pointer.injEq]at had
   rw [←had]
  ·rw [if_neg (by omega)]at had
   cases had
 ·simp [Zh,hl];omega
 ·simp only [owB]at hb
  split at hb
  ·rename_i e;exact hk e
  ·cases hb
 ·unfold owB;rw [if_neg (by omega)]
 ·simp only [Zh,zi]at hv
  split at hv
  ·rename_i e;subst e;cases hv
   simp only [AvR]
   have hz0:((Value.pointer (some ⟨g,0,none⟩)::cargs).toArray++Array.replicate (n - (Value.pointer (some ⟨g,0,none⟩)::cargs).toArray.size) undef).getD 0 undef= .pointer (some ⟨g,0,none⟩):=by
    rw [Array.getD_eq_getD_getElem?,Array.getElem?_append_left (by simp),List.getElem?_toArray]
    rfl
   exact⟨⟨_,hz0⟩,fun _=>hz0⟩
  ·obtain⟨m,x,h1,h2,h3⟩:=XM args 1 k v hv
   subst h2;subst h3
   have hm:m<cargs.length:=by rw [hl];exact(List.getElem?_eq_some_iff.1 h1).1
   have hget:((Value.pointer (some ⟨g,0,none⟩)::cargs).toArray++Array.replicate (n - (Value.pointer (some ⟨g,0,none⟩)::cargs).toArray.size) undef).getD (1+m) undef=cargs[m]:=by
    rw [Array.getD_eq_getD_getElem?,Array.getElem?_append_left (by simp;omega),List.getElem?_toArray,Nat.add_comm 1 m,List.getElem?_cons_succ,List.getElem?_eq_getElem hm]
    rfl
   have hv':cargs[m]? =some cargs[m]:=List.getElem?_eq_getElem hm
   obtain⟨cs1,c1,c2,c3⟩:=hcell m x _ h1 hv'
   have hsx:szL τ x.cells:=hs x (List.mem_of_getElem? h1)
   have hres:=vL (τ:=τ) (lo:=0) (w:=w) (ow:=owB g) (hd:=hdB cs cargs g) (bk:=fun _=>g) (rr:=(Zh τ n ds args).r) (bb:=(Zh τ n ds args).b) (1+m) x.cells 0 cs1 c1 hsx (fun i d c hd hc=>⟨_,(c2 i d c hd hc).1⟩) (fun i e xs c hd hc=>by
    rcases(c2 i _ c hd hc).2 with q|q
    ·rw [Nat.zero_add];exact q
    ·cases q)
   rw [hget]
   rcases c3 with⟨d,c,rfl,rfl,hc⟩|⟨ds',rfl,hc⟩|⟨f,ds',rfl,hc⟩
   ·simp only [VT.cells]at hres
    rw [hc]
    have e:yd τ (1+m) 0 [d]= [(yd τ (1+m) 0 [d]).headD .dead]:=by cases d<;>rfl
    rw [e]at hres
    simp only [ze]at hres
    obtain⟨y,ys,e1,h4,-⟩:=hres
    cases e1
    exact h4
   ·rw [hc];simp only [wZ,AvR];exact⟨cs1,rfl,hres⟩
   ·rw [hc];simp only [wZ,AvR];exact⟨cs1,rfl,hres⟩
 ·rcases hroot d R hR with⟨h1,h2,k,c,h3,h4,h5,h6,h7⟩|⟨-,h2,h3⟩
  ·rw [h5,h6,hbx k c h7 h4]
   exact conv (hrd k _ c h3 h4)
  ·rw [h2];exact h3
 ·simp only [Zh,zi,xA]at hv
  split at hv
  ·rename_i e;subst e;cases hv
   refine⟨cs,ty,hg,by unfold owB;rw [if_pos rfl],?_⟩
   refine vL (τ:=τ) (lo:=0) (w:=w) (ow:=owB g) (hd:=hdB cs cargs g) (bk:=fun _=>g) 1000000 ds 0 cs hcl hds (fun i d c hd hc=>⟨_,conv (hrd i d c hd hc)⟩) (fun i e xs c hd hc=> ?_)
   rw [Nat.zero_add]
   exact hbx i c (by have :=(List.getElem?_eq_some_iff.1 hd).1;omega) hc
  ·cases hv
 ·rcases hroot d R hR with⟨h1,h2,-⟩|⟨h2,-⟩
  ·rw [h2]at hp;cases hp
   simp only [fzB,hdB,h1,if_true]
   rw [if_neg (by omega)]
  ·rw [h2]at hp;cases hp
theorem KI (h:zl τ lo w0 ow hd bk st a w){cs0:List Value}(hpin: ∀j c,j<16→cs0[j]? =some c→w0.pin (zc 1000000 j)=some c): ∀(us:List AV) (ds':List D) (cs:List Value) (j:Nat),wB τ st j us ds'→ze τ w st.r st.b hd bk us cs→j+us.length≤16→j+us.length≤cs0.length→
  ds'.length=us.length∧∀(i:Nat) (d:D) (c:Value),ds'[i]? =some d→cs[i]? =some c→match d with| .int k n=>c= .int k n| .bool b=>c= .bool b|_=>cs0[j+i]? =some c
 | [],[],cs,j,_,_,_,_=>⟨rfl,fun i d c hd=>by simp at hd⟩
 | [],_::_,cs,j,h1,_,_,_=>h1.elim
 |_::_,[],cs,j,h1,_,_,_=>h1.elim
 |u::us,d::ds',cs,j,h1,h2,h3,h4=>by
  simp only [ze]at h2
  obtain⟨c,cs1,rfl,k1,k2⟩:=h2
  simp only [List.length_cons]at h3 h4
  obtain⟨r1,r2⟩:=KI h hpin us ds' cs1 (j+1) h1.2 k2 (by omega) (by omega)
  refine⟨by simp [r1],fun i d' c' hd hc=> ?_⟩
  cases i with
  |succ i=>
   have :=r2 i d' c' (by simpa using hd) (by simpa using hc)
   rwa [show j+1+i=j+(i+1)from by omega]at this
  |zero=>
   simp at hd hc
   subst hd;subst hc
   have h0:=h1.1
   cases d with
   |int k n=>
    cases u<;>(try simp only at h0)<;>first|exact h0.elim|skip
    simp only [AvR]at k1
    rw [k1,h0.1,h0.2]
   |bool b=>
    cases u<;>(try simp only at h0)<;>first|exact h0.elim|skip
    simp only [AvR]at k1
    rw [k1,h0]
   |hole=>simp at h0
   |lst e xs=>
    cases u<;>(try simp only at h0)<;>first|exact h0.elim|skip
    rename_i d0 p off len e'
    cases p with
    |cons _ _=>exact h0.elim
    |nil=>
     cases off with
     |succ _=>exact h0.elim
     |zero=>
      simp only at h0
      obtain⟨rfl,h5⟩:=h0
      cases hR:lk st.r (zc 1000000 j)with
      |none=>rw [hR]at h5;exact h5.elim
      |some R=>
       rw [hR]at h5
       obtain⟨hp,rfl,he,hx,hz⟩:=h5
       have hj:j<cs0.length:=by omega
       have hpv:=hpin j _ (by omega) (List.getElem?_eq_getElem hj)
       have hph:=h.pin _ R _ hR hp
       rw [hpv]at hph
       have hph:=Option.some.inj hph
       simp only [AvR]at k1
       obtain⟨hv,hin,A,n,c2,A',c',hnw,e1,e2,hle,hlc,hmx,hf,hA⟩:=k1.2 R hR (by simp [zn])
       simp only [yK,Option.some.injEq]at hin
       obtain⟨rfl,rfl⟩:=hf rfl
       obtain⟨A3,n3,c3,e3,l3,-⟩:=xI (h.root _ R hR)
       rw [hin,e1]at e3;cases e3
       rw [he]at l3
       have hn:n=len:=Nat.eq_of_mul_eq_mul_right (Nat.pos_of_ne_zero hz) (by rw [←l3,hx])
       simp only [Nat.add_zero]
       rw [List.getElem?_eq_getElem hj,hph,hin,e1,e2,hn]
theorem zIB {ds ds':List D}{ress:List VT}{g:Nat}{cs:List Value}{ty:TypeId}{st':St}{a':Act}{w':World}{vs:List AV}{xs:List Value}(hlen:ds'.length=ds.length)(h16:ds.length≤16)(hg:w.heap[g]? =some (.cells cs.toArray ty (0,0)))(hcl:cs.length=ds.length)
  (hr:zl τ 0 (fzB w g cs) ow hd bk st' a' w') (hbox:match lk st'.b 1000000 with|some us=>wB τ st' 0 us ds'|none=>False) (hret:zd τ st' vs ress) (hv:ze τ w' st'.r st'.b hd bk vs xs):zBn τ w g cs ds' ress (.returned (wc xs)) w':=by
 cases hT:lk st'.b 1000000 with
 |none=>rw [hT]at hbox;exact hbox.elim
 |some us=>
  rw [hT]at hbox
  simp only at hbox
  obtain⟨cs',ty',b1,b2,b3⟩:=hr.box 1000000 us hT
  have hbk:bk 1000000=g:=hr.big 0 ⟨g,0,none⟩ (by decide) (by simp [fzB])
  rw [hbk]at b1 b2
  have hglt:g<w.heap.size:=(Array.getElem?_eq_some_iff.1 hg).1
  have hul:us.length=ds.length:=by
   have key: ∀(us:List AV) (ds':List D) (j:Nat),wB τ st' j us ds'→us.length=ds'.length:=by
    intro us
    induction us with
    |nil=>intro ds' j h;cases ds' with
     |nil=>rfl
     |cons _ _=>exact h.elim
    |cons u us ih=>intro ds' j h;cases ds' with
     |nil=>exact h.elim
     |cons d ds'=>simp [ih ds' (j+1) h.2]
   rw [key us ds' 0 hbox,hlen]
  obtain⟨m1,m2⟩:=KI hr (cs0:=cs) (fun j c hj hc=>by
   simp only [fzB]
   have e1:zc 1000000 j / 16=1000000:=by unfold zc;omega
   have e2:zc 1000000 j%16=j:=by unfold zc;omega
   rw [if_neg (by unfold zc;omega),if_pos e1,e2,List.getD_eq_getElem?_getD,hc]
   rfl) us ds' cs' 0 hbox b3 (by omega) (by omega)
  have hcs':cs'.length=cs.length:=by have :=(zp.1 b3).1;omega
  unfold zd at hret
  split at hret
  rotate_left
  ·exact hret.elim
  rename_i us2 hus
  split at hret
  rotate_left
  ·exact hret.elim
  rename_i is ob hcells
  have hroot: ∀b d q,ow b=some (.root d q)→w.heap.size≤b:=fun b d q ho=>by
   rcases Nat.lt_or_ge b w.heap.size with hlt|hge
   ·have hlt':b<w'.heap.size:=Nat.lt_of_lt_of_le hlt hr.below.size
    have hfr:=(hr.ge b _ hlt' ho (by simp)).2 hlt
    have :b=g:=by
     rcases Nat.decEq b g with hne|heq
     ·exact absurd hne hfr
     ·exact heq
    subst this
    rw [b2]at ho;cases ho
   ·exact hge
  have hout: ∀b p,xV ow is b=some p→w.heap.size≤b:=fun b p hp=>by
   obtain⟨d,q,j,h1,-,-⟩:=JV hp
   exact hroot b d q h1
  obtain⟨cs2,k1,k2⟩:=vC (S:=sz τ) (lo:=(w.heap.setIfInBounds g (.cells cs'.toArray ty' (0,0))).size) (ow:=xV ow is) 0 hus hv
  obtain⟨n1,n2⟩:=vQ hr hcells hret.2 hret.1 k1
  refine⟨cs',ty',{w with heap:=w.heap.setIfInBounds g (.cells cs'.toArray ty' (0,0))},hcs',fun i d c hd hc=> ?_,⟨rfl,rfl,rfl,by simp,fun k hk=> ?_,?_⟩,?_⟩
  ·have :=m2 i d c hd hc
   cases d<;>simpa using this
  ·rw [Array.getElem?_setIfInBounds,if_neg (fun e=>hk e.symm)]
  ·rw [Array.getElem?_setIfInBounds,if_pos rfl,if_pos hglt]
  ·refine⟨_,xV ow is,rfl,⟨hr.below.os,hr.below.tape,hr.below.output,by have :=hr.below.size;simpa [fzB]using this,fun b hb=> ?_⟩,fun b hb=> ?_,fun b p hp=> ?_,k2 n1 fun i d c hd hc=> ?_⟩
   ·have hb':b<w.heap.size:=by simpa using hb
    simp only
    rw [Array.getElem?_setIfInBounds]
    split
    ·rename_i e;subst e;first|exact b1|(rw [if_pos hglt];exact b1)
    ·rename_i e;exact hr.below.block b hb' (fun e'=>e e'.symm)
   ·have hb':b<w.heap.size:=by simpa using hb
    cases ho:xV ow is b with
    |none=>rfl
    |some p=>have :=hout b p ho;omega
   ·obtain⟨d,q,j,h1,-,rfl⟩:=JV hp
    refine⟨?_,by simp⟩
    rcases Nat.lt_or_ge b w'.heap.size with h'|h'
    ·exact h'
    ·rw [hr.new b h']at h1;cases h1
   ·rw [Nat.zero_add]
    have :=n2 i d c hd hc
    simp only [Array.size_setIfInBounds]
    exact zCI d i [] c (fun b q hq=>hout b _ hq) this
theorem zGn (hτ:zz P τ)(hpos:yW τ){f:FuncId}{fn:Func}{c:Code}{rs:List ResultVar}{ds ds':List D}{args ress:List VT}(hfn:P.funcs[f]? =some fn)(hname:(fn.name== "runtime.NumGoroutine")=false)(hb:fn.body=some c)(hres:fn.results=rs.toArray)(hn:args.length+1≤fn.ntmps)(hfew:few args=true)(hs:szA τ args)(hsm:args.length<100)(hds:szL τ ds)(h16:ds.length≤16)(hlen:ds'.length=ds.length)
  (h:awp P τ c (Wu τ rs ds' ress) (Zh τ fn.ntmps ds args)):FnB P τ f ds args ds' ress:=by
 refine⟨⟨fn,hfn,hname,by rw [hb];rfl⟩,hlen,fun w g cs cargs ty hg hcl hrd hargs=> ?_⟩
 have hst0:=zCX (n:=fn.ntmps) hs hfew hsm hn hds h16 hg hcl hrd hargs
 refine calls_of_wp hfn hb (Go.wp_mono (h 0 _ _ w ⟨_,_,_,hst0⟩) fun e a' w' ⟨st',⟨ow,hd,bk,hr⟩,he,hret0⟩=> ?_)
 have hpost:a'.defers= []∧∃v,(results fn a'.tmps).run P w'= .ok v w'∧zBn τ w g cs ds' ress (.returned v) w':=by
  split at hret0
  rotate_left
  ·exact hret0.elim
  rename_i avs ob0 hrv
  obtain⟨hob0,hret,hbox⟩:=hret0
  obtain⟨xs,hrun,hv⟩:=vU hτ hpos hr hres hrv hob0
  exact⟨hr.defers,_,hrun,zIB hlen h16 hg hcl hr hbox hret hv⟩
 rcases he with rfl|rfl<;>exact hpost
end
end Go.Proofs.YtcleaokoimhedaaGreat
