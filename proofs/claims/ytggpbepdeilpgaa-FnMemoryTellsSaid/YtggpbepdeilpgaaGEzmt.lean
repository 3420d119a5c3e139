/- Regions whose order is drawn, VI: a step is what the real operation does; nothing new is spoken of; the rule. -/
import Derived.Test.YtggpbepdeilpgaaGCzmt
namespace Go.Proofs.Ytggpbepdeilpgaa
open Go.RowKit
set_option linter.unusedVariables false
set_option linter.unusedSimpArgs false
def xQ (np:Bool)(o:Oper):Bool:=
 match o.op with
 | .box _ _=>true
 | .alloc _=>true
 | .makeSlice _ _ _=>true
 | .buildSlice _ _ _=>true
 | .load _ _=>np
 | .call c=>match c.callee with
  | .value _=>true
  | .builtin .append=>true
  |_=>false
 |_=>false
theorem xk {np:Bool}{o:Oper}{x:FuncId×Array Operand×Array TypeId}(h:yD o=some x):xQ np o=true:=by
 unfold yD at h
 unfold xQ
 cases ho:o.op<;>rw [ho]at h<;>simp at h⊢
 rename_i c
 cases hc:c.callee<;>rw [hc]at h<;>simp at h⊢
section
variable {P:Program} {np:Bool} {τ:Ty} {lo:Nat} {w0:Fz} {ow:Nat→Option Pl} {hd:Nat→Value} {bk:Nat→Nat} {st:St} {a:Act} {w:World}
theorem wE (t:Nat): ∀(ds:List D) (j:Nat) (st:St),yN (own t) st→j+ds.length≤16→xR st (yi t j ds st)∧∀k,lk (yi t j ds st).r k=(lk (qN t j ds) k).or (lk st.r k)
 | [],j,st,_,_=>⟨xR.refl st,fun k=>by simp [yi,qN,xJ]⟩
 | .int _ _::ds,j,st,hf,hl=>by
  simp only [yi,qN]
  exact wE t ds (j+1) st hf (by simp only [List.length_cons]at hl;omega)
 | .bool _::ds,j,st,hf,hl=>by
  simp only [yi,qN]
  exact wE t ds (j+1) st hf (by simp only [List.length_cons]at hl;omega)
 | .hole::ds,j,st,hf,hl=>by
  simp only [yi,qN]
  exact wE t ds (j+1) st hf (by simp only [List.length_cons]at hl;omega)
 | .lst e xs::ds,j,st,hf,hl=>by
  simp only [List.length_cons]at hl
  have s1:=qQ hf (yY (t:=t) (j:=j) (by omega)) ⟨.ex,e,xs,none⟩
  obtain⟨h1,h2⟩:=wE t ds (j+1) (st.addR (zb t j) ⟨.ex,e,xs,none⟩) (s1.free hf) (by omega)
  simp only [yi,qN]
  refine⟨s1.trans h1,fun k=> ?_⟩
  rw [h2,qB]
  simp only [St.addR,zd,xJ]
  cases lk (qN t (j+1) ds) k with
  |some x=>simp
  |none=>
   by_cases e:zb t j=k
   ·simp [e]
   ·simp [e]
theorem yW {x y:Option (Dl×Prop)}{z:Dl×Prop}(h:orE x y=some z):x=some z∨y=some z:=by
 unfold orE at h
 split at h
 ·exact .inl h
 ·exact .inr h
theorem Xk {v:AV}(d:Option Tmp):Cov (st.put d v) (st.app d ⟨v,[],[],[]⟩):=qE (xR.refl st) rfl rfl fun k R h=>by simpa [xJ]using h
theorem zE6 (hτ:zx P τ)(hpos:yL τ)(h:ze τ lo w0 ow hd bk st a w){o:Oper}(hf:xQ np o=true→yN (own (zy o)) st)(hpf:np=true→PF st){δ:Dl}{ob:Prop}(he:vz np τ o st=some (δ,ob))(hob:ob):
  ∃st1 v,vA P τ lo w0 a w o st1 v∧Cov (st1.put o.dst v) (st.app o.dst δ):=by
 have plain:((qF τ o st).map fun y=>((⟨y.1,[],[],[]⟩:Dl),y.2))=some (δ,ob)→∃st1 v,vA P τ lo w0 a w o st1 v∧Cov (st1.put o.dst v) (st.app o.dst δ):=fun he=>by
  cases hv:qF τ o st with
  |none=>rw [hv]at he;cases he
  |some y=>
   rw [hv]at he
   simp only [Option.map_some,Option.some.injEq,Prod.mk.injEq]at he
   obtain⟨rfl,rfl⟩:=he
   obtain⟨z,hz,hr⟩:=VK hτ hpos h hv hob
   exact⟨st,y.1,⟨z,w,ow,hd,bk, .inl hz,h,hr⟩,Xk _⟩
 have wrapV: ∀{s:Sem Value} {z:Value} {w':World},s.run P w= .ok z w'→(do pure (.value (←s)):Sem Next).run P w= .ok (.value z) w':=fun{s z w'} hs=>by rw [Sem.run_bind,hs,Result.andThen_ok,Sem.run_pure]
 obtain⟨dst,op,ty,pos,after,guard⟩:=o
 unfold vz at he
 cases op<;>simp only at he
 case box e x=>
  split at he
  ·rename_i t vs hvs
   simp only [Option.some.injEq,Prod.mk.injEq]at he
   obtain⟨rfl,rfl⟩:=he
   have hf':=hf rfl
   obtain⟨us,hus,hur⟩:=xu hvs (zZ h x)
   obtain⟨ow',bk',r1,r2,r3,r4⟩:=Ks h t hob e vs us hur hf' (fun n hn=>hf'.ev x n (QG hvs n hn))
   refine⟨_, .bp t 0,⟨.pointer (some ⟨w.heap.size,0,none⟩),_,ow',hd,bk', .inl (wrapV ?_),r1,by simp only [AvR];exact⟨⟨_,rfl⟩,fun _=>by rw [r2]⟩⟩,zCb _ r3 r4⟩
   simp [Instr.box,newVar,newRow,newObj,Sem.run,hus]
  ·cases he
 case alloc e=>
  split at he
  ·rename_i t k b ht
   simp only [Option.some.injEq,Prod.mk.injEq]at he
   obtain⟨rfl,rfl⟩:=he
   have hf':=hf rfl
   have hz: ∃z:Value,(zeroValue e).run P w= .ok z w∧z.cells=(k.cells.map CK.zero).toArray:=by
    cases k with
    |sc c=>obtain⟨i,i1,i2,i3,i4⟩:=Yo hτ ht;exact⟨c.zero,by simp [zeroValue,typeInfo,i1,i3],by cases c<;>rfl⟩
    |st cs fs=>obtain⟨F,_,_,i,i1,i2,i3,i4⟩:=yM hτ ht;exact⟨_,by simp [zeroValue,typeInfo,i1,i3];rfl,by simp [Value.cells,TK.cells]⟩
   obtain⟨z,hz1,hz2⟩:=hz
   obtain⟨ow',bk',r1,r2,r3,r4⟩:=Ks h t hob e (k.cells.map wa) (k.cells.map CK.zero) (zp.2 ⟨by simp,fun i v x hv hx=>by
    rw [List.getElem?_map]at hv hx
    cases hk:k.cells[i]? with
    |none=>rw [hk]at hv;cases hv
    |some c=>rw [hk]at hv hx;cases hv;cases hx;exact QT c⟩) hf' (fun n hn=>by
    obtain⟨v,hv,hm⟩:=yG.1 hn
    obtain⟨c,_,rfl⟩:=List.mem_map.1 hv
    cases c<;>simp [wa,AV.nm]at hm)
   refine⟨_, .bp t 0,⟨.pointer (some ⟨w.heap.size,0,none⟩),_,ow',hd,bk', .inl (wrapV ?_),r1,by simp only [AvR];exact⟨⟨_,rfl⟩,fun _=>by rw [r2]⟩⟩,zCb _ r3 r4⟩
   unfold Instr.alloc
   rw [Sem.run_bind,hz1,Result.andThen_ok]
   simp [newVar,newRow,newObj,Sem.run,hz2]
  ·cases he
 case makeSlice t l c=>
  split at he
  ·obtain⟨st1,v,h1,h2⟩:=zFd (hf rfl) he
   exact⟨st1,v,Jn hτ h rfl h1 hob,h2 _⟩
  ·cases he
 case buildSlice t len parts=>
  split at he
  ·rcases yW he with he|he
   ·obtain⟨st1,v,h1,h2⟩:=zG7 (hf rfl) he
    exact⟨st1,v,jK hτ h rfl h1,h2 _⟩
   ·rcases yW he with he|he
    ·obtain⟨st1,v,h1,h2⟩:=zFZ (o:=⟨some _, .buildSlice t len parts,ty,pos,after,guard⟩) hτ h rfl (hf rfl) he
     exact⟨st1,v,h1,h2 _⟩
    ·obtain⟨st1,v,h1,h2⟩:=zFa (o:=⟨some _, .buildSlice t len parts,ty,pos,after,guard⟩) hτ h rfl (hf rfl) he hob
     exact⟨st1,v,h1,h2 _⟩
  ·cases he
 case load t x=>
  rcases yW he with he|he
  ·cases dst with
   |none=>simp [ww]at he
   |some t0=>
    have hnp:np=true:=by
     unfold ww at he
     split at he
     ·split at he
      ·split at he
       ·rename_i hc;exact hc.1
       ·cases he
      ·cases he
     ·cases he
    obtain⟨st1,v,h1,h2⟩:=zD4 (o:=⟨some t0, .load t x,ty,pos,after,guard⟩) hτ hpos h rfl rfl (hf hnp) he hob
    exact⟨st1,v,h1,h2 _⟩
  unfold Yg at he
  cases hv:qu τ st t (ev st x)with
  |none=>rw [hv]at he;cases he
  |some y=>
   rw [hv]at he
   simp only [Option.map_some,Option.some.injEq,Prod.mk.injEq]at he
   obtain⟨rfl,rfl⟩:=he
   obtain⟨z,hz,hr⟩:=VK (o:=⟨dst, .load t x,ty,pos,after,guard⟩) hτ hpos h (show qF τ _ st=some (y.1,y.2)from hv) hob
   exact⟨st,_,⟨z,w,ow,hd,bk, .inl hz,h,zB8 hr⟩,Xk _⟩
 case store t p x=>
  rcases yW he with he|he
  rotate_left
  ·split at he
   ·rename_i hnp
    obtain⟨st1,h1,h2⟩:=zCJ (o:=⟨dst, .store t p x,ty,pos,after,guard⟩) hτ h (hpf hnp) rfl he hob
    exact⟨st1,_,h1,h2 _⟩
   ·cases he
  cases hp:ev st p with
  |bp b i=>
   rw [hp]at he
   obtain⟨st1,h1,h2⟩:=zCI (o:=⟨dst, .store t p x,ty,pos,after,guard⟩) hτ h rfl hp he
   exact⟨st1,_,h1,h2 _⟩
  |ep d q i=>
   rw [hp]at he
   obtain⟨st1,u,h1,h2⟩:=zEJ he
   exact⟨st1,u,Wl (al:= []) hτ hpos h rfl (by rw [hp];exact h1) hob,h2 _⟩
  |_=>rw [hp]at he;simp [vT]at he
 case call c=>
  obtain⟨callee,args,argTypes⟩:=c
  simp only at he
  split at he
  ·split at he
   ·rename_i t x y t1 t2 h1 h2
    split at he
    ·rename_i htt
     subst htt
     have e1:args= #[x,y]:=by cases args;simp at h1;subst h1;rfl
     have e2:argTypes= #[t1,t1]:=by cases argTypes;simp at h2;subst h2;rfl
     subst e1;subst e2
     rcases yW he with he|he
     ·obtain⟨st1,v,ob1,k1,k2,k3⟩:=zGb (hf rfl) he hob
      refine⟨st1,v,Kn (dl:=St.delR0) (fun st ow hd d h=>⟨YZ h d,by simp [St.delR0,yr,is1]⟩) hτ h (fun v w' hr=> ?_) k1 k2,k3 _⟩
      simp [execOp,resolve,invoke,builtin,hr]
     ·obtain⟨st1,v,k1,k2⟩:=zEk (o:=⟨some _, .call ⟨.builtin .append,#[x,y],#[t1,t1]⟩,ty,pos,after,guard⟩) hτ h (fun v w' hr=>by simp [execOp,resolve,invoke,builtin,hr]) (hf rfl) he hob
      exact⟨st1,v,k1,k2 _⟩
    ·cases he
   ·cases he
  ·exact plain he
 all_goals exact plain he
theorem zDc {o:Oper}{δ:Dl}{Q:Exit→Act→World→Prop}{K':Act→World→Prop}(hdn: ∀k,o.dst=some k→k<a.tmps.size)(h:Rel τ lo w0 st a w)(hf:yN (own (zy o)) st)(ha:Qv P τ o st δ)
  (hK: ∀x w',Rel τ lo w0 (st.app o.dst δ) (a.put o.dst x) w'→K' (a.put o.dst x) w'):o.wp P a w K' Q:=by
 unfold Qv at ha
 split at ha
 rotate_left
 ·exact ha.elim
 rename_i f as T cells ds ob hact
 obtain⟨hob,ds',ress,⟨⟨fn,hfn,hname,hbody⟩,hlen,hcall⟩,hsz,h16,rfl⟩:=ha
 unfold ZR at hact
 cases hc:yD o with
 |none=>rw [hc]at hact;cases hact
 |some y=>
  obtain⟨f',args,ts⟩:=y
  rw [hc]at hact
  simp only at hact
  split at hact
  rotate_left
  ·cases hact
  rename_i T' vs hvs
  cases hT:lk st.b T' with
  |none=>rw [hT]at hact;cases hact
  |some cells'=>
   rw [hT]at hact
   simp only at hact
   split at hact
   rotate_left
   ·cases hact
   rename_i ds0 ob1 as0 ob2 hds has
   simp only [Option.some.injEq,Prod.mk.injEq]at hact
   obtain⟨rfl,rfl,rfl,rfl,rfl,rfl⟩:=hact
   obtain⟨ow,hd,bk,hr⟩:=h
   have hev:zY τ w st.r st.b hd bk (args.toList.map (ev st)) (args.toList.map a.eval):=zp.2 ⟨by simp,fun i v x hv hx=>by
    rw [List.getElem?_map]at hv hx
    cases hk:args.toList[i]? with
    |none=>rw [hk]at hv;cases hv
    |some p=>rw [hk]at hv hx;cases hv;cases hx;exact zZ hr p⟩
   rw [hvs]at hev
   simp only [zY]at hev
   obtain⟨x0,xs,hxs,hx0,hxs2⟩:=hev
   simp only [AvR]at hx0
   have hptr:=hx0.2 ⟨_,hT⟩
   subst hptr
   obtain⟨cs,ty,b1,b2,b3,b4,b5⟩:=zDk hr hT hds hob.1
   have hA:=zBu hr hT hxs2 has hob.2
   have hC:=hcall w (bk T') cs xs ty b1 b2 b5 hA
   have hexec:(execOp a.eval o).run P w= .ok (.enter f' (args.toList.map a.eval).toArray) w:=by
    obtain⟨dst,op,oty,pos,after,guard⟩:=o
    unfold yD at hc
    simp only at hc
    split at hc
    ·rename_i c
     split at hc
     ·rename_i f' hcal
      cases hc
      obtain⟨callee,args',ats⟩:=c
      simp only at hcal
      subst hcal
      rw [execOp_call_go]
      unfold callFunc
      have h1: ¬fn.name= "runtime.NumGoroutine" :=by simpa using hname
      have h2: ¬fn.body=none:=by cases hb:fn.body with
       |none=>rw [hb]at hbody;simp at hbody
       |some c=>simp
      have h3:Array.map a.eval args'=(args'.toList.map a.eval).toArray:=by cases args';simp
      simp [hfn,h1,h2,h3]
     ·cases hc
    ·cases hc
   unfold Oper.wp
   rw [hexec,hxs]
   simp only [Oper.upon]
   refine hC.mono fun e w' hpost=> ?_
   obtain⟨z,ow',hd2,he,r1,r2⟩:=zCD hr hT b3 (by rw [hlen,b4]) (t:=zy o) hsz hpost
   subst he
   have hfree:yN (own (zy o)) (st.setB T' (xn cells' ds')):=⟨hf.s,fun k cs' hcs'=>by
    simp only [St.setB,zd]at hcs'
    split at hcs'
    ·cases hcs'
     intro n hn
     obtain⟨v,hv,hm⟩:=yG.1 hn
     rcases VX hv with hv|⟨k,m,rfl⟩|⟨b,rfl⟩
     ·exact hf.b T' cells' hT n (yG.2 ⟨v,hv,hm⟩)
     ·simp [AV.nm]at hm
     ·simp [AV.nm]at hm
    ·exact hf.b k cs' hcs'⟩
   obtain⟨k1,k2⟩:=wE (zy o) (zv ress) 0 _ hfree (by omega)
   refine hK z w' (ql (yb r1 hdn r2) ⟨?_,fun k v hv=> .inr ?_,fun k us hus=> ?_,fun k R hR=> ?_⟩)
   ·rw [Ko,zIJ];exact k1.n.symm
   ·rw [ZU]at hv
    cases hdd:o.dst with
    |none=>rw [hdd]at hv;simp only [St.put];rw [k1.s];simpa [St.setB]using hv
    |some d=>
     rw [hdd]at hv
     simp only [St.put,zd]
     simp only [Option.some.injEq]at hv
     split at hv
     ·rename_i e;rw [if_pos e];exact hv
     ·rename_i e;rw [if_neg e,k1.s];exact hv
   ·rw [wK]at hus
    have e:lk ((yi (zy o) 0 (zv ress) (st.setB T' (xn cells' ds'))).put o.dst (qk (xT τ (zy o) 0 ress))).b k=lk (st.setB T' (xn cells' ds')).b k:=by
     cases o.dst<;>exact k1.b k
    rw [e]
    simp only [St.setB,zd]at hus⊢
    split
    ·rename_i e;rw [if_pos e]at hus;simpa using hus
    ·rename_i e;rw [if_neg e,xJ]at hus;simpa using hus
   ·rw [wL]at hR
    have e:lk ((yi (zy o) 0 (zv ress) (st.setB T' (xn cells' ds'))).put o.dst (qk (xT τ (zy o) 0 ress))).r k=lk (yi (zy o) 0 (zv ress) (st.setB T' (xn cells' ds'))).r k:=by
     cases o.dst<;>rfl
    rw [e,k2]
    simpa [St.setB]using hR
theorem Ki (hτ:zx P τ)(hpos:yL τ){o:Oper}{δ:Dl}{Q:Exit→Act→World→Prop}{K':Act→World→Prop}(hdn: ∀k,o.dst=some k→k<a.tmps.size)(h:Rel τ lo w0 st a w)(hf:xQ np o=true→yN (own (zy o)) st)(hpf:np=true→PF st)(ha:vn P np τ o st δ)
  (hK: ∀x w',Rel τ lo w0 (st.app o.dst δ) (a.put o.dst x) w'→K' (a.put o.dst x) w'):o.wp P a w K' Q:=by
 unfold vn at ha
 rcases ha with ha|ha|ha
 ·exact ha.2.2.2.2.2.2 st ⟨fun _ _=>rfl,fun _ _=>rfl,fun _ _=>rfl⟩ hpf lo w0 a w Q K' hdn h hK
 ·unfold jn at ha
  cases hc:yD o with
  |none=>rw [hc]at ha;exact ha.elim
  |some x=>
   obtain⟨f,args,ts⟩:=x
   rw [hc]at ha
   simp only at ha
   split at ha
   ·rename_i as ob us vs hargs hevs
    obtain⟨hob,pm,ress,⟨hcl,hcall⟩,hpm,hsz,hlen,rfl⟩:=ha
    obtain⟨ow,hd',bk,hr⟩:=h
    have hev:zY τ w st.r st.b hd' bk (args.toList.map (ev st)) (args.toList.map a.eval):=zp.2 ⟨by simp,fun i v x hv hx=>by
     rw [List.getElem?_map]at hv hx
     cases hk:args.toList[i]? with
     |none=>rw [hk]at hv;cases hv
     |some p=>rw [hk]at hv hx;cases hv;cases hx;exact zZ hr p⟩
    have hA:=ZV hr w.heap.size hev hargs hob
    have hC:=hcall w _ hA
    unfold Oper.wp
    rw [zDm hc hcl]
    simp only [Oper.upon]
    refine hC.mono fun e w' hpost=> ?_
    obtain⟨cs0,cs,ow',hd2,h0,he,r1,r2⟩:=zCF hr (t:=zy o) hsz hpost
    subst he
    obtain⟨k1,k2⟩:=wE (zy o) ress 0 st (hf (xk hc)) (by omega)
    obtain⟨x0,xs,hx0,hv0⟩: ∃x0 xs,args.toList=x0::xs∧ev st x0= .agg us:=by
     cases hal:args.toList with
     |nil=>rw [hal]at hevs;simp at hevs
     |cons x0 xs=>
      rw [hal]at hevs
      simp only [List.map_cons,List.cons.injEq]at hevs
      exact⟨x0,xs,rfl,hevs.1⟩
    have hv1:ev (yi (zy o) 0 ress st) x0= .agg us:=by
     rw [←hv0]
     cases x0<;>simp only [ev]
     rw [k1.s]
    have hx:=zZ r1 x0
    rw [hv1]at hx
    simp only [AvR]at hx
    obtain⟨cs1,e1,r3⟩:=hx
    rw [hx0]at h0
    simp only [List.map_cons,List.getElem?_cons_zero,Option.some.injEq]at h0
    rw [e1]at h0
    have :cs1=cs0:=by simpa using h0
    subst this
    have hrel:=yb (d:=o.dst) r1 hdn (v:= .agg (XM pm .dead us++yR τ (zy o) 0 ress)) (x:= .agg (List.toArray (XM pm undef cs1++cs))) (by
     simp only [AvR]
     exact⟨_,rfl,qy (Uh r3 pm hpm) r2⟩)
    exact hK _ w' (ql hrel (qE k1 rfl rfl fun k R hR=>by rw [k2];simpa using hR))
   ·exact ha.elim
 cases hc:yD o with
 |some x=>
  obtain⟨f,args,ts⟩:=x
  rw [hc]at ha
  simp only at ha
  cases hargs:ye τ st ts.toList (args.toList.map (ev st))with
  |none=>rw [hargs]at ha;exact zDc hdn h (hf (xk hc)) ha.2 hK
  |some y=>
   obtain⟨as,ob⟩:=y
   rw [hargs]at ha
   obtain⟨hob,ress,h1,h2,h3,rfl⟩:=ha
   refine vu (al:= []) (K:=fun s=>s=(yi (zy o) 0 (zv ress) st).put o.dst (qk (xT τ (zy o) 0 ress))) hτ hpos hdn h ?_ ?_
   ·unfold aop
    rw [hc]
    simp only [hargs]
    exact⟨hob,ress,h1,h2,rfl⟩
   ·rintro st' x w' rfl hrel
    obtain⟨k1,k2⟩:=wE (zy o) (zv ress) 0 st (hf (xk hc)) (by omega)
    exact hK x w' (ql hrel (qE k1 rfl rfl fun k R hR=>by rw [k2];simpa using hR))
 |none=>
  rw [hc]at ha
  simp only at ha
  cases he:vz np τ o st with
  |none=>rw [he]at ha;exact ha.elim
  |some y=>
   obtain⟨δ',ob⟩:=y
   rw [he]at ha
   obtain⟨hob,rfl⟩:=ha
   obtain⟨ow,hd,bk,hr⟩:=h
   obtain⟨st1,v,r1,r2⟩:=zE6 hτ hpos hr hf hpf he hob
   exact zGr hdn r1 r2 hK
end
section
variable {P:Program} {np:Bool} {τ:Ty} {st:St} {ns:Nat→Bool}
def NS (ns:Nat→Bool)(v:AV):Prop:= ∀n∈v.nm,ns n=false
theorem yT {v:AV}(h:v.nm= []):NS ns v:=fun n hn=>by rw [h]at hn;simp at hn
theorem Kd {vs:List AV}(h: ∀v∈vs,NS ns v):NS ns (.agg vs):=fun n hn=>by
 simp only [AV.nm]at hn
 obtain⟨v,hv,hm⟩:=yG.1 hn
 exact h v hv n hm
theorem NS_ar (k:IntKind)(n:Int):NS ns (ar k n).1:=by unfold ar;cases k<;>exact yT rfl
theorem ar_ns {k:IntKind}{n:Int}{v:AV}{ob:Prop}(h:some (ar k n)=some (v,ob)):NS ns v:=by
 have h1:=Option.some.inj h
 have :=NS_ar (ns:=ns) k n
 rw [h1]at this
 exact this
theorem jR {d:Nat}{p:List Nat}{v u:AV}{o o':Prop}(h:onR st d p v o=some (u,o'))(hv:NS ns v):NS ns u:=by
 unfold onR at h
 split at h
 ·cases h;exact hv
 ·cases h
theorem zAO {d:Nat}{p:List Nat}{i:Nat}{xs:List D}{c:CK}(h:ns (2*d)=false):NS ns (wt τ d p i xs c):=by
 cases c with
 |int k=>exact yT rfl
 |bool=>exact yT rfl
 |sl e=>intro n hn;simp only [wt,AV.nm,List.mem_singleton]at hn;subst hn;exact h
theorem uP {d:Nat}{p:List Nat}{xs:List D}(h:ns (2*d)=false): ∀(cs:List CK) (i:Nat),∀v∈vg τ d p xs i cs,NS ns v
 | [],i,v,hv=>by simp [vg]at hv
 |c::cs,i,v,hv=>by
  simp only [vg,List.mem_cons]at hv
  rcases hv with rfl|hv
  ·exact zAO h
  ·exact uP h cs (i+1) v hv
theorem Kt (hf:yN ns st){b:Nat}{cs:List AV}(hb:lk st.b b=some cs): ∀v∈cs,NS ns v:=fun v hv n hn=>hf.b b cs hb n (yG.2 ⟨v,hv,hn⟩)
theorem zA0 (hf:yN ns st){t:TypeId}{v u:AV}{ob:Prop}(hv:NS ns v)(h:qu τ st t v=some (u,ob)):NS ns u:=by
 cases v<;>simp only [qu]at h<;>try(cases h;done)
 ·rename_i d p i
  have hd:ns (2*d)=false:=hv _ (by simp [AV.nm])
  split at h
  ·cases h;exact zAO hd
  ·cases h;exact Kd (uP hd _ _)
  ·cases h
 ·rename_i b i
  split at h
  ·rename_i cs _ _ hcs _
   cases h
   rw [List.getD_eq_getElem?_getD]
   cases hx:cs[i]? with
   |none=>exact yT rfl
   |some v=>exact Kt hf hcs v (List.mem_of_getElem? hx)
  ·rename_i cs _ _ _ hcs _
   cases h
   exact Kd fun v hv=>Kt hf hcs v (List.mem_of_mem_drop (List.mem_of_mem_take hv))
  ·cases h
mutual
theorem zCx {ds bs:Nat→Bool}: ∀(v:AV),NS ns v→NS ns (v.kill ds bs)
 | .int k n,h=>h
 | .bool b,h=>h
 | .sl d p off len e,h=>by
  simp only [AV.kill];split
  ·exact yT rfl
  ·exact h
 | .nil,h=>h
 | .ep d p i,h=>by
  simp only [AV.kill];split
  ·exact yT rfl
  ·exact h
 | .bp t i,h=>by
  simp only [AV.kill];split
  ·exact yT rfl
  ·exact h
 | .agg vs,h=>fun n hn=>VO vs (fun n hn=>h n (by simpa only [AV.nm]using hn)) n (by simpa only [AV.kill,AV.nm]using hn)
 | .tup vs,h=>fun n hn=>VO vs (fun n hn=>h n (by simpa only [AV.nm]using hn)) n (by simpa only [AV.kill,AV.nm]using hn)
 | .fn f vs,h=>fun n hn=>VO vs (fun n hn=>h n (by simpa only [AV.nm]using hn)) n (by simpa only [AV.kill,AV.nm]using hn)
 | .dead,h=>h
 | .raw u,h=>h
theorem VO {ds bs:Nat→Bool}: ∀(vs:List AV),(∀n∈AV.nmL vs,ns n=false)→∀n∈AV.nmL (AV.killL ds bs vs),ns n=false
 | [],h,n,hn=>by simp [AV.killL,AV.nmL]at hn
 |v::vs,h,n,hn=>by
  simp only [AV.killL,AV.nmL,List.mem_append]at hn
  rcases hn with hn|hn
  ·exact zCx v (fun n hn=>h n (by simp [AV.nmL,hn])) n hn
  ·exact VO vs (fun n hn=>h n (by simp [AV.nmL,hn])) n hn
end
theorem zHI {np:Bool}{v u:AV}(h:NS ns u):NS ns (vr np st v u):=by
 unfold vr
 split
 ·split
  ·split
   ·exact zCx u h
   ·exact h
  ·exact h
 ·exact h
theorem QI {v:AV}{vs:List AV}(h:fieldsOf v=some vs)(hv:NS ns v): ∀u∈vs,NS ns u:=fun u hu n hn=>hv n (QG h n (yG.2 ⟨u,hu,hn⟩))
theorem JM {α:Type}{cells vs:List α}{i:Nat}{x:α}(h:x∈lay cells i vs):x∈cells∨x∈vs:=by
 unfold lay at h
 simp only [List.mem_append]at h
 rcases h with(h|h)|h
 ·exact .inl (List.mem_of_mem_take h)
 ·exact .inr h
 ·exact .inl (List.mem_of_mem_drop h)
theorem zAb {fs:List (Nat×TypeId)}: ∀(parts:List (Nat×AV)) (cells us:List AV),(∀v∈cells,NS ns v)→(∀x∈parts,NS ns x.2)→vY τ fs cells parts=some us→∀v∈us,NS ns v
 | [],cells,us,hc,_,h=>by simp only [vY,Option.some.injEq]at h;subst h;exact hc
 |(i,v)::rest,cells,us,hc,hp,h=>by
  simp only [vY]at h
  split at h
  ·rename_i x vs h1 h2
   split at h
   ·refine zAb rest _ us (fun u hu=> ?_) (fun x hx=>hp x (by simp [hx])) h
    rcases JM hu with hu|hu
    ·exact hc u hu
    ·exact QI h2 (hp (i,v) (by simp)) u hu
   ·cases h
  ·cases h
theorem zIv (hf:yN ns st){o:Oper}{v:AV}{ob:Prop}(h:qF τ o st=some (v,ob)):NS ns v:=by
 obtain⟨dst,op,ty,pos,after,guard⟩:=o
 have ev': ∀x,NS ns (ev st x):=fun x=>hf.ev x
 unfold qF at h
 cases op<;>simp only at h<;>try(cases h;done)
 case move x=>cases h;exact ev' x
 case assign x=>cases h;exact ev' x
 case nilCheck x=>
  unfold ke at h
  have hx:=ev' x
  split at h
  ·rename_i t i hev
   rw [hev]at hx
   split at h
   ·cases h;exact hx
   ·cases h
  ·cases h
 case pick c x y=>
  split at h
  ·cases h;split
   ·exact ev' x
   ·exact ev' y
  ·cases h
 case load t x=>exact zA0 hf (ev' x) h
 case fieldAddr t x f=>
  unfold ZZ at h
  have hx:=ev' x
  split at h
  ·split at h
   ·cases hv:ev st x<;>rw [hv]at h<;>rw [hv]at hx<;>simp only at h<;>try(cases h;done)
    ·exact jR h (fun n hn=>hx n (by simpa [AV.nm]using hn))
    ·split at h
     ·cases h;exact fun n hn=>hx n (by simpa [AV.nm]using hn)
     ·cases h
   ·cases h
  ·cases h
 case indexAddr t x ix=>
  unfold Zc at h
  have hx:=ev' x
  split at h
  ·cases hv:ev st x<;>rw [hv]at h<;>rw [hv]at hx<;>(try simp only at h)<;>try(cases h;done)
   cases hi:ev st ix<;>rw [hi]at h<;>(try simp only at h)<;>try(cases h;done)
   split at h
   ·exact jR h (fun n hn=>hx n (by simpa [AV.nm]using hn))
   ·cases h
  ·cases h
 case field t x f=>
  have hx:=ev' x
  obtain⟨us,k,e1,e2⟩:=Ji h
  rw [e1]at hx
  exact fun n hn=>hx n (by simp only [AV.nm];exact yG.2 ⟨_,List.mem_of_getElem? e2,hn⟩)
 case extract x i=>
  have hx:=ev' x
  cases hv:ev st x<;>rw [hv]at h<;>rw [hv]at hx<;>simp only at h<;>try(cases h;done)
  rename_i vs
  cases hi:vs[i]? with
  |none=>rw [hi]at h;cases h
  |some u=>
   rw [hi]at h;cases h
   exact fun n hn=>hx n (by simp only [AV.nm];exact yG.2 ⟨_,List.mem_of_getElem? hi,hn⟩)
 case binOp op t x y r=>
  split at h
  ·rcases uL h with⟨k,n,rfl⟩|⟨b,rfl⟩<;>exact yT rfl
  ·unfold Wz at h
   split at h
   ·split at h<;>cases h<;>exact yT rfl
   ·cases h
  ·rcases uI h with⟨b,rfl⟩;exact yT rfl
  ·cases h
 case unOp op t x=>
  unfold unE at h
  split at h
  ·exact ar_ns h
  ·cases h;exact yT rfl
  ·cases h
 case build t parts=>
  unfold QY at h
  split at h
  ·rename_i ks fs b ht
   cases hfl:vY τ fs (ks.map wa) (parts.toList.map fun x=>(x.1,ev st x.2))with
   |none=>rw [hfl]at h;cases h
   |some us=>
    rw [hfl]at h;cases h
    refine Kd (zAb _ _ _ (fun v hv=> ?_) (fun x hx=> ?_) hfl)
    ·obtain⟨c,_,rfl⟩:=List.mem_map.1 hv
     cases c<;>exact yT rfl
    ·obtain⟨y,_,rfl⟩:=List.mem_map.1 hx
     exact ev' _
  ·cases h
 case convert s d x=>
  split at h
  ·rcases zAB h with⟨k,n,rfl⟩<;>exact yT rfl
  ·cases h
 case slice t x l u m=>
  split at h
  ·unfold Zg at h
   have hx:=ev' x
   split at h
   ·cases hv:ev st x<;>rw [hv]at h<;>rw [hv]at hx<;>simp only at h<;>try(cases h;done)
    split at h
    ·split at h
     ·exact jR h (fun n hn=>hx n (by simpa [AV.nm]using hn))
     ·cases h
    ·cases h
   ·cases h
  ·cases h
 case call c=>
  unfold vx at h
  split at h
  ·split at h
   ·split at h
    ·unfold VR at h
     split at h
     ·exact jR h (yT rfl)
     ·cases h;exact yT rfl
     ·cases h
    ·cases h
   ·unfold ka at h
    split at h
    ·cases h;exact yT rfl
    ·cases h
   ·unfold kc at h
    split at h
    ·cases h;exact yT rfl
    ·cases h
   ·unfold JO at h
    split at h
    ·cases h;exact yT rfl
    ·cases h
   ·cases h
  ·cases h
theorem Yq (t:Nat)(ho: ∀n,own t n=true→ns n=false): ∀(ds:List D) (j:Nat),j+ds.length≤16→∀v∈yR τ t j ds,NS ns v
 | [],j,_,v,hv=>by simp [yR]at hv
 | .lst e xs::ds,j,hl,v,hv=>by
  simp only [List.length_cons]at hl
  simp only [yR,List.mem_cons]at hv
  rcases hv with rfl|hv
  ·intro n hn
   simp only [AV.nm,List.mem_singleton]at hn
   subst hn
   exact ho _ (yY (by omega))
  ·exact Yq t ho ds (j+1) (by omega) v hv
 | .int k n::ds,j,hl,v,hv=>by
  simp only [List.length_cons]at hl
  simp only [yR,List.mem_cons]at hv
  rcases hv with rfl|hv
  ·exact yT rfl
  ·exact Yq t ho ds (j+1) (by omega) v hv
 | .bool b::ds,j,hl,v,hv=>by
  simp only [List.length_cons]at hl
  simp only [yR,List.mem_cons]at hv
  rcases hv with rfl|hv
  ·exact yT rfl
  ·exact Yq t ho ds (j+1) (by omega) v hv
 | .hole::ds,j,hl,v,hv=>by
  simp only [List.length_cons]at hl
  simp only [yR,List.mem_cons]at hv
  rcases hv with rfl|hv
  ·exact yT rfl
  ·exact Yq t ho ds (j+1) (by omega) v hv
theorem Ys (t:Nat)(ho: ∀n,own t n=true→ns n=false): ∀(xs:List VT) (j:Nat),j+(zv xs).length≤16→∀v∈xT τ t j xs,NS ns v
 | [],j,_,v,hv=>by simp [xT]at hv
 | .c d::xs,j,hl,v,hv=>by
  simp only [zv,VT.cells,List.length_append,List.length_cons,List.length_nil]at hl
  simp only [xT,List.mem_cons]at hv
  rcases hv with rfl|hv
  ·have :=Yq (τ:=τ) t ho [d] j (by simp only [List.length_cons,List.length_nil];omega)
   cases hr:yR τ t j [d]with
   |nil=>exact yT rfl
   |cons y ys=>rw [hr]at this;exact this y (by simp)
  ·exact Ys t ho xs (j+1) (by omega) v hv
 | .agg ds::xs,j,hl,v,hv=>by
  simp only [zv,VT.cells,List.length_append]at hl
  simp only [xT,List.mem_cons]at hv
  rcases hv with rfl|hv
  ·exact Kd (Yq t ho ds j (by omega))
  ·exact Ys t ho xs (j+ds.length) (by omega) v hv
 | .fn f ds::xs,j,hl,v,hv=>by
  simp only [zv,VT.cells,List.length_append]at hl
  simp only [xT,List.mem_cons]at hv
  rcases hv with rfl|hv
  ·exact yT rfl
  ·exact Ys t ho xs (j+ds.length) (by omega) v hv
theorem zCT (hf:yN ns st){o:Oper}{δ:Dl}(ho:xQ np o=true→∀n,own (zy o) n=true→ns n=false)(ha:vn P np τ o st δ):NS ns δ.v∧∀x∈δ.bx,∀v∈x.2,NS ns v:=by
 have sl: ∀{t:Nat} {len:Nat} {e:TypeId},(∀n,own t n=true→ns n=false)→NS ns (.sl (zb t 0) [] 0 len e):=fun{t len e} h n hn=>by
  simp only [AV.nm,List.mem_singleton]at hn;subst hn;exact h _ (yY (by omega))
 unfold vn at ha
 rcases ha with ha|ha|ha
 ·obtain⟨-,-,h3,-,h5,-⟩:=ha
  refine⟨?_,fun x hx=>by rw [h5]at hx;simp at hx⟩
  rcases h3 with⟨k,m,h3⟩|⟨f,xs,h3,-⟩<;>rw [h3]<;>intro n hn
  ·simp [AV.nm]at hn
  ·simp only [AV.nm]at hn
   obtain⟨v,hv,hm⟩:=yG.1 hn
   obtain⟨x,-,rfl⟩:=List.mem_map.1 hv
   exact hf.ev x n hm
 ·unfold jn at ha
  cases hc:yD o with
  |none=>rw [hc]at ha;exact ha.elim
  |some x=>
   obtain⟨f,args,ts⟩:=x
   rw [hc]at ha
   simp only at ha
   split at ha
   ·rename_i as ob us vs hargs hevs
    obtain⟨hob,pm,ress,hfn,hpm,hsz,hlen,rfl⟩:=ha
    refine⟨?_,fun x hx=>by simp at hx⟩
    obtain⟨x0,hv0⟩: ∃x0,ev st x0= .agg us:=by
     cases hal:args.toList with
     |nil=>rw [hal]at hevs;simp at hevs
     |cons x0 xs=>
      rw [hal]at hevs
      simp only [List.map_cons,List.cons.injEq]at hevs
      exact⟨x0,hevs.1⟩
    have hu:=hf.ev x0
    rw [hv0]at hu
    have hr:=Ys (τ:=τ) (zy o) (ho (xk hc)) [.agg ress] 0 (by simpa only [zv,VT.cells,List.append_nil,Nat.zero_add]using hlen)
    have hr2:=hr _ List.mem_cons_self
    intro n hn
    simp only [AV.nm]at hn
    obtain⟨v,hv,hm⟩:=yG.1 hn
    rcases List.mem_append.1 hv with hv|hv
    ·obtain⟨i,hi,rfl⟩:=List.mem_map.1 hv
     have hil:=hpm i hi
     refine hu n ?_
     simp only [AV.nm]
     refine yG.2 ⟨us.getD i .dead,?_,hm⟩
     rw [List.getD_eq_getElem?_getD,List.getElem?_eq_getElem hil]
     exact List.getElem_mem hil
    ·refine hr2 n ?_
     simp only [AV.nm]
     exact yG.2 ⟨v,hv,hm⟩
   ·exact ha.elim
 cases hc:yD o with
 |some x=>
  obtain⟨f,args,ts⟩:=x
  rw [hc]at ha
  simp only at ha
  cases hargs:ye τ st ts.toList (args.toList.map (ev st))with
  |none=>
   rw [hargs]at ha
   have hab:=ha.2
   unfold Qv at hab
   split at hab
   rotate_left
   ·exact hab.elim
   rename_i f' as T cells ds ob hact
   obtain⟨-,ds',ress,-,-,h3,rfl⟩:=hab
   have hT:lk st.b T=some cells:=by
    unfold ZR at hact
    rw [hc]at hact
    simp only at hact
    split at hact
    ·rename_i T' vs hvs
     cases hT:lk st.b T' with
     |none=>rw [hT]at hact;cases hact
     |some cells'=>
      rw [hT]at hact
      simp only at hact
      split at hact
      ·simp only [Option.some.injEq,Prod.mk.injEq]at hact
       obtain⟨rfl,rfl,rfl,rfl,rfl,rfl⟩:=hact
       exact hT
      ·cases hact
    ·cases hact
   refine⟨?_,fun x hx=> ?_⟩
   ·have hr:=Ys (τ:=τ) (zy o) (ho (xk hc)) ress 0 (by omega)
    unfold qk
    split
    ·rename_i v hv;rw [hv]at hr;exact hr v (by simp)
    ·intro n hn
     simp only [AV.nm]at hn
     obtain⟨v,hv,hm⟩:=yG.1 hn
     exact hr v hv n hm
   ·simp only [List.mem_singleton]at hx;subst hx
    intro v hv
    rcases VX hv with hv|⟨k,m,rfl⟩|⟨b,rfl⟩
    ·exact Kt hf hT v hv
    ·exact yT rfl
    ·exact yT rfl
  |some y=>
   rw [hargs]at ha
   obtain⟨hob,ress,h1,h2,h3,rfl⟩:=ha
   refine⟨?_,fun x hx=>by simp at hx⟩
   have hr:=Ys (τ:=τ) (zy o) (ho (xk hc)) ress 0 (by omega)
   unfold qk
   split
   ·rename_i v hv;rw [hv]at hr;exact hr v (by simp)
   ·intro n hn
    simp only [AV.nm]at hn
    obtain⟨v,hv,hm⟩:=yG.1 hn
    exact hr v hv n hm
 |none=>
  rw [hc]at ha
  simp only at ha
  cases he:vz np τ o st with
  |none=>rw [he]at ha;exact ha.elim
  |some y=>
   obtain⟨δ',ob⟩:=y
   rw [he]at ha
   obtain⟨hob,rfl⟩:=ha
   clear hob hc
   have plain:((qF τ o st).map fun y=>((⟨y.1,[],[],[]⟩:Dl),y.2))=some (δ,ob)→NS ns δ.v∧∀x∈δ.bx,∀v∈x.2,NS ns v:=fun he=>by
    cases hv:qF τ o st with
    |none=>rw [hv]at he;cases he
    |some y=>rw [hv]at he;cases he;exact⟨zIv hf hv,fun x hx=>by simp at hx⟩
   obtain⟨dst,op,ty,pos,after,guard⟩:=o
   unfold vz at he
   cases op<;>simp only at he
   case box e x=>
    split at he
    ·rename_i t vs hvs
     cases he
     refine⟨fun n hn=> ?_,fun x hx=> ?_⟩
     ·simp only [AV.nm,List.mem_singleton]at hn;subst hn;exact ho rfl _ kg
     ·simp only [List.mem_singleton]at hx;subst hx;exact QI hvs (hf.ev _)
    ·cases he
   case alloc e=>
    split at he
    ·rename_i t k b ht
     cases he
     refine⟨fun n hn=> ?_,fun x hx=> ?_⟩
     ·simp only [AV.nm,List.mem_singleton]at hn;subst hn;exact ho rfl _ kg
     ·simp only [List.mem_singleton]at hx;subst hx
      intro v hv
      obtain⟨c,_,rfl⟩:=List.mem_map.1 hv
      cases c<;>exact yT rfl
    ·cases he
   case makeSlice t l c=>
    split at he
    ·unfold VW at he
     split at he
     ·split at he
      ·split at he
       ·cases he;exact⟨sl (ho rfl),fun x hx=>by simp at hx⟩
       ·cases he
      ·cases he
     ·cases he
    ·cases he
   case buildSlice t len parts=>
    split at he
    ·rcases yW he with he|he
     ·unfold KK at he
      split at he
      ·split at he
       ·split at he
        ·cases he;exact⟨sl (ho rfl),fun x hx=>by simp at hx⟩
        ·cases he
       ·cases he
      ·cases he
     ·rcases yW he with he|he
      ·unfold QK at he
       split at he
       ·split at he
        ·split at he
         ·split at he
          ·cases he;exact⟨sl (ho rfl),fun x hx=>by simp at hx⟩
          ·cases he
         ·cases he
        ·cases he
       ·cases he
      ·unfold QL at he
       split at he
       ·split at he
        ·split at he
         ·rename_i R _ _ hR _
          split at he
          ·cases he;exact⟨sl (ho rfl),fun x hx=>by simp at hx⟩
          ·cases he
         ·cases he
        ·cases he
       ·cases he
    ·cases he
   case load t x=>
    rcases yW he with he|he
    ·unfold ww at he
     split at he
     ·split at he
      ·split at he
       ·rename_i hc;cases he;exact⟨sl (ho hc.1),fun x hx=>by simp at hx⟩
       ·cases he
      ·cases he
     ·cases he
    unfold Yg at he
    cases hv:qu τ st t (ev st x)with
    |none=>rw [hv]at he;cases he
    |some y=>rw [hv]at he;cases he;exact⟨zHI (zA0 hf (hf.ev x) hv),fun x hx=>by simp at hx⟩
   case store t p x=>
    rcases yW he with he|he
    rotate_left
    ·split at he
     ·cases hp:ev st p<;>rw [hp]at he<;>simp only [wn]at he<;>try(cases he;done)
      rename_i d q i
      cases q with
      |cons _ _=>simp at he
      |nil=>
       simp only at he
       split at he
       ·split at he
        ·split at he
         ·cases he;exact⟨yT rfl,fun x hx=>by simp at hx⟩
         ·cases he
        ·cases he
       ·cases he
     ·cases he
    cases hp:ev st p<;>rw [hp]at he<;>simp only [vT]at he<;>try(cases he;done)
    ·split at he
     ·split at he
      ·split at he
       ·cases he;exact⟨yT rfl,fun x hx=>by simp at hx⟩
       ·cases he;exact⟨yT rfl,fun x hx=>by simp at hx⟩
       ·cases he
      ·cases he
     ·cases he
    ·split at he
     ·rename_i vs cells hvs hcells
      split at he
      ·cases he
       refine⟨yT rfl,fun x hx=> ?_⟩
       simp only [List.mem_singleton]at hx;subst hx
       intro v hv
       rcases JM hv with hv|hv
       ·exact Kt hf hcells v hv
       ·exact QI hvs (hf.ev _) v hv
      ·cases he
     ·cases he
   case call c=>
    obtain⟨callee,args,argTypes⟩:=c
    simp only at he
    split at he
    ·split at he
     ·split at he
      ·have h1:=ho rfl
       rcases yW he with he|he
       ·unfold QA at he
        split at he
        ·split at he
         ·split at he
          ·split at he
           ·unfold Zk at he
            split at he
            ·cases he;exact⟨sl h1,fun x hx=>by simp at hx⟩
            ·split at he
             ·split at he
              ·cases he;exact⟨sl h1,fun x hx=>by simp at hx⟩
              ·cases he
             ·cases he
            ·cases he
           ·cases he
          ·cases he
         ·cases he
        ·cases he
       ·unfold QB at he
        split at he
        ·split at he
         ·split at he
          ·split at he
           ·unfold Zl at he
            split at he
            ·cases he;exact⟨sl h1,fun x hx=>by simp at hx⟩
            ·split at he
             ·split at he
              ·cases he;exact⟨sl h1,fun x hx=>by simp at hx⟩
              ·cases he
             ·cases he
            ·cases he
           ·cases he
          ·cases he
         ·cases he
        ·cases he
      ·cases he
     ·cases he
    ·exact plain he
   all_goals exact plain he
theorem KE (hf:yN ns st){d:Option Tmp}{δ:Dl}(h:NS ns δ.v∧∀x∈δ.bx,∀v∈x.2,NS ns v):yN ns (st.app d δ):=by
 refine⟨fun k v hv=> ?_,fun k cs hc=> ?_⟩
 ·rw [ZU]at hv
  split at hv
  ·cases hv;exact h.1
  ·exact hf.s k v hv
 ·rw [wK]at hc
  cases hx:lk δ.bx k with
  |some cs'=>
   rw [hx]at hc
   simp only [Option.some_or,Option.some.injEq]at hc
   subst hc
   intro n hn
   obtain⟨v,hv,hm⟩:=yG.1 hn
   exact h.2 _ (vP hx) v hv n hm
  |none=>rw [hx]at hc;simp only [Option.none_or]at hc;exact hf.b k cs hc
theorem UB {all:List Oper}(hf:yN ns st){o:Oper}{δ:Dl}(ho:xQ np o=true→∀n,own (zy o) n=true→ns n=false)(ha:qc P np τ all o st δ):yN ns (st.app o.dst δ):=by
 have skip:yN ns (st.app o.dst Dl.skip):=KE hf ⟨yT rfl,fun x hx=>by simp [Dl.skip]at hx⟩
 unfold qc at ha
 split at ha
 ·exact KE hf (zCT hf ho ha)
 ·rename_i j want _
  split at ha
  ·rename_i b _
   by_cases e:b=want
   ·exact KE hf (zCT hf ho (ha.1 e))
   ·have :=ha.2 (by cases b<;>cases want<;>simp_all);subst this;exact skip
  ·subst ha;exact skip
  ·exact ha.elim
end
structure YY (ns:Nat→Bool)(st:St):Prop where
 s: ∀k v,lk st.s k=some v→∀n∈v.pm,ns n=false
 b: ∀k cs,lk st.b k=some cs→∀n∈AV.pmL cs,ns n=false
theorem zE3 (v:Value):(cv1 v).pm= []:=by unfold cv1;split<;>rfl
theorem cv_pm (v:Value):(cv v).pm= []:=by
 unfold cv
 split
 ·rename_i cs
  simp only [AV.pm]
  rw [List.eq_nil_iff_forall_not_mem]
  intro n hn
  obtain⟨v,hv,hm⟩:=qY.1 hn
  obtain⟨x,_,rfl⟩:=List.mem_map.1 hv
  rw [zE3]at hm
  simp at hm
 ·exact zE3 _
theorem YY.ev {ns:Nat→Bool}{st:St}(h:YY ns st)(x:Operand): ∀n∈(ev st x).pm,ns n=false:=by
 intro n hn
 cases x with
 |tmp t=>
  simp only [Go.Proofs.Ytggpbepdeilpgaa.ev]at hn
  cases hx:lk st.s t with
  |none=>rw [hx]at hn;simp [AV.pm]at hn
  |some v=>rw [hx]at hn;exact h.s t v hx n hn
 |const v=>simp only [Go.Proofs.Ytggpbepdeilpgaa.ev,cv_pm]at hn;simp at hn
 |func f=>simp [Go.Proofs.Ytggpbepdeilpgaa.ev,AV.pm,AV.pmL]at hn
 |global g=>simp [Go.Proofs.Ytggpbepdeilpgaa.ev,AV.pm]at hn
theorem Ub {n d:Nat}{p:List Nat}{off len:Nat}{e:TypeId}(h:n∈(AV.sl d p off len e).pm):n=d:=by
 cases p<;>simp [AV.pm]at h;exact h
theorem zED {n d:Nat}{p:List Nat}{i:Nat}(h:n∈(AV.ep d p i).pm):n=d:=by
 cases p<;>simp [AV.pm]at h;exact h
theorem zB2 {v:AV}{vs:List AV}(h:fieldsOf v=some vs): ∀n,n∈AV.pmL vs→n∈v.pm:=by
 intro n hn
 cases v<;>simp only [fieldsOf]at h<;>cases h<;>(try simp only [AV.pmL,List.append_nil]at hn)<;>first|exact hn|(simp only [AV.pm]at hn⊢;exact hn)
mutual
theorem zII : ∀(v:AV) (n:Nat),n∈v.pm→2*n∈v.nm
 | .int k m,n,h=>by simp [AV.pm]at h
 | .bool b,n,h=>by simp [AV.pm]at h
 | .sl d p off len e,n,h=>by have :=Ub h;subst this;simp [AV.nm]
 | .nil,n,h=>by simp [AV.pm]at h
 | .ep d p i,n,h=>by have :=zED h;subst this;simp [AV.nm]
 | .bp t i,n,h=>by simp [AV.pm]at h
 | .agg vs,n,h=>by simp only [AV.pm,AV.nm]at h⊢;exact Qk vs n h
 | .tup vs,n,h=>by simp only [AV.pm,AV.nm]at h⊢;exact Qk vs n h
 | .fn f vs,n,h=>by simp only [AV.pm,AV.nm]at h⊢;exact Qk vs n h
 | .dead,n,h=>by simp [AV.pm]at h
 | .raw u,n,h=>by simp [AV.pm]at h
theorem Qk : ∀(vs:List AV) (n:Nat),n∈AV.pmL vs→2*n∈AV.nmL vs
 | [],n,h=>by simp [AV.pmL]at h
 |v::vs,n,h=>by
  simp only [AV.pmL,AV.nmL,List.mem_append]at h⊢
  rcases h with h|h
  ·exact .inl (zII v n h)
  ·exact .inr (Qk vs n h)
end
mutual
theorem zCy {ds bs:Nat→Bool}: ∀(v:AV) (n:Nat),n∈(v.kill ds bs).pm→ds n=false
 | .int k m,n,h=>by simp [AV.kill,AV.pm]at h
 | .bool b,n,h=>by simp [AV.kill,AV.pm]at h
 | .sl d p off len e,n,h=>by
  simp only [AV.kill]at h
  split at h
  ·simp [AV.pm]at h
  ·rename_i hd;have :=Ub h;subst this;simpa using hd
 | .nil,n,h=>by simp [AV.kill,AV.pm]at h
 | .ep d p i,n,h=>by
  simp only [AV.kill]at h
  split at h
  ·simp [AV.pm]at h
  ·rename_i hd;have :=zED h;subst this;simpa using hd
 | .bp t i,n,h=>by simp only [AV.kill]at h;split at h<;>simp [AV.pm]at h
 | .agg vs,n,h=>by simp only [AV.kill,AV.pm]at h;exact VP vs n h
 | .tup vs,n,h=>by simp only [AV.kill,AV.pm]at h;exact VP vs n h
 | .fn f vs,n,h=>by simp only [AV.kill,AV.pm]at h;exact VP vs n h
 | .dead,n,h=>by simp [AV.kill,AV.pm]at h
 | .raw u,n,h=>by simp [AV.kill,AV.pm]at h
theorem VP {ds bs:Nat→Bool}: ∀(vs:List AV) (n:Nat),n∈AV.pmL (AV.killL ds bs vs)→ds n=false
 | [],n,h=>by simp [AV.killL,AV.pmL]at h
 |v::vs,n,h=>by
  simp only [AV.killL,AV.pmL,List.mem_append]at h
  rcases h with h|h
  ·exact zCy v n h
  ·exact VP vs n h
end
section
variable {P:Program} {τ:Ty} {st:St} {ns:Nat→Bool}
def NSp (ns:Nat→Bool)(v:AV):Prop:= ∀n∈v.pm,ns n=false
mutual
theorem kT {ds bs:Nat→Bool}: ∀(v:AV),NSp ns v→NSp ns (v.kill ds bs)
 | .int k n,h=>h
 | .bool b,h=>h
 | .sl d p off len e,h=>by
  simp only [AV.kill];split
  ·intro n hn;simp [AV.pm]at hn
  ·exact h
 | .nil,h=>h
 | .ep d p i,h=>by
  simp only [AV.kill];split
  ·intro n hn;simp [AV.pm]at hn
  ·exact h
 | .bp t i,h=>by
  simp only [AV.kill];split
  ·intro n hn;simp [AV.pm]at hn
  ·exact h
 | .agg vs,h=>fun n hn=>VN vs (fun n hn=>h n (by simpa only [AV.pm]using hn)) n (by simpa only [AV.kill,AV.pm]using hn)
 | .tup vs,h=>fun n hn=>VN vs (fun n hn=>h n (by simpa only [AV.pm]using hn)) n (by simpa only [AV.kill,AV.pm]using hn)
 | .fn f vs,h=>fun n hn=>VN vs (fun n hn=>h n (by simpa only [AV.pm]using hn)) n (by simpa only [AV.kill,AV.pm]using hn)
 | .dead,h=>h
 | .raw u,h=>h
theorem VN {ds bs:Nat→Bool}: ∀(vs:List AV),(∀n∈AV.pmL vs,ns n=false)→∀n∈AV.pmL (AV.killL ds bs vs),ns n=false
 | [],h,n,hn=>by simp [AV.killL,AV.pmL]at hn
 |v::vs,h,n,hn=>by
  simp only [AV.killL,AV.pmL,List.mem_append]at hn
  rcases hn with hn|hn
  ·exact kT v (fun n hn=>h n (by simp [AV.pmL,hn])) n hn
  ·exact VN vs (fun n hn=>h n (by simp [AV.pmL,hn])) n hn
end
theorem zHH {np:Bool}{v u:AV}(h:NSp ns u):NSp ns (vr np st v u):=by
 unfold vr
 split
 ·split
  ·split
   ·exact kT u h
   ·exact h
  ·exact h
 ·exact h
theorem yV {v:AV}(h:v.pm= []):NSp ns v:=fun n hn=>by rw [h]at hn;simp at hn
theorem Wr {vs:List AV}(h: ∀v∈vs,NSp ns v):NSp ns (.agg vs):=fun n hn=>by
 simp only [AV.pm]at hn
 obtain⟨v,hv,hm⟩:=qY.1 hn
 exact h v hv n hm
theorem zJn (k:IntKind)(n:Int):NSp ns (ar k n).1:=by unfold ar;cases k<;>exact yV rfl
theorem ar_np {k:IntKind}{n:Int}{v:AV}{ob:Prop}(h:some (ar k n)=some (v,ob)):NSp ns v:=by
 have h1:=Option.some.inj h
 have :=zJn (ns:=ns) k n
 rw [h1]at this
 exact this
theorem jQ {d:Nat}{p:List Nat}{v u:AV}{o o':Prop}(h:onR st d p v o=some (u,o'))(hv:NSp ns v):NSp ns u:=by
 unfold onR at h
 split at h
 ·cases h;exact hv
 ·cases h
theorem zAN {d:Nat}{p:List Nat}{i:Nat}{xs:List D}{c:CK}(h:ns d=false):NSp ns (wt τ d p i xs c):=by
 cases c with
 |int k=>exact yV rfl
 |bool=>exact yV rfl
 |sl e=>intro n hn;simp only [wt]at hn;have :=Ub hn;subst this;exact h
theorem uO {d:Nat}{p:List Nat}{xs:List D}(h:ns d=false): ∀(cs:List CK) (i:Nat),∀v∈vg τ d p xs i cs,NSp ns v
 | [],i,v,hv=>by simp [vg]at hv
 |c::cs,i,v,hv=>by
  simp only [vg,List.mem_cons]at hv
  rcases hv with rfl|hv
  ·exact zAN h
  ·exact uO h cs (i+1) v hv
theorem zAI (hf:YY ns st){b:Nat}{cs:List AV}(hb:lk st.b b=some cs): ∀v∈cs,NSp ns v:=fun v hv n hn=>hf.b b cs hb n (qY.2 ⟨v,hv,hn⟩)
theorem zG8 (hf:YY ns st){t:TypeId}{v u:AV}{ob:Prop}(hv:NSp ns v)(h:qu τ st t v=some (u,ob))(hex: ∀d p i R,v= .ep d p i→lk st.r d=some R→ns d=true→R.o= .ex∧∀n,ns n=true→n=d):NSp ns (vr true st v u):=by
 cases v<;>simp only [qu]at h<;>try(cases h;done)
 ·rename_i d p i
  cases hR:lk st.r d with
  |none=>rw [hR]at h;cases h
  |some R=>
   rw [hR]at h
   have key:(ns d=false→NSp ns u)→NSp ns (vr true st (.ep d p i) u):=fun hu=>by
    simp only [vr,hR]
    by_cases hd:ns d=false
    ·split
     ·exact kT u (hu hd)
     ·exact hu hd
    ·obtain⟨e1,e2⟩:=hex d p i R rfl hR (by simpa using hd)
     rw [if_pos ⟨trivial,by rw [e1];rfl⟩]
     intro n hn
     have h1:=zCy u n hn
     cases hns:ns n with
     |false=>rfl
     |true=>have :=e2 n hns;subst this;simp [is1]at h1
   refine key fun hd=> ?_
   cases ht:tk τ t with
   |none=>rw [ht]at h;cases h
   |some y=>
    obtain⟨K,by_⟩:=y
    rw [ht]at h
    cases K with
    |sc c=>simp only [Option.some.injEq,Prod.mk.injEq]at h;rw [←h.1];exact zAN hd
    |st ks fs=>simp only [Option.some.injEq,Prod.mk.injEq]at h;rw [←h.1];exact Wr (uO hd _ _)
 ·rename_i b i
  refine zHH ?_
  split at h
  ·rename_i cs _ _ hcs _
   cases h
   rw [List.getD_eq_getElem?_getD]
   cases hx:cs[i]? with
   |none=>exact yV rfl
   |some v=>exact zAI hf hcs v (List.mem_of_getElem? hx)
  ·rename_i cs _ _ _ hcs _
   cases h
   exact Wr fun v hv=>zAI hf hcs v (List.mem_of_mem_drop (List.mem_of_mem_take hv))
  ·cases h
theorem QH {v:AV}{vs:List AV}(h:fieldsOf v=some vs)(hv:NSp ns v): ∀u∈vs,NSp ns u:=fun u hu n hn=>hv n (zB2 h n (qY.2 ⟨u,hu,hn⟩))
theorem zAa {fs:List (Nat×TypeId)}: ∀(parts:List (Nat×AV)) (cells us:List AV),(∀v∈cells,NSp ns v)→(∀x∈parts,NSp ns x.2)→vY τ fs cells parts=some us→∀v∈us,NSp ns v
 | [],cells,us,hc,_,h=>by simp only [vY,Option.some.injEq]at h;subst h;exact hc
 |(i,v)::rest,cells,us,hc,hp,h=>by
  simp only [vY]at h
  split at h
  ·rename_i x vs h1 h2
   split at h
   ·refine zAa rest _ us (fun u hu=> ?_) (fun x hx=>hp x (by simp [hx])) h
    rcases JM hu with hu|hu
    ·exact hc u hu
    ·exact QH h2 (hp (i,v) (by simp)) u hu
   ·cases h
  ·cases h
theorem zIu (hf:YY ns st){o:Oper}(hnl: ∀t x,o.op≠ .load t x){v:AV}{ob:Prop}(h:qF τ o st=some (v,ob)):NSp ns v:=by
 obtain⟨dst,op,ty,pos,after,guard⟩:=o
 have ev': ∀x,NSp ns (ev st x):=fun x=>hf.ev x
 unfold qF at h
 cases op<;>simp only at h<;>try(cases h;done)
 case load t x=>exact absurd rfl (hnl t x)
 case move x=>cases h;exact ev' x
 case assign x=>cases h;exact ev' x
 case nilCheck x=>
  unfold ke at h
  have hx:=ev' x
  split at h
  ·rename_i t i hev
   rw [hev]at hx
   split at h
   ·cases h;exact hx
   ·cases h
  ·cases h
 case pick c x y=>
  split at h
  ·cases h;split
   ·exact ev' x
   ·exact ev' y
  ·cases h
 case fieldAddr t x f=>
  unfold ZZ at h
  have hx:=ev' x
  split at h
  ·split at h
   ·cases hv:ev st x<;>rw [hv]at h<;>rw [hv]at hx<;>simp only at h<;>try(cases h;done)
    ·exact jQ h (fun n hn=>hx n (by simpa [AV.pm]using hn))
    ·split at h
     ·cases h;exact fun n hn=>hx n (by simp [AV.pm]at hn)
     ·cases h
   ·cases h
  ·cases h
 case indexAddr t x ix=>
  unfold Zc at h
  have hx:=ev' x
  split at h
  ·cases hv:ev st x<;>rw [hv]at h<;>rw [hv]at hx<;>(try simp only at h)<;>try(cases h;done)
   cases hi:ev st ix<;>rw [hi]at h<;>(try simp only at h)<;>try(cases h;done)
   split at h
   ·exact jQ h (fun n hn=>hx n (by simpa [AV.pm]using hn))
   ·cases h
  ·cases h
 case field t x f=>
  have hx:=ev' x
  obtain⟨us,k,e1,e2⟩:=Ji h
  rw [e1]at hx
  exact fun n hn=>hx n (by simp only [AV.pm];exact qY.2 ⟨_,List.mem_of_getElem? e2,hn⟩)
 case extract x i=>
  have hx:=ev' x
  cases hv:ev st x<;>rw [hv]at h<;>rw [hv]at hx<;>simp only at h<;>try(cases h;done)
  rename_i vs
  cases hi:vs[i]? with
  |none=>rw [hi]at h;cases h
  |some u=>
   rw [hi]at h;cases h
   exact fun n hn=>hx n (by simp only [AV.pm];exact qY.2 ⟨_,List.mem_of_getElem? hi,hn⟩)
 case binOp op t x y r=>
  split at h
  ·rcases uL h with⟨k,n,rfl⟩|⟨b,rfl⟩<;>exact yV rfl
  ·unfold Wz at h
   split at h
   ·split at h<;>cases h<;>exact yV rfl
   ·cases h
  ·rcases uI h with⟨b,rfl⟩;exact yV rfl
  ·cases h
 case unOp op t x=>
  unfold unE at h
  split at h
  ·exact ar_np h
  ·cases h;exact yV rfl
  ·cases h
 case build t parts=>
  unfold QY at h
  split at h
  ·rename_i ks fs b ht
   cases hfl:vY τ fs (ks.map wa) (parts.toList.map fun x=>(x.1,ev st x.2))with
   |none=>rw [hfl]at h;cases h
   |some us=>
    rw [hfl]at h;cases h
    refine Wr (zAa _ _ _ (fun v hv=> ?_) (fun x hx=> ?_) hfl)
    ·obtain⟨c,_,rfl⟩:=List.mem_map.1 hv
     cases c<;>exact yV rfl
    ·obtain⟨y,_,rfl⟩:=List.mem_map.1 hx
     exact ev' _
  ·cases h
 case convert s d x=>
  split at h
  ·rcases zAB h with⟨k,n,rfl⟩<;>exact yV rfl
  ·cases h
 case slice t x l u m=>
  split at h
  ·unfold Zg at h
   have hx:=ev' x
   split at h
   ·cases hv:ev st x<;>rw [hv]at h<;>rw [hv]at hx<;>simp only at h<;>try(cases h;done)
    split at h
    ·split at h
     ·exact jQ h (fun n hn=>hx n (by simpa [AV.pm]using hn))
     ·cases h
    ·cases h
   ·cases h
  ·cases h
 case call c=>
  unfold vx at h
  split at h
  ·split at h
   ·split at h
    ·unfold VR at h
     split at h
     ·exact jQ h (yV rfl)
     ·cases h;exact yV rfl
     ·cases h
    ·cases h
   ·unfold ka at h
    split at h
    ·cases h;exact yV rfl
    ·cases h
   ·unfold kc at h
    split at h
    ·cases h;exact yV rfl
    ·cases h
   ·unfold JO at h
    split at h
    ·cases h;exact yV rfl
    ·cases h
   ·cases h
  ·cases h
theorem Yr (t:Nat): ∀(ds:List D) (j:Nat),∀v∈yR τ t j ds,v.pm= []
 | [],j,v,hv=>by simp [yR]at hv
 | .lst e xs::ds,j,v,hv=>by
  simp only [yR,List.mem_cons]at hv
  rcases hv with rfl|hv
  ·rfl
  ·exact Yr t ds (j+1) v hv
 | .int k n::ds,j,v,hv=>by
  simp only [yR,List.mem_cons]at hv
  rcases hv with rfl|hv
  ·rfl
  ·exact Yr t ds (j+1) v hv
 | .bool b::ds,j,v,hv=>by
  simp only [yR,List.mem_cons]at hv
  rcases hv with rfl|hv
  ·rfl
  ·exact Yr t ds (j+1) v hv
 | .hole::ds,j,v,hv=>by
  simp only [yR,List.mem_cons]at hv
  rcases hv with rfl|hv
  ·rfl
  ·exact Yr t ds (j+1) v hv
theorem Qm (t:Nat): ∀(xs:List VT) (j:Nat),∀v∈xT τ t j xs,NSp ns v
 | [],j,v,hv=>by simp [xT]at hv
 | .c d::xs,j,v,hv=>by
  simp only [xT,List.mem_cons]at hv
  rcases hv with rfl|hv
  ·have :=Yr (τ:=τ) t [d] j
   cases hr:yR τ t j [d]with
   |nil=>exact yV rfl
   |cons y ys=>rw [hr]at this;exact yV (this y (by simp))
  ·exact Qm t xs (j+1) v hv
 | .agg ds::xs,j,v,hv=>by
  simp only [xT,List.mem_cons]at hv
  rcases hv with rfl|hv
  ·exact Wr fun v hv=>yV (Yr t ds j v hv)
  ·exact Qm t xs (j+ds.length) v hv
 | .fn f ds::xs,j,v,hv=>by
  simp only [xT,List.mem_cons]at hv
  rcases hv with rfl|hv
  ·exact yV rfl
  ·exact Qm t xs (j+ds.length) v hv
theorem zCS (hf:YY ns st)(hex: ∀x d p i R,ev st x= .ep d p i→lk st.r d=some R→ns d=true→R.o= .ex∧∀n,ns n=true→n=d){o:Oper}{δ:Dl}(ha:vn P true τ o st δ):NSp ns δ.v∧∀x∈δ.bx,∀v∈x.2,NSp ns v:=by
 have sl: ∀{t:Nat} {len:Nat} {e:TypeId},NSp ns (.sl (zb t 0) [] 0 len e):=fun{t len e}=>yV rfl
 unfold vn at ha
 rcases ha with ha|ha|ha
 ·obtain⟨-,-,h3,-,h5,-⟩:=ha
  refine⟨?_,fun x hx=>by rw [h5]at hx;simp at hx⟩
  rcases h3 with⟨k,m,h3⟩|⟨f,xs,h3,-⟩<;>rw [h3]<;>intro n hn
  ·simp [AV.pm]at hn
  ·simp only [AV.pm]at hn
   obtain⟨v,hv,hm⟩:=qY.1 hn
   obtain⟨x,-,rfl⟩:=List.mem_map.1 hv
   exact hf.ev x n hm
 ·unfold jn at ha
  cases hc:yD o with
  |none=>rw [hc]at ha;exact ha.elim
  |some x=>
   obtain⟨f,args,ts⟩:=x
   rw [hc]at ha
   simp only at ha
   split at ha
   ·rename_i as ob us vs hargs hevs
    obtain⟨hob,pm,ress,hfn,hpm,hsz,hlen,rfl⟩:=ha
    refine⟨?_,fun x hx=>by simp at hx⟩
    obtain⟨x0,hv0⟩: ∃x0,ev st x0= .agg us:=by
     cases hal:args.toList with
     |nil=>rw [hal]at hevs;simp at hevs
     |cons x0 xs=>
      rw [hal]at hevs
      simp only [List.map_cons,List.cons.injEq]at hevs
      exact⟨x0,hevs.1⟩
    have hu:=hf.ev x0
    rw [hv0]at hu
    have hr:=Qm (ns:=ns) (τ:=τ) (zy o) [.agg ress] 0
    have hr2:=hr _ List.mem_cons_self
    intro n hn
    simp only [AV.pm]at hn
    obtain⟨v,hv,hm⟩:=qY.1 hn
    rcases List.mem_append.1 hv with hv|hv
    ·obtain⟨i,hi,rfl⟩:=List.mem_map.1 hv
     have hil:=hpm i hi
     refine hu n ?_
     simp only [AV.pm]
     refine qY.2 ⟨us.getD i .dead,?_,hm⟩
     rw [List.getD_eq_getElem?_getD,List.getElem?_eq_getElem hil]
     exact List.getElem_mem hil
    ·refine hr2 n ?_
     simp only [AV.pm]
     exact qY.2 ⟨v,hv,hm⟩
   ·exact ha.elim
 cases hc:yD o with
 |some x=>
  obtain⟨f,args,ts⟩:=x
  rw [hc]at ha
  simp only at ha
  cases hargs:ye τ st ts.toList (args.toList.map (ev st))with
  |none=>rw [hargs]at ha;exact absurd ha.1 (by simp)
  |some y=>
   rw [hargs]at ha
   obtain⟨hob,ress,h1,h2,h3,rfl⟩:=ha
   refine⟨?_,fun x hx=>by simp at hx⟩
   have hr:=Qm (ns:=ns) (τ:=τ) (zy o) ress 0
   unfold qk
   split
   ·rename_i v hv;rw [hv]at hr;exact hr v (by simp)
   ·intro n hn
    simp only [AV.pm]at hn
    obtain⟨v,hv,hm⟩:=qY.1 hn
    exact hr v hv n hm
 |none=>
  rw [hc]at ha
  simp only at ha
  cases he:vz true τ o st with
  |none=>rw [he]at ha;exact ha.elim
  |some y=>
   obtain⟨δ',ob⟩:=y
   rw [he]at ha
   obtain⟨hob,rfl⟩:=ha
   clear hob hc
   have plain:(∀t x,o.op≠ .load t x)→((qF τ o st).map fun y=>((⟨y.1,[],[],[]⟩:Dl),y.2))=some (δ,ob)→NSp ns δ.v∧∀x∈δ.bx,∀v∈x.2,NSp ns v   :=fun hnl he=>by
    cases hv:qF τ o st with
    |none=>rw [hv]at he;cases he
    |some y=>rw [hv]at he;cases he;exact⟨zIu hf hnl hv,fun x hx=>by simp at hx⟩
   obtain⟨dst,op,ty,pos,after,guard⟩:=o
   unfold vz at he
   cases op<;>simp only at he
   case box e x=>
    split at he
    ·rename_i t vs hvs
     cases he
     refine⟨fun n hn=> ?_,fun x hx=> ?_⟩
     ·simp [AV.pm]at hn
     ·simp only [List.mem_singleton]at hx;subst hx;exact QH hvs (hf.ev _)
    ·cases he
   case alloc e=>
    split at he
    ·rename_i t k b ht
     cases he
     refine⟨fun n hn=> ?_,fun x hx=> ?_⟩
     ·simp [AV.pm]at hn
     ·simp only [List.mem_singleton]at hx;subst hx
      intro v hv
      obtain⟨c,_,rfl⟩:=List.mem_map.1 hv
      cases c<;>exact yV rfl
    ·cases he
   case makeSlice t l c=>
    split at he
    ·unfold VW at he
     split at he
     ·split at he
      ·split at he
       ·cases he;exact⟨sl,fun x hx=>by simp at hx⟩
       ·cases he
      ·cases he
     ·cases he
    ·cases he
   case buildSlice t len parts=>
    split at he
    ·rcases yW he with he|he
     ·unfold KK at he
      split at he
      ·split at he
       ·split at he
        ·cases he;exact⟨sl,fun x hx=>by simp at hx⟩
        ·cases he
       ·cases he
      ·cases he
     ·rcases yW he with he|he
      ·unfold QK at he
       split at he
       ·split at he
        ·split at he
         ·split at he
          ·cases he;exact⟨sl,fun x hx=>by simp at hx⟩
          ·cases he
         ·cases he
        ·cases he
       ·cases he
      ·unfold QL at he
       split at he
       ·split at he
        ·split at he
         ·rename_i R _ _ hR _
          split at he
          ·cases he;exact⟨sl,fun x hx=>by simp at hx⟩
          ·cases he
         ·cases he
        ·cases he
       ·cases he
    ·cases he
   case load t x=>
    rcases yW he with he|he
    ·unfold ww at he
     split at he
     ·split at he
      ·split at he
       ·cases he;exact⟨sl,fun x hx=>by simp at hx⟩
       ·cases he
      ·cases he
     ·cases he
    unfold Yg at he
    cases hv:qu τ st t (ev st x)with
    |none=>rw [hv]at he;cases he
    |some y=>rw [hv]at he;cases he;exact⟨zG8 hf (hf.ev x) hv (fun d p i R e1 e2 e3=>hex x d p i R e1 e2 e3),fun x hx=>by simp at hx⟩
   case store t p x=>
    rcases yW he with he|he
    rotate_left
    ·split at he
     ·cases hp:ev st p<;>rw [hp]at he<;>simp only [wn]at he<;>try(cases he;done)
      rename_i d q i
      cases q with
      |cons _ _=>simp at he
      |nil=>
       simp only at he
       split at he
       ·split at he
        ·split at he
         ·cases he;exact⟨yV rfl,fun x hx=>by simp at hx⟩
         ·cases he
        ·cases he
       ·cases he
     ·cases he
    cases hp:ev st p<;>rw [hp]at he<;>simp only [vT]at he<;>try(cases he;done)
    ·split at he
     ·split at he
      ·split at he
       ·cases he;exact⟨yV rfl,fun x hx=>by simp at hx⟩
       ·cases he;exact⟨yV rfl,fun x hx=>by simp at hx⟩
       ·cases he
      ·cases he
     ·cases he
    ·split at he
     ·rename_i vs cells hvs hcells
      split at he
      ·cases he
       refine⟨yV rfl,fun x hx=> ?_⟩
       simp only [List.mem_singleton]at hx;subst hx
       intro v hv
       rcases JM hv with hv|hv
       ·exact zAI hf hcells v hv
       ·exact QH hvs (hf.ev _) v hv
      ·cases he
     ·cases he
   case call c=>
    obtain⟨callee,args,argTypes⟩:=c
    simp only at he
    split at he
    ·split at he
     ·split at he
      ·rcases yW he with he|he
       ·unfold QA at he
        split at he
        ·split at he
         ·split at he
          ·split at he
           ·unfold Zk at he
            split at he
            ·cases he;exact⟨sl,fun x hx=>by simp at hx⟩
            ·split at he
             ·split at he
              ·cases he;exact⟨sl,fun x hx=>by simp at hx⟩
              ·cases he
             ·cases he
            ·cases he
           ·cases he
          ·cases he
         ·cases he
        ·cases he
       ·unfold QB at he
        split at he
        ·split at he
         ·split at he
          ·split at he
           ·unfold Zl at he
            split at he
            ·cases he;exact⟨sl,fun x hx=>by simp at hx⟩
            ·split at he
             ·split at he
              ·cases he;exact⟨sl,fun x hx=>by simp at hx⟩
              ·cases he
             ·cases he
            ·cases he
           ·cases he
          ·cases he
         ·cases he
        ·cases he
      ·cases he
     ·cases he
    ·exact plain (fun t x e=>by cases e) he
   all_goals exact plain (fun t x e=>by cases e) he
theorem wz (t:Nat): ∀(ds:List D) (j:Nat),j+ds.length≤16→∀x∈qN t j ds,own t (2*x.1)=true
 | [],j,_,x,hx=>by simp [qN]at hx
 | .int _ _::ds,j,hl,x,hx=>by simp only [qN]at hx;exact wz t ds (j+1) (by simp only [List.length_cons]at hl;omega) x hx
 | .bool _::ds,j,hl,x,hx=>by simp only [qN]at hx;exact wz t ds (j+1) (by simp only [List.length_cons]at hl;omega) x hx
 | .hole::ds,j,hl,x,hx=>by simp only [qN]at hx;exact wz t ds (j+1) (by simp only [List.length_cons]at hl;omega) x hx
 | .lst e xs::ds,j,hl,x,hx=>by
  simp only [List.length_cons]at hl
  simp only [qN,List.mem_append,List.mem_singleton]at hx
  rcases hx with hx|rfl
  ·exact wz t ds (j+1) (by omega) x hx
  ·exact yY (by omega)
theorem zEf {np:Bool}{o:Oper}{δ:Dl}(ha:vn P np τ o st δ): ∀x∈δ.add,(xQ np o=true∧own (zy o) (2*x.1)=true)∨(∃R0,lk st.r x.1=some R0∧R0.o=x.2.o):=by
 intro x hx
 unfold vn at ha
 rcases ha with ha|ha|ha
 ·obtain⟨-,-,-,-,-,h0|⟨d,R,R0,h6,h7,h8,-⟩,-⟩:=ha
  ·rw [h0]at hx;cases hx
  rw [h6]at hx
  simp only [List.mem_singleton]at hx
  subst hx
  exact .inr ⟨R0,h7,h8⟩
 ·unfold jn at ha
  cases hc:yD o with
  |none=>rw [hc]at ha;exact ha.elim
  |some y=>
   obtain⟨f,args,ts⟩:=y
   rw [hc]at ha
   simp only at ha
   split at ha
   ·obtain⟨hob,pm,ress,hfn,hpm,hsz,hlen,rfl⟩:=ha
    exact .inl ⟨xk hc,wz _ _ 0 (by omega) x hx⟩
   ·exact ha.elim
 cases hc:yD o with
 |some y=>
  obtain⟨f,args,ts⟩:=y
  rw [hc]at ha
  simp only at ha
  cases hargs:ye τ st ts.toList (args.toList.map (ev st))with
  |none=>
   rw [hargs]at ha
   have hab:=ha.2
   unfold Qv at hab
   split at hab
   ·obtain⟨-,ds',ress,-,-,h3,rfl⟩:=hab
    exact .inl ⟨xk hc,wz _ _ 0 (by omega) x hx⟩
   ·exact hab.elim
  |some y=>
   rw [hargs]at ha
   obtain⟨hob,ress,h1,h2,h3,rfl⟩:=ha
   exact .inl ⟨xk hc,wz _ _ 0 (by omega) x hx⟩
 |none=>
  rw [hc]at ha
  simp only at ha
  cases he:vz np τ o st with
  |none=>rw [he]at ha;exact ha.elim
  |some y=>
   obtain⟨δ',ob⟩:=y
   rw [he]at ha
   obtain⟨hob,rfl⟩:=ha
   clear hob hc
   have plain:((qF τ o st).map fun y=>((⟨y.1,[],[],[]⟩:Dl),y.2))=some (δ,ob)→False:=fun he=>by
    cases hv:qF τ o st with
    |none=>rw [hv]at he;cases he
    |some y=>rw [hv]at he;cases he;simp at hx
   have hm: ∀{R:zr},x∈ [(zb (zy o) 0,R)]→own (zy o) (2*x.1)=true:=fun{R} h=>by
    simp only [List.mem_singleton]at h;subst h;exact yY (by omega)
   obtain⟨dst,op,ty,pos,after,guard⟩:=o
   unfold vz at he
   cases op<;>simp only at he
   case box e x'=>split at he<;>cases he;simp at hx
   case alloc e=>split at he<;>cases he;simp at hx
   case makeSlice t l c=>
    split at he
    ·unfold VW at he
     split at he
     ·split at he
      ·split at he
       ·cases he;exact .inl ⟨rfl,hm hx⟩
       ·cases he
      ·cases he
     ·cases he
    ·cases he
   case buildSlice t len parts=>
    split at he
    ·rcases yW he with he|he
     ·unfold KK at he
      split at he
      ·split at he
       ·split at he
        ·cases he;exact .inl ⟨rfl,hm hx⟩
        ·cases he
       ·cases he
      ·cases he
     ·rcases yW he with he|he
      ·unfold QK at he
       split at he
       ·split at he
        ·split at he
         ·split at he
          ·cases he;exact .inl ⟨rfl,hm hx⟩
          ·cases he
         ·cases he
        ·cases he
       ·cases he
      ·unfold QL at he
       split at he
       ·split at he
        ·split at he
         ·rename_i R _ _ hR _
          split at he
          ·cases he;rcases List.mem_cons.1 hx with hx|hx
           ·exact .inl ⟨rfl,hm (List.mem_singleton.2 hx)⟩
           ·simp only [List.mem_singleton]at hx;subst hx;exact .inr ⟨R,hR,rfl⟩
          ·cases he
         ·cases he
        ·cases he
       ·cases he
    ·cases he
   case load t x'=>
    rcases yW he with he|he
    ·unfold ww at he
     split at he
     ·split at he
      ·rename_i R _ _ hR _
       split at he
       ·rename_i hc
        cases he;rcases List.mem_cons.1 hx with hx|hx
        ·exact .inl ⟨hc.1,hm (List.mem_singleton.2 hx)⟩
        ·simp only [List.mem_singleton]at hx;subst hx;exact .inr ⟨R,hR,rfl⟩
       ·cases he
      ·cases he
     ·cases he
    unfold Yg at he
    cases hv:qu τ st t (ev st x')with
    |none=>rw [hv]at he;cases he
    |some y=>rw [hv]at he;cases he;simp at hx
   case store t p x'=>
    rcases yW he with he|he
    ·cases hp:ev st p<;>rw [hp]at he<;>simp only [vT]at he<;>try(cases he;done)
     ·split at he
      ·rename_i R _ _ _ hR _ _
       split at he
       ·split at he
        ·cases he;simp only [List.mem_singleton]at hx;subst hx;exact .inr ⟨R,hR,rfl⟩
        ·cases he;simp only [List.mem_singleton]at hx;subst hx;exact .inr ⟨R,hR,rfl⟩
        ·cases he
       ·cases he
      ·cases he
     ·split at he
      ·split at he
       ·cases he;simp at hx
       ·cases he
      ·cases he
    ·split at he
     ·cases hp:ev st p<;>rw [hp]at he<;>simp only [wn]at he<;>try(cases he;done)
      rename_i d q i
      cases q with
      |cons _ _=>simp at he
      |nil=>
       simp only at he
       split at he
       ·rename_i R vs hR _
        split at he
        ·split at he
         ·cases he;simp only [List.mem_singleton]at hx;subst hx;exact .inr ⟨R,hR,rfl⟩
         ·cases he
        ·cases he
       ·cases he
     ·cases he
   case call c=>
    obtain⟨callee,args,argTypes⟩:=c
    simp only at he
    split at he
    ·split at he
     ·split at he
      ·rcases yW he with he|he
       ·unfold QA at he
        split at he
        ·split at he
         ·split at he
          ·split at he
           ·unfold Zk at he
            split at he
            ·cases he;exact .inl ⟨rfl,hm hx⟩
            ·split at he
             ·split at he
              ·cases he;exact .inl ⟨rfl,hm hx⟩
              ·cases he
             ·cases he
            ·cases he
           ·cases he
          ·cases he
         ·cases he
        ·cases he
       ·unfold QB at he
        split at he
        ·split at he
         ·split at he
          ·split at he
           ·unfold Zl at he
            split at he
            ·cases he;exact .inl ⟨rfl,hm hx⟩
            ·split at he
             ·split at he
              ·cases he;exact .inl ⟨rfl,hm hx⟩
              ·cases he
             ·cases he
            ·cases he
           ·cases he
          ·cases he
         ·cases he
        ·cases he
      ·cases he
     ·cases he
    ·exact(plain he).elim
   all_goals exact(plain he).elim
theorem WY {bad:Nat}(hf:YY (· ==bad) st){d:Option Tmp}{δ:Dl}(h:NSp (· ==bad) δ.v∧∀x∈δ.bx,∀v∈x.2,NSp (· ==bad) v):Qy bad (st.app d δ):=by
 refine⟨fun k v hv hm=> ?_,fun k cs hc hm=> ?_⟩
 ·rw [ZU]at hv
  split at hv
  ·cases hv;have :=h.1 bad hm;simp at this
  ·have :=hf.s k v hv bad hm;simp at this
 ·rw [wK]at hc
  cases hx:lk δ.bx k with
  |some cs'=>
   rw [hx]at hc
   simp only [Option.some_or,Option.some.injEq]at hc
   subst hc
   obtain⟨v,hv,hm⟩:=qY.1 hm
   have :=h.2 _ (vP hx) v hv bad hm
   simp at this
  |none=>rw [hx]at hc;simp only [Option.none_or]at hc;have :=hf.b k cs hc bad hm;simp at this
theorem jO {bad:Nat}(h:Qy bad st):YY (· ==bad) st:=⟨fun k v hv n hn=>by
 by_cases e:n=bad
 ·subst e;exact absurd hn (h.s k v hv)
 ·simpa using e,fun k cs hc n hn=>by
 by_cases e:n=bad
 ·subst e;exact absurd hn (h.b k cs hc)
 ·simpa using e⟩
theorem zFp {t bad:Nat}(h:yN (own t) st)(hb:own t (2*bad)=true):YY (· ==bad) st:=⟨fun k v hv n hn=>by
 by_cases e:n=bad
 ·subst e;have :=h.s k v hv _ (zII v n hn);rw [hb]at this;cases this
 ·simpa using e,fun k cs hc n hn=>by
 by_cases e:n=bad
 ·subst e;have :=h.b k cs hc _ (Qk cs n hn);rw [hb]at this;cases this
 ·simpa using e⟩
theorem zEW (hpf:PF st){o:Oper}{δ:Dl}(hf:xQ true o=true→yN (own (zy o)) st)(ha:vn P true τ o st δ):PF (st.app o.dst δ):=by
 intro d R hR hex
 have old: ∀R0,lk st.r d=some R0→R0.o= .ex→Qy d (st.app o.dst δ):=fun R0 h1 h2=>by
  have hfr:=jO (hpf d R0 h1 h2)
  refine WY hfr (zCS hfr (fun x d' p i R' e1 e2 e3=> ?_) ha)
  have :d'=d:=by simpa using e3
  subst this
  rw [h1]at e2;cases e2
  exact⟨h2,fun n hn=>by simpa using hn⟩
 rw [wL]at hR
 cases hx:lk δ.add d with
 |some R'=>
  rw [hx]at hR
  simp only [Option.some_or,Option.some.injEq]at hR
  subst hR
  rcases zEf ha _ (vP hx)with⟨h1,h2⟩|⟨R0,h1,h2⟩
  ·have hfr:=zFp (hf h1) h2
   refine WY hfr (zCS hfr (fun x d' p i R' e1 e2 e3=> ?_) ha)
   have :d'=d:=by simpa using e3
   subst this
   have :=(hf h1).ev x (2*d') (by rw [e1];simp [AV.nm])
   rw [h2]at this;cases this
  ·exact old R0 h1 (by rw [h2];exact hex)
 |none=>
  rw [hx]at hR
  simp only [Option.none_or]at hR
  split at hR
  ·cases hR
  ·exact old R hR hex
theorem zCN (hpf:PF st)(d:Option Tmp):PF (st.app d Dl.skip):=by
 intro k R hR hex
 rw [wL]at hR
 have hR':lk st.r k=some R:=by simpa [Dl.skip,xJ]using hR
 exact WY (jO (hpf k R hR' hex)) ⟨yV rfl,fun x hx=>by simp [Dl.skip]at hx⟩
theorem zDI {all:List Oper}(hpf:PF st){o:Oper}{δ:Dl}(hf:xQ true o=true→yN (own (zy o)) st)(ha:qc P true τ all o st δ):PF (st.app o.dst δ):=by
 unfold qc at ha
 split at ha
 ·exact zEW hpf hf ha
 ·rename_i j want _
  split at ha
  ·rename_i b _
   by_cases e:b=want
   ·exact zEW hpf hf (ha.1 e)
   ·have :=ha.2 (by cases b<;>cases want<;>simp_all);subst this;exact zCN hpf _
  ·subst ha;exact zCN hpf _
  ·exact ha.elim
end
def XH (np:Bool)(all:List Oper):Bool:=(List.range all.length).all fun j=>(List.range all.length).all fun k=>match all[j]?,all[k]? with
 |some x,some y=>j==k|| !(xQ np x&&xQ np y)||zy x !=zy y
 |_,_=>true
def ancT (ops:List Oper):List (List Nat):=
 ops.foldl (fun acc o=>acc++ [o.after.toList.foldl (fun l e=>if Region.binds .any e then(e.on::acc.getD e.on []).foldl (fun l n=>if l.contains n then l else n::l) l else l) []]) []
def ji (np:Bool)(ops:List Oper)(A:List (List Nat)):Bool:=Kr ops A&&(XH np ops&&Qd ops ops.length 0 (Array.replicate ops.length false))
def St.clean (np:Bool)(ops:List Oper)(st:St):St:=
 let ts:=(ops.filter (xQ np)).map zy
 st.kill (fun d=>ts.contains (d / 16)) (fun t=>ts.contains t)
theorem zFq {t u:Nat}(h:t≠u): ∀n,own t n=true→own u n=false:=fun n hn=>by
 unfold own at*
 split at hn
 ·rename_i h1;rw [if_pos h1];simp only [beq_iff_eq,beq_eq_false_iff_ne]at*;omega
 ·rename_i h1;rw [if_neg h1];simp only [beq_iff_eq,beq_eq_false_iff_ne]at*;omega
mutual
theorem zCw {ds bs:Nat→Bool}: ∀(v:AV) (n:Nat),n∈(v.kill ds bs).nm→(∃d,n=2*d∧ds d=false)∨(∃t,n=2*t+1∧bs t=false)
 | .int k m,n,h=>by simp [AV.kill,AV.nm]at h
 | .bool b,n,h=>by simp [AV.kill,AV.nm]at h
 | .sl d p off len e,n,h=>by
  simp only [AV.kill]at h
  split at h
  ·simp [AV.nm]at h
  ·rename_i hd;simp only [AV.nm,List.mem_singleton]at h;exact .inl ⟨d,h,by simpa using hd⟩
 | .nil,n,h=>by simp [AV.kill,AV.nm]at h
 | .ep d p i,n,h=>by
  simp only [AV.kill]at h
  split at h
  ·simp [AV.nm]at h
  ·rename_i hd;simp only [AV.nm,List.mem_singleton]at h;exact .inl ⟨d,h,by simpa using hd⟩
 | .bp t i,n,h=>by
  simp only [AV.kill]at h
  split at h
  ·simp [AV.nm]at h
  ·rename_i hd;simp only [AV.nm,List.mem_singleton]at h;exact .inr ⟨t,h,by simpa using hd⟩
 | .agg vs,n,h=>XE vs n (by simpa only [AV.kill,AV.nm]using h)
 | .tup vs,n,h=>XE vs n (by simpa only [AV.kill,AV.nm]using h)
 | .fn f vs,n,h=>XE vs n (by simpa only [AV.kill,AV.nm]using h)
 | .dead,n,h=>by simp [AV.kill,AV.nm]at h
 | .raw u,n,h=>by simp [AV.kill,AV.nm]at h
theorem XE {ds bs:Nat→Bool}: ∀(vs:List AV) (n:Nat),n∈AV.nmL (AV.killL ds bs vs)→(∃d,n=2*d∧ds d=false)∨(∃t,n=2*t+1∧bs t=false)
 | [],n,h=>by simp [AV.killL,AV.nmL]at h
 |v::vs,n,h=>by
  simp only [AV.killL,AV.nmL,List.mem_append]at h
  rcases h with h|h
  ·exact zCw v n h
  ·exact XE vs n h
end
theorem Vp {st:St}{ds bs:Nat→Bool}{t:Nat}(h1: ∀d,d / 16=t→ds d=true)(h2:bs t=true):yN (own t) (st.kill ds bs):=by
 have key: ∀n,((∃d,n=2*d∧ds d=false)∨(∃t,n=2*t+1∧bs t=false))→own t n=false:=by
  rintro n (⟨d,rfl,hd⟩|⟨u,rfl,hu⟩)
  ·unfold own
   rw [if_neg (by omega)]
   simp only [beq_eq_false_iff_ne]
   intro e
   rw [h1 d (by omega)]at hd;cases hd
  ·unfold own
   rw [if_pos (by omega)]
   simp only [beq_eq_false_iff_ne]
   intro e
   have :u=t:=by omega
   subst this
   rw [h2]at hu;cases hu
 refine⟨fun k v hv n hn=> ?_,fun k cs hc n hn=> ?_⟩
 ·simp only [St.kill,zz]at hv
  cases hx:lk st.s k with
  |none=>rw [hx]at hv;cases hv
  |some u=>rw [hx]at hv;cases hv;exact key n (zCw u n hn)
 ·simp only [St.kill,zz]at hc
  cases hx:lk st.b k with
  |none=>rw [hx]at hc;cases hc
  |some u=>rw [hx]at hc;cases hc;exact key n (XE u n hn)
section
variable {P:Program} {np:Bool} {τ:Ty} {lo:Nat} {w0:Fz} {st:St} {a:Act} {w:World}
theorem Un (h:Rel τ lo w0 st a w)(ds bs:Nat→Bool):Rel τ lo w0 (st.kill ds bs) a w:=by
 obtain⟨ow,hd,bk,h⟩:=h
 have hD: ∀k,ds k=false→yq w w st.r (st.kill ds bs).r hd hd k:=fun k _ R' hR'=>⟨R',hR',rfl,fun p hp=>⟨hp,rfl⟩⟩
 have hB: ∀t,bs t=false→yp st.b (st.kill ds bs).b bk bk t:=fun t _ hl=>by
  simp only [St.kill,zz]at hl
  obtain⟨cs,hcs⟩:=hl
  cases hx:lk st.b t with
  |none=>rw [hx]at hcs;cases hcs
  |some cs'=>exact⟨⟨cs',rfl⟩,rfl⟩
 refine⟨ow,hd,bk,h.big,h.defers,h.size,h.low,h.below,h.ge,h.new,fun k v hv'=> ?_,h.root,fun t vs hv'=> ?_,h.pin⟩
 ·simp only [St.kill,zz]at hv'
  cases hx:lk st.s k with
  |none=>rw [hx]at hv';cases hv'
  |some u=>rw [hx]at hv';cases hv';exact yl hD hB u _ (h.slot k u hx)
 ·simp only [St.kill,zz]at hv'
  cases hx:lk st.b t with
  |none=>rw [hx]at hv';cases hv'
  |some u=>
   rw [hx]at hv';cases hv'
   obtain⟨cs,ty,h1,h2,h3⟩:=h.box t u hx
   exact⟨cs,ty,h1,h2,yA hD hB u cs h3⟩
def Inv (np:Bool)(all:List Oper)(listed:Array Bool)(st:St):Prop:= ∀(j:Nat) (o:Oper),all[j]? =some o→listed.getD j true=false→xQ np o=true→yN (own (zy o)) st
theorem Kk (hτ:zx P τ)(hpos:yL τ){all:List Oper}{A:List (List Nat)}(hm:XH np all=true){Q:St→Prop}{Q':Exit→Act→World→Prop}(hQ: ∀st a w,Q st→Rel τ lo w0 st a w→Q' .normal a w):
  ∀(fuel:Nat) (cs:List Rec) (listed:Array Bool) (st:St) (a:Act) (w:World),yn a.tmps.size all=true→Inv np all listed st→(np=true→PF st)→Rel τ lo w0 st a w→VC P np τ all A Q cs fuel listed st→wpAny P .any all.toArray Q' fuel listed a w
 |0,cs,listed,st,a,w,_,_,_,hr,h=>⟨h.1,hQ _ _ _ h.2 hr⟩
 |fuel+1,cs,listed,st,a,w,hd,hinv,hpf,hr,h=>by
  refine⟨fun h0=>hQ _ _ _ (h.1 h0) hr,fun j hj=> ?_⟩
  obtain⟨o,δ,ho,hstep,-,hrest⟩:=h.2 j hj
  have hun:=(mem_ready.1 hj).1
  have hd1: ∀k,o.dst=some k→k<a.tmps.size:=fun k hk=>by
   have :=List.all_eq_true.1 hd o (List.mem_of_getElem? ho)
   rw [hk]at this
   simpa using this
  have hf:xQ np o=true→yN (own (zy o)) st:=hinv j o ho hun
  have hinv':Inv np all (listed.setIfInBounds j true) (st.app o.dst δ):=fun k ok hk hkun hmk=>by
   have hkj:k≠j:=by
    rintro rfl
    have hlt:k<all.length:=(List.getElem?_eq_some_iff.1 hk).1
    rw [Array.getD_eq_getD_getElem?]at hkun hun
    have hls:k<listed.size:=by
     rcases Nat.lt_or_ge k listed.size with h|h
     ·exact h
     ·rw [Array.getElem?_eq_none h]at hun;cases hun
    simp [hls]at hkun
   rw [getD_set_ne true (Ne.symm hkj)]at hkun
   refine UB (hinv k ok hk hkun hmk) (fun hmo n hn=> ?_) hstep
   have hjl:j<all.length:=(List.getElem?_eq_some_iff.1 ho).1
   have hkl:k<all.length:=(List.getElem?_eq_some_iff.1 hk).1
   have h1:=List.all_eq_true.1 (List.all_eq_true.1 hm j (List.mem_range.2 hjl)) k (List.mem_range.2 hkl)
   rw [ho,hk]at h1
   simp only [hmo,hmk,Bool.and_self,Bool.not_true,Bool.or_false,Bool.or_eq_true,beq_iff_eq,bne_iff_ne,ne_eq]at h1
   rcases h1 with h1|h1
   ·exact absurd h1.symm hkj
   ·exact zFq h1 n hn
  have hpf':np=true→PF (st.app o.dst δ):=fun e=>by subst e;exact zDI (hpf rfl) hf hstep
  have next: ∀x w',Rel τ lo w0 (st.app o.dst δ) (a.put o.dst x) w'→wpAny P .any all.toArray Q' fuel (listed.setIfInBounds j true) (a.put o.dst x) w':=fun x w' hr'=>
   Kk hτ hpos hm hQ fuel cs _ _ _ w' (by rw [xH];exact hd) hinv' hpf' hr' hrest
  unfold wpOp
  rw [List.getElem?_toArray,ho]
  simp only
  have run:vn P np τ o st δ→o.wp P a w (wpAny P .any all.toArray Q' fuel (listed.setIfInBounds j true)) Q':=fun ha=>Ki hτ hpos hd1 hr hf hpf ha next
  have skip:δ=Dl.skip→wpAny P .any all.toArray Q' fuel (listed.setIfInBounds j true) (a.put o.dst undef) w:=fun he=>by
   refine next undef w ?_
   rw [he]
   obtain⟨ow,hd',bk,hrr⟩:=hr
   exact ql (yb hrr hd1 (v:= .tup []) (x:=undef) (by simp only [AvR];exact⟨[],rfl,by simp [zY]⟩)) (Xk _)
  unfold qc at hstep
  split at hstep
  ·rename_i hg
   rw [if_pos (by simp [Region.wanted,hg])]
   exact .inl (run hstep)
  ·rename_i g want hg
   split at hstep
   ·rename_i b hgv
    have hy:=vl hr hgv
    by_cases hb:b=want
    ·rw [if_pos (by simp [Region.wanted,hg,hy,hb])]
     exact .inl (run (hstep.1 hb))
    ·rw [if_neg (by simp [Region.wanted,hg,hy,hb])]
     exact skip (hstep.2 (by cases b<;>cases want<;>simp_all))
   ·rename_i hgv
    have hy:=vl hr hgv
    rw [if_neg (by simp [Region.wanted,hg,hy])]
    exact skip hstep
   ·exact hstep.elim
theorem Xh {all:List Oper}{j:Nat}{o:Oper}(h:all[j]? =some o)(hm:xQ np o=true):((all.filter (xQ np)).map zy).contains (zy o)=true:=by
 simp only [List.contains_iff_mem]
 exact List.mem_map.2 ⟨o,List.mem_filter.2 ⟨List.mem_of_getElem? h,hm⟩,rfl⟩
def Kz (r:List (Nat×zr)):List Nat:=(r.filter fun x=>x.2.o.own).map (·.1)
mutual
def AV.cut (ids:List Nat):AV→AV
 | .int k n=> .int k n
 | .bool b=> .bool b
 | .sl d p off len e=>match p with| []=> .sl d [] off len e|i::q=>if ids.contains d then .dead else .sl d (i::q) off len e
 | .nil=> .nil
 | .ep d p i=>match p with| []=> .ep d [] i|j::q=>if ids.contains d then .dead else .ep d (j::q) i
 | .bp t i=> .bp t i
 | .agg vs=> .agg (AV.cutL ids vs)
 | .tup vs=> .tup (AV.cutL ids vs)
 | .fn f vs=> .fn f (AV.cutL ids vs)
 | .dead=> .dead
 | .raw u=> .raw u
def AV.cutL (ids:List Nat):List AV→List AV
 | []=> []
 |v::vs=>v.cut ids::AV.cutL ids vs
end
def St.cut (st:St):St:={st with s:=wh (AV.cut (Kz st.r)) st.s,b:=wh (AV.cutL (Kz st.r)) st.b}
mutual
theorem WI {rr:List (Nat×zr)}{bb bb':List (Nat×List AV)}{hd:Nat→Value}{bk:Nat→Nat}{ids:List Nat}(hb: ∀t,(∃cs,lk bb' t=some cs)→∃cs,lk bb t=some cs): ∀(v:AV) (x:Value),AvR τ w rr bb hd bk v x→AvR τ w rr bb' hd bk (v.cut ids) x
 | .int k n,x,h=>by simpa only [AV.cut,AvR]using h
 | .bool b,x,h=>by simpa only [AV.cut,AvR]using h
 | .sl d p off len e,x,h=>by
  cases p with
  |nil=>simpa only [AV.cut,AvR]using h
  |cons i q=>
   simp only [AV.cut]
   split
   ·simp only [AvR]
   ·simpa only [AvR]using h
 | .nil,x,h=>by simpa only [AV.cut,AvR]using h
 | .ep d p i,x,h=>by
  cases p with
  |nil=>simpa only [AV.cut,AvR]using h
  |cons j q=>
   simp only [AV.cut]
   split
   ·simp only [AvR]
   ·simpa only [AvR]using h
 | .bp t i,x,h=>by
  simp only [AV.cut,AvR]at h⊢
  exact⟨h.1,fun hl=>h.2 (hb t hl)⟩
 | .agg vs,x,h=>by
  simp only [AV.cut,AvR]at h⊢
  obtain⟨cs,h1,h2⟩:=h
  exact⟨cs,h1,wP hb vs cs h2⟩
 | .tup vs,x,h=>by
  simp only [AV.cut,AvR]at h⊢
  obtain⟨cs,h1,h2⟩:=h
  exact⟨cs,h1,wP hb vs cs h2⟩
 | .fn f vs,x,h=>by
  simp only [AV.cut,AvR]at h⊢
  obtain⟨cs,h1,h2⟩:=h
  exact⟨cs,h1,wP hb vs cs h2⟩
 | .dead,x,h=>by simp only [AV.cut,AvR]
 | .raw u,x,h=>by simpa only [AV.cut,AvR]using h
theorem wP {rr:List (Nat×zr)}{bb bb':List (Nat×List AV)}{hd:Nat→Value}{bk:Nat→Nat}{ids:List Nat}(hb: ∀t,(∃cs,lk bb' t=some cs)→∃cs,lk bb t=some cs): ∀(vs:List AV) (xs:List Value),zY τ w rr bb hd bk vs xs→zY τ w rr bb' hd bk (AV.cutL ids vs) xs
 | [],xs,h=>by simpa only [AV.cutL,zY]using h
 |v::vs,xs,h=>by
  simp only [AV.cutL,zY]at h⊢
  obtain⟨x,xs',h1,h2,h3⟩:=h
  exact⟨x,xs',h1,WI hb v x h2,wP hb vs xs' h3⟩
end
mutual
theorem zE1 {ids:List Nat}: ∀(v:AV) (n:Nat),n∈(v.cut ids).pm→ids.contains n=false
 | .int k m,n,h=>by simp [AV.cut,AV.pm]at h
 | .bool b,n,h=>by simp [AV.cut,AV.pm]at h
 | .sl d p off len e,n,h=>by
  cases p with
  |nil=>simp [AV.cut,AV.pm]at h
  |cons i q=>
   simp only [AV.cut]at h
   split at h
   ·simp [AV.pm]at h
   ·rename_i hc;have :=Ub h;subst this;simpa using hc
 | .nil,n,h=>by simp [AV.cut,AV.pm]at h
 | .ep d p i,n,h=>by
  cases p with
  |nil=>simp [AV.cut,AV.pm]at h
  |cons j q=>
   simp only [AV.cut]at h
   split at h
   ·simp [AV.pm]at h
   ·rename_i hc;have :=zED h;subst this;simpa using hc
 | .bp t i,n,h=>by simp [AV.cut,AV.pm]at h
 | .agg vs,n,h=>by simp only [AV.cut,AV.pm]at h;exact Qa vs n h
 | .tup vs,n,h=>by simp only [AV.cut,AV.pm]at h;exact Qa vs n h
 | .fn f vs,n,h=>by simp only [AV.cut,AV.pm]at h;exact Qa vs n h
 | .dead,n,h=>by simp [AV.cut,AV.pm]at h
 | .raw u,n,h=>by simp [AV.cut,AV.pm]at h
theorem Qa {ids:List Nat}: ∀(vs:List AV) (n:Nat),n∈AV.pmL (AV.cutL ids vs)→ids.contains n=false
 | [],n,h=>by simp [AV.cutL,AV.pmL]at h
 |v::vs,n,h=>by
  simp only [AV.cutL,AV.pmL,List.mem_append]at h
  rcases h with h|h
  ·exact zE1 v n h
  ·exact Qa vs n h
end
theorem Kx (st:St):PF st.cut:=by
 intro d R hR hex
 have hc:(Kz st.r).contains d=true:=by
  simp only [List.contains_iff_mem,Kz]
  exact List.mem_map.2 ⟨(d,R),List.mem_filter.2 ⟨vP hR,by rw [hex];rfl⟩,rfl⟩
 refine⟨fun k v hv hm=> ?_,fun k cs hcs hm=> ?_⟩
 ·simp only [St.cut,zz]at hv
  cases hx:lk st.s k with
  |none=>rw [hx]at hv;cases hv
  |some u=>rw [hx]at hv;cases hv;rw [zE1 u d hm]at hc;cases hc
 ·simp only [St.cut,zz]at hcs
  cases hx:lk st.b k with
  |none=>rw [hx]at hcs;cases hcs
  |some u=>rw [hx]at hcs;cases hcs;rw [Qa u d hm]at hc;cases hc
theorem zCO (h:Rel τ lo w0 st a w):Rel τ lo w0 st.cut a w:=by
 obtain⟨ow,hd,bk,h⟩:=h
 have hb: ∀t,(∃cs,lk st.cut.b t=some cs)→∃cs,lk st.b t=some cs:=fun t ⟨cs,hcs⟩=>by
  simp only [St.cut,zz]at hcs
  cases hx:lk st.b t with
  |none=>rw [hx]at hcs;cases hcs
  |some u=>exact⟨u,rfl⟩
 refine⟨ow,hd,bk,h.big,h.defers,h.size,h.low,h.below,h.ge,h.new,fun k v hv'=> ?_,h.root,fun t vs hv'=> ?_,h.pin⟩
 ·simp only [St.cut,zz]at hv'
  cases hx:lk st.s k with
  |none=>rw [hx]at hv';cases hv'
  |some u=>rw [hx]at hv';cases hv';exact WI hb u _ (h.slot k u hx)
 ·simp only [St.cut,zz]at hv'
  cases hx:lk st.b t with
  |none=>rw [hx]at hv';cases hv'
  |some u=>
   rw [hx]at hv';cases hv'
   obtain⟨cs,ty,h1,h2,h3⟩:=h.box t u hx
   exact⟨cs,ty,h1,h2,wP hb u cs h3⟩
def St.start (np:Bool)(ops:List Oper)(st:St):St:=if np=true then(st.clean np ops).cut else st.clean np ops
mutual
theorem zE0 {ids:List Nat}: ∀(v:AV) (n:Nat),n∈(v.cut ids).nm→n∈v.nm
 | .int k m,n,h=>h
 | .bool b,n,h=>h
 | .sl d p off len e,n,h=>by
  cases p with
  |nil=>exact h
  |cons i q=>
   simp only [AV.cut]at h
   split at h
   ·simp [AV.nm]at h
   ·exact h
 | .nil,n,h=>h
 | .ep d p i,n,h=>by
  cases p with
  |nil=>exact h
  |cons j q=>
   simp only [AV.cut]at h
   split at h
   ·simp [AV.nm]at h
   ·exact h
 | .bp t i,n,h=>h
 | .agg vs,n,h=>by simp only [AV.cut,AV.nm]at h⊢;exact QZ vs n h
 | .tup vs,n,h=>by simp only [AV.cut,AV.nm]at h⊢;exact QZ vs n h
 | .fn f vs,n,h=>by simp only [AV.cut,AV.nm]at h⊢;exact QZ vs n h
 | .dead,n,h=>h
 | .raw u,n,h=>h
theorem QZ {ids:List Nat}: ∀(vs:List AV) (n:Nat),n∈AV.nmL (AV.cutL ids vs)→n∈AV.nmL vs
 | [],n,h=>h
 |v::vs,n,h=>by
  simp only [AV.cutL,AV.nmL,List.mem_append]at h⊢
  rcases h with h|h
  ·exact .inl (zE0 v n h)
  ·exact .inr (QZ vs n h)
end
theorem zAQ {ns:Nat→Bool}{st:St}(h:yN ns st):yN ns st.cut:=by
 refine⟨fun k v hv n hn=> ?_,fun k cs hcs n hn=> ?_⟩
 ·simp only [St.cut,zz]at hv
  cases hx:lk st.s k with
  |none=>rw [hx]at hv;cases hv
  |some u=>rw [hx]at hv;cases hv;exact h.s k u hx n (zE0 u n hn)
 ·simp only [St.cut,zz]at hcs
  cases hx:lk st.b k with
  |none=>rw [hx]at hcs;cases hcs
  |some u=>rw [hx]at hcs;cases hcs;exact h.b k u hx n (QZ u n hn)
theorem zBx (hτ:zx P τ)(hpos:yL τ)(hmix:P.follows .mixedOrders=true){A:List (List Nat)}{Q:Exit→St→Prop}{id:Nat}{ops:List Oper}(hs:ji np ops A=true)(hd:yn st.n ops=true)(h: ∀C:List Rec→Prop,(∀cs,chk ops A cs=true→C cs)→wg P np τ ops C (Q .normal) ops 0 [] (st.start np ops)):awp P τ (.region id ops.toArray true) Q st:=fun lo w0 a w hr=>by
 simp only [ji,Bool.and_eq_true]at hs
 obtain⟨h1,h2,h3⟩:=hs
 have hn:a.tmps.size=st.n:=by obtain⟨ow,hd,bk,h⟩:=hr;exact h.size
 have hrc:Rel τ lo w0 (st.clean np ops) a {w with drawn:=w.drawn+1}:=by
  obtain⟨ow,hd,bk,h⟩:=Un hr (fun d=>((ops.filter (xQ np)).map zy).contains (d / 16)) (fun t=>((ops.filter (xQ np)).map zy).contains t)
  exact⟨ow,hd,bk,zEX h⟩
 have hr':Rel τ lo w0 (st.start np ops) a {w with drawn:=w.drawn+1}:=by
  unfold St.start
  split
  ·exact zCO hrc
  ·exact hrc
 have hpf:np=true→PF (st.start np ops):=fun e=>by unfold St.start;rw [if_pos e];exact Kx _
 refine wp_region_any hmix ?_
 have hlex':=(ui ops 0 [] _ _ (Eqv.refl _) (h _ fun _ h=>h)).2
 have hany:=Uy (fun st st' he ⟨s,h1,h2⟩=>⟨s,he.symm.trans h1,h2⟩) h1 ops 0 [] (Array.replicate ops.length false) _ (by simp) (fun j o _ hj=>by
  rw [Array.getD_eq_getD_getElem?,Array.getElem?_replicate]at hj
  split at hj<;>simp at hj) h3 hlex'
 have :=Kk (Q':=fun e a' w'=> ∃st',Rel τ lo w0 st' a' w'∧Q e st') hτ hpos h2 (fun st' a w ⟨s,he,hq⟩ hr=>⟨s,ql hr he.cov,hq⟩) ops.length [] (Array.replicate ops.length false) (st.start np ops) a {w with drawn:=w.drawn+1} (by rw [hn];exact hd) (fun j o ho _ hm=>by
  have hfc:yN (own (zy o)) (st.clean np ops):=by
   refine Vp (fun d hdt=> ?_) (Xh ho hm)
   rw [hdt];exact Xh ho hm
  unfold St.start
  split
  ·exact zAQ hfc
  ·exact hfc) hpf hr' hany
 simpa using this
theorem vL (np:Bool)(hτ:zx P τ)(hpos:yL τ)(hmix:P.follows .mixedOrders=true){Q:Exit→St→Prop}{id:Nat}{ops:List Oper}(hs:ji np ops (ancT ops)=true)(hd:yn st.n ops=true)(h: ∀C:List Rec→Prop,(∀cs,chk ops (ancT ops) cs=true→C cs)→wg P np τ ops C (Q .normal) ops 0 [] (st.start np ops)):awp P τ (.region id ops.toArray true) Q st:=zBx hτ hpos hmix hs hd h
end
def qO (P:Program)(np:Bool)(τ:Ty)(all:List Oper)(Q:St→Prop):List Oper→St→Prop
 | [],st=>Q st
 |o::os,st=>
  match o.guard with
  |none=>ZS P np τ o st fun δ=>qO P np τ all Q os (st.app o.dst δ)
  |some (j,want)=>
   match qA all st j with
   |some (some b)=>
    brB b (if want=true then ZS P np τ o (ya all st j true) fun δ=>qO P np τ all Q os ((ya all st j true).app o.dst δ)else qO P np τ all Q os ((ya all st j true).app o.dst Dl.skip))
     (if want=false then ZS P np τ o (ya all st j false) fun δ=>qO P np τ all Q os ((ya all st j false).app o.dst δ)else qO P np τ all Q os ((ya all st j false).app o.dst Dl.skip))
   |some none=>qO P np τ all Q os (st.app o.dst Dl.skip)
   |none=>False
theorem Eqv.free {ns:Nat→Bool}{st st':St}(h:Eqv st st')(hf:yN ns st):yN ns st':=⟨fun k v hv=>hf.s k v (by rw [←h.s];exact hv),fun k v hv=>hf.b k v (by rw [←h.b];exact hv)⟩
theorem Eqv.pf {st st':St}(h:Eqv st st')(hf:PF st):PF st':=fun d R hR hex=>by
 have :=hf d R (by rw [←h.r];exact hR) hex
 exact⟨fun k v hv=>this.s k v (by rw [←h.s];exact hv),fun k v hv=>this.b k v (by rw [←h.b];exact hv)⟩
section
variable {P:Program} {np:Bool} {τ:Ty} {lo:Nat} {w0:Fz} {st:St} {a:Act} {w:World}
theorem Vk (hτ:zx P τ)(hpos:yL τ){all:List Oper}(hm:XH np all=true){Q:St→Prop}{Q':Exit→Act→World→Prop}(hQ: ∀st a w,Q st→Rel τ lo w0 st a w→Q' .normal a w):
  ∀(os:List Oper) (k:Nat) (st:St) (a:Act) (w:World),(∀j,os[j]? =all[k+j]?)→yn a.tmps.size all=true→(∀j o,k≤j→all[j]? =some o→xQ np o=true→yN (own (zy o)) st)→(np=true→PF st)→Rel τ lo w0 st a w→qO P np τ all Q os st→wpList P all.toArray Q' os a w
 | [],k,st,a,w,_,_,_,_,hr,h=>wpList_nil (hQ _ _ _ h hr)
 |o::os,k,st,a,w,hl,hd,hinv,hpf,hr,h=>by
  have ho:all[k]? =some o:=by simpa using (hl 0).symm
  have hd1: ∀j,o.dst=some j→j<a.tmps.size:=fun j hj=>by
   have :=List.all_eq_true.1 hd o (List.mem_of_getElem? ho)
   rw [hj]at this
   simpa using this
  refine wpList_step fun K' hK'=> ?_
  -- from any state that says the same
  have next: ∀st,(∀j o,k≤j→all[j]? =some o→xQ np o=true→yN (own (zy o)) st)→(np=true→PF st)→∀δ,qc P np τ all o st δ→qO P np τ all Q os (st.app o.dst δ)→∀x w',Rel τ lo w0 (st.app o.dst δ) (a.put o.dst x) w'→K' (a.put o.dst x) w':=fun st hinv hpf δ hstep hrest x w' hr'=>by
   have hf:xQ np o=true→yN (own (zy o)) st:=hinv k o (Nat.le_refl _) ho
   refine hK' _ _ (Vk hτ hpos hm hQ os (k+1) _ _ w' (fun j=>by have :=hl (j+1);simpa [Nat.add_assoc,Nat.add_comm 1 j]using this) (by rw [xH];exact hd) (fun j oj hkj hj hmk=> ?_) (fun e=>by subst e;exact zDI (hpf rfl) hf hstep) hr' hrest)
   refine UB (hinv j oj (by omega) hj hmk) (fun hmo n hn=> ?_) hstep
   have hkl:k<all.length:=(List.getElem?_eq_some_iff.1 ho).1
   have hjl:j<all.length:=(List.getElem?_eq_some_iff.1 hj).1
   have h1:=List.all_eq_true.1 (List.all_eq_true.1 hm k (List.mem_range.2 hkl)) j (List.mem_range.2 hjl)
   rw [ho,hj]at h1
   simp only [hmo,hmk,Bool.and_self,Bool.not_true,Bool.or_false,Bool.or_eq_true,beq_iff_eq,bne_iff_ne,ne_eq]at h1
   rcases h1 with h1|h1
   ·omega
   ·exact zFq h1 n hn
  have run: ∀st,(∀j o,k≤j→all[j]? =some o→xQ np o=true→yN (own (zy o)) st)→(np=true→PF st)→Rel τ lo w0 st a w→∀δ,vn P np τ o st δ→qc P np τ all o st δ→qO P np τ all Q os (st.app o.dst δ)→o.wp P a w K' Q':=fun st hinv hpf hr δ ha hs hrest=>Ki hτ hpos hd1 hr (hinv k o (Nat.le_refl _) ho) hpf ha (next st hinv hpf δ hs hrest)
  have skip: ∀st,(∀j o,k≤j→all[j]? =some o→xQ np o=true→yN (own (zy o)) st)→(np=true→PF st)→Rel τ lo w0 st a w→qc P np τ all o st Dl.skip→qO P np τ all Q os (st.app o.dst Dl.skip)→K' (a.put o.dst undef) w:=fun st hinv hpf hr hs hrest=>by
   refine next st hinv hpf Dl.skip hs hrest undef w ?_
   obtain⟨ow,hd',bk,hrr⟩:=hr
   exact ql (yb hrr hd1 (v:= .tup []) (x:=undef) (by simp only [AvR];exact⟨[],rfl,by simp [zY]⟩)) (Xk _)
  simp only [qO]at h
  split at h
  ·rename_i hg
   rw [if_pos (by simp [Region.wanted,hg])]
   obtain⟨δ,h1,h2⟩:=VA h
   exact run st hinv hpf hr δ h1 (by unfold qc;rw [hg];exact h1) h2
  ·rename_i g want hg
   split at h
   ·rename_i b hgv
    have hy:=vl hr hgv
    have he:=zBW hgv
    have hgv':qA all (ya all st g b) g=some (some b):=by rw [JL (st:=st) fun o' d _ _=>he.s d];exact hgv
    have hinv': ∀j o,k≤j→all[j]? =some o→xQ np o=true→yN (own (zy o)) (ya all st g b):=fun j o h1 h2 h3=>he.free (hinv j o h1 h2 h3)
    have hpf':np=true→PF (ya all st g b):=fun e=>he.pf (hpf e)
    have hr':Rel τ lo w0 (ya all st g b) a w:=ql hr he.cov
    have hb:if want=b then ZS P np τ o (ya all st g b) fun δ=>qO P np τ all Q os ((ya all st g b).app o.dst δ)else qO P np τ all Q os ((ya all st g b).app o.dst Dl.skip):=by
     cases b
     ·exact h.2 rfl
     ·exact h.1 rfl
    by_cases hw:want=b
    ·rw [if_pos hw]at hb
     rw [if_pos (by simp [Region.wanted,hg,hy,hw])]
     obtain⟨δ,h1,h2⟩:=VA hb
     refine run _ hinv' hpf' hr' δ h1 ?_ h2
     unfold qc;rw [hg];simp only [hgv']
     exact⟨fun _=>h1,fun e'=>by subst hw;cases want<;>cases e'⟩
    ·rw [if_neg hw]at hb
     rw [if_neg (by simp [Region.wanted,hg,hy];exact fun e=>hw e.symm)]
     refine skip _ hinv' hpf' hr' ?_ hb
     unfold qc;rw [hg];simp only [hgv']
     exact⟨fun h=>absurd h.symm hw,fun _=>by first|rfl|trivial⟩
   ·rename_i hgv
    have hy:=vl hr hgv
    rw [if_neg (by simp [Region.wanted,hg,hy])]
    refine skip st hinv hpf hr ?_ h
    unfold qc;rw [hg];simp only [hgv]
   ·exact h.elim
theorem uD (h:Rel τ lo w0 st a w)(ops:List Oper):Rel τ lo w0 (st.start np ops) a w:=by
 have h1:Rel τ lo w0 (st.clean np ops) a w:=Un h _ _
 unfold St.start
 split
 ·exact zCO h1
 ·exact h1
theorem jh {ops:List Oper}{j:Nat}{o:Oper}(ho:ops[j]? =some o)(hm:xQ np o=true):yN (own (zy o)) (st.start np ops):=by
 have hfc:yN (own (zy o)) (st.clean np ops):=by
  refine Vp (fun d hdt=> ?_) (Xh ho hm)
  rw [hdt];exact Xh ho hm
 unfold St.start
 split
 ·exact zAQ hfc
 ·exact hfc
theorem za (np:Bool)(hτ:zx P τ)(hpos:yL τ){Q:Exit→St→Prop}{id:Nat}{ops:List Oper}(hs:XH np ops=true)(hd:yn st.n ops=true)(h:qO P np τ ops (Q .normal) ops (st.start np ops)):awp P τ (.region id ops.toArray false) Q st:=fun lo w0 a w hr=>by
 have hn:a.tmps.size=st.n:=by obtain⟨ow,hd,bk,h⟩:=hr;exact h.size
 refine wp_region_lit (Vk (np:=np) hτ hpos hs (fun st a w h1 h2=>⟨st,h2,h1⟩) ops 0 (st.start np ops) a w (by simp) (by rw [hn];exact hd) (fun j o _ ho hm=>jh ho hm) (fun e=>by unfold St.start;rw [if_pos e];exact Kx _) (uD hr ops) h)
def St.settle (e:TypeId)(t:Nat)(st:St):St:=
 let y:=hom [] (.sl e) st (zb t 0) (ev st (.tmp t))
 y.1.put (some t) y.2.1
theorem qq (e:TypeId)(t:Nat)(ht:t<st.n){c:Code}{Q:Exit→St→Prop}(h:awp P τ c Q (st.settle e t)):awp P τ c Q st:=fun lo w0 a w hr=>by
 obtain⟨ow,hd,bk,hrr⟩:=hr
 have hx:=zZ hrr (.tmp t)
 obtain⟨ow',hd',r1,r2,-,-⟩:=Xb hrr [] (.sl e) (zb t 0) hx
 have hsz:t<a.tmps.size:=by rw [hrr.size];exact ht
 have hrel:=yb (d:=some t) r1 (fun k hk=>by cases hk;exact hsz) r2
 have hput:a.put (some t) (a.eval (.tmp t))=a:=by
  unfold Act.put Act.eval
  simp only
  congr 1
  apply Array.ext_getElem?
  intro i
  rw [Array.getElem?_setIfInBounds]
  split
  ·rename_i e;subst e
   first
    |(rw [if_pos hsz,Array.getD_eq_getD_getElem?,Array.getElem?_eq_getElem hsz];rfl)
    |(rw [Array.getD_eq_getD_getElem?,Array.getElem?_eq_getElem hsz];simp)
    |(simp [hsz])
  ·rfl
 rw [hput]at hrel
 exact h lo w0 a w hrel
end
def xU (τ:Ty)(st:St):ResultVar→Option (AV×Prop)
 | .tmp t=>some (ev st (.tmp t),True)
 | .cell a t=>qu τ st t (ev st (.tmp a))
def yS (τ:Ty)(st:St):List ResultVar→Option (List AV×Prop)
 | []=>some ([],True)
 |r::rs=>match xU τ st r,yS τ st rs with
  |some (v,p),some (vs,q)=>some (v::vs,p∧q)
  |_,_=>none
def RetR (τ:Ty)(rs:List ResultVar)(ress:List VT)(e:Exit)(st:St):Prop:=(e= .ret∨e= .normal)∧
 match yS τ st rs with
 |some (vs,ob)=>ob∧zi τ st vs ress
 |none=>False
section
variable {P:Program} {τ:Ty} {lo:Nat} {w0:Fz} {ow:Nat→Option Pl} {hd:Nat→Value} {bk:Nat→Nat} {st:St} {a:Act} {w:World}
theorem zJG {t:TypeId}{u z:Value}(h:(Instr.loadAt t u).run P w= .ok z w):(do loadVar t (←asAddr u):Sem Value).run P w= .ok z w:=by
 unfold Instr.loadAt at h
 rw [Sem.run_bind]at h⊢
 have bad:Instr.sureAddr u=stuck "an address expected (no nilCheck in front?)" →False:=fun e=>by
  rw [e]at h
  simp [stuck,Sem.run,Result.andThen]at h
 cases u with
 |pointer q=>
  cases q with
  |none=>exact(bad rfl).elim
  |some b=>simpa [Instr.sureAddr,asAddr]using h
 |_=>exact(bad rfl).elim
theorem zEF (hτ:zx P τ)(hpos:yL τ)(h:ze τ lo w0 ow hd bk st a w){r:ResultVar}{v:AV}{ob:Prop}(he:xU τ st r=some (v,ob))(hob:ob):
  ∃z,(match r with| .tmp t=>pure (a.tmps.getD t undef)| .cell c t=>do loadVar t (←asAddr (a.tmps.getD c undef)):Sem Value).run P w= .ok z w∧AvR τ w st.r st.b hd bk v z:=by
 cases r with
 |tmp t=>
  simp only [xU,Option.some.injEq,Prod.mk.injEq]at he
  obtain⟨rfl,rfl⟩:=he
  exact⟨a.tmps.getD t undef,Sem.run_pure ..,zZ h (.tmp t)⟩
 |cell c t=>
  obtain⟨z,hz,hv⟩:=Jm hτ hpos h (zZ h (.tmp c)) he hob
  exact⟨z,zJG hz,hv⟩
theorem Ze (hτ:zx P τ)(hpos:yL τ)(h:ze τ lo w0 ow hd bk st a w){fn:Func}{rs:List ResultVar}(hrs:fn.results=rs.toArray){vs:List AV}{ob:Prop}(he:yS τ st rs=some (vs,ob))(hob:ob):
  ∃xs,(results fn a.tmps).run P w= .ok (wG xs) w∧zY τ w st.r st.b hd bk vs xs:=by
 have key: ∀(g:ResultVar→Sem Value),(∀t,g (.tmp t)=pure (a.tmps.getD t undef))→(∀c t,g (.cell c t)=do loadVar t (←asAddr (a.tmps.getD c undef)))→∀(rs:List ResultVar) (vs:List AV) (ob:Prop),yS τ st rs=some (vs,ob)→ob→∃xs,(rs.mapM g).run P w= .ok xs w∧zY τ w st.r st.b hd bk vs xs:=by
  intro g hg1 hg2 rs
  induction rs with
  |nil=>
   intro vs ob he _
   simp only [yS,Option.some.injEq,Prod.mk.injEq]at he
   obtain⟨rfl,rfl⟩:=he
   exact⟨[],by simp,by simp [zY]⟩
  |cons r rs ih=>
   intro vs ob he hob
   simp only [yS]at he
   split at he
   ·rename_i v p vs' q e1 e2
    simp only [Option.some.injEq,Prod.mk.injEq]at he
    obtain⟨rfl,rfl⟩:=he
    obtain⟨z,hz,hv⟩:=zEF hτ hpos h e1 hob.1
    obtain⟨xs,hx,hvs⟩:=ih vs' q e2 hob.2
    refine⟨z::xs,?_,by simp only [zY];exact⟨z,xs,rfl,hv,hvs⟩⟩
    have hg:(g r).run P w= .ok z w:=by
     cases r with
     |tmp t=>rw [hg1];exact hz
     |cell c t=>rw [hg2];exact hz
    rw [List.mapM_cons,Sem.run_bind,hg,Result.andThen_ok,Sem.run_bind,hx,Result.andThen_ok,Sem.run_pure]
   ·cases he
 unfold results
 rw [hrs,Array.mapM_eq_mapM_toList]
 obtain⟨xs,hx,hv⟩:=key (fun x=>match x with| .tmp t=>pure (a.tmps.getD t undef)| .cell c t=>do loadVar t (←asAddr (a.tmps.getD c undef))) (fun _=>rfl) (fun _ _=>rfl) rs vs ob he hob
 refine⟨xs,?_,hv⟩
 rw [Sem.run_bind]
 have hm: ∀(m:Sem (List Value)),m.run P w= .ok xs w→((List.toArray<$>m:Sem (Array Value))).run P w= .ok xs.toArray w:=fun m hm=>by
  rw [map_eq_pure_bind,Sem.run_bind,hm,Result.andThen_ok]
  simp
 refine Eq.trans (congrArg (fun r=>Result.andThen r (fun(vs:Array Value) w'=>Sem.run P (pure (if h:vs.size=1 then vs[0]else Value.tuple vs)) w')) (hm _ hx)) ?_
 rw [Result.andThen_ok,Sem.run_pure]
 match xs with
 | []=>simp [wG]
 | [t]=>simp [wG]
 |t::t'::ts=>simp [wG]
theorem Vs (hτ:zx P τ)(hpos:yL τ){f:FuncId}{fn:Func}{c:Code}{rs:List ResultVar}{args ress:List VT}(hfn:P.funcs[f]? =some fn)(hname:(fn.name== "runtime.NumGoroutine")=false)(hb:fn.body=some c)(hres:fn.results=rs.toArray)(hn:args.length≤fn.ntmps)(hfew:few args=true)(hs:szA τ args)
  (h:awp P τ c (RetR τ rs ress) (wo τ fn.ntmps args)):Fn P τ f args ress:=by
 refine⟨⟨fn,hfn,hname,by rw [hb];rfl⟩,fun w cargs hargs=> ?_⟩
 have hstart:Rel τ w.heap.size (.plain w) (wo τ fn.ntmps args) {tmps:=cargs.toArray++Array.replicate (fn.ntmps - cargs.toArray.size) undef,defers:= []} w:=⟨_,_,_,QD hs hfew hn hargs⟩
 refine calls_of_wp hfn hb (Go.wp_mono (h w.heap.size (.plain w) _ w hstart) fun e a' w' ⟨st',⟨ow,hd,bk,hr⟩,he,hret0⟩=> ?_)
 have hpost:a'.defers= []∧∃v,(results fn a'.tmps).run P w'= .ok v w'∧jr τ w ress (.returned v) w':=by
  split at hret0
  ·rename_i avs ob0 hrv
   obtain⟨hob0,hret⟩:=hret0
   obtain⟨xs,hrun,hv⟩:=Ze hτ hpos hr hres hrv hob0
   refine⟨hr.defers,_,hrun,?_⟩
   unfold zi at hret
   split at hret
   ·rename_i us hus
    split at hret
    ·rename_i is ob hcells
     obtain⟨cs,k1,k2⟩:=vi (S:=sz τ) (lo:=w.heap.size) (ow:=qv ow is) 0 hus hv
     obtain⟨m1,m2⟩:=Zz hr hcells hret.2 hret.1 k1
     refine⟨_,qv ow is,rfl,hr.below.to_below,fun b hlt=> ?_,fun b p hp=> ?_,k2 m1 fun i d c hd hc=>by rw [Nat.zero_add];exact m2 i d c hd hc⟩
     ·unfold qv
      split
      ·rename_i d q ho
       have :=(hr.ge b _ (by have :=hr.below.to_below.size;omega) ho (by simp)).1
       omega
      ·rfl
     ·unfold qv at hp
      split at hp
      ·rename_i d q ho
       split at hp
       ·cases hp
        refine⟨?_,by simp⟩
        rcases Nat.lt_or_ge b w'.heap.size with h'|h'
        ·exact h'
        ·rw [hr.new b h']at ho;cases ho
       ·cases hp
      ·cases hp
    ·exact hret.elim
   ·exact hret.elim
  ·exact hret0.elim
 rcases he with rfl|rfl<;>exact hpost
end
def YH (id:Nat):Nat:=1000000+id
abbrev Out :=Nat×TypeId×List D
def zHv (τ:Ty)(lo:Nat)(w:World)(ow:Nat→Option Pl)(outs:List Out)(ress:List VT)(cargs:List Value)(e:Ending)(w':World):Prop:=
 ∃vs ow',e= .returned (wG vs)∧yu ⟨w,fun b=>ow b=none,fun _=>none⟩ w'∧(∀b,b<w.heap.size→ow b=none→ow' b=none)∧(∀b p,ow' b=some p→b<w'.heap.size∧lo≤b∧∃d q,p= .root d q)∧
  vH (sz τ) lo w' ow' 0 ress vs∧∀x∈outs,Rp (sz τ) lo w' ow' (.ex (YH x.1) []) (.lst x.2.1 x.2.2) (yQ cargs x.1)
def FnG (P:Program)(τ:Ty)(f:FuncId)(args:List VT)(own:List Nat)(outs:List Out)(ress:List VT):Prop:=
 qz P f∧∀(lo:Nat) (w:World) (ow:Nat→Option Pl) (cargs:List Value),lo≤w.heap.size→(∀b p,ow b=some p→b<w.heap.size∧lo≤b∧∃d q,p= .root d q)→Kb (sz τ) lo w ow own args cargs→
  Calls P f cargs.toArray w (zHv τ lo w ow outs ress cargs)
section
variable {P:Program} {τ:Ty} {lo:Nat} {w0:Fz} {ow:Nat→Option Pl} {hd:Nat→Value} {bk:Nat→Nat} {st:St} {a:Act} {w:World}
theorem jT {is:List (Option Nat)}{b:Nat}{p:Pl}(h:qv ow is b=some p): ∃d q j,ow b=some (.root d q)∧Xm is 0 d=some j∧p= .root j q:=by
 unfold qv at h
 split at h
 ·rename_i d q ho
  split at h
  ·rename_i j hj;cases h;exact⟨d,q,j,ho,hj,rfl⟩
  ·cases h
 ·cases h
end
structure ym where
 id:Nat
 d:Nat
 p:List Nat
 e:TypeId
 out:Option (List D)
def jS :List Out→Nat→Option (TypeId×List D)
 | [],_=>none
 |(k,e,ys)::l,id=>if k=id then some (e,ys)else jS l id
def YM (vs:List AV)(id:Nat):AV:=
 match vs.getD (id / 16) .dead with
 | .agg us=>us.getD (id%16) .dead
 | .fn _ us=>us.getD (id%16) .dead
 |v=>if id%16=0 then v else .dead
def Qh (τ:Ty)(st:St)(vs:List AV)(outs:List Out)(id:Nat):Option (ym×Prop):=
 match YM vs id with
 | .sl d p 0 len e=>match lk st.r d with
  |some R=>if R.o.isEx=true∧0<sz τ e then
    match p,jS outs id with
    | [],none=>some (⟨id,d,[],e,none⟩,R.e=e∧len*sz τ e=R.xs.length)
    | [],some (e',ys)=>some (⟨id,d,[],e,some ys⟩,R.e=e∧len*sz τ e=R.xs.length∧e'=e)
    | [j],some (e',ys)=>some (⟨id,d,[j],e,some ys⟩,zk R.xs [j]∧vF R.e R.xs [j]=e∧len*sz τ e=(yI R.xs [j]).length∧e'=e)
    |_,_=>none
   else none
  |none=>none
 |_=>none
def wU (τ:Ty)(st:St)(vs:List AV)(outs:List Out):List Nat→Option (List ym×Prop)
 | []=>some ([],True)
 |id::l=>match Qh τ st vs outs id,wU τ st vs outs l with
  |some (x,p),some (xs,q)=>some (x::xs,p∧q)
  |_,_=>none
def zBT (x y:ym):Prop:=if x.d=y.d then(match x.p,y.p with| [i],[j]=>i≠j|_,_=>False)else True
def zBS (x:ym):List ym→Prop
 | []=>True
 |y::l=>zBT x y∧zBS x l
def vj :List ym→Prop
 | []=>True
 |x::l=>zBS x l∧vj l
def Xp (own:List Nat)(m:Nat):Nat→List AV→List Nat
 |_,[]=> []
 |j,u::us=>(if own.contains (zb m j)=true then []else u.nm)++Xp own m (j+1) us
def YT (own:List Nat):Nat→List AV→List Nat
 |_,[]=> []
 |m,v::vs=>(match v with| .agg us=>Xp own m 0 us| .fn _ us=>Xp own m 0 us|v=>Xp own m 0 [v])++YT own (m+1) vs
def qh (d:Nat)(xs:List D):List ym→List D
 | []=>xs
 |x::l=>if x.d=d then(match x.p,x.out with| [],some ys=>ys| [j],some ys=>(qh d xs l).set j (.lst x.e ys)|_,_=>qh d xs l)else qh d xs l
def wv (d:Nat):List ym→Bool
 | []=>false
 |x::l=>if x.d=d then(x.out.isNone||wv d l)else wv d l
def VU (ls:List ym):List (Nat×zr)→List (Nat×zr)
 | []=> []
 |(d,R)::l=>if wv d ls=true then VU ls l else(d,{R with xs:=qh d R.xs ls})::VU ls l
def vO (st:St)(ls:List ym):St:={st.cut with r:=VU ls st.r}
def apart (ns:List Nat)(ls:List ym):Bool:=ns.all fun n=>ls.all fun x=> !(2*x.d==n)
theorem KM (ls:List ym): ∀(r:List (Nat×zr)) (d:Nat),lk (VU ls r) d=if wv d ls=true then none else(lk r d).map fun R=>{R with xs:=qh d R.xs ls}
 | [],d=>by simp [VU,lk]
 |(k,R)::l,d=>by
  simp only [VU]
  by_cases hg:wv k ls=true
  ·rw [if_pos hg,KM ls l d,zd]
   by_cases hk:k=d
   ·subst hk;rw [if_pos hg,if_pos hg]
   ·rw [if_neg hk]
  ·rw [if_neg hg,zd,zd,KM ls l d]
   by_cases hk:k=d
   ·subst hk;rw [if_pos rfl,if_neg hg,if_pos rfl];rfl
   ·rw [if_neg hk,if_neg hk]
theorem Vj {x:ym}: ∀{l:List ym},zBS x l→∀y∈l,zBT x y
 | [],_,y,hy=>by simp at hy
 |z::l,h,y,hy=>by
  simp only [zBS]at h
  rcases List.mem_cons.1 hy with rfl|hy
  ·exact h.1
  ·exact Vj h.2 y hy
theorem zBU {x y:ym}(h:zBT x y)(hd:x.d=y.d): ∃i j,x.p= [i]∧y.p= [j]∧i≠j:=by
 unfold zBT at h
 rw [if_pos hd]at h
 split at h
 ·rename_i i j h1 h2;exact⟨i,j,h1,h2,h⟩
 ·exact h.elim
theorem KP {d:Nat}{xs:List D}: ∀{ls:List ym},(∀x∈ls,x.d≠d)→qh d xs ls=xs
 | [],_=>rfl
 |x::l,h=>by
  simp only [qh]
  rw [if_neg (h x (by simp))]
  exact KP fun y hy=>h y (by simp [hy])
theorem jN {d:Nat}{xs ys:List D}: ∀{ls:List ym},vj ls→∀x∈ls,x.d=d→x.p= []→x.out=some ys→qh d xs ls=ys
 | [],_,x,hx,_,_,_=>by simp at hx
 |y::l,h,x,hx,hd,hp,ho=>by
  simp only [vj]at h
  simp only [qh]
  rcases List.mem_cons.1 hx with rfl|hx
  ·rw [if_pos hd,hp,ho]
  ·by_cases hy:y.d=d
   ·obtain⟨i,j,-,h2,-⟩:=zBU (Vj h.1 x hx) (by rw [hy,hd])
    rw [hp]at h2;cases h2
   ·rw [if_neg hy];exact jN h.2 x hx hd hp ho
theorem WX {d:Nat}{xs:List D}: ∀{ls:List ym},(∀x∈ls,x.d=d→∃j,x.p= [j])→(qh d xs ls).length=xs.length
 | [],_=>rfl
 |x::l,h=>by
  have ih:=WX (xs:=xs) (ls:=l) (d:=d) fun y hy=>h y (by simp [hy])
  simp only [qh]
  split
  ·rename_i hd
   obtain⟨j,hj⟩:=h x (by simp) hd
   rw [hj]
   split
   ·rename_i h1 _;cases h1
   ·rw [List.length_set];exact ih
   ·exact ih
  ·exact ih
theorem uk {d i:Nat}{xs:List D}: ∀{ls:List ym},(∀x∈ls,x.d=d→∃j,x.p= [j]∧j≠i)→(qh d xs ls)[i]? =xs[i]?
 | [],_=>rfl
 |x::l,h=>by
  have ih:=uk (xs:=xs) (ls:=l) (d:=d) (i:=i) fun y hy=>h y (by simp [hy])
  simp only [qh]
  split
  ·rename_i hd
   obtain⟨j,hj,hne⟩:=h x (by simp) hd
   rw [hj]
   split
   ·rename_i h1 _;cases h1
   ·rename_i j' ys h1 h2
    cases h1
    rw [List.getElem?_set_ne hne];exact ih
   ·exact ih
  ·exact ih
theorem zA9 {d i:Nat}{xs ys:List D}(hi:i<xs.length): ∀{ls:List ym},vj ls→(∀x∈ls,x.d=d→∃j,x.p= [j])→∀x∈ls,x.d=d→x.p= [i]→x.out=some ys→(qh d xs ls)[i]? =some (.lst x.e ys)
 | [],_,_,x,hx,_,_,_=>by simp at hx
 |y::l,hs,h,x,hx,hd,hp,ho=>by
  simp only [vj]at hs
  simp only [qh]
  rcases List.mem_cons.1 hx with rfl|hx
  ·rw [if_pos hd,hp,ho]
   simp only
   rw [List.getElem?_set,if_pos rfl,if_pos (by rw [WX fun y hy=>h y (by simp [hy])];exact hi)]
  ·have ih:=zA9 (xs:=xs) hi hs.2 (fun y hy=>h y (by simp [hy])) x hx hd hp ho
   by_cases hy:y.d=d
   ·obtain⟨i',j',h1,h2,hne⟩:=zBU (Vj hs.1 x hx) (by rw [hy,hd])
    rw [hp]at h2;cases h2
    rw [if_pos hy,h1]
    split
    ·rename_i h3 _;cases h3
    ·rename_i j'' ys' h3 h4
     cases h3
     rw [List.getElem?_set_ne hne];exact ih
    ·exact ih
   ·rw [if_neg hy];exact ih
theorem KG {d:Nat}: ∀{ls:List ym},wv d ls=false→∀x∈ls,x.d=d→∃ys,x.out=some ys
 | [],_,x,hx,_=>by simp at hx
 |y::l,h,x,hx,hd=>by
  simp only [wv]at h
  rcases List.mem_cons.1 hx with rfl|hx
  ·rw [if_pos hd]at h
   cases ho:x.out with
   |none=>rw [ho]at h;simp at h
   |some ys=>exact⟨ys,rfl⟩
  ·by_cases hy:y.d=d
   ·rw [if_pos hy,Bool.or_eq_false_iff]at h;exact KG h.2 x hx hd
   ·rw [if_neg hy]at h;exact KG h x hx hd
theorem zAi {d:Nat}: ∀{ls:List ym},(∀x∈ls,x.d≠d)→wv d ls=false
 | [],_=>rfl
 |y::l,h=>by
  simp only [wv]
  rw [if_neg (h y (by simp))]
  exact zAi fun x hx=>h x (by simp [hx])
def trL (d:Nat)(q:List Nat):List ym→Option Pl
 | []=>none
 |x::l=>if x.d=d then(match x.p,q with| [],q=>some (.root x.id q)| [j],i::q'=>if i=j then some (.root x.id q')else trL d q l|_,_=>trL d q l)else trL d q l
theorem zBb {d:Nat}{q:List Nat}{p:Pl}: ∀{ls:List ym},trL d q ls=some p→∃x∈ls,x.d=d∧∃q',q=x.p++q'∧p= .root x.id q'
 | [],h=>by cases h
 |x::l,h=>by
  simp only [trL]at h
  have nx:trL d q l=some p→∃y∈x::l,y.d=d∧∃q',q=y.p++q'∧p= .root y.id q':=fun h=>by
   obtain⟨y,hy,rest⟩:=zBb h;exact⟨y,by simp [hy],rest⟩
  split at h
  ·rename_i hd
   split at h
   ·rename_i h1;cases h;exact⟨x,by simp,hd,_,by rw [h1];rfl,rfl⟩
   ·rename_i j i q' h1
    split at h
    ·rename_i hij;cases h;subst hij;exact⟨x,by simp,hd,q',by rw [h1];rfl,rfl⟩
    ·exact nx h
   ·exact nx h
  ·exact nx h
theorem zGJ {d:Nat}{q:List Nat}: ∀{ls:List ym},vj ls→∀x∈ls,x.d=d→(x.p= []∨∃j,x.p= [j])→trL d (x.p++q) ls=some (.root x.id q)
 | [],_,x,hx,_,_=>by simp at hx
 |y::l,hs,x,hx,hd,hp=>by
  simp only [vj]at hs
  simp only [trL]
  rcases List.mem_cons.1 hx with rfl|hx
  ·rw [if_pos hd]
   rcases hp with hp|⟨j,hp⟩<;>rw [hp]<;>simp
  ·have ih:=zGJ (q:=q) hs.2 x hx hd hp
   by_cases hy:y.d=d
   ·obtain⟨i',j',h1,h2,hne⟩:=zBU (Vj hs.1 x hx) (by rw [hy,hd])
    rw [if_pos hy,h1]
    rw [h2]at ih⊢
    simp only [List.cons_append,List.nil_append]at ih⊢
    rw [if_neg (fun e=>hne e.symm)]
    exact ih
   ·rw [if_neg hy];exact ih
def UR (id:Nat)(q:List Nat):List ym→Option Pl
 | []=>none
 |x::l=>if x.id=id then some (.root x.d (x.p++q))else UR id q l
theorem zAG {q:List Nat}: ∀{ls:List ym},(ls.map (·.id)).Nodup→∀x∈ls,UR x.id q ls=some (.root x.d (x.p++q))
 | [],_,x,hx=>by simp at hx
 |y::l,hn,x,hx=>by
  simp only [List.map_cons,List.nodup_cons]at hn
  simp only [UR]
  rcases List.mem_cons.1 hx with rfl|hx
  ·rw [if_pos rfl]
  ·rw [if_neg (fun e=>hn.1 (by rw [e];exact List.mem_map.2 ⟨x,hx,rfl⟩))]
   exact zAG hn.2 x hx
section
variable {P:Program} {τ:Ty} {lo:Nat} {w0:Fz} {ow:Nat→Option Pl} {hd:Nat→Value} {bk:Nat→Nat} {st:St} {a:Act} {w:World}
mutual
theorem uB {w w':World}{rr rr':List (Nat×zr)}{bb bb':List (Nat×List AV)}{hd hd':Nat→Value}{bk bk':Nat→Nat}{bad:Nat→Prop}(h0: ∀d,bad d→Wq rr rr' hd hd' d)(hD: ∀d,¬bad d→yq w w' rr rr' hd hd' d)(hB: ∀t,yp bb bb' bk bk' t):
  ∀(v:AV) (x:Value),(∀d∈v.pm,¬bad d)→AvR τ w rr bb hd bk v x→AvR τ w' rr' bb' hd' bk' v x
 | .int k n,x,_,h=>by simpa only [AvR]using h
 | .bool b,x,_,h=>by simpa only [AvR]using h
 | .nil,x,_,h=>by simpa only [AvR]using h
 | .dead,x,_,h=>by simp only [AvR]
 | .raw u,x,_,h=>by simpa only [AvR]using h
 | .sl d p off len e,x,hp,h=>by
  simp only [AvR]at h⊢
  refine⟨h.1,fun R' hR' hok=> ?_⟩
  by_cases hd0:bad d
  ·cases p with
   |cons i q=>exact absurd hd0 (hp d (by simp [AV.pm]))
   |nil=>
    obtain⟨R,hR,he⟩:=h0 d hd0 R' hR'
    have :=h.2 R hR (by simp [zk])
    simp only [yC]at this⊢
    rw [he];exact this
  ·obtain⟨R,hR,he,hk⟩:=hD d hd0 R' hR'
   obtain⟨hp0,hi⟩:=hk p hok
   rw [he,hi]
   exact h.2 R hR hp0
 | .ep d p i,x,hp,h=>by
  simp only [AvR]at h⊢
  refine⟨h.1,fun R' hR' hok=> ?_⟩
  by_cases hd0:bad d
  ·cases p with
   |cons i q=>exact absurd hd0 (hp d (by simp [AV.pm]))
   |nil=>
    obtain⟨R,hR,he⟩:=h0 d hd0 R' hR'
    have :=h.2 R hR (by simp [zk])
    simp only [yC]at this⊢
    rw [he];exact this
  ·obtain⟨R,hR,he,hk⟩:=hD d hd0 R' hR'
   obtain⟨hp0,hi⟩:=hk p hok
   rw [he,hi]
   exact h.2 R hR hp0
 | .bp t i,x,_,h=>by
  simp only [AvR]at h⊢
  refine⟨h.1,fun hl=> ?_⟩
  obtain⟨h1,h2⟩:=hB t hl
  rw [h2]
  exact h.2 h1
 | .agg vs,x,hp,h=>by
  simp only [AvR]at h⊢
  obtain⟨cs,h1,h2⟩:=h
  exact⟨cs,h1,ZK h0 hD hB vs cs (by simpa only [AV.pm]using hp) h2⟩
 | .tup vs,x,hp,h=>by
  simp only [AvR]at h⊢
  obtain⟨cs,h1,h2⟩:=h
  exact⟨cs,h1,ZK h0 hD hB vs cs (by simpa only [AV.pm]using hp) h2⟩
 | .fn f vs,x,hp,h=>by
  simp only [AvR]at h⊢
  obtain⟨cs,h1,h2⟩:=h
  exact⟨cs,h1,ZK h0 hD hB vs cs (by simpa only [AV.pm]using hp) h2⟩
theorem ZK {w w':World}{rr rr':List (Nat×zr)}{bb bb':List (Nat×List AV)}{hd hd':Nat→Value}{bk bk':Nat→Nat}{bad:Nat→Prop}(h0: ∀d,bad d→Wq rr rr' hd hd' d)(hD: ∀d,¬bad d→yq w w' rr rr' hd hd' d)(hB: ∀t,yp bb bb' bk bk' t):
  ∀(vs:List AV) (xs:List Value),(∀d∈AV.pmL vs,¬bad d)→zY τ w rr bb hd bk vs xs→zY τ w' rr' bb' hd' bk' vs xs
 | [],xs,_,h=>by simpa only [zY]using h
 |v::vs,xs,hp,h=>by
  simp only [AV.pmL,List.mem_append]at hp
  simp only [zY]at h⊢
  obtain⟨x,xs',h1,h2,h3⟩:=h
  exact⟨x,xs',h1,uB h0 hD hB v x (fun d hd=>hp d (.inl hd)) h2,ZK h0 hD hB vs xs' (fun d hd=>hp d (.inr hd)) h3⟩
end
theorem zGR (h:ze τ lo w0 ow hd bk st a w):ze τ lo w0 ow hd bk st.cut a w:=by
 have hb: ∀t,(∃cs,lk st.cut.b t=some cs)→∃cs,lk st.b t=some cs:=fun t ⟨cs,hcs⟩=>by
  simp only [St.cut,zz]at hcs
  cases hx:lk st.b t with
  |none=>rw [hx]at hcs;cases hcs
  |some u=>exact⟨u,rfl⟩
 refine⟨h.big,h.defers,h.size,h.low,h.below,h.ge,h.new,fun k v hv'=> ?_,h.root,fun t vs hv'=> ?_,h.pin⟩
 ·simp only [St.cut,zz]at hv'
  cases hx:lk st.s k with
  |none=>rw [hx]at hv';cases hv'
  |some u=>rw [hx]at hv';cases hv';exact WI hb u _ (h.slot k u hx)
 ·simp only [St.cut,zz]at hv'
  cases hx:lk st.b t with
  |none=>rw [hx]at hv';cases hv'
  |some u=>
   rw [hx]at hv';cases hv'
   obtain⟨cs,ty,h1,h2,h3⟩:=h.box t u hx
   exact⟨cs,ty,h1,h2,wP hb u cs h3⟩
theorem VS {vs:List AV}{outs:List Out}: ∀{own:List Nat} {ls:List ym} {ob:Prop},wU τ st vs outs own=some (ls,ob)→ob→(∀x∈ls,∃ob',Qh τ st vs outs x.id=some (x,ob')∧ob')∧ls.map (·.id)=own
 | [],ls,ob,he,hob=>by
  simp only [wU,Option.some.injEq,Prod.mk.injEq]at he
  obtain⟨rfl,rfl⟩:=he
  exact⟨fun x hx=>by simp at hx,rfl⟩
 |id::own,ls,ob,he,hob=>by
  simp only [wU]at he
  split at he
  ·rename_i x p xs q e1 e2
   simp only [Option.some.injEq,Prod.mk.injEq]at he
   obtain⟨rfl,rfl⟩:=he
   obtain⟨h1,h2⟩:=VS e2 hob.2
   have hid:x.id=id:=by
    unfold Qh at e1
    split at e1
    ·split at e1
     ·split at e1
      ·split at e1<;>first|(cases e1;rfl)|cases e1
      ·cases e1
     ·cases e1
    ·cases e1
   refine⟨fun y hy=> ?_,by simp [h2,hid]⟩
   rcases List.mem_cons.1 hy with rfl|hy
   ·exact⟨p,by rw [hid];exact e1,hob.1⟩
   ·exact h1 y hy
  ·cases he
theorem Wa {e:TypeId}{ys:List D}{id:Nat}: ∀{outs:List Out},jS outs id=some (e,ys)→(id,e,ys)∈outs
 | [],h=>by cases h
 |(k,e',ys')::l,h=>by
  simp only [jS]at h
  split at h
  ·rename_i hk;cases h;subst hk;simp
  ·exact List.mem_cons_of_mem _ (Wa h)
structure Ul (τ:Ty)(st:St)(vs:List AV)(outs:List Out)(x:ym)(len:Nat)(R:zr):Prop where
 cell:YM vs x.id= .sl x.d x.p 0 len x.e
 root:lk st.r x.d=some R
 ex:R.o= .ex
 pos:0<sz τ x.e
 path:zk R.xs x.p
 elem:vF R.e R.xs x.p=x.e
 whole:len*sz τ x.e=(yI R.xs x.p).length
 short:x.p= []∨∃j ys,x.p= [j]∧x.out=some ys
 out: ∀ys,x.out=some ys→(x.id,x.e,ys)∈outs
theorem uh {vs:List AV}{outs:List Out}{id:Nat}{x:ym}{ob:Prop}(he:Qh τ st vs outs id=some (x,ob))(hob:ob): ∃len R,Ul τ st vs outs x len R:=by
 unfold Qh at he
 split at he
 ·rename_i d p len e hc
  split at he
  ·rename_i R hR
   split at he
   ·rename_i hex
    obtain⟨hex,hpos⟩:=hex
    have hex:R.o= .ex:=by cases ho:R.o<;>rw [ho]at hex<;>first|rfl|cases hex
    split at he
    ·rename_i ho
     simp only [Option.some.injEq,Prod.mk.injEq]at he
     obtain⟨rfl,rfl⟩:=he
     exact⟨len,R,hc,hR,hex,hpos,by simp [zk],by simpa [vF]using hob.1,by simpa [yI]using hob.2, .inl rfl,fun ys h=>by cases h⟩
    ·rename_i e' ys ho
     simp only [Option.some.injEq,Prod.mk.injEq]at he
     obtain⟨rfl,rfl⟩:=he
     obtain⟨h1,h2,rfl⟩:=hob
     exact⟨len,R,hc,hR,hex,hpos,by simp [zk],by simpa [vF]using h1,by simpa [yI]using h2, .inl rfl,fun ys h=>by cases h;exact Wa ho⟩
    ·rename_i j e' ys ho
     simp only [Option.some.injEq,Prod.mk.injEq]at he
     obtain⟨rfl,rfl⟩:=he
     obtain⟨h1,h2,h3,rfl⟩:=hob
     exact⟨len,R,hc,hR,hex,hpos,h1,h2,h3, .inr ⟨j,ys,rfl,rfl⟩,fun ys h=>by cases h;exact Wa ho⟩
    ·cases he
   ·cases he
  ·cases he
 ·cases he
theorem zGn {vs:List AV}{cv:List Value}(hv:zY τ w st.r st.b hd bk vs cv){id d:Nat}{p:List Nat}{off len:Nat}{e:TypeId}(hc:YM vs id= .sl d p off len e):AvR τ w st.r st.b hd bk (.sl d p off len e) (yQ cv id):=by
 obtain⟨h1,h2⟩:=zp.1 hv
 unfold YM at hc
 rw [List.getD_eq_getElem?_getD]at hc
 cases hx:vs[id / 16]? with
 |none=>rw [hx]at hc;simp only [Option.getD_none]at hc;split at hc<;>cases hc
 |some v=>
  rw [hx]at hc
  simp only [Option.getD_some]at hc
  have hlt:id / 16<cv.length:=by rw [h1];exact(List.getElem?_eq_some_iff.1 hx).1
  have hcv:=List.getElem?_eq_getElem hlt
  have hav:=h2 _ _ _ hx hcv
  have sub: ∀(us:List AV) (cs:List Value),zY τ w st.r st.b hd bk us cs→us.getD (id%16) .dead= .sl d p off len e→AvR τ w st.r st.b hd bk (.sl d p off len e) (cs.toArray.getD (id%16) undef):=fun us cs hr hu=>by
   obtain⟨g1,g2⟩:=zp.1 hr
   rw [List.getD_eq_getElem?_getD]at hu
   cases hy:us[id%16]? with
   |none=>rw [hy]at hu;cases hu
   |some u=>
    rw [hy]at hu
    simp only [Option.getD_some]at hu
    subst hu
    have hl:id%16<cs.length:=by rw [g1];exact(List.getElem?_eq_some_iff.1 hy).1
    have :=g2 _ _ _ hy (List.getElem?_eq_getElem hl)
    rw [Array.getD_eq_getD_getElem?,List.getElem?_toArray,List.getElem?_eq_getElem hl]
    exact this
  unfold yQ
  rw [hcv]
  cases v with
  |agg us=>
   simp only [AvR]at hav
   obtain⟨cs,e1,hr⟩:=hav
   rw [e1]
   exact sub us cs hr hc
  |fn f us=>
   simp only [AvR]at hav
   obtain⟨cs,e1,hr⟩:=hav
   rw [e1]
   exact sub us cs hr hc
  |sl d' p' off' len' e'=>
   simp only at hc
   split at hc
   ·cases hc
    have :=hav
    simp only [AvR]at hav
    obtain⟨⟨A,n,c,e1⟩,-⟩:=hav
    rw [e1]at this⊢
    exact this
   ·cases hc
  |_=>simp only at hc;split at hc<;>cases hc
end
theorem zEw (vs:List AV)(id:Nat):YM vs id=(xp (vs.getD (id / 16) .dead)).getD (id%16) .dead:=by
 unfold YM
 have one: ∀v:AV,(if id%16=0 then v else .dead)= [v].getD (id%16) .dead:=fun v=>by
  split
  ·rename_i h;rw [h];rfl
  ·rename_i h
   rw [List.getD_eq_getElem?_getD,List.getElem?_eq_none (by simp;omega)]
   rfl
 cases vs.getD (id / 16) .dead<;>first|rfl|exact one _
theorem zCG (own:List Nat)(m:Nat)(v:AV)(vs:List AV):YT own m (v::vs)=Xp own m 0 (xp v)++YT own (m+1) vs:=by
 simp only [YT]
 cases v<;>rfl
theorem ut {own:List Nat}{m n:Nat}: ∀{us:List AV} {i j:Nat} {u:AV},us[j]? =some u→own.contains (zb m (i+j))=false→n∈u.nm→n∈Xp own m i us
 | [],i,j,u,h,_,_=>by simp at h
 |y::us,i,j,u,h,hc,hn=>by
  simp only [Xp,List.mem_append]
  cases j with
  |zero=>
   simp at h;subst h
   left
   rw [Nat.add_zero]at hc
   rw [if_neg (by rw [hc];simp)]
   exact hn
  |succ j=>
   right
   exact ut (j:=j) (by simpa using h) (by rw [show i+1+j=i+(j+1)from by omega];exact hc) hn
theorem ja {own:List Nat}{n:Nat}: ∀{vs:List AV} {i m j:Nat} {v u:AV},vs[m]? =some v→(xp v)[j]? =some u→own.contains (zb (i+m) j)=false→n∈u.nm→n∈YT own i vs
 | [],i,m,j,v,u,h,_,_,_=>by simp at h
 |y::vs,i,m,j,v,u,h,hu,hc,hn=>by
  rw [zCG,List.mem_append]
  cases m with
  |zero=>
   simp at h;subst h
   left
   exact ut (j:=j) hu (by rw [Nat.zero_add];exact hc) hn
  |succ m=>
   right
   exact ja (m:=m) (by simpa using h) hu (by rw [show i+1+m=i+(m+1)from by omega];exact hc) hn
section
variable {P:Program} {τ:Ty} {lo:Nat} {w0:Fz} {ow:Nat→Option Pl} {hd:Nat→Value} {bk:Nat→Nat} {st:St} {a:Act} {w:World}
def qG (ow:Nat→Option Pl)(ls:List ym):Nat→Option Pl:=fun b=>match ow b with|some (.root d q)=>trL d q ls|_=>none
theorem ZH {ls:List ym}{b:Nat}{p:Pl}(h:qG ow ls b=some p): ∃d q,ow b=some (.root d q)∧∃x∈ls,x.d=d∧∃q',q=x.p++q'∧p= .root x.id q':=by
 unfold qG at h
 split at h
 ·rename_i d q ho;exact⟨d,q,ho,zBb h⟩
 ·cases h
theorem jU {ls:List ym}{d:Nat}{o:O3}(hn: ∀x∈ls,x.d≠d){b:Nat}(hr:rel (md o d) (ow b)):qG ow ls b=none:=by
 cases ho:qG ow ls b with
 |none=>rfl
 |some p=>
  obtain⟨d',q,h1,x,hx,h2,-⟩:=ZH ho
  rw [h1]at hr
  cases o<;>simp only [md,rel]at hr
  ·cases hr
  ·obtain⟨q',hq'⟩:=hr;cases hq';exact absurd h2 (hn x hx)
  ·rcases hr with hr|hr
   ·cases hr
   ·cases hr;exact absurd h2 (hn x hx)
theorem KJ (h:ze τ lo w0 ow hd bk st a w){vs:List AV}{cv:List Value}(hv:zY τ w st.r st.b hd bk vs cv){outs:List Out}{x:ym}{len:Nat}{R:zr}(hx:Ul τ st vs outs x len R):
  yC w (hd x.d) x.p=some (yQ cv x.id)∧Rp (sz τ) lo w ow (.ex x.d x.p) (.lst x.e (yI R.xs x.p)) (yQ cv x.id):=by
 have hav:=zGn hv hx.cell
 simp only [AvR]at hav
 obtain⟨hv',hin,hsub⟩:=hav.2 R hx.root hx.path
 obtain⟨m',e',u,i1,i2,-,i3,i4,-⟩:=YP x.p _ _ _ _ (h.root x.d R hx.root) hx.path
 have hm:=i4 x.d [] (by rw [hx.ex];rfl)
 rw [hin]at i1;cases i1
 rw [hx.elem]at i3
 subst i3;subst hm
 obtain⟨A,n,c,A',c',hnw,e1,e2,hle,-,-,hoff,-⟩:=hsub
 obtain⟨rfl,rfl⟩:=hoff rfl
 obtain⟨zs,⟨k1,N,k2,k3,k4⟩,-⟩:=(zw _ _).1 i2
 have hN:N=n:=by
  rw [e1]at k3
  rcases k3.2 with⟨q,h0⟩|⟨g,cap,cur,q,_⟩
  ·cases q;exact h0
  ·cases q;rfl
 have hnl:n=len:=by
  have :=hx.whole
  rw [k2,hN]at this
  exact(Nat.eq_of_mul_eq_mul_right hx.pos this).symm
 have heq:yQ cv x.id=hv':=by rw [e1,e2,hnl]
 rw [heq]
 exact⟨hin,i2⟩
theorem zBv (h:ze τ lo w0 ow hd bk st a w){vs:List AV}{cv:List Value}(hv:zY τ w st.r st.b hd bk vs cv){ts:List TypeId}{as:List VT}{ob:Prop}(he:ye τ st ts vs=some (as,ob))(hob:ob){own:List Nat}{outs:List Out}{ls:List ym}{ob2:Prop}
  (hl:wU τ st vs outs own=some (ls,ob2)) (hob2:ob2) (hsep:vj ls) (hap:apart (YT own 0 vs) ls=true) (hfew:few as=true):Kb (sz τ) lo w (qG ow ls) own as cv:=by
 obtain⟨a1,a2⟩:=Vy he hob
 obtain⟨v1,v2⟩:=zp.1 hv
 obtain⟨l1,l2⟩:=VS hl hob2
 refine⟨by omega,fun m x c hx hc=> ?_⟩
 have hm:m<vs.length:=by rw [a1];exact(List.getElem?_eq_some_iff.1 hx).1
 have hvm:=List.getElem?_eq_getElem hm
 obtain⟨t,ob',e1,e2⟩:=a2 m _ x hvm hx
 have h16:x.cells.length≤16:=by have :=List.all_eq_true.1 hfew x (List.mem_of_getElem? hx);simpa using this
 obtain⟨cs,c1,c2,c3,c4⟩:=zAC e1 e2 (v2 m _ c hvm hc)
 obtain⟨r1,r2⟩:=zp.1 c3
 refine⟨cs,by omega,fun j d cj hd hcj=> ?_,c2⟩
 have hj:j<x.cells.length:=(List.getElem?_eq_some_iff.1 hd).1
 have hju:j<(xp vs[m]).length:=by omega
 have hu:=List.getElem?_eq_getElem hju
 have hav:=r2 j _ cj hu hcj
 have hid1:zb m j / 16=m:=by unfold zb;omega
 have hid2:zb m j%16=j:=by unfold zb;omega
 have hca:YM vs (zb m j)=(xp vs[m])[j]:=by
  have g1:vs.getD m .dead=vs[m]:=by rw [List.getD_eq_getElem?_getD,hvm];rfl
  rw [zEw,hid1,hid2,g1,List.getD_eq_getElem?_getD,hu]
  rfl
 unfold gm
 split
 ·rename_i hcon
  have :zb m j∈ls.map (·.id):=by rw [l2];exact List.contains_iff_mem.1 hcon
  obtain⟨y,hy,hyid⟩:=List.mem_map.1 this
  obtain⟨oby,ey1,ey2⟩:=l1 y hy
  obtain⟨len,R,hok⟩:=uh ey1 ey2
  obtain⟨q1,q2⟩:=KJ h hv hok
  have hcell:=hok.cell
  rw [hyid,hca]at hcell
  have hval:yQ cv y.id=cj:=by
   have hcc:cv[m]? =some c:=hc
   rw [hyid]
   unfold yQ
   rw [hid1,hid2,hcc]
   rcases c2 with⟨d',c',rfl,rfl,rfl⟩|⟨ds,rfl,rfl⟩|⟨f,ds,rfl,rfl⟩
   ·have h0:j=0:=by simp only [VT.cells,List.length_cons,List.length_nil]at hj;omega
    subst h0
    simp at hcj
    rw [hcell]at hav
    simp only [AvR]at hav
    obtain⟨⟨A,n,c',e⟩,-⟩:=hav
    rw [hcj,e]
   ·simp only
    rw [Array.getD_eq_getD_getElem?,List.getElem?_toArray,hcj];rfl
   ·simp only
    rw [Array.getD_eq_getD_getElem?,List.getElem?_toArray,hcj];rfl
  rw [hval]at q2
  have hd':d= .lst y.e (yI R.xs y.p):=by
   rcases c4 j _ d hu hd with⟨ob',k1,k2⟩|⟨k1,-⟩
   ·rw [hcell]at k1
    simp only [cellsOf,hok.root,Option.some.injEq,Prod.mk.injEq]at k1
    rw [←k1.1,Nat.zero_mul,List.drop_zero,hok.whole,List.take_length]
   ·rw [hcell]at k1;cases k1
  rw [hd',←hyid]
  refine qW _ _ _ _ _ y.p [] _ (fun b q hb hq=> ?_) q2
  unfold qG
  rw [hq]
  have hsp:y.p= []∨∃j,y.p= [j]:=by
   rcases hok.short with h|⟨j,ys,h,-⟩
   ·exact .inl h
   ·exact .inr ⟨j,h⟩
  simpa using zGJ (q:=q) hsep y hy rfl hsp
 ·rename_i hcon
  have hcon:own.contains (zb m j)=false:=by simpa using hcon
  rcases c4 j _ d hu hd with⟨ob',k1,k2⟩|⟨k1,e,rfl⟩
  ·refine Zq h (fun d' R hd' hR b hb hr=>jU (fun y hy e=> ?_) hr) hav k1 k2 lo
   have hmem:=ja (own:=own) (i:=0) hvm hu (by rw [Nat.zero_add];exact hcon) hd'
   have :=List.all_eq_true.1 (List.all_eq_true.1 hap _ hmem) y hy
   rw [e]at this
   simp at this
  ·rw [k1]at hav
   simp only [AvR]at hav
   subst hav
   exact(zw _ _).2 ⟨[],⟨rfl,0,by simp,none,0,rfl,Nat.le_refl _,by unfold maxLen;omega,fun h=>absurd rfl h⟩,fun i x u hx=>by simp at hx⟩
end
section
variable {P:Program} {τ:Ty} {lo:Nat} {w0:Fz} {ow:Nat→Option Pl} {hd:Nat→Value} {bk:Nat→Nat} {st:St} {a:Act} {w:World}
def vc (ow:Nat→Option Pl)(ls:List ym)(n t:Nat)(ow':Nat→Option Pl):Nat→Option Pl:=fun b=>
 if b<n∧(qG ow ls b).isNone=true then ow b else match ow' b with
  |some (.root k q)=>if 1000000≤k then UR (k - 1000000) q ls else some (.root (zb t k) q)
  |_=>none
theorem zAw (h:ze τ lo w0 ow hd bk st a w){vs:List AV}{cv:List Value}(hv:zY τ w st.r st.b hd bk vs cv){own:List Nat}{outs:List Out}{ls:List ym}{ob2:Prop}
  (hl:wU τ st vs outs own=some (ls,ob2)) (hob2:ob2) (hsep:vj ls) (hnd:own.Nodup) {t:Nat} {w':World} {ow':Nat→Option Pl}
  (hk:yu ⟨w,fun b=>qG ow ls b=none,fun _=>none⟩ w') (hlow: ∀b,b<w.heap.size→qG ow ls b=none→ow' b=none) (hnew: ∀b p,ow' b=some p→b<w'.heap.size∧lo≤b∧∃d q,p= .root d q)
  (hout: ∀x∈outs,Rp (sz τ) lo w' ow' (.ex (YH x.1) []) (.lst x.2.1 x.2.2) (yQ cv x.1)):
  ze τ lo w0 (vc ow ls w.heap.size t ow') hd bk (vO st ls) a w':=by
 obtain⟨l1,l2⟩:=VS hl hob2
 have hok: ∀x∈ls,∃len R,Ul τ st vs outs x len R:=fun x hx=>by
  obtain⟨ob,e1,e2⟩:=l1 x hx;exact uh e1 e2
 have hids:(ls.map (·.id)).Nodup:=by rw [l2];exact hnd
 have old: ∀b,b<w.heap.size→qG ow ls b=none→w'.heap[b]? =w.heap[b]? ∧vc ow ls w.heap.size t ow' b=ow b:=fun b hb hn=>
  ⟨hk.block b hb hn,by unfold vc;rw [if_pos ⟨hb,by rw [hn];rfl⟩]⟩
 have back: ∀x∈ls,∀b q,ow' b=some (.root (YH x.id) q)→vc ow ls w.heap.size t ow' b=some (.root x.d (x.p++q)):=fun x hx b q hb=>by
  have : ¬(b<w.heap.size∧(qG ow ls b).isNone=true):=fun⟨h1,h2⟩=>by
   rw [hlow b h1 (by cases ho:qG ow ls b with|none=>rfl|some p=>rw [ho]at h2;cases h2)]at hb;cases hb
  unfold vc
  rw [if_neg this,hb]
  simp only
  rw [if_pos (by unfold YH;omega),show YH x.id - 1000000=x.id from by unfold YH;omega]
  exact zAG hids x hx
 have hge: ∀b p,vc ow ls w.heap.size t ow' b=some p→p≠ .ext→b<w'.heap.size→lo≤b∧w0.fre b:=fun b p hb hp hlt=>by
  by_cases hc:b<w.heap.size∧(qG ow ls b).isNone=true
  ·unfold vc at hb;rw [if_pos hc]at hb;exact h.ge b p hc.1 hb hp
  ·unfold vc at hb
   rw [if_neg hc]at hb
   have ho': ∃p',ow' b=some p':=by
    cases ho:ow' b with
    |none=>rw [ho]at hb;cases hb
    |some p'=>exact⟨p',rfl⟩
   obtain⟨p',ho'⟩:=ho'
   refine⟨(hnew b p' ho').2.1,fun hlt0=> ?_⟩
   have hbw:b<w.heap.size:=Nat.lt_of_lt_of_le hlt0 h.below.size
   cases hoi:qG ow ls b with
   |none=>exact absurd ⟨hbw,by rw [hoi];rfl⟩ hc
   |some p2=>
    obtain⟨d,q,ho,-⟩:=ZH hoi
    exact(h.ge b _ hbw ho (by simp)).2 hlt0
 have hc:=zGR h
 have hpf:=Kx st
 have hr: ∀d,lk (vO st ls).r d=if wv d ls=true then none else(lk st.r d).map fun R=>{R with xs:=qh d R.xs ls}:=fun d=>KM ls st.r d
 have hrel: ∀(d:Nat) (R:zr),(∀x∈ls,x.d≠d)→∀b,b<w.heap.size→rel (md R.o d) (ow b)→w'.heap[b]? =w.heap[b]? ∧vc ow ls w.heap.size t ow' b=ow b:=fun d R hn b hb hr=>old b hb (jU hn hr)
 have h0: ∀d,(∃x∈ls,x.d=d)→Wq st.cut.r (vO st ls).r hd hd d:=fun d _ R' hR'=>by
  rw [hr]at hR'
  split at hR'
  ·cases hR'
  ·cases hx:lk st.r d with
   |none=>rw [hx]at hR';cases hR'
   |some R=>exact⟨R,hx,rfl⟩
 have hD: ∀d,¬(∃x∈ls,x.d=d)→yq w w' st.cut.r (vO st ls).r hd hd d:=fun d hn R' hR'=>by
  have hn': ∀x∈ls,x.d≠d:=fun x hx e=>hn ⟨x,hx,e⟩
  rw [hr,zAi hn']at hR'
  simp only [Bool.false_eq_true,if_false]at hR'
  cases hx:lk st.r d with
  |none=>rw [hx]at hR';cases hR'
  |some R=>
   rw [hx]at hR'
   simp only [Option.map_some,Option.some.injEq]at hR'
   subst hR'
   refine⟨R,hx,rfl,fun p hp=> ?_⟩
   simp only [KP hn']at hp⊢
   exact⟨hp,xE p _ _ _ _ (h.root d R hx) hp (fun b o A n c hb hrl hcell=>by
    rw [xe (hrel d R hn' b hb hrl).1];exact hcell)⟩
 have hB: ∀t,yp st.cut.b (vO st ls).b bk bk t:=fun t hl=>⟨hl,rfl⟩
 have hbad: ∀d,(∃x∈ls,x.d=d)→Qy d st.cut:=fun d ⟨x,hx,e⟩=>by
  obtain⟨len,R,ho⟩:=hok x hx
  subst e
  exact hpf x.d R ho.root ho.ex
 refine⟨h.big,h.defers,h.size,Nat.le_trans h.low hk.size,h.below.step hk.os hk.tape hk.output hk.size (fun b hb hf=> ?_),fun b p hlt hb hp=>hge b p hb hp hlt,fun b hb=> ?_,fun k v hv'=> ?_,fun d R' hR'=> ?_,fun k us hv'=> ?_,fun d R' i hR' hp=> ?_⟩
 ·refine hk.block b hb ?_
  show qG ow ls b=none
  cases hoi:qG ow ls b with
  |none=>rfl
  |some p=>
   obtain⟨d,q,ho,-⟩:=ZH hoi
   exact absurd (h.ge b _ hb ho (by simp)).2 hf
 ·have hb':w.heap.size≤b:=Nat.le_trans hk.size hb
  unfold vc
  rw [if_neg (fun hh=>by omega)]
  cases ho:ow' b with
  |none=>rfl
  |some p=>have :=(hnew b p ho).1;omega
 ·exact uB h0 hD hB v _ (fun d hd' hb=>(hbad d hb).s k v hv' hd') (hc.slot k v hv')
 ·rw [hr]at hR'
  split at hR'
  ·cases hR'
  ·rename_i hg
   have hg:wv d ls=false:=by simpa using hg
   cases hx:lk st.r d with
   |none=>rw [hx]at hR';cases hR'
   |some R=>
    rw [hx]at hR'
    simp only [Option.map_some,Option.some.injEq]at hR'
    subst hR'
    by_cases hin: ∃x∈ls,x.d=d
    ·have hex:R.o= .ex:=by
      obtain⟨x,hxm,rfl⟩:=hin
      obtain⟨len,R2,ho⟩:=hok x hxm
      have :=ho.root;rw [hx]at this;cases this
      exact ho.ex
     simp only [hex]
     by_cases hroot: ∃x∈ls,x.d=d∧x.p= []
     ·obtain⟨x,hxm,rfl,hp⟩:=hroot
      obtain⟨ys,hys⟩:=KG hg x hxm rfl
      obtain⟨len,R2,ho⟩:=hok x hxm
      have :=ho.root;rw [hx]at this;cases this
      obtain⟨q1,-⟩:=KJ h hv ho
      rw [hp]at q1
      simp only [yC,Option.some.injEq]at q1
      have he:=ho.elem
      rw [hp]at he
      simp only [vF]at he
      simp only [jN hsep x hxm rfl hp hys]
      have :=hout _ (ho.out ys hys)
      simp only at this
      rw [←q1,←he]at this
      exact qW _ _ _ _ _ [] [] _ (fun b q _ hb=>by
       have :=back x hxm b q (by simpa using hb)
       rw [hp]at this
       simpa using this) this
     ·have hone: ∀x∈ls,x.d=d→∃j ys,x.p= [j]∧x.out=some ys:=fun x hxm e=>by
       obtain⟨len,R2,ho⟩:=hok x hxm
       rcases ho.short with hs|hs
       ·exact absurd ⟨x,hxm,e,hs⟩ hroot
       ·exact hs
      have hone': ∀x∈ls,x.d=d→∃j,x.p= [j]:=fun x hxm e=>by obtain⟨j,ys,h1,-⟩:=hone x hxm e;exact⟨j,h1⟩
      have hrt:=h.root d R hx
      rw [hex]at hrt
      obtain⟨zs,k1,k5⟩:=(zw _ _).1 hrt
      have hlen:(qh d R.xs ls).length=R.xs.length:=WX hone'
      have hnil: ∀b,ow b=some (.root d [])→qG ow ls b=none:=fun b hb=>by
       cases hoi:qG ow ls b with
       |none=>rfl
       |some p=>
        obtain⟨d',q,h1,x,hxm,h2,q',h3,-⟩:=ZH hoi
        rw [hb]at h1;cases h1
        obtain⟨j,hj⟩:=hone' x hxm h2
        rw [hj]at h3;simp at h3
      have k1':Hd (sz τ) lo w' (vc ow ls w.heap.size t ow') (.ex d []) R.e (hd d) R.xs.length zs:=by
       obtain⟨m1,N,m2,m3,m4⟩:=k1
       refine⟨m1,N,m2,⟨m3.1,?_⟩,fun b hb=> ?_⟩
       ·rcases m3.2 with hn|⟨g,cap,cur,hv2,hb2,hg2,rest⟩
        ·exact .inl hn
        ·have hgo:=m4 g (by rw [hv2];rfl)
         have hglt:g<w.heap.size:=(Array.getElem?_eq_some_iff.1 hg2).1
         exact .inr ⟨g,cap,cur,hv2,hb2,by rw [(old g hglt (hnil g hgo)).1];exact hg2,rest⟩
       ·have hgo:=m4 b hb
        rw [(old b (m3.lt b hb).2 (hnil b hgo)).2];exact hgo
      refine(zw _ _).2 ⟨zs,by rw [hlen];exact k1',fun i y u hy hu=> ?_⟩
      have hi:i<R.xs.length:=by rw [←hlen];exact(List.getElem?_eq_some_iff.1 hy).1
      by_cases hsel: ∃x∈ls,x.d=d∧x.p= [i]
      ·obtain⟨x,hxm,rfl,hp⟩:=hsel
       obtain⟨j,ys,hj,hys⟩:=hone x hxm rfl
       obtain⟨len,R2,ho⟩:=hok x hxm
       have :=ho.root;rw [hx]at this;cases this
       rw [zA9 hi hsep hone' x hxm rfl hp hys]at hy
       cases hy
       obtain⟨q1,-⟩:=KJ h hv ho
       rw [hp]at q1
       obtain⟨b1,o1,n1,c1,hv',hN,hb1,hr1,hc1⟩:=qV k1 hu
       rw [hv']at q1
       simp only [yC,hc1,Option.bind_some,Option.some.injEq]at q1
       have :=hout _ (ho.out ys hys)
       simp only at this
       rw [←q1]at this
       refine qW _ _ _ _ _ [] ([]++ [i]) _ (fun b q _ hb=> ?_) this
       have :=back x hxm b q (by simpa using hb)
       rw [hp]at this
       simpa using this
      ·rw [uk (fun x hxm e=>by
        obtain⟨j,hj⟩:=hone' x hxm e
        exact⟨j,hj,fun e2=>hsel ⟨x,hxm,e,by rw [hj,e2]⟩⟩)]at hy
       refine yE _ _ hk.size _ _ _ (fun b hb hr=>old b hb ?_) (k5 i y u hy hu)
       obtain⟨q,hq⟩:=hr
       cases hoi:qG ow ls b with
       |none=>rfl
       |some p=>
        obtain⟨d',q',h1,x,hxm,h2,q2,h3,-⟩:=ZH hoi
        rw [hq]at h1
        simp only [Option.some.injEq,Pl.root.injEq,List.nil_append]at h1
        obtain⟨rfl,rfl⟩:=h1
        obtain⟨j,hj⟩:=hone' x hxm h2
        rw [hj]at h3
        simp only [List.cons_append,List.nil_append,List.cons.injEq]at h3
        exact absurd ⟨x,hxm,h2,by rw [hj,h3.1]⟩ hsel
    ·have hn': ∀x∈ls,x.d≠d:=fun x hx e=>hin ⟨x,hx,e⟩
     simp only [KP hn']
     exact yE _ _ hk.size _ _ _ (fun b hb hr=>hrel d R hn' b hb hr) (h.root d R hx)
 ·obtain⟨cs,ty,q1,q2,q3⟩:=hc.box k us hv'
  have hlt:bk k<w.heap.size:=(Array.getElem?_eq_some_iff.1 q1).1
  have hno:qG ow ls (bk k)=none:=by unfold qG;rw [q2]
  exact⟨cs,ty,by rw [(old _ hlt hno).1];exact q1,by rw [(old _ hlt hno).2];exact q2,ZK h0 hD hB us cs (fun d hd' hb=>(hbad d hb).b k us hv' hd') q3⟩
 ·rw [hr]at hR'
  split at hR'
  ·cases hR'
  ·cases hx:lk st.r d with
   |none=>rw [hx]at hR';cases hR'
   |some R=>
    rw [hx]at hR'
    simp only [Option.map_some,Option.some.injEq]at hR'
    subst hR'
    exact h.pin d R i hx hp
theorem zCE (h:ze τ lo w0 ow hd bk st a w){vs:List AV}{cv:List Value}(hv:zY τ w st.r st.b hd bk vs cv){own:List Nat}{outs:List Out}{ls:List ym}{ob2:Prop}
  (hl:wU τ st vs outs own=some (ls,ob2)) (hob2:ob2) (hsep:vj ls) (hnd:own.Nodup) {t:Nat} {ress:List VT} (hs:szL τ (zv ress)) (hfl:(zv ress).length≤1000000) {e:Ending} {w':World} (hp:zHv τ lo w (qG ow ls) outs ress cv e w'):
  ∃z ow' hd',e= .returned z∧ze τ lo w0 ow' hd' bk (yi t 0 (zv ress) (vO st ls)) a w'∧AvR τ w' (yi t 0 (zv ress) (vO st ls)).r (yi t 0 (zv ress) (vO st ls)).b hd' bk (qk (xT τ t 0 ress)) z:=by
 obtain⟨rs,ow',he,hk,hlow,hnew,hres,hout⟩:=hp
 have h1:=zAw h hv hl hob2 hsep hnd (t:=t) hk hlow hnew hout
 have e2: ∀b j q,j<1000000→ow' b=some (.root j q)→vc ow ls w.heap.size t ow' b=some (.root (zb t j) q):=fun b j q hj hq=>by
  have : ¬(b<w.heap.size∧(qG ow ls b).isNone=true):=fun⟨h1,h2⟩=>by
   rw [hlow b h1 (by cases ho:qG ow ls b with|none=>rfl|some p=>rw [ho]at h2;cases h2)]at hq;cases hq
  unfold vc
  rw [if_neg this,hq]
  simp only
  rw [if_neg (by omega)]
 obtain⟨cs,k1,k2,k3⟩:=XQ (bk:=bk) (τ:=τ) (rr:=(yi t 0 (zv ress) (vO st ls)).r) (bb:=(yi t 0 (zv ress) (vO st ls)).b) (t:=t) hres
 have k2': ∀(i:Nat) (d:D) (c:Value),(zv ress)[i]? =some d→cs[i]? =some c→Rp (sz τ) lo w' (vc ow ls w.heap.size t ow') (.ex (zb t (0+i)) []) d c:=fun i d c hd hc=>by
  have hi:i<1000000:=Nat.lt_of_lt_of_le (List.getElem?_eq_some_iff.1 hd).1 hfl
  exact qW _ _ _ _ _ [] [] _ (fun b q _ e=>e2 b _ q (by omega) e) (k2 i d c hd hc)
 obtain⟨hd',r1,r2,r3⟩:=Vh t (zv ress) 0 (vO st ls) hd cs h1 k1 k2'
 exact⟨wG rs,_,hd',he,r1,jb (k3 w' hd' (wZ (ow:=vc ow ls w.heap.size t ow') (lo:=lo) t (zv ress) 0 cs k1 hs (fun i d c h1 h2=>⟨_,k2' i d c h1 h2⟩) (fun i e xs c h1 h2=>(r3 i e xs c h1 h2).2)))⟩
def Kg (P:Program)(τ:Ty)(own:List Nat)(outs:List Out)(o:Oper)(K:St→Prop)(st:St):Prop:=
 match yD o with
 |some (f,args,ts)=>
  match ye τ st ts.toList (args.toList.map (ev st)),wU τ st (args.toList.map (ev st)) outs own with
  |some (as,ob),some (ls,ob2)=>apart (YT own 0 (args.toList.map (ev st))) ls=true∧XI own=true∧few as=true∧ob∧ob2∧vj ls∧
    ∃ress,FnG P τ f as own outs ress∧szL τ (zv ress)∧(zv ress).length≤1000000∧K ((yi (zy o) 0 (zv ress) (vO st ls)).put o.dst (qk (xT τ (zy o) 0 ress)))
  |_,_=>False
 |none=>False
theorem Ku (h:ze τ lo w0 ow hd bk st a w){o:Oper}{f:FuncId}{args:Array Operand}{ts:Array TypeId}(hc:yD o=some (f,args,ts))(hcl:qz P f):(execOp a.eval o).run P w= .ok (.enter f (args.toList.map a.eval).toArray) w:=by
 obtain⟨fn,hfn,hname,hbody⟩:=hcl
 obtain⟨dst,op,oty,pos,after,guard⟩:=o
 unfold yD at hc
 simp only at hc
 split at hc
 ·rename_i c
  split at hc
  ·rename_i f' hcal
   cases hc
   obtain⟨callee,args',ats⟩:=c
   simp only at hcal
   subst hcal
   rw [execOp_call_go]
   unfold callFunc
   have h1: ¬fn.name= "runtime.NumGoroutine" :=by simpa using hname
   have h2: ¬fn.body=none:=by cases hb:fn.body with
    |none=>rw [hb]at hbody;simp at hbody
    |some c=>simp
   have h3:Array.map a.eval args'=(args'.toList.map a.eval).toArray:=by cases args';simp
   simp [hfn,h1,h2,h3]
  ·cases hc
 ·cases hc
theorem Uv {own:List Nat}{outs:List Out}{o:Oper}{K:St→Prop}{Q:Exit→Act→World→Prop}{K':Act→World→Prop}(hd: ∀k,o.dst=some k→k<a.tmps.size)(h:Rel τ lo w0 st a w)(ha:Kg P τ own outs o K st)
  (hK: ∀st' x w',K st'→Rel τ lo w0 st' (a.put o.dst x) w'→K' (a.put o.dst x) w'):o.wp P a w K' Q:=by
 obtain⟨ow,hd',bk,hr⟩:=h
 unfold Kg at ha
 split at ha
 ·rename_i f args ts hc
  split at ha
  ·rename_i as ob ls ob2 hargs hlends
   obtain⟨hap,hnd,hfew,hob,hob2,hsep,ress,⟨hcl,hcall⟩,hsz,hfl,hK1⟩:=ha
   have hev:zY τ w st.r st.b hd' bk (args.toList.map (ev st)) (args.toList.map a.eval):=zp.2 ⟨by simp,fun i v x hv hx=>by
    rw [List.getElem?_map]at hv hx
    cases hk:args.toList[i]? with
    |none=>rw [hk]at hv;cases hv
    |some p=>rw [hk]at hv hx;cases hv;cases hx;exact zZ hr p⟩
   have hA:=zBv hr hev hargs hob hlends hob2 hsep hap hfew
   have hC:=hcall lo w (qG ow ls) _ hr.low (fun b p hb=>by
    obtain⟨d,q,ho,x,hx,-,q',-,hp⟩:=ZH hb
    have hlt:b<w.heap.size:=by
     rcases Nat.lt_or_ge b w.heap.size with h'|h'
     ·exact h'
     ·rw [hr.new b h']at ho;cases ho
    exact⟨hlt,(hr.ge b _ hlt ho (by simp)).1,_,_,hp⟩) hA
   unfold Oper.wp
   rw [Ku hr hc hcl]
   simp only [Oper.upon]
   refine hC.mono fun e w' hpost=> ?_
   obtain⟨z,ow',hd2,he,r1,r2⟩:=zCE hr hev hlends hob2 hsep (YG hnd) (t:=zy o) hsz hfl hpost
   subst he
   exact hK _ z w' hK1 (yb r1 hd r2)
  ·exact ha.elim
 ·exact ha.elim
def Ww (P:Program)(τ:Ty)(al:List Nat)(t:Nat)(own:List Nat)(outs:List Out)(all:List Oper)(K:St→Prop):List Oper→St→Prop
 | [],st=>K st
 |o::os,st=>
  match o.guard with
  |none=>if o.dst=some t then Kg P τ own outs o (Ww P τ al t own outs all K os) st else aop P τ al o (Ww P τ al t own outs all K os) st
  |some (j,want)=>False
theorem Xw (hτ:zx P τ)(hpos:yL τ){al:List Nat}{t:Nat}{own:List Nat}{outs:List Out}{all:List Oper}{K:St→Prop}{Q:Exit→Act→World→Prop}(hQ: ∀st a w,K st→Rel τ lo w0 st a w→Q .normal a w):
  ∀(os:List Oper) (st:St) (a:Act) (w:World),yn a.tmps.size os=true→Rel τ lo w0 st a w→Ww P τ al t own outs all K os st→wpList P all.toArray Q os a w
 | [],st,a,w,_,h,ha=>wpList_nil (hQ st a w ha h)
 |o::os,st,a,w,hd,h,ha=>by
  have hd1: ∀k,o.dst=some k→k<a.tmps.size:=fun k hk=>by
   have :=List.all_eq_true.1 hd o (by simp)
   rw [hk]at this
   simpa using this
  have hd2:yn a.tmps.size os=true:=List.all_eq_true.2 fun x hx=>List.all_eq_true.1 hd x (by simp [hx])
  refine wpList_step fun K' hK'=> ?_
  simp only [Ww]at ha
  split at ha
  ·rename_i hg
   rw [if_pos (by simp [Region.wanted,hg])]
   split at ha
   ·exact Uv hd1 h ha fun st' x w' h1 h2=>hK' _ _ (Xw hτ hpos hQ os st' _ w' (by rw [xH];exact hd2) h2 h1)
   ·exact vu hτ hpos hd1 h ha fun st' x w' h1 h2=>hK' _ _ (Xw hτ hpos hQ os st' _ w' (by rw [xH];exact hd2) h2 h1)
  ·exact ha.elim
end
theorem Jd {P:Program}{τ:Ty}{Q:Exit→St→Prop}{st:St}(t:Nat)(own:List Nat)(outs:List Out)(hτ:zx P τ)(hpos:yL τ)(al:List Nat){id:Nat}{ops:List Oper}(hd:yn st.n ops=true)(h:Ww P τ al t own outs ops (Q .normal) ops st):awp P τ (.region id ops.toArray false) Q st:=fun lo w0 a w hr=>by
 have hn:a.tmps.size=st.n:=by obtain⟨ow,hd,bk,h⟩:=hr;exact h.size
 refine wp_region_lit (Xw hτ hpos (fun st a w h1 h2=>⟨st,h2,h1⟩) ops st a w (by rw [hn];exact hd) hr h)
section
variable {P:Program} {τ:Ty} {np:Bool} {all:List Oper}
theorem zBV (Q:St→Prop)(l2:List Oper): ∀(l1:List Oper) (st:St),qO P np τ all Q (l1++l2) st=qO P np τ all (fun st=>qO P np τ all Q l2 st) l1 st
 | [],st=>rfl
 |o::os,st=>by simp only [List.cons_append,qO,zBV Q l2 os]
theorem zo (n:Nat){Q:St→Prop}{os:List Oper}{st:St}(h: ∀K:St→Prop,(∀st,qO P np τ all Q (os.drop n) st→K st)→qO P np τ all K (os.take n) st):qO P np τ all Q os st:=by
 have :=h _ fun _ h=>h
 rwa [←zBV,List.take_append_drop]at this
theorem Uz {al:List Nat}(Q:St→Prop)(l2:List Oper): ∀(l1:List Oper) (st:St),vK P τ al all Q (l1++l2) st=vK P τ al all (fun st=>vK P τ al all Q l2 st) l1 st
 | [],st=>rfl
 |o::os,st=>by
  have e:vK P τ al all Q (os++l2)=vK P τ al all (fun st=>vK P τ al all Q l2 st) os:=funext fun st=>Uz Q l2 os st
  simp only [List.cons_append,vK,e]
theorem yz (n:Nat){al:List Nat}{Q:St→Prop}{os:List Oper}{st:St}(h: ∀K:St→Prop,(∀st,vK P τ al all Q (os.drop n) st→K st)→vK P τ al all K (os.take n) st):vK P τ al all Q os st:=by
 have :=h _ fun _ h=>h
 rwa [←Uz,List.take_append_drop]at this
def qj (P:Program)(np:Bool)(τ:Ty)(all:List Oper)(E:List Rec→St→Prop):List Oper→Nat→List Rec→St→Prop
 | [],_,cs,st=>E cs st
 |o::os,k,cs,st=>
  match o.guard with
  |none=>ZS P np τ o st fun δ=>qj P np τ all E os (k+1) (⟨k,fp o st,δ.wr⟩::cs) (st.app o.dst δ)
  |some (j,want)=>
   match qA all st j with
   |some (some b)=>
    brB b (if want=true then ZS P np τ o (ya all st j true) fun δ=>qj P np τ all E os (k+1) (⟨k,fp o (ya all st j true),δ.wr⟩::cs) ((ya all st j true).app o.dst δ)else qj P np τ all E os (k+1) (⟨k,fp o (ya all st j true),Dl.skip.wr⟩::cs) ((ya all st j true).app o.dst Dl.skip))
     (if want=false then ZS P np τ o (ya all st j false) fun δ=>qj P np τ all E os (k+1) (⟨k,fp o (ya all st j false),δ.wr⟩::cs) ((ya all st j false).app o.dst δ)else qj P np τ all E os (k+1) (⟨k,fp o (ya all st j false),Dl.skip.wr⟩::cs) ((ya all st j false).app o.dst Dl.skip))
   |some none=>qj P np τ all E os (k+1) (⟨k,fp o st,Dl.skip.wr⟩::cs) (st.app o.dst Dl.skip)
   |none=>False
theorem zC0 (C:List Rec→Prop)(Q:St→Prop): ∀(os:List Oper) (k:Nat) (cs:List Rec) (st:St),qj P np τ all (fun cs st=>C cs∧Q st) os k cs st=wg P np τ all C Q os k cs st
 | [],k,cs,st=>rfl
 |o::os,k,cs,st=>by
  unfold qj wg
  simp only [zC0 C Q os]
  rfl
theorem zAx (E:List Rec→St→Prop)(l2:List Oper): ∀(l1:List Oper) (k:Nat) (cs:List Rec) (st:St),qj P np τ all E (l1++l2) k cs st=qj P np τ all (fun cs st=>qj P np τ all E l2 (k+l1.length) cs st) l1 k cs st
 | [],k,cs,st=>rfl
 |o::os,k,cs,st=>by
  have e: ∀cs st,qj P np τ all E (os++l2) (k+1) cs st=qj P np τ all (fun cs st=>qj P np τ all E l2 (k+(o::os).length) cs st) os (k+1) cs st:=fun cs st=>by
   rw [zAx E l2 os (k+1) cs st,List.length_cons,show k+1+os.length=k+(os.length+1)from by omega]
  simp only [List.cons_append,qj,e]
theorem yP (n:Nat){E:List Rec→St→Prop}{os:List Oper}{k:Nat}{cs:List Rec}{st:St}(hn:n≤os.length)(h: ∀K:List Rec→St→Prop,(∀cs st,qj P np τ all E (os.drop n) (k+n) cs st→K cs st)→qj P np τ all K (os.take n) k cs st):qj P np τ all E os k cs st:=by
 have :=h _ fun _ _ h=>h
 have hl:(os.take n).length=n:=by rw [List.length_take];omega
 have e:qj P np τ all (fun cs st=>qj P np τ all E (os.drop n) (k+(os.take n).length) cs st) (os.take n) k cs st:=by rw [hl];exact this
 rw [←zAx,List.take_append_drop]at e
 exact e
theorem yB (np:Bool){Q:Exit→St→Prop}{st:St}(hτ:zx P τ)(hpos:yL τ)(hmix:P.follows .mixedOrders=true){id:Nat}{ops:List Oper}(hs:ji np ops (ancT ops)=true)(hd:yn st.n ops=true)(h: ∀E:List Rec→St→Prop,(∀cs st,chk ops (ancT ops) cs=true→Q .normal st→E cs st)→qj P np τ ops E ops 0 [] (st.start np ops)):awp P τ (.region id ops.toArray true) Q st:=
 vL np hτ hpos hmix hs hd fun C hC=>by
  rw [←zC0]
  exact h _ fun cs st h1 h2=>⟨hC cs h1,h2⟩
end
inductive XT where
 |v (x:VT)
 |clo (f:FuncId) (ds:List D)
 |ref (d:D)
def XT.cells :XT→List D
 | .v x=>x.cells
 | .clo _ ds=>ds
 | .ref d=> [d]
section
variable {P:Program} {τ:Ty} {lo:Nat} {w0:Fz} {ow:Nat→Option Pl} {hd:Nat→Value} {bk:Nat→Nat} {st:St} {a:Act} {w:World}
def JD (st:St)(o:Oper):Option (FuncId×List AV×List TypeId):=
 match o.op with
 | .call c=>match c.callee with
  | .value x=>match ev st x with
   | .fn f vs=>some (f,c.args.toList.map (ev st)++vs,c.argTypes.toList)
   |_=>none
  |_=>none
 |_=>none
theorem zDn (h:ze τ lo w0 ow hd bk st a w){o:Oper}{f:FuncId}{vs:List AV}{ts:List TypeId}(hc:JD st o=some (f,vs,ts))(hcl:qz P f):
  ∃xs:List Value,zY τ w st.r st.b hd bk vs xs∧(execOp a.eval o).run P w= .ok (.enter f xs.toArray) w:=by
 obtain⟨fn,hfn,hname,hbody⟩:=hcl
 obtain⟨dst,op,oty,pos,after,guard⟩:=o
 unfold JD at hc
 simp only at hc
 split at hc
 ·rename_i c
  split at hc
  ·rename_i x hcal
   split at hc
   ·rename_i f' us hev
    cases hc
    obtain⟨callee,args,ats⟩:=c
    simp only at hcal
    subst hcal
    have hx:=zZ h x
    rw [hev]at hx
    simp only [AvR]at hx
    obtain⟨cs,hcs,hr⟩:=hx
    refine⟨args.toList.map a.eval++cs,qy (zp.2 ⟨by simp,fun i v y hv hy=> ?_⟩) hr,?_⟩
    ·rw [List.getElem?_map]at hv hy
     cases hk:args.toList[i]? with
     |none=>rw [hk]at hv;cases hv
     |some p=>rw [hk]at hv hy;cases hv;cases hy;exact zZ h p
    ·have h1: ¬fn.name= "runtime.NumGoroutine" :=by simpa using hname
     have h2: ¬fn.body=none:=by cases hb:fn.body with
      |none=>rw [hb]at hbody;simp at hbody
      |some c=>simp
     have h3:Array.map a.eval args++cs.toArray=(args.toList.map a.eval++cs).toArray:=by cases args;simp
     have h4:(Deferred.ofValue (a.eval x) (args.map a.eval))=(pure {target:= .fn (.func f) cs.toArray,args:=args.map a.eval}:Sem Deferred):=by
      rw [hcs];simp [Deferred.ofValue]
     simp only [execOp,resolve,h4,pure_bind,invoke]
     unfold callFunc
     simp [hfn,h1,h2,h3]
   ·cases hc
  ·cases hc
 ·cases hc
def mkF (o:Oper):Option (FuncId×List Operand):=
 match o.op with
 | .makeFunc (.func f) first caps=>if first.size=0 then some (f,caps.toList)else none
 |_=>none
theorem zFe (h:ze τ lo w0 ow hd bk st a w){o:Oper}{f:FuncId}{caps:List Operand}(hm:mkF o=some (f,caps)):
  ∃z,(execOp a.eval o).run P w= .ok (.value z) w∧AvR τ w st.r st.b hd bk (.fn f (caps.map (ev st))) z:=by
 obtain⟨dst,op,oty,pos,after,guard⟩:=o
 unfold mkF at hm
 simp only at hm
 split at hm
 ·rename_i f' first caps'
  split at hm
  ·rename_i h0
   cases hm
   have hf:first= #[]:=Array.eq_empty_of_size_eq_zero h0
   subst hf
   refine⟨.func (.func f) #[] (caps'.map a.eval),?_,?_⟩
   ·simp [execOp,Instr.makeFunc]
   ·simp only [AvR]
    refine⟨caps'.toList.map a.eval,by cases caps';simp,zp.2 ⟨by simp,fun i v y hv hy=> ?_⟩⟩
    rw [List.getElem?_map]at hv hy
    cases hk:caps'.toList[i]? with
    |none=>rw [hk]at hv;cases hv
    |some p=>rw [hk]at hv hy;cases hv;cases hy;exact zZ h p
  ·cases hm
 ·cases hm
end
section
variable {P:Program} {τ:Ty} {lo:Nat} {w0:Fz} {ow:Nat→Option Pl} {hd:Nat→Value} {bk:Nat→Nat} {st:St} {a:Act} {w:World}
end
section
variable {P:Program} {τ:Ty} {lo:Nat} {w0:Fz} {ow:Nat→Option Pl} {hd:Nat→Value} {bk:Nat→Nat} {st:St} {a:Act} {w:World}
theorem zHS {t:Nat}(hsz:t<a.tmps.size):a.put (some t) (a.eval (.tmp t))=a:=by
 unfold Act.put Act.eval
 simp only
 congr 1
 apply Array.ext_getElem?
 intro i
 rw [Array.getElem?_setIfInBounds]
 split
 ·rename_i e;subst e
  first
   |(rw [if_pos hsz,Array.getD_eq_getD_getElem?,Array.getElem?_eq_getElem hsz];rfl)
   |(rw [Array.getD_eq_getD_getElem?,Array.getElem?_eq_getElem hsz];simp)
   |(simp [hsz])
 ·rfl
def kh :List (Nat×zr)→List (Nat×zr)
 | []=> []
 |(d,R)::l=>(d,⟨R.o,R.e,R.xs,some d⟩)::kh l
theorem Qi : ∀(l:List (Nat×zr)) (d:Nat),lk (kh l) d=(lk l d).map fun R=>⟨R.o,R.e,R.xs,some d⟩
 | [],d=>rfl
 |(k,R)::l,d=>by
  simp only [kh,zd]
  split
  ·rename_i e;subst e;rfl
  ·exact Qi l d
def wm (τ:Ty)(n:Nat)(args:List VT):St:={n:=n,s:=vv τ 0 args,b:= [],r:=kh (xj 0 args)}
theorem zAE {n:Nat}{args:List VT}{cargs:List Value}(hs:szA τ args)(hfew:few args=true)(hn:args.length≤n)(h:vo (sz τ) w.heap.size w (fun _=>none) args cargs):
  ze τ w.heap.size ⟨w,fun _=>True,fun id=>some (yQ cargs id)⟩ (fun _=>none) (yQ cargs) (bk0 (yQ cargs)) (wm τ n args) {tmps:=cargs.toArray++Array.replicate (n - cargs.toArray.size) undef,defers:= []} w:=by
 have h0:=QD hs hfew hn h
 have hD: ∀k,noB k=false→yq w w (wo τ n args).r (wm τ n args).r (yQ cargs) (yQ cargs) k:=fun k _ R' hR'=>by
  simp only [wm,Qi]at hR'
  cases hx:lk (xj 0 args) k with
  |none=>rw [hx]at hR';cases hR'
  |some R=>rw [hx]at hR';cases hR';exact⟨R,hx,rfl,fun p hp=>⟨hp,rfl⟩⟩
 have hB: ∀t,noB t=false→yp (wo τ n args).b (wm τ n args).b (fun _=>0) (bk0 (yQ cargs)) t:=fun t _ hl=>by
  obtain⟨cs,hl⟩:=hl
  simp [wm,lk]at hl
 refine⟨fun j ad hj had=>(by simp only [Option.some.injEq]at had;simp only [bk0];rw [show 1000000+j - 1=999999+j from by omega,had]),h0.defers,h0.size,h0.low,⟨h0.below.os,h0.below.tape,h0.below.output,h0.below.size,h0.below.block⟩,h0.ge,h0.new,fun k v hv=> ?_,fun k R' hR'=> ?_,fun t cs hcs=> ?_,fun k R' j hR' hp=> ?_⟩
 ·have :=yl (τ:=τ) hD hB v _ (h0.slot k v hv)
  rwa [qX]at this
 ·simp only [wm,Qi]at hR'
  cases hx:lk (xj 0 args) k with
  |none=>rw [hx]at hR';cases hR'
  |some R=>rw [hx]at hR';cases hR';exact h0.root k R hx
 ·simp [wm,lk]at hcs
 ·simp only [wm,Qi]at hR'
  cases hx:lk (xj 0 args) k with
  |none=>rw [hx]at hR';cases hR'
  |some R=>rw [hx]at hR';cases hR';cases hp;rfl
end
section
variable {P:Program} {τ:Ty} {lo:Nat} {w0:Fz} {ow:Nat→Option Pl} {hd:Nat→Value} {bk:Nat→Nat} {st:St} {a:Act} {w:World}
attribute [push_cast] List.set_cons_succ
end
def wk (τ:Ty)(n:Nat)(ds:List D)(args:List VT):St:={n:=n,s:=(0, .bp 1000000 0)::vv τ 1 args,b:= [(1000000,yR τ 1000000 0 ds)],r:=kh (xB 1000000 0 ds)++xj 1 args}
def vf (τ:Ty)(st:St):Nat→List AV→List D→Prop
 |_,[],[]=>True
 |j,u::us,d::ds=>(match d,u with
   | .int k n, .int k' n'=>k'=k∧n'=n
   | .bool b, .bool b'=>b'=b
   | .lst e xs, .sl d0 [] 0 len e'=>d0=zb 1000000 j∧(match lk st.r d0 with|some R=>R.pin=some d0∧e'=e∧R.e=e∧R.xs.length=len*sz τ e∧sz τ e≠0|none=>False)
   |_,_=>False)∧vf τ st (j+1) us ds
 |_,_,_=>False
def Vw (τ:Ty)(rs:List ResultVar)(ds':List D)(ress:List VT)(e:Exit)(st:St):Prop:=(e= .ret∨e= .normal)∧
 match yS τ st rs with
 |some (vs,ob)=>ob∧zi τ st vs ress∧(match lk st.b 1000000 with|some us=>vf τ st 0 us ds'|none=>False)
 |none=>False
section
variable {P:Program} {τ:Ty} {lo:Nat} {w0:Fz} {ow:Nat→Option Pl} {hd:Nat→Value} {bk:Nat→Nat} {st:St} {a:Act} {w:World}
mutual
theorem Ur {S:TypeId→Nat}{lo lo2:Nat}{w:World}{ow:Nat→Option Pl}: ∀(d:D) (j:Nat) (p:List Nat) (v:Value),(∀b q,ow b=some (.root j (p++q))→lo2≤b)→Rp S lo w ow (.ex j p) d v→Rp S lo2 w ow (.ex j p) d v
 | .int k n,j,p,v,_,h=>by simpa only [Rp]using h
 | .bool b,j,p,v,_,h=>by simpa only [Rp]using h
 | .hole,j,p,v,_,h=>by simpa only [Rp]using h
 | .lst e xs,j,p,v,hb,h=>by
  simp only [Rp]at h⊢
  obtain⟨vs,⟨h0,n,h1,h2,h3⟩,h4⟩:=h
  refine⟨vs,⟨h0,n,h1,⟨h2.1,?_⟩,h3⟩,uG xs j p 0 vs hb h4⟩
  rcases h2.2 with hn|⟨g,cap,cur,hv,hg,rest⟩
  ·exact .inl hn
  ·exact .inr ⟨g,cap,cur,hv,hb g [] (by simpa using h3 g (by rw [hv];rfl)),rest⟩
theorem uG {S:TypeId→Nat}{lo lo2:Nat}{w:World}{ow:Nat→Option Pl}: ∀(xs:List D) (j:Nat) (p:List Nat) (k:Nat) (vs:List Value),(∀b q,ow b=some (.root j (p++q))→lo2≤b)→RpL S lo w ow (.ex j p) k xs vs→RpL S lo2 w ow (.ex j p) k xs vs
 | [],j,p,k,vs,_,h=>by simpa only [RpL]using h
 |x::xs,j,p,k,vs,hb,h=>by
  simp only [RpL]at h⊢
  obtain⟨v,vs',h1,h2,h3⟩:=h
  exact⟨v,vs',h1,Ur x j (p++ [k]) v (fun b q e=>hb b (k::q) (by simpa using e)) h2,uG xs j p (k+1) vs' hb h3⟩
end
def hdB (cs cargs:List Value)(g d:Nat):Value:=if d / 16=1000000 then cs.getD (d%16) undef else yQ (Value.pointer (some ⟨g,0,none⟩)::cargs) d
def fzB (w:World)(g:Nat)(cs:List Value):Fz:=⟨w,fun b=>b≠g,fun id=>if id=999999 then some (.pointer (some ⟨g,0,none⟩))else if id / 16=1000000 then some (cs.getD (id%16) undef)else none⟩
def owB (g:Nat):Nat→Option Pl:=fun b=>if b=g then some (.box 1000000)else none
theorem zAD {n:Nat}{ds:List D}{args:List VT}{g:Nat}{cs cargs:List Value}{ty:TypeId}(hs:szA τ args)(hfew:few args=true)(hsm:args.length<100)(hn:args.length+1≤n)(hds:szL τ ds)(h16:ds.length≤16)
  (hg:w.heap[g]? =some (.cells cs.toArray ty (0,0))) (hcl:cs.length=ds.length) (hrd: ∀(i:Nat) (d:D) (c:Value),ds[i]? =some d→cs[i]? =some c→Rp (sz τ) 0 w (owG g) .sh d c) (h:Kb (sz τ) 0 w (owG g) [] args cargs):
  ze τ 0 (fzB w g cs) (owB g) (hdB cs cargs g) (fun _=>g) (wk τ n ds args) {tmps:=(Value.pointer (some ⟨g,0,none⟩)::cargs).toArray++Array.replicate (n - (Value.pointer (some ⟨g,0,none⟩)::cargs).toArray.size) undef,defers:= []} w:=by
 obtain⟨hl,hargs⟩:=h
 have hlt:g<w.heap.size:=(Array.getElem?_eq_some_iff.1 hg).1
 have conv: ∀{x:D} {c:Value},Rp (sz τ) 0 w (owG g) .sh x c→Rp (sz τ) 0 w (owB g) .sh x c:=fun hx=>yE _ _ (Nat.le_refl _) _ _ _ (fun b hb hr=>⟨rfl,by
  simp only [rel,owG]at hr
  unfold owB owG
  split at hr
  ·cases hr
  ·rename_i e;rw [if_neg e,if_neg e]⟩) hx
 have hdiv: ∀m i,i<16→(zb m i) / 16=m∧(zb m i)%16=i:=fun m i hi=>by unfold zb;omega
 have hcell: ∀(m:Nat) (x:VT) (v:Value),args[m]? =some x→cargs[m]? =some v→∃cs1:List Value,cs1.length=x.cells.length∧(∀(i:Nat) (d:D) (c:Value),x.cells[i]? =some d→cs1[i]? =some c→Rp (sz τ) 0 w (owB g) .sh d c∧(hdB cs cargs g (zb (1+m) i)=c∨xS d=true))∧Wv x v cs1:=fun m x v hx hv=>by
  have h16:x.cells.length≤16:=by have :=List.all_eq_true.1 hfew x (List.mem_of_getElem? hx);simpa using this
  have hm:m<args.length:=(List.getElem?_eq_some_iff.1 hx).1
  obtain⟨cs1,h1,h2,h3⟩:=hargs m x v hx hv
  have h2': ∀(i:Nat) (d:D) (c:Value),x.cells[i]? =some d→cs1[i]? =some c→Rp (sz τ) 0 w (owG g) .sh d c:=fun i d c hd hc=>by
   have :=h2 i d c hd hc
   unfold gm at this
   rwa [if_neg (by simp)]at this
  refine⟨cs1,h1,fun i d c hd hc=>⟨conv (h2' i d c hd hc),?_⟩,h3⟩
  have hi:i<16:=by have :=(List.getElem?_eq_some_iff.1 hd).1;omega
  have hv':(Value.pointer (some ⟨g,0,none⟩)::cargs)[1+m]? =some v:=by rw [Nat.add_comm];simpa using hv
  have hne: ¬1+m=1000000:=by omega
  rcases h3 with⟨d',c',rfl,rfl,rfl⟩|⟨ds',rfl,rfl⟩|⟨f,ds',rfl,rfl⟩
  ·simp only [VT.cells]at hd
   cases i with
   |succ i=>simp at hd
   |zero=>
    simp at hd hc;subst hd;subst hc
    cases d' with
    |int k n=>right;rfl
    |bool b=>right;rfl
    |hole=>
     left
     have h9:=h2' 0 _ _ rfl rfl
     simp only [Rp]at h9
     obtain⟨A,n',c',rfl⟩:=h9
     simp only [hdB,yQ,(hdiv (1+m) 0 (by omega)).1,if_neg hne,hv']
    |lst e xs=>
     left
     obtain⟨A,n',c',rfl,-⟩:=xZ (h2' 0 _ _ rfl rfl)
     simp only [hdB,yQ,(hdiv (1+m) 0 (by omega)).1,if_neg hne,hv']
  ·left
   simp only [hdB,yQ,(hdiv (1+m) i hi).1,(hdiv (1+m) i hi).2,if_neg hne,hv']
   rw [Array.getD_eq_getD_getElem?,List.getElem?_toArray,hc]
   rfl
  ·left
   simp only [hdB,yQ,(hdiv (1+m) i hi).1,(hdiv (1+m) i hi).2,if_neg hne,hv']
   rw [Array.getD_eq_getD_getElem?,List.getElem?_toArray,hc]
   rfl
 have hbx: ∀(j:Nat) (c:Value),j<16→cs[j]? =some c→hdB cs cargs g (zb 1000000 j)=c:=fun j c hj hc=>by
  unfold hdB
  rw [(hdiv 1000000 j hj).1,if_pos rfl,(hdiv 1000000 j hj).2,List.getD_eq_getElem?_getD,hc]
  rfl
 have hroot: ∀d R,lk (wk τ n ds args).r d=some R→(d / 16=1000000∧R.pin=some d∧∃k c,ds[k]? =some (.lst R.e R.xs)∧cs[k]? =some c∧R.o= .sh∧d=zb 1000000 k∧k<16)∨(R.pin=none∧R.o= .sh∧Rp (sz τ) 0 w (owB g) .sh (.lst R.e R.xs) (hdB cs cargs g d)):=fun d R hR=>by
  simp only [wk,qB,Qi]at hR
  cases hx:lk (xB 1000000 0 ds) d with
  |some R0=>
   rw [hx]at hR
   simp only [Option.map_some,Option.some_or,Option.some.injEq]at hR
   subst hR
   obtain⟨k,h1,h2,h3⟩:=XG 1000000 ds 0 d R0 hx
   rw [Nat.zero_add]at h3
   have hk:k<ds.length:=(List.getElem?_eq_some_iff.1 h1).1
   left
   refine⟨by rw [h3];exact(hdiv 1000000 k (by omega)).1,rfl,k,cs[k]'(by omega),h1,List.getElem?_eq_getElem _,h2,h3,by omega⟩
  |none=>
   rw [hx]at hR
   simp only [Option.map_none,Option.none_or]at hR
   obtain⟨m,x,k,h1,h2,h3,h4⟩:=QM args 1 d R hR
   have hm:m<cargs.length:=by rw [hl];exact(List.getElem?_eq_some_iff.1 h1).1
   obtain⟨cs1,c1,c2,-⟩:=hcell m x _ h1 (List.getElem?_eq_getElem hm)
   have hk:k<cs1.length:=by rw [c1];exact(List.getElem?_eq_some_iff.1 h2).1
   obtain⟨q1,q2⟩:=c2 k _ _ h2 (List.getElem?_eq_getElem hk)
   right
   refine⟨Yx args 1 d R hR,h3,?_⟩
   rcases q2 with q2|q2
   ·rw [h4,q2];exact q1
   ·cases q2
 refine⟨fun j ad hj had=> ?_,rfl,?_,Nat.zero_le _,yu.start _,fun b p _ hb hp=>⟨Nat.zero_le _,fun hlt hk=> ?_⟩,fun b hb=> ?_,fun k v hv=> ?_,fun d R hR=> ?_,fun t vs hv=> ?_,fun d R i hR hp=> ?_⟩
 ·simp only [fzB]at had
  split at had
  ·simp only [Option.some.injEq,Value.pointer.injEq]at had
   rw [←had]
  ·rw [if_neg (by omega)]at had
   cases had
 ·simp [wk,hl];omega
 ·simp only [owB]at hb
  split at hb
  ·rename_i e;exact hk e
  ·cases hb
 ·unfold owB;rw [if_neg (by omega)]
 ·simp only [wk,zd]at hv
  split at hv
  ·rename_i e;subst e;cases hv
   simp only [AvR]
   have hz0:((Value.pointer (some ⟨g,0,none⟩)::cargs).toArray++Array.replicate (n - (Value.pointer (some ⟨g,0,none⟩)::cargs).toArray.size) undef).getD 0 undef= .pointer (some ⟨g,0,none⟩):=by
    rw [Array.getD_eq_getD_getElem?,Array.getElem?_append_left (by simp),List.getElem?_toArray]
    rfl
   exact⟨⟨_,hz0⟩,fun _=>hz0⟩
  ·obtain⟨m,x,h1,h2,h3⟩:=QN args 1 k v hv
   subst h2;subst h3
   have hm:m<cargs.length:=by rw [hl];exact(List.getElem?_eq_some_iff.1 h1).1
   have hget:((Value.pointer (some ⟨g,0,none⟩)::cargs).toArray++Array.replicate (n - (Value.pointer (some ⟨g,0,none⟩)::cargs).toArray.size) undef).getD (1+m) undef=cargs[m]:=by
    rw [Array.getD_eq_getD_getElem?,Array.getElem?_append_left (by simp;omega),List.getElem?_toArray,Nat.add_comm 1 m,List.getElem?_cons_succ,List.getElem?_eq_getElem hm]
    rfl
   have hv':cargs[m]? =some cargs[m]:=List.getElem?_eq_getElem hm
   obtain⟨cs1,c1,c2,c3⟩:=hcell m x _ h1 hv'
   have hsx:szL τ x.cells:=hs x (List.mem_of_getElem? h1)
   have hres:=wZ (τ:=τ) (lo:=0) (w:=w) (ow:=owB g) (hd:=hdB cs cargs g) (bk:=fun _=>g) (rr:=(wk τ n ds args).r) (bb:=(wk τ n ds args).b) (1+m) x.cells 0 cs1 c1 hsx (fun i d c hd hc=>⟨_,(c2 i d c hd hc).1⟩) (fun i e xs c hd hc=>by
    rcases(c2 i _ c hd hc).2 with q|q
    ·rw [Nat.zero_add];exact q
    ·cases q)
   rw [hget]
   rcases c3 with⟨d,c,rfl,rfl,hc⟩|⟨ds',rfl,hc⟩|⟨f,ds',rfl,hc⟩
   ·simp only [VT.cells]at hres
    rw [hc]
    have e:yR τ (1+m) 0 [d]= [(yR τ (1+m) 0 [d]).headD .dead]:=by cases d<;>rfl
    rw [e]at hres
    simp only [zY]at hres
    obtain⟨y,ys,e1,h4,-⟩:=hres
    cases e1
    exact h4
   ·rw [hc];simp only [XO,AvR];exact⟨cs1,rfl,hres⟩
   ·rw [hc];simp only [XO,AvR];exact⟨cs1,rfl,hres⟩
 ·rcases hroot d R hR with⟨h1,h2,k,c,h3,h4,h5,h6,h7⟩|⟨-,h2,h3⟩
  ·rw [h5,h6,hbx k c h7 h4]
   exact conv (hrd k _ c h3 h4)
  ·rw [h2];exact h3
 ·simp only [wk,zd,xJ]at hv
  split at hv
  ·rename_i e;subst e;cases hv
   refine⟨cs,ty,hg,by unfold owB;rw [if_pos rfl],?_⟩
   refine wZ (τ:=τ) (lo:=0) (w:=w) (ow:=owB g) (hd:=hdB cs cargs g) (bk:=fun _=>g) 1000000 ds 0 cs hcl hds (fun i d c hd hc=>⟨_,conv (hrd i d c hd hc)⟩) (fun i e xs c hd hc=> ?_)
   rw [Nat.zero_add]
   exact hbx i c (by have :=(List.getElem?_eq_some_iff.1 hd).1;omega) hc
  ·cases hv
 ·rcases hroot d R hR with⟨h1,h2,-⟩|⟨h2,-⟩
  ·rw [h2]at hp;cases hp
   simp only [fzB,hdB,h1,if_true]
   rw [if_neg (by omega)]
  ·rw [h2]at hp;cases hp
theorem WD (h:ze τ lo w0 ow hd bk st a w){cs0:List Value}(hpin: ∀j c,j<16→cs0[j]? =some c→w0.pin (zb 1000000 j)=some c): ∀(us:List AV) (ds':List D) (cs:List Value) (j:Nat),vf τ st j us ds'→zY τ w st.r st.b hd bk us cs→j+us.length≤16→j+us.length≤cs0.length→
  ds'.length=us.length∧∀(i:Nat) (d:D) (c:Value),ds'[i]? =some d→cs[i]? =some c→match d with| .int k n=>c= .int k n| .bool b=>c= .bool b|_=>cs0[j+i]? =some c
 | [],[],cs,j,_,_,_,_=>⟨rfl,fun i d c hd=>by simp at hd⟩
 | [],_::_,cs,j,h1,_,_,_=>h1.elim
 |_::_,[],cs,j,h1,_,_,_=>h1.elim
 |u::us,d::ds',cs,j,h1,h2,h3,h4=>by
  simp only [zY]at h2
  obtain⟨c,cs1,rfl,k1,k2⟩:=h2
  simp only [List.length_cons]at h3 h4
  obtain⟨r1,r2⟩:=WD h hpin us ds' cs1 (j+1) h1.2 k2 (by omega) (by omega)
  refine⟨by simp [r1],fun i d' c' hd hc=> ?_⟩
  cases i with
  |succ i=>
   have :=r2 i d' c' (by simpa using hd) (by simpa using hc)
   rwa [show j+1+i=j+(i+1)from by omega]at this
  |zero=>
   simp at hd hc
   subst hd;subst hc
   have h0:=h1.1
   cases d with
   |int k n=>
    cases u<;>(try simp only at h0)<;>first|exact h0.elim|skip
    simp only [AvR]at k1
    rw [k1,h0.1,h0.2]
   |bool b=>
    cases u<;>(try simp only at h0)<;>first|exact h0.elim|skip
    simp only [AvR]at k1
    rw [k1,h0]
   |hole=>simp at h0
   |lst e xs=>
    cases u<;>(try simp only at h0)<;>first|exact h0.elim|skip
    rename_i d0 p off len e'
    cases p with
    |cons _ _=>exact h0.elim
    |nil=>
     cases off with
     |succ _=>exact h0.elim
     |zero=>
      simp only at h0
      obtain⟨rfl,h5⟩:=h0
      cases hR:lk st.r (zb 1000000 j)with
      |none=>rw [hR]at h5;exact h5.elim
      |some R=>
       rw [hR]at h5
       obtain⟨hp,rfl,he,hx,hz⟩:=h5
       have hj:j<cs0.length:=by omega
       have hpv:=hpin j _ (by omega) (List.getElem?_eq_getElem hj)
       have hph:=h.pin _ R _ hR hp
       rw [hpv]at hph
       have hph:=Option.some.inj hph
       simp only [AvR]at k1
       obtain⟨hv,hin,A,n,c2,A',c',hnw,e1,e2,hle,hlc,hmx,hf,hA⟩:=k1.2 R hR (by simp [zk])
       simp only [yC,Option.some.injEq]at hin
       obtain⟨rfl,rfl⟩:=hf rfl
       obtain⟨A3,n3,c3,e3,l3,-⟩:=xZ (h.root _ R hR)
       rw [hin,e1]at e3;cases e3
       rw [he]at l3
       have hn:n=len:=Nat.eq_of_mul_eq_mul_right (Nat.pos_of_ne_zero hz) (by rw [←l3,hx])
       simp only [Nat.add_zero]
       rw [List.getElem?_eq_getElem hj,hph,hin,e1,e2,hn]
theorem zFz {ds ds':List D}{ress:List VT}{g:Nat}{cs:List Value}{ty:TypeId}{st':St}{a':Act}{w':World}{vs:List AV}{xs:List Value}(hlen:ds'.length=ds.length)(h16:ds.length≤16)(hg:w.heap[g]? =some (.cells cs.toArray ty (0,0)))(hcl:cs.length=ds.length)
  (hr:ze τ 0 (fzB w g cs) ow hd bk st' a' w') (hbox:match lk st'.b 1000000 with|some us=>vf τ st' 0 us ds'|none=>False) (hret:zi τ st' vs ress) (hv:zY τ w' st'.r st'.b hd bk vs xs):UP τ w g cs ds' ress (.returned (wG xs)) w':=by
 cases hT:lk st'.b 1000000 with
 |none=>rw [hT]at hbox;exact hbox.elim
 |some us=>
  rw [hT]at hbox
  simp only at hbox
  obtain⟨cs',ty',b1,b2,b3⟩:=hr.box 1000000 us hT
  have hbk:bk 1000000=g:=hr.big 0 ⟨g,0,none⟩ (by decide) (by simp [fzB])
  rw [hbk]at b1 b2
  have hglt:g<w.heap.size:=(Array.getElem?_eq_some_iff.1 hg).1
  have hul:us.length=ds.length:=by
   have key: ∀(us:List AV) (ds':List D) (j:Nat),vf τ st' j us ds'→us.length=ds'.length:=by
    intro us
    induction us with
    |nil=>intro ds' j h;cases ds' with
     |nil=>rfl
     |cons _ _=>exact h.elim
    |cons u us ih=>intro ds' j h;cases ds' with
     |nil=>exact h.elim
     |cons d ds'=>simp [ih ds' (j+1) h.2]
   rw [key us ds' 0 hbox,hlen]
  obtain⟨m1,m2⟩:=WD hr (cs0:=cs) (fun j c hj hc=>by
   simp only [fzB]
   have e1:zb 1000000 j / 16=1000000:=by unfold zb;omega
   have e2:zb 1000000 j%16=j:=by unfold zb;omega
   rw [if_neg (by unfold zb;omega),if_pos e1,e2,List.getD_eq_getElem?_getD,hc]
   rfl) us ds' cs' 0 hbox b3 (by omega) (by omega)
  have hcs':cs'.length=cs.length:=by have :=(zp.1 b3).1;omega
  unfold zi at hret
  split at hret
  rotate_left
  ·exact hret.elim
  rename_i us2 hus
  split at hret
  rotate_left
  ·exact hret.elim
  rename_i is ob hcells
  have hroot: ∀b d q,ow b=some (.root d q)→w.heap.size≤b:=fun b d q ho=>by
   rcases Nat.lt_or_ge b w.heap.size with hlt|hge
   ·have hlt':b<w'.heap.size:=Nat.lt_of_lt_of_le hlt hr.below.size
    have hfr:=(hr.ge b _ hlt' ho (by simp)).2 hlt
    have :b=g:=by
     rcases Nat.decEq b g with hne|heq
     ·exact absurd hne hfr
     ·exact heq
    subst this
    rw [b2]at ho;cases ho
   ·exact hge
  have hout: ∀b p,qv ow is b=some p→w.heap.size≤b:=fun b p hp=>by
   obtain⟨d,q,j,h1,-,-⟩:=jT hp
   exact hroot b d q h1
  obtain⟨cs2,k1,k2⟩:=vi (S:=sz τ) (lo:=(w.heap.setIfInBounds g (.cells cs'.toArray ty' (0,0))).size) (ow:=qv ow is) 0 hus hv
  obtain⟨n1,n2⟩:=Zz hr hcells hret.2 hret.1 k1
  refine⟨cs',ty',{w with heap:=w.heap.setIfInBounds g (.cells cs'.toArray ty' (0,0))},hcs',fun i d c hd hc=> ?_,⟨rfl,rfl,rfl,by simp,fun k hk=> ?_,?_⟩,?_⟩
  ·have :=m2 i d c hd hc
   cases d<;>simpa using this
  ·rw [Array.getElem?_setIfInBounds,if_neg (fun e=>hk e.symm)]
  ·rw [Array.getElem?_setIfInBounds,if_pos rfl,if_pos hglt]
  ·refine⟨_,qv ow is,rfl,⟨hr.below.os,hr.below.tape,hr.below.output,by have :=hr.below.size;simpa [fzB]using this,fun b hb=> ?_⟩,fun b hb=> ?_,fun b p hp=> ?_,k2 n1 fun i d c hd hc=> ?_⟩
   ·have hb':b<w.heap.size:=by simpa using hb
    simp only
    rw [Array.getElem?_setIfInBounds]
    split
    ·rename_i e;subst e;first|exact b1|(rw [if_pos hglt];exact b1)
    ·rename_i e;exact hr.below.block b hb' (fun e'=>e e'.symm)
   ·have hb':b<w.heap.size:=by simpa using hb
    cases ho:qv ow is b with
    |none=>rfl
    |some p=>have :=hout b p ho;omega
   ·obtain⟨d,q,j,h1,-,rfl⟩:=jT hp
    refine⟨?_,by simp⟩
    rcases Nat.lt_or_ge b w'.heap.size with h'|h'
    ·exact h'
    ·rw [hr.new b h']at h1;cases h1
   ·rw [Nat.zero_add]
    have :=n2 i d c hd hc
    simp only [Array.size_setIfInBounds]
    exact Ur d i [] c (fun b q hq=>hout b _ hq) this
theorem Vr (hτ:zx P τ)(hpos:yL τ){f:FuncId}{fn:Func}{c:Code}{rs:List ResultVar}{ds ds':List D}{args ress:List VT}(hfn:P.funcs[f]? =some fn)(hname:(fn.name== "runtime.NumGoroutine")=false)(hb:fn.body=some c)(hres:fn.results=rs.toArray)(hn:args.length+1≤fn.ntmps)(hfew:few args=true)(hs:szA τ args)(hsm:args.length<100)(hds:szL τ ds)(h16:ds.length≤16)(hlen:ds'.length=ds.length)
  (h:awp P τ c (Vw τ rs ds' ress) (wk τ fn.ntmps ds args)):FnB P τ f ds args ds' ress:=by
 refine⟨⟨fn,hfn,hname,by rw [hb];rfl⟩,hlen,fun w g cs cargs ty hg hcl hrd hargs=> ?_⟩
 have hst0:=zAD (n:=fn.ntmps) hs hfew hsm hn hds h16 hg hcl hrd hargs
 refine calls_of_wp hfn hb (Go.wp_mono (h 0 _ _ w ⟨_,_,_,hst0⟩) fun e a' w' ⟨st',⟨ow,hd,bk,hr⟩,he,hret0⟩=> ?_)
 have hpost:a'.defers= []∧∃v,(results fn a'.tmps).run P w'= .ok v w'∧UP τ w g cs ds' ress (.returned v) w':=by
  split at hret0
  rotate_left
  ·exact hret0.elim
  rename_i avs ob0 hrv
  obtain⟨hob0,hret,hbox⟩:=hret0
  obtain⟨xs,hrun,hv⟩:=Ze hτ hpos hr hres hrv hob0
  exact⟨hr.defers,_,hrun,zFz hlen h16 hg hcl hr hbox hret hv⟩
 rcases he with rfl|rfl<;>exact hpost
end
end Go.Proofs.Ytggpbepdeilpgaa
