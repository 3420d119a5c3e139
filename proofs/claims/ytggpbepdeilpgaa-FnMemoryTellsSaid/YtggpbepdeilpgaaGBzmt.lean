/- The operations that make or change, in terms of abstract states. -/
import Derived.Test.YtggpbepdeilpgaaGAzmt
import Derived.KernelRfl
namespace Go.Proofs.Ytggpbepdeilpgaa
open Go.RowKit
set_option linter.unusedVariables false
set_option linter.unusedSimpArgs false
def hom (al:List Nat)(c:CK)(st:St)(h:Nat)(v:AV):St×AV×(List AV→List AV):=
 match v with
 | .nil=>match c with
  | .sl e=>(st.addR h ⟨.ex,e,[],none⟩, .sl h [] 0 0 e,AV.killL (is1 h) noB)
  |_=>(st,v,id)
 | .sl d [] off len e=>
  if d=h∨al.contains h=true then(st,v,id)
  else match lk st.r d with
   |some R=>(st.moveR d h R, .sl h [] off len e,fun vs=>AV.killL (is1 h) noB (AV.killL (is1 d) noB vs))
   |none=>(st,v,id)
 |v=>(st,v,id)
def vB (al:List Nat):List CK→St→Nat→List AV→List AV→St×List AV
 |c::ks,st,h,done,v::vs=>
  let x:=hom al c st h v
  vB al ks x.1 (h+1) (x.2.2 done++ [x.2.1]) (x.2.2 vs)
 |_,st,_,done,vs=>(st,done++vs)
def Kv :AV→Bool
 | .agg _=>false
 | .tup _=>false
 | .dead=>false
 | .raw u=>false
 |_=>true
def St.setB (st:St)(b:Nat)(cells:List AV):St:={st with b:=(b,cells)::st.b}
section
variable {P:Program} {τ:Ty} {lo:Nat} {w0:Fz} {ow:Nat→Option Pl} {hd:Nat→Value} {bk:Nat→Nat} {st:St} {a:Act} {w:World}
theorem jJ {d:Nat}{R:zr}{hv:Value}: ∀k,is1 d k=false→yq w w st.r (st.addR d R).r hd (upd hd d hv) k:=fun k hk R' hR'=>by
 have hne: ¬d=k:=by intro e;subst e;simp [is1]at hk
 simp only [St.addR,zd,if_neg hne]at hR'
 exact⟨R',hR',qf _ _ (fun e=>hne e.symm),fun p hp=>⟨hp,rfl⟩⟩
theorem jI {d:Nat}{R:zr}: ∀t,noB t=false→yp st.b (st.addR d R).b bk bk t:=fun t _ hl=>by
 simp only [St.addR,St.kill,zz]at hl
 obtain⟨cs,hcs⟩:=hl
 cases hx:lk st.b t with
 |none=>rw [hx]at hcs;cases hcs
 |some cs'=>exact⟨⟨cs',rfl⟩,rfl⟩
theorem zDy {d:Nat}: ∀k,is1 d k=false→yq w w st.r (st.delR d).r hd hd k:=fun k hk R' hR'=>by
 simp only [St.delR,yr,hk]at hR'
 exact⟨R',by simpa using hR',rfl,fun p hp=>⟨hp,rfl⟩⟩
theorem zDx {d:Nat}: ∀t,noB t=false→yp st.b (st.delR d).b bk bk t:=fun t _ hl=>by
 simp only [St.delR,St.kill,zz]at hl
 obtain⟨cs,hcs⟩:=hl
 cases hx:lk st.b t with
 |none=>rw [hx]at hcs;cases hcs
 |some cs'=>exact⟨⟨cs',rfl⟩,rfl⟩
theorem Xb (h:ze τ lo w0 ow hd bk st a w)(al:List Nat)(c:CK)(k:Nat){v:AV}{x:Value}(hv:AvR τ w st.r st.b hd bk v x):
  ∃ow' hd',ze τ lo w0 ow' hd' bk (hom al c st k v).1 a w∧AvR τ w (hom al c st k v).1.r (hom al c st k v).1.b hd' bk (hom al c st k v).2.1 x∧
   (∀vs xs,zY τ w st.r st.b hd bk vs xs→zY τ w (hom al c st k v).1.r (hom al c st k v).1.b hd' bk ((hom al c st k v).2.2 vs) xs)∧(∀t,ow' (bk t)=ow (bk t)∨(∃d q,ow (bk t)=some (.root d q))):=by
 have same:(hom al c st k v)=(st,v,id)→∃ow' hd',ze τ lo w0 ow' hd' bk (hom al c st k v).1 a w∧AvR τ w (hom al c st k v).1.r (hom al c st k v).1.b hd' bk (hom al c st k v).2.1 x∧
   (∀vs xs,zY τ w st.r st.b hd bk vs xs→zY τ w (hom al c st k v).1.r (hom al c st k v).1.b hd' bk ((hom al c st k v).2.2 vs) xs)∧(∀t,ow' (bk t)=ow (bk t)∨(∃d q,ow (bk t)=some (.root d q))):=fun e=>by
  rw [e];exact⟨ow,hd,h,hv,fun vs xs h=>h,fun t=> .inl rfl⟩
 cases v with
 |nil=>
  cases c with
  |sl e=>
   simp only [AvR]at hv
   subst hv
   have h1:=xx h k ⟨.ex,e,[],none⟩ (.slice none 0 0) (vV k [] e)
   refine⟨ow,_,h1,?_,fun vs xs hvs=> ?_,fun t=> .inl rfl⟩
   ·simp only [hom,AvR]
    refine⟨⟨_,_,_,rfl⟩,fun R hR hp=>⟨.slice none 0 0,by simp only [yC,yF],none,0,0,none,0,nw0,rfl,rfl,by omega,by omega,by unfold maxLen;omega,fun _=>⟨rfl,rfl⟩,fun h=>absurd rfl h⟩⟩
   ·exact yA jJ jI vs xs hvs
  |int k=>exact same rfl
  |bool=>exact same rfl
 |sl d p off len e=>
  cases p with
  |cons i q=>exact same rfl
  |nil=>
   by_cases hc:d=k∨al.contains k=true
   ·exact same (by simp only [hom,if_pos hc])
   ·cases hR:lk st.r d with
    |none=>exact same (by simp only [hom,if_neg hc,hR])
    |some R=>
     have e1:hom al c st k (.sl d [] off len e)=(st.moveR d k R, .sl k [] off len e,fun vs=>AV.killL (is1 k) noB (AV.killL (is1 d) noB vs)):=by simp only [hom,if_neg hc,hR]
     rw [e1]
     have h1:=zDW h d k R hR
     refine⟨_,_,h1,?_,fun vs xs hvs=> ?_,fun t=> ?_⟩
     ·simp only [AvR]at hv⊢
      refine⟨hv.1,fun R' hR' hp'=> ?_⟩
      obtain⟨hv',hin,hsub⟩:=hv.2 R hR (by simp [zk])
      refine⟨hv',?_,hsub⟩
      simp only [yC,yF]at hin⊢
      exact hin
     ·have k1:=yA (τ:=τ) (zDy (w:=w) (st:=st) (hd:=hd) (d:=d)) (zDx (st:=st) (bk:=bk) (d:=d)) vs xs hvs
      exact yA jJ jI _ xs k1
     ·by_cases hq: ∃q,ow (bk t)=some (.root d q)
      ·obtain⟨q,hq⟩:=hq;exact .inr ⟨d,q,hq⟩
      ·exact .inl (xh (fun q e=>hq ⟨q,e⟩))
 |_=>exact same rfl
theorem qy {rr:List (Nat×zr)}{bb:List (Nat×List AV)}{vs us:List AV}{xs ys:List Value}(h1:zY τ w rr bb hd bk vs xs)(h2:zY τ w rr bb hd bk us ys):zY τ w rr bb hd bk (vs++us) (xs++ys):=by
 obtain⟨a1,a2⟩:=zp.1 h1
 obtain⟨b1,b2⟩:=zp.1 h2
 refine zp.2 ⟨by simp [a1,b1],fun i v x hv hx=> ?_⟩
 by_cases hi:i<vs.length
 ·rw [List.getElem?_append_left hi]at hv
  rw [List.getElem?_append_left (by omega)]at hx
  exact a2 i v x hv hx
 ·rw [List.getElem?_append_right (by omega)]at hv
  rw [List.getElem?_append_right (by omega),a1]at hx
  exact b2 _ v x hv hx
theorem VM (al:List Nat): ∀(ks:List CK) (st:St) (ow:Nat→Option Pl) (hd:Nat→Value) (k:Nat) (done vs:List AV) (ds xs:List Value),ze τ lo w0 ow hd bk st a w→zY τ w st.r st.b hd bk done ds→zY τ w st.r st.b hd bk vs xs→
  ∃ow' hd',ze τ lo w0 ow' hd' bk (vB al ks st k done vs).1 a w∧zY τ w (vB al ks st k done vs).1.r (vB al ks st k done vs).1.b hd' bk (vB al ks st k done vs).2 (ds++xs)
 | [],st,ow,hd,k,done,vs,ds,xs,h,hd1,hv=>⟨ow,hd,h,by simpa [vB]using qy hd1 hv⟩
 |c::ks,st,ow,hd,k,done,[],ds,xs,h,hd1,hv=>⟨ow,hd,h,by simpa [vB]using qy hd1 hv⟩
 |c::ks,st,ow,hd,k,done,v::vs,ds,xs,h,hd1,hv=>by
  simp only [zY]at hv
  obtain⟨x,xs',rfl,h1,h2⟩:=hv
  obtain⟨ow1,hd',r1,r2,r3,-⟩:=Xb h al c k h1
  obtain⟨ow2,hd2,s1,s2⟩:=VM al ks (hom al c st k v).1 ow1 hd' (k+1) ((hom al c st k v).2.2 done++ [(hom al c st k v).2.1]) ((hom al c st k v).2.2 vs) (ds++ [x]) xs' r1 (qy (r3 done ds hd1) (by simp only [zY];exact⟨x,[],rfl,r2,rfl⟩)) (r3 vs xs' h2)
  exact⟨ow2,hd2,s1,by simpa [vB]using s2⟩
theorem Jg {rr:List (Nat×zr)}{bb:List (Nat×List AV)}{v:AV}{x:Value}(h:Kv v=true)(hv:AvR τ w rr bb hd bk v x):x.oneCell'=true∧x.cells= #[x]:=by
 cases v<;>simp only [Kv]at h<;>try(cases h;done)
 case int=>simp only [AvR]at hv;subst hv;exact⟨rfl,rfl⟩
 case bool=>simp only [AvR]at hv;subst hv;exact⟨rfl,rfl⟩
 case nil=>simp only [AvR]at hv;subst hv;exact⟨rfl,rfl⟩
 case sl=>simp only [AvR]at hv;obtain⟨⟨A,n,c,rfl⟩,-⟩:=hv;exact⟨rfl,rfl⟩
 case ep=>simp only [AvR]at hv;obtain⟨⟨q,rfl⟩,-⟩:=hv;exact⟨rfl,rfl⟩
 case bp=>simp only [AvR]at hv;obtain⟨⟨q,rfl⟩,-⟩:=hv;exact⟨rfl,rfl⟩
 case fn=>simp only [AvR]at hv;obtain⟨cs,rfl,-⟩:=hv;exact⟨rfl,rfl⟩
theorem YL (h:ze τ lo w0 ow hd bk st a w){b i:Nat}{cells vs:List AV}{cs us:List Value}{ty:TypeId}(hB:lk st.b b=some cells)(hg:w.heap[bk b]? =some (.cells cs.toArray ty (0,0)))(hi:i+vs.length≤cells.length)(hcl:zY τ w st.r st.b hd bk cells cs)
  (hv:zY τ w st.r st.b hd bk vs us):ze τ lo w0 ow hd bk (st.setB b (lay cells i vs)) a (w.setRow (bk b) (lay cs i us).toArray):=by
 obtain⟨cs0,ty0,g1,g2,-⟩:=h.box b cells hB
 have hlt:bk b<w.heap.size:=(Array.getElem?_eq_some_iff.1 hg).1
 have hoth: ∀k,k≠bk b→(w.setRow (bk b) (lay cs i us).toArray).heap[k]? =w.heap[k]? :=fun k hk=>setRow_other w _ k _ hk
 have hsz:(w.setRow (bk b) (lay cs i us).toArray).heap.size=w.heap.size:=by simp
 have hlow:=h.ge (bk b) _ hlt g2 (by simp)
 have hrel: ∀d R,lk st.r d=some R→∀b',rel (md R.o d) (ow b')→b'≠bk b:=fun d R hR b' hr e=>by
  subst e
  rw [g2]at hr
  cases ho:R.o<;>rw [ho]at hr<;>simp only [md,rel]at hr
  ·cases hr
  ·obtain⟨q,hq⟩:=hr;cases hq
  ·rcases hr with hr|hr<;>cases hr
 have hD: ∀d,noB d=false→yq w (w.setRow (bk b) (lay cs i us).toArray) st.r (st.setB b (lay cells i vs)).r hd hd d:=fun d _ R hR=>⟨R,hR,rfl,fun p hp=>⟨hp,xE p _ _ _ _ (h.root d R hR) hp (fun b' o A n c hb hr hc=>by
  rw [xe (hoth b' (hrel d R hR b' hr))];exact hc)⟩⟩
 have hKB: ∀t,noB t=false→yp st.b (st.setB b (lay cells i vs)).b bk bk t:=fun t _ hl=>by
  simp only [St.setB,zd]at hl
  by_cases e:b=t
  ·subst e;exact⟨⟨_,hB⟩,rfl⟩
  ·rw [if_neg e]at hl;exact⟨hl,rfl⟩
 refine⟨h.big,h.defers,h.size,by rw [hsz];exact h.low,?_,fun b' p hb hp hne=>h.ge b' p (by rw [hsz]at hb;exact hb) hp hne,fun b' hb=>h.new b' (by rw [hsz]at hb;exact hb),fun k v hv=> ?_,fun d R hR=> ?_,fun t ws hv'=> ?_,fun d R i hR hp=>h.pin d R i hR hp⟩
 ·exact h.below.step rfl rfl rfl (by rw [hsz];exact Nat.le_refl _) (fun k _ hk=>hoth k (fun e=>hk (by rw [e];exact hlow.2)))
 ·have :=yl hD hKB v _ (h.slot k v hv)
  rwa [qX]at this
 ·exact yE _ _ (by rw [hsz];exact Nat.le_refl _) _ _ _ (fun b' hb hr=>⟨hoth b' (hrel d R hR b' hr),rfl⟩) (h.root d R hR)
 ·simp only [St.setB,zd]at hv'
  split at hv'
  ·rename_i e;subst e;cases hv'
   have k1:=yA hD hKB _ _ (ug hi hcl hv)
   rw [xF]at k1
   exact⟨lay cs i us,ty,setRow_heap w _ _ _ _ _ hg,g2,k1⟩
  ·rename_i e
   obtain⟨cs',ty',k1,k2,k3⟩:=h.box t ws hv'
   have hne:bk t≠bk b:=fun e'=>by rw [e',g2]at k2;cases k2;exact e rfl
   have k4:=yA hD hKB _ _ k3
   rw [xF]at k4
   exact⟨cs',ty',by rw [hoth _ hne];exact k1,k2,k4⟩
end
def scE (τ:Ty)(e:TypeId):Bool:=match tk τ e with|some (.sc (.int _),_)=>true|some (.sc .bool,_)=>true|_=>false
def scD :AV→Option D
 | .int k n=>some (.int k n)
 | .bool b=>some (.bool b)
 |_=>none
def KV :List AV→Option (List D)
 | []=>some []
 |v::vs=>match scD v,KV vs with|some d,some ds=>some (d::ds)|_,_=>none
def CK.zeroD :CK→D
 | .int k=> .int k 0
 | .bool=> .bool false
 | .sl e=> .lst e []
def JN (τ:Ty)(st:St)(t:Nat)(ty:TypeId)(l c:AV):Option (St×AV×Prop):=
 match tk τ ty with
 |some (.sc (.sl e),_)=>
  match tk τ e,l,c with
  |some (.sc ck,b), .int _ n, .int _ m=>if b≤64 then some (st.addR (zb t 0) ⟨.ex,e,List.replicate n.toNat ck.zeroD,none⟩, .sl (zb t 0) [] 0 n.toNat e,0≤n∧n≤1048576∧m=n)else none
  |_,_,_=>none
 |_=>none
def UW (τ:Ty)(st:St)(t:Nat)(ty:TypeId)(l c:AV):Option (St×AV×Prop):=
 match tk τ ty with
 |some (.sc (.sl e),_)=>
  match tk τ e,l,c with
  |some (.st cs _,b), .int _ n, .int _ m=>if b≤64∧cs.length≤8 then some (st.addR (zb t 0) ⟨.ex,e,(List.replicate n.toNat (cs.map CK.zeroD)).flatten,none⟩, .sl (zb t 0) [] 0 n.toNat e,0≤n∧n≤1048576∧m=n)else none
  |_,_,_=>none
 |_=>none
def kW (τ:Ty)(st:St)(t:Nat)(ty:TypeId)(len:Nat)(parts:List (Nat×AV)):Option (St×AV×Prop):=
 match tk τ ty with
 |some (.sc (.sl e),_)=>
  if scE τ e=true∧parts.map (·.1)=List.range len∧len≤65536 then
   match KV (parts.map (·.2))with
   |some ds=>some (st.addR (zb t 0) ⟨.ex,e,ds,none⟩, .sl (zb t 0) [] 0 len e,True)
   |none=>none
  else none
 |_=>none
def Qr (τ:Ty)(al:List Nat)(st:St)(ty:TypeId)(p v:AV):Option (St×AV×Prop):=
 match p with
 | .bp b i=>
  match fieldsOf v with
  |some vs=>
   let y:=vB al (cks τ ty) st (zb b i) [] vs
   match lk y.1.b b with
   |some cells=>if sz τ ty=vs.length∧vs.length≠0∧i+vs.length≤cells.length∧y.2.all Kv=true∧y.2.length=vs.length then some (y.1.setB b (lay cells i y.2), .tup [],True)else none
   |none=>none
  |none=>none
 | .ep d q i=>
  match lk st.r d,scD v,tk τ ty with
  |some R,some x,some (.sc c,_)=>
   if scE τ ty=true then
    match R.o,q with
    | .ex,q=>some (st.setR d {R with xs:=qP R.xs q i x}, .tup [],zk R.xs q∧xK c (yI R.xs q) i)
    | .top,[]=>some (st.setR d {R with xs:=qP R.xs [] i x}, .tup [],xK c R.xs i)
    |_,_=>none
   else none
  |_,_,_=>none
 |_=>none
def O3.isSh :O3→Bool
 | .sh=>true
 |_=>false
def St.appG (dl:St→Nat→St)(st:St)(d k:Nat)(R:zr):St:=((dl st d).delR k).addR k R
def US (st:St)(t:Nat)(e:TypeId)(v:AV):St:=match v with| .nil=>st.addR (zb t 1) ⟨.ex,e,[],none⟩|_=>st
def UT (t:Nat)(e:TypeId)(v:AV):AV:=match v with| .nil=>AV.sl (zb t 1) [] 0 0 e|v=>v
def appG (dl:St→Nat→St)(τ:Ty)(st:St)(t:Nat)(ty:TypeId)(X Y:Operand):Option (St×AV×Prop):=
 match tk τ ty with
 |some (.sc (.sl e),_)=>
  let st0:=US st t e (ev st X)
  let x:=UT t e (ev st X)
  match x with
  | .sl d [] 0 len e1=>
   match lk st0.r d,tk τ e with
   |some R,some (_,by_)=>
    if R.o.isSh=false∧R.e=e∧e1=e∧by_≤64∧scE τ e=true then
     match ev st0 Y with
     | .nil=>some (st0.appG dl d (zb t 0) ⟨R.o,R.e,R.xs.take len++ [],none⟩, .sl (zb t 0) [] 0 len e,len≤1073741824)
     | .sl d2 p2 off len2 e2=>
      match lk st0.r d2 with
      |some R2=>if e2=e then some (st0.appG dl d (zb t 0) ⟨R.o,R.e,R.xs.take len++((yI R2.xs p2).drop off).take len2,none⟩, .sl (zb t 0) [] 0 (len+len2) e,zk R2.xs p2∧vF R2.e R2.xs p2=e∧(((yI R2.xs p2).drop off).take len2).all xS=true∧len+len2≤1073741824)else none
      |none=>none
     |_=>none
    else none
   |_,_=>none
  |_=>none
 |_=>none
def appE (τ:Ty)(st:St)(t:Nat)(ty:TypeId)(X Y:Operand):Option (St×AV×Prop):=appG St.delR τ st t ty X Y
def effM (τ:Ty)(al:List Nat)(o:Oper)(st:St):Option (St×AV×Prop):=
 match o.op with
 | .assign x=>
  match tk τ o.type,o.dst with
  |some (.sc (.sl e),_),some d=>let y:=hom al (.sl e) st (zb d 0) (ev st x);some (y.1,y.2.1,True)
  |_,_=>some (st,ev st x,True)
 | .box e x=>
  match o.dst,fieldsOf (ev st x)with
  |some t,some vs=>some (JA τ st t e vs, .bp t 0,t<1000000)
  |_,_=>none
 | .alloc e=>
  match o.dst,tk τ e with
  |some t,some (k,_)=>some (JA τ st t e (k.cells.map wa), .bp t 0,t<1000000)
  |_,_=>none
 | .makeSlice ty l c=>
  match o.dst with
  |some t=>match JN τ st t ty (ev st l) (ev st c)with|some z=>some z|none=>UW τ st t ty (ev st l) (ev st c)
  |none=>none
 | .buildSlice ty len parts=>
  match o.dst with
  |some t=>kW τ st t ty len (parts.toList.map fun x=>(x.1,ev st x.2))
  |none=>none
 | .store ty p v=>Qr τ al st ty (ev st p) (ev st v)
 | .call c=>
  match c.callee with
  | .builtin .append=>
   match o.dst,c.args.toList,c.argTypes.toList with
   |some t,[x,y],[t1,t2]=>if t1=t2 then appE τ st t t1 x y else none
   |_,_,_=>none
  |_=>(qF τ o st).map fun y=>(st,y.1,y.2)
 |_=>(qF τ o st).map fun y=>(st,y.1,y.2)
section
variable {P:Program} {τ:Ty} {lo:Nat} {w0:Fz} {ow:Nat→Option Pl} {hd:Nat→Value} {bk:Nat→Nat} {st:St} {a:Act} {w:World}
def vA (P:Program)(τ:Ty)(lo:Nat)(w0:Fz)(a:Act)(w:World)(o:Oper)(st':St)(v:AV):Prop:=
 ∃z w' ow' hd' bk',((execOp a.eval o).run P w= .ok (.value z) w'∨((execOp a.eval o).run P w= .ok .skip w'∧z=undef))∧ze τ lo w0 ow' hd' bk' st' a w'∧AvR τ w' st'.r st'.b hd' bk' v z
theorem zBR {e:TypeId}(h:scE τ e=true): ∃c b,tk τ e=some (.sc c,b)∧(∀e',c≠ .sl e'):=by
 unfold scE at h
 split at h
 ·rename_i k b ht;exact⟨_,_,ht,by simp⟩
 ·rename_i b ht;exact⟨_,_,ht,by simp⟩
 ·cases h
theorem ux {S:TypeId→Nat}{m:Md}{v:AV}{x:Value}{d:D}(h:scD v=some d)(hv:AvR τ w st.r st.b hd bk v x):xS d=true∧Rp S lo w ow m d x:=by
 cases v<;>simp only [scD]at h<;>try(cases h;done)
 ·cases h;simp only [AvR]at hv;subst hv;exact⟨rfl,by simp only [Rp]⟩
 ·cases h;simp only [AvR]at hv;subst hv;exact⟨rfl,by simp only [Rp]⟩
theorem jf {S:TypeId→Nat}{m:Md}: ∀{vs:List AV} {xs:List Value} {ds:List D},KV vs=some ds→zY τ w st.r st.b hd bk vs xs→xs.length=ds.length∧∀(i:Nat) (d:D) (x:Value),ds[i]? =some d→xs[i]? =some x→xS d=true∧Rp S lo w ow m d x
 | [],xs,ds,h,hv=>by simp only [KV,Option.some.injEq]at h;subst h;simp only [zY]at hv;subst hv;exact⟨rfl,fun i d x h=>by simp at h⟩
 |v::vs,xs,ds,h,hv=>by
  simp only [KV]at h
  simp only [zY]at hv
  obtain⟨x,xs',rfl,h1,h2⟩:=hv
  split at h
  ·rename_i d ds' e1 e2
   cases h
   obtain⟨h3,h4⟩:=jf e2 h2
   refine⟨by simp [h3],fun i d' x' hd hx=> ?_⟩
   cases i with
   |zero=>simp at hd hx;subst hd;subst hx;exact ux e1 h1
   |succ i=>exact h4 i d' x' (by simpa using hd) (by simpa using hx)
  ·cases h
theorem Yo (hτ:zx P τ){t:TypeId}{c:CK}{b:Nat}(h:tk τ t=some (.sc c,b)): ∃i,P.info? t=some i∧i.size=1∧i.zero=some c.zero∧i.bytes=b:=by
 obtain⟨_,i,a1,a2,a3,a4,a5⟩:=yM hτ h
 exact⟨i,a1,a2,a3,a4⟩
theorem QU {rr:List (Nat×zr)}{bb:List (Nat×List AV)}{k:Nat}{g n:Nat}{e:TypeId}(hn:n≤maxLen):AvR τ w rr bb (upd hd k (.slice (some ⟨g,0,none⟩) n n)) bk (.sl k [] 0 n e) (.slice (some ⟨g,0,none⟩) n n):=by
 simp only [AvR]
 refine⟨⟨_,_,_,rfl⟩,fun R hR hp=>⟨.slice (some ⟨g,0,none⟩) n n,by simp only [yC,yF],some ⟨g,0,none⟩,n,n,some ⟨g,0,none⟩,n,nw0,rfl,rfl,by omega,Nat.le_refl _,hn,fun _=>⟨rfl,rfl⟩,fun _=>⟨g,0,rfl,by simp⟩⟩⟩
theorem UK (z:Value)(n:Nat):madeCells #[z] n=(List.replicate n z).toArray:=by
 apply Array.ext_getElem?
 intro i
 simp [madeCells,List.getElem?_replicate]
 by_cases h:i<n
 ·simp [h,Nat.mod_one]
 ·simp [h]
theorem Jn (hτ:zx P τ)(h:ze τ lo w0 ow hd bk st a w){o:Oper}{t:Nat}{ty:TypeId}{l c:Operand}(ho:o.op= .makeSlice ty l c){st':St}{v:AV}{ob:Prop}(he:JN τ st t ty (ev st l) (ev st c)=some (st',v,ob))(hob:ob):vA P τ lo w0 a w o st' v:=by
 unfold JN at he
 split at he
 ·rename_i e b1 ht
  have hu:P.underlying ty=some (.slice e):=(yM hτ ht).1
  split at he
  ·rename_i ck b k1 n k2 m h1 h2 h3
   split at he
   ·rename_i hb64
    simp only [Option.some.injEq,Prod.mk.injEq]at he
    obtain⟨rfl,rfl,rfl⟩:=he
    obtain⟨hn0,hn1,rfl⟩:=hob
    obtain⟨i,i1,i2,i3,i4⟩:=Yo hτ h1
    have el:=zZ h l
    have ec:=zZ h c
    rw [h2]at el;rw [h3]at ec
    simp only [AvR]at el ec
    have hbytes:(i.bytes:Int)*m≤281474976710656:=by
     rw [i4]
     have :(b:Int)*m≤64*1048576:=Int.mul_le_mul (by omega) hn1 hn0 (by omega)
     omega
    have hr:=run_makeSlice (P:=P) (w:=w) ty e i ck.zero hu i1 i3 k1 k2 m m hn0 (Int.le_refl _) (by rw [i2];omega) hbytes (by omega)
    have hz:ck.zero.cells= #[ck.zero]:=by cases ck<;>rfl
    rw [hz,i2,Nat.mul_one,UK]at hr
    obtain⟨ow',hrel⟩:=Vv h (zb t 0) e (List.replicate m.toNat ck.zeroD) (List.replicate m.toNat ck.zero) m.toNat (by rw [List.length_replicate,Yk h1,Nat.mul_one]) (by simp) (by unfold maxLen;omega) (fun i x v hx hv=>by
     rw [List.getElem?_replicate]at hx hv
     split at hx
     ·cases hx
      rename_i hi
      rw [if_pos hi]at hv;cases hv
      cases ck with
      |int k=>left;exact⟨rfl,by simp only [CK.zeroD,CK.zero,Rp]⟩
      |bool=>left;exact⟨rfl,by simp only [CK.zeroD,CK.zero,Rp]⟩
      |sl e=>right;exact⟨e,rfl,rfl⟩
     ·cases hx)
    refine⟨_,_,ow',_,bk, .inl ?_,hrel,QU (by unfold maxLen;omega)⟩
    obtain⟨dst,op,oty,pos,after,guard⟩:=o
    simp only at ho;subst ho
    simp only [execOp,el,ec]
    rw [Sem.run_bind,hr,Result.andThen_ok,Sem.run_pure]
   ·cases he
  ·cases he
 ·cases he
theorem KD {α:Type}(zs:List α): ∀(n i:Nat),(List.replicate n zs).flatten[i]? =if i<n*zs.length then zs[i%zs.length]? else none
 |0,i=>by simp
 |n+1,i=>by
  rw [List.replicate_succ,List.flatten_cons]
  have e:(n+1)*zs.length=n*zs.length+zs.length:=by rw [Nat.add_mul,Nat.one_mul]
  by_cases h:i<zs.length
  ·rw [List.getElem?_append_left h,Nat.mod_eq_of_lt h,if_pos (by omega)]
  ·rw [List.getElem?_append_right (by omega),KD zs n,←Nat.mod_eq_sub_mod (by omega)]
   by_cases h2:i<(n+1)*zs.length
   ·rw [if_pos (by omega),if_pos h2]
   ·rw [if_neg (by omega),if_neg h2]
theorem zAv {α:Type}(zs:List α)(n:Nat):(List.replicate n zs).flatten.length=n*zs.length:=by simp
theorem kZ (zs:List Value)(n:Nat):madeCells zs.toArray (n*zs.length)=((List.replicate n zs).flatten).toArray:=by
 apply Array.ext_getElem?
 intro i
 rw [show((List.replicate n zs).flatten.toArray)[i]? =(List.replicate n zs).flatten[i]? from List.getElem?_toArray ..,KD]
 by_cases h:i<n*zs.length
 ·have h0:0<zs.length:=by
   rcases Nat.eq_zero_or_pos zs.length with e|e
   ·rw [e]at h;omega
   ·exact e
  have h1:=Nat.mod_lt i h0
  rw [if_pos h]
  simp [madeCells,h]
  rw [List.getElem?_eq_getElem h1]
  simp
 ·rw [if_neg h]
  simp [madeCells,h]
theorem zI9 (hτ:zx P τ){t:TypeId}{cs:List CK}{fs:List (Nat×TypeId)}{b:Nat}(h:tk τ t=some (.st cs fs,b)): ∃i,P.info? t=some i∧i.size=cs.length∧i.zero=some (.agg (cs.map CK.zero).toArray)∧i.bytes=b:=by
 obtain⟨_,_,_,i,a1,a2,a3,a4,a5⟩:=yM hτ h
 exact⟨i,a1,a2,a3,a4⟩
theorem zB6 (hτ:zx P τ)(h:ze τ lo w0 ow hd bk st a w){o:Oper}{t:Nat}{ty:TypeId}{l c:Operand}(ho:o.op= .makeSlice ty l c){st':St}{v:AV}{ob:Prop}(he:UW τ st t ty (ev st l) (ev st c)=some (st',v,ob))(hob:ob):vA P τ lo w0 a w o st' v:=by
 unfold UW at he
 split at he
 ·rename_i e b1 ht
  have hu:P.underlying ty=some (.slice e):=(yM hτ ht).1
  split at he
  ·rename_i cs fs b k1 n k2 m h1 h2 h3
   split at he
   ·rename_i hb64
    simp only [Option.some.injEq,Prod.mk.injEq]at he
    obtain⟨rfl,rfl,rfl⟩:=he
    obtain⟨hn0,hn1,rfl⟩:=hob
    obtain⟨i,i1,i2,i3,i4⟩:=zI9 hτ h1
    have el:=zZ h l
    have ec:=zZ h c
    rw [h2]at el;rw [h3]at ec
    simp only [AvR]at el ec
    have hbytes:(i.bytes:Int)*m≤281474976710656:=by
     rw [i4]
     have :(b:Int)*m≤64*1048576:=Int.mul_le_mul (by omega) hn1 hn0 (by omega)
     omega
    have hsz:m.toNat*i.size≤16777216:=by
     rw [i2]
     have :m.toNat*cs.length≤1048576*8:=Nat.mul_le_mul (by omega) hb64.2
     omega
    have hr:=run_makeSlice (P:=P) (w:=w) ty e i _ hu i1 i3 k1 k2 m m hn0 (Int.le_refl _) hsz hbytes (by omega)
    have hz:(Value.agg (cs.map CK.zero).toArray).cells=(cs.map CK.zero).toArray:=rfl
    rw [hz,i2,show cs.length=(cs.map CK.zero).length from by simp,kZ]at hr
    obtain⟨ow',hrel⟩:=Vv h (zb t 0) e (List.replicate m.toNat (cs.map CK.zeroD)).flatten (List.replicate m.toNat (cs.map CK.zero)).flatten m.toNat (by rw [zAv,Ud h1,List.length_map]) (by simp) (by unfold maxLen;omega) (fun i x v hx hv=>by
     rw [KD]at hx hv
     rw [List.length_map]at hx hv
     split at hx
     ·rename_i hi
      rw [if_pos hi]at hv
      rw [List.getElem?_map]at hx hv
      cases hk:cs[i%cs.length]? with
      |none=>rw [hk]at hx;cases hx
      |some ck=>
       rw [hk]at hx hv
       cases hx;cases hv
       cases ck with
       |int k=>left;exact⟨rfl,by simp only [CK.zeroD,CK.zero,Rp]⟩
       |bool=>left;exact⟨rfl,by simp only [CK.zeroD,CK.zero,Rp]⟩
       |sl e=>right;exact⟨e,rfl,rfl⟩
     ·cases hx)
    refine⟨_,_,ow',_,bk, .inl ?_,hrel,QU (by unfold maxLen;omega)⟩
    obtain⟨dst,op,oty,pos,after,guard⟩:=o
    simp only at ho;subst ho
    simp only [execOp,el,ec]
    rw [Sem.run_bind,hr,Result.andThen_ok,Sem.run_pure]
   ·cases he
  ·cases he
 ·cases he
theorem kq {xs:List Value}{k:Nat}{u:Value}(h:k<xs.length):(xs.set k u).take (k+1)=xs.take k++ [u]:=by
 apply List.ext_getElem?
 intro i
 rw [List.getElem?_take]
 by_cases h1:i<k+1
 ·rw [if_pos h1,List.getElem?_set]
  by_cases h2:k=i
  ·subst h2
   rw [if_pos rfl,if_pos h,List.getElem?_append_right (by simp;omega)]
   simp [Nat.min_eq_left (Nat.le_of_lt h)]
  ·rw [if_neg h2,List.getElem?_append_left (by simp;omega),List.getElem?_take,if_pos (by omega)]
 ·rw [if_neg h1,List.getElem?_eq_none (by simp;omega)]
theorem jB : ∀(vs:List Value) (k:Nat) (cs:Array Value),cs.size=k+vs.length→(∀v∈vs,v.cells= #[v])→
  Instr.fill (fun i=>some (i*1,1)) cs ((vs.zipIdx k).map fun x=>(x.2,x.1))=some (cs.toList.take k++vs).toArray
 | [],k,cs,hs,_=>by
  simp only [List.zipIdx_nil,List.map_nil,Instr.fill,Option.some.injEq,List.append_nil]
  rw [List.take_of_length_le (by simp at hs;simp;omega)]
 |v::vs,k,cs,hs,hv=>by
  simp only [List.length_cons]at hs
  have hc:=hv v (by simp)
  simp only [List.zipIdx_cons,List.map_cons,Instr.fill,Nat.mul_one,hc]
  rw [if_neg (by simp;omega)]
  have :(#[v].zipIdx.foldl (fun cs (x:Value×Nat)=>cs.setIfInBounds (k+x.2) x.1) cs)=cs.setIfInBounds k v:=by simp
  rw [this]
  have rec_:=jB vs (k+1) (cs.setIfInBounds k v) (by simp;omega) (fun u hu=>hv u (by simp [hu]))
  simp only [Nat.mul_one]at rec_
  rw [rec_]
  congr 2
  rw [Array.toList_setIfInBounds,kq (by simp;omega)]
  simp
theorem jK (hτ:zx P τ)(h:ze τ lo w0 ow hd bk st a w){o:Oper}{t:Nat}{ty:TypeId}{len:Nat}{parts:Array (Nat×Operand)}(ho:o.op= .buildSlice ty len parts){st':St}{v:AV}{ob:Prop}
  (he:kW τ st t ty len (parts.toList.map fun x=>(x.1,ev st x.2))=some (st',v,ob)):vA P τ lo w0 a w o st' v:=by
 unfold kW at he
 split at he
 ·rename_i e b1 ht
  have hu:P.underlying ty=some (.slice e):=(yM hτ ht).1
  split at he
  ·rename_i hc
   obtain⟨hsc,hidx,hlen⟩:=hc
   obtain⟨ck,b,htk,hne⟩:=zBR hsc
   obtain⟨i,i1,i2,i3,i4⟩:=Yo hτ htk
   split at he
   ·rename_i ds hds
    simp only [Option.some.injEq,Prod.mk.injEq]at he
    obtain⟨rfl,rfl,rfl⟩:=he
    rw [List.map_map]at hds hidx
    have hav:zY τ w st.r st.b hd bk (parts.toList.map ((fun x:Nat×AV=>x.2) ∘ fun x=>(x.1,ev st x.2))) (parts.toList.map fun x=>a.eval x.2):=zp.2 ⟨by simp,fun i v x hv hx=>by
     rw [List.getElem?_map]at hv hx
     cases hk:parts.toList[i]? with
     |none=>rw [hk]at hv;cases hv
     |some p=>rw [hk]at hv hx;cases hv;cases hx;exact zZ h _⟩
    obtain⟨q1,q2⟩:=jf (S:=sz τ) (m:= .sh) (lo:=lo) (ow:=ow) hds hav
    have hpl:parts.size=len:=by have :=congrArg List.length hidx;simpa using this
    have hdl:ds.length=len:=by rw [←q1];simp [hpl]
    have hz:ck.zero.cells= #[ck.zero]:=by cases ck<;>rfl
    have hcells: ∀v∈(parts.toList.map fun x=>a.eval x.2),v.cells= #[v]:=fun v hv=>by
     obtain⟨j,hj⟩:=List.getElem?_of_mem hv
     have hjl:=(List.getElem?_eq_some_iff.1 hj).1
     have hds':ds[j]? =some (ds[j]'(by rw [←q1];exact hjl)):=List.getElem?_eq_getElem _
     obtain⟨q3,q4⟩:=q2 j _ _ hds' hj
     cases hd':ds[j]'(by rw [←q1];exact hjl)with
     |int k n=>rw [hd']at q4;simp only [Rp]at q4;subst q4;rfl
     |bool b=>rw [hd']at q4;simp only [Rp]at q4;subst q4;rfl
     |hole=>rw [hd']at q3;cases q3
     |lst e xs=>rw [hd']at q3;cases q3
    have hparts:(parts.map fun(x:Nat×Operand)=>(x.1,a.eval x.2)).toList=((parts.toList.map fun x=>a.eval x.2).zipIdx 0).map fun x=>(x.2,x.1):=by
     apply List.ext_getElem?
     intro j
     simp only [Array.toList_map,List.getElem?_map,List.getElem?_zipIdx]
     cases hk:parts.toList[j]? with
     |none=>simp
     |some p=>
      have :=congrArg (fun l=>l[j]?) hidx
      simp only [List.getElem?_map,hk,Option.map_some,Function.comp]at this
      have hj:j<len:=by rw [←hpl];simpa using (List.getElem?_eq_some_iff.1 hk).1
      rw [List.getElem?_range hj]at this
      simp at this
      simp [this]
    have hfill:=jB (parts.toList.map fun x=>a.eval x.2) 0 ((Array.range (len*1)).map (#[ck.zero][· %(#[ck.zero]:Array Value).size]!)) (by simp [hpl]) hcells
    have hrun:(Instr.buildSlice ty len (parts.map fun(x:Nat×Operand)=>(x.1,a.eval x.2))).run P w= .ok (.slice (some ⟨w.heap.size,0,none⟩) len len) (w.alloc (.cells (parts.toList.map fun x=>a.eval x.2).toArray e)):=by
     unfold Instr.buildSlice
     simp only [Sem.run_bind,run_underlying hu,Result.andThen_ok,Wi hτ htk,Nat.mul_one]
     rw [if_neg (by omega)]
     by_cases hl0:len=0
     ·subst hl0
      have hp0:parts= #[]:=Array.eq_empty_of_size_eq_zero hpl
      subst hp0
      have hr0: ∀f:Nat→Value,Array.map f (Array.range 0)= #[]:=fun f=>Array.eq_empty_of_size_eq_zero (by simp)
      simp [newRow,newObj,Instr.fill,Sem.run,hr0]
     ·have hzero:(zeroValue e).run P w= .ok ck.zero w:=by simp [zeroValue,typeInfo,i1,i3]
      simp only [if_neg hl0,Sem.run_bind,hzero,Result.andThen_ok,Sem.run_pure,hz]
      rw [hparts]
      simp only [Nat.mul_one]at hfill
      simp only [Nat.mul_one,hfill]
      simp [newRow,newObj,Sem.run]
    obtain⟨ow',hrel⟩:=Vv h (zb t 0) e ds (parts.toList.map fun x=>a.eval x.2) len (by rw [hdl,Yk htk,Nat.mul_one]) q1 (by unfold maxLen;omega) (fun i x v hx hv=> .inl (q2 i x v hx hv))
    refine⟨_,_,ow',_,bk, .inl ?_,hrel,QU (by unfold maxLen;omega)⟩
    obtain⟨dst,op,oty,pos,after,guard⟩:=o
    simp only at ho;subst ho
    simp only [execOp]
    rw [Sem.run_bind,hrun,Result.andThen_ok,Sem.run_pure]
   ·cases he
  ·cases he
 ·cases he
theorem Zf {w:World}{g:Nat}{cs us:List Value}{i:Nat}:w.setRow g (cs.toArray.toList.take (i+0)++us++cs.toArray.toList.drop (i+0+us.length)).toArray=w.setRow g (lay cs i us).toArray:=by
 simp [lay]
theorem Wl (hτ:zx P τ)(hpos:yL τ)(h:ze τ lo w0 ow hd bk st a w){al:List Nat}{o:Oper}{ty:TypeId}{p x:Operand}(ho:o.op= .store ty p x){st':St}{v:AV}{ob:Prop}
  (he:Qr τ al st ty (ev st p) (ev st x)=some (st',v,ob)) (hob:ob):vA P τ lo w0 a w o st' v:=by
 have hp:=zZ h p
 have hx:=zZ h x
 have fin: ∀{w':World} {st':St} {ow' hd' bk'},(Instr.storeAt ty (a.eval p) (a.eval x)).run P w= .ok () w'→ze τ lo w0 ow' hd' bk' st' a w'→vA P τ lo w0 a w o st' (.tup []):=fun{w' st' ow' hd' bk'} hr hrel=>by
  refine⟨undef,w',ow',hd',bk', .inr ⟨?_,rfl⟩,hrel,by simp only [AvR];exact⟨[],rfl,by simp [zY]⟩⟩
  obtain⟨dst,op,oty,pos,after,guard⟩:=o
  simp only at ho;subst ho
  simp only [execOp]
  rw [Sem.run_bind,hr,Result.andThen_ok,Sem.run_pure]
 unfold Qr at he
 split at he
 ·rename_i b i hbp
  split at he
  ·rename_i vs hvs
   obtain⟨us,hus,hur⟩:=xu hvs hx
   obtain⟨ow1,hd1,r1,r2⟩:=VM al (cks τ ty) st ow hd (zb b i) [] vs [] us h (by simp [zY]) hur
   simp only at he
   split at he
   ·rename_i cells hcells
    split at he
    ·rename_i hc
     obtain⟨c1,c0,c2,c3,c4⟩:=hc
     simp only [Option.some.injEq,Prod.mk.injEq]at he
     obtain⟨rfl,rfl,rfl⟩:=he
     obtain⟨cs,tyb,g1,g2,g3⟩:=r1.box b cells hcells
     simp only [List.nil_append]at r2
     have hul:=qb (st:=(vB al (cks τ ty) st (zb b i) [] vs).1) r2
     have hcl:=qb (st:=(vB al (cks τ ty) st (zb b i) [] vs).1) g3
     have hrel:=YL r1 hcells g1 (i:=i) (by omega) g3 r2
     have hone: ∀u∈us,u.oneCell'=true:=fun u hu=>by
      obtain⟨j,hj⟩:=List.getElem?_of_mem hu
      have hjl:=(List.getElem?_eq_some_iff.1 hj).1
      have hv':=List.getElem?_eq_getElem (l:=(vB al (cks τ ty) st (zb b i) [] vs).2) (i:=j) (by omega)
      exact(Jg (List.all_eq_true.1 c3 _ (List.mem_of_getElem? hv')) ((zp.1 r2).2 j _ u hv' hj)).1
     refine fin (w':=w.setRow (bk b) (lay cs i us).toArray) ?_ hrel
     have hlive: ∃cs',lk st.b b=some cs':=by
      cases hb:lk st.b b with
      |some c=>exact⟨c,rfl⟩
      |none=>
       exfalso
       have key: ∀(ks:List CK) (st:St) (k:Nat) (done vs:List AV),lk st.b b=none→lk (vB al ks st k done vs).1.b b=none:=by
        intro ks
        induction ks with
        |nil=>intro st k done vs h;simpa [vB]using h
        |cons c ks ih=>
         intro st k done vs h
         cases vs with
         |nil=>simpa [vB]using h
         |cons v vs=>
          simp only [vB]
          apply ih
          unfold hom
          split
          ·split<;>simp [St.addR,St.kill,zz,h]
          ·split
           ·exact h
           ·split
            ·simp [St.moveR,St.addR,St.delR,St.kill,zz,h]
            ·exact h
          ·exact h
       rw [key _ _ _ _ _ hb]at hcells
       cases hcells
     rw [hbp]at hp
     simp only [AvR]at hp
     have hpe:=hp.2 hlive
     have hst:=run_storeCells_at P (bk b) i tyb us 0 cs.toArray w g1 (by simp;omega) hone
     rw [Zf]at hst
     have hsz:(a.eval x).cells.size=sz τ ty:=by rw [hus,c1];simp;omega
     unfold Instr.storeAt
     rw [Sem.run_bind,hpe]
     simp only [Instr.sureAddr,Sem.run_pure,Result.andThen_ok,storeVar,Sem.run_bind]
     have hz:sz τ ty≠0:=by omega
     ·rw [xf hτ hz]
      simp only [Result.andThen_ok]
      rw [if_neg (by simp [hsz]),hus]
      exact hst
    ·cases he
   ·cases he
  ·cases he
 ·rename_i d q i hep
  split at he
  ·rename_i R x' c by_ hR hx' ht
   split at he
   ·rename_i hsc
    obtain⟨ck,b',htk,hne⟩:=zBR hsc
    rw [ht]at htk
    cases htk
    obtain⟨q1,q2⟩:=ux (S:=sz τ) (lo:=lo) (ow:=ow) (m:= .sh) hx' hx
    have hcells:(a.eval x).cells= #[a.eval x]∧(a.eval x).oneCell'=true:=by
     cases x' with
     |int k n=>simp only [Rp]at q2;rw [q2];exact⟨rfl,rfl⟩
     |bool b=>simp only [Rp]at q2;rw [q2];exact⟨rfl,rfl⟩
     |hole=>cases q1
     |lst e xs=>cases q1
    have go: ∀(q:List Nat),ev st p= .ep d q i→(R.o= .ex∨(R.o= .top∧q= []))→zk R.xs q→xK c (yI R.xs q) i→vA P τ lo w0 a w o (st.setR d {R with xs:=qP R.xs q i x'}) (.tup []):=fun q hep hm hpth hhas=>by
     rw [hep]at hp
     simp only [AvR]at hp
     obtain⟨b,oo,n,cc,hin,hpe⟩:=hp.2 R hR hpth
     have hy: ∃y,(yI R.xs q)[i]? =some y∧xS y=true:=by
      cases c with
      |int k=>obtain⟨z,hz⟩:=hhas;exact⟨_,hz,rfl⟩
      |bool=>obtain⟨z,hz⟩:=hhas;exact⟨_,hz,rfl⟩
      |sl e=>exact absurd rfl (hne e)
     obtain⟨y,hy1,hy2⟩:=hy
     obtain⟨s1,s2,old,s3⟩:=zDY h hR hm hpth hy1 hy2 q1 q2 hin
     refine fin ?_ s1
     unfold Instr.storeAt
     rw [Sem.run_bind,hpe]
     simp only [Instr.sureAddr,Sem.run_pure,Result.andThen_ok,storeVar,Sem.run_bind]
     rw [Wi hτ ht]
     simp only [Result.andThen_ok]
     rw [if_neg (by simp [hcells.1]),hcells.1]
     simp only [storeCells,Sem.run_bind]
     rw [show(⟨b,oo+i,none⟩:Addr).add 0=⟨b,oo+i,none⟩from rfl,run_store P w _ _ _ hcells.2,s3]
     simp [s2]
    split at he
    ·rename_i q' ho'
     simp only [Option.some.injEq,Prod.mk.injEq]at he
     obtain⟨rfl,rfl,rfl⟩:=he
     exact go _ hep (.inl ho') hob.1 hob.2
    ·rename_i ho'
     simp only [Option.some.injEq,Prod.mk.injEq]at he
     obtain⟨rfl,rfl,rfl⟩:=he
     exact go [] hep (.inr ⟨ho',rfl⟩) (by simp [zk]) hob
    ·cases he
   ·cases he
  ·cases he
 ·cases he
theorem Kn {dl:St→Nat→St}(hdl0: ∀(st:St) (ow:Nat→Option Pl) (hd:Nat→Value) (d:Nat),ze τ lo w0 ow hd bk st a w→ze τ lo w0 ow hd bk (dl st d) a w∧lk (dl st d).r d=none)(hτ:zx P τ)(h:ze τ lo w0 ow hd bk st a w){o:Oper}{t:Nat}{ty:TypeId}{X Y:Operand}(hrun: ∀v w',(Builtin.append_ #[ty,ty] o.type #[a.eval X,a.eval Y]).run P w= .ok v w'→(execOp a.eval o).run P w= .ok (.value v) w'){st':St}{v:AV}{ob:Prop}
  (he:appG dl τ st t ty X Y=some (st',v,ob)) (hob:ob):vA P τ lo w0 a w o st' v:=by
 unfold appG at he
 split at he
 ·rename_i e b1 ht
  simp only at he
  -- the base as an object
  obtain⟨st0,ow0,hd0,x0,e0,ex0,h0,hx0⟩: ∃st0 ow0 hd0 x0,US st t e (ev st X)=st0∧UT t e (ev st X)=x0∧ze τ lo w0 ow0 hd0 bk st0 a w∧AvR τ w st0.r st0.b hd0 bk x0 (a.eval X):=by
   have hX:=zZ h X
   cases hev:ev st X with
   |nil=>
    rw [hev]at hX
    simp only [AvR]at hX
    refine⟨_,ow,_,_,rfl,rfl,xx h (zb t 1) ⟨.ex,e,[],none⟩ (.slice none 0 0) (vV _ [] e),?_⟩
    rw [hX]
    refine(show AvR τ w _ _ _ _ (AV.sl (zb t 1) [] 0 0 e) _ from ?_)
    simp only [AvR]
    exact⟨⟨_,_,_,rfl⟩,fun R hR hp=>⟨.slice none 0 0,by simp only [yC,yF],none,0,0,none,0,nw0,rfl,rfl,by omega,by omega,by unfold maxLen;omega,fun _=>⟨rfl,rfl⟩,fun h=>absurd rfl h⟩⟩
   |_=>rw [hev]at hX;exact⟨_,ow,hd,_,rfl,rfl,h,hX⟩
  rw [e0,ex0]at he
  split at he
  ·rename_i d len e1
   split at he
   ·rename_i R kt by_ hR htk
    split at he
    ·rename_i hc
     obtain⟨hsh,hRe,rfl,hb64,hsc⟩:=hc
     subst hRe
     obtain⟨ck,b',htk',hne⟩:=zBR hsc
     have hsz1:sz τ R.e=1:=Yk htk'
     simp only [AvR]at hx0
     obtain⟨hv,hin,hsub⟩:=hx0.2 R hR (by simp [zk])
     simp only [yC,Option.some.injEq]at hin
     subst hin
     obtain⟨A,n,c,A',c',hnw,hhd,hval,hle,hlc,hmx,hf0,hA⟩:=hsub
     obtain⟨rfl,rfl⟩:=hf0 rfl
     have hosh:R.o≠ .sh:=fun e=>by rw [e]at hsh;cases hsh
     have hY:=zZ h0 Y
     have use: ∀(m:Nat) (newD:List D) (news:List Value),(∃ad c2,a.eval Y= .slice (some ad) m c2∧∀(j:Nat) u,news[j]? =some u→w.cell? (ad.add j)=some u)∨(m=0∧∃c2,a.eval Y= .slice none 0 c2)→news.length=m→newD.length=news.length→
       (∀(i:Nat) (x:D) (u:Value),newD[i]? =some x→news[i]? =some u→xS x=true∧∃mo,Rp (sz τ) lo w ow0 mo x u)→len+m≤1073741824→vA P τ lo w0 a w o (st0.appG dl d (zb t 0) ⟨R.o,R.e,R.xs.take len++newD,none⟩) (.sl (zb t 0) [] 0 (len+m) R.e):=fun m newD news hsrc hnl hdl hsc' hbd=>by
      have h1: ∀u∈news,u.oneCell'=true:=fun u hu=>by
       obtain⟨j,hj⟩:=List.getElem?_of_mem hu
       have hjl:=(List.getElem?_eq_some_iff.1 hj).1
       obtain⟨s1,mo,s2⟩:=hsc' j _ u (List.getElem?_eq_getElem (by omega)) hj
       cases hd':newD[j]'(by omega)with
       |int k n=>rw [hd']at s2;simp only [Rp]at s2;subst s2;rfl
       |bool b=>rw [hd']at s2;simp only [Rp]at s2;subst s2;rfl
       |hole=>rw [hd']at s1;cases s1
       |lst e xs=>rw [hd']at s1;cases s1
      obtain⟨v',w',ow',hr,hrel⟩:=QC (P:=P) hτ h0 (hdl0 st0 ow0 hd0 d h0).1 (hdl0 st0 ow0 hd0 d h0).2 (k:=zb t 0) (len:=len) hR hosh hhd (by omega) (ty:=o.type) ht htk (by omega) newD news (a.eval Y) (m:=m) hsrc (by rw [hsz1,Nat.mul_one];exact hnl) hdl h1 (fun i x u hx hu=>by
       obtain⟨s1,mo,s2⟩:=hsc' i x u hx hu
       exact Ya s1 s2) (by unfold maxLen;omega) (by
       have :(len+m)*by_≤1073741824*64:=Nat.mul_le_mul hbd hb64
       omega)
      rw [hsz1,Nat.mul_one]at hrel
      refine⟨v',w',ow',_,bk, .inl (hrun v' w' (by rw [hval];exact hr)),hrel,?_⟩
      have hroot:=hrel.root (zb t 0) ⟨R.o,R.e,R.xs.take len++newD,none⟩ (by simp only [St.appG,St.addR,zd,if_true])
      rw [yF]at hroot
      obtain⟨A2,n2,c2,hv',hlen',hnc2,hm2⟩:=xZ hroot
      have hxl:R.xs.length=n:=by
       obtain⟨A3,n3,c3,e3,l3,-⟩:=xZ (h0.root d R hR)
       rw [hhd]at e3;cases e3
       rw [l3,hsz1,Nat.mul_one]
      have hn2:n2=len+m:=by
       rw [List.length_append,List.length_take,hxl,hdl,hnl,hsz1,Nat.mul_one]at hlen'
       omega
      subst hn2
      subst hv'
      simp only [AvR]
      refine⟨⟨_,_,_,rfl⟩,fun R' hR' hp=>⟨.slice A2 (len+m) c2,by simp only [yC,yF],A2,len+m,c2,A2,c2,nw0,rfl,rfl,by omega,hnc2,hm2,fun _=>⟨rfl,rfl⟩,fun hne0=> ?_⟩⟩
      obtain⟨vs,q1,q2⟩:=(zw _ _).1 hroot
      have hlenv:0<vs.length:=by rw [q1.1,hlen',hsz1,Nat.mul_one];omega
      obtain⟨b2,o2,n3,c3,hv3,-⟩:=qV q1 (List.getElem?_eq_getElem hlenv)
      cases hv3
      exact⟨b2,o2,rfl,by simp⟩
     split at he
     ·rename_i hev
      simp only [Option.some.injEq,Prod.mk.injEq]at he
      obtain⟨rfl,rfl,rfl⟩:=he
      rw [hev]at hY
      simp only [AvR]at hY
      exact use 0 [] [] (.inr ⟨rfl,0,hY⟩) rfl rfl (fun i x u hx=>by simp at hx) (by omega)
     ·rename_i d2 p2 off len2 e2 hev
      split at he
      ·rename_i R2 hR2
       split at he
       ·rename_i hee
        subst hee
        simp only [Option.some.injEq,Prod.mk.injEq]at he
        obtain⟨rfl,rfl,rfl⟩:=he
        obtain⟨hp2,hnode,hall,hbd⟩:=hob
        rw [hev]at hY
        simp only [AvR]at hY
        obtain⟨hv2,hin2,hsub2⟩:=hY.2 R2 hR2 hp2
        have hview:=Yl h0 hR2 hp2 hin2 hsub2 hnode lo
        rw [hsz1,Nat.mul_one,Nat.mul_one]at hview
        obtain⟨vs,⟨k1,N,k2,A3,c3,k3,k4,k5,k6⟩,k7⟩:=(zw _ _).1 hview
        obtain⟨A4,n4,c4,A5,c5,hnw5,e4,e5,hle4,-⟩:=hsub2
        rw [k3]at e5
        cases e5
        rw [hsz1,Nat.mul_one]at k2
        refine use len2 _ vs ?_ (by rw [k1,k2]) (by rw [k1]) (fun i x u hx hu=>⟨List.all_eq_true.1 hall x (List.mem_of_getElem? hx),?_⟩) hbd
        ·by_cases hN0:len2=0
         ·subst hN0
          cases A3 with
          |none=>exact .inr ⟨rfl,c3,k3⟩
          |some ad=>exact .inl ⟨ad,c3,k3,fun j u hu=>by have :=(List.getElem?_eq_some_iff.1 hu).1;omega⟩
         ·obtain⟨b,oo,hA,hb,-,hcell⟩:=k6 hN0
          subst hA
          exact .inl ⟨_,c3,k3,fun j u hu=>by rw [Addr.add_lit];exact hcell j u hu⟩
        ·have :=k7 i x u hx hu
         exact⟨.sh,Ya (m':= .sh) (List.all_eq_true.1 hall x (List.mem_of_getElem? hx)) this⟩
       ·cases he
      ·cases he
     ·cases he
    ·cases he
   ·cases he
  ·cases he
 ·cases he
theorem zDh (hτ:zx P τ)(h:ze τ lo w0 ow hd bk st a w){o:Oper}{t:Nat}{ty:TypeId}{X Y:Operand}(hrun: ∀v w',(Builtin.append_ #[ty,ty] o.type #[a.eval X,a.eval Y]).run P w= .ok v w'→(execOp a.eval o).run P w= .ok (.value v) w'){st':St}{v:AV}{ob:Prop}
  (he:appE τ st t ty X Y=some (st',v,ob)) (hob:ob):vA P τ lo w0 a w o st' v:=
 Kn (dl:=St.delR) (fun st ow hd d h=>⟨ZC h d,by simp [St.delR,yr,is1]⟩) hτ h hrun he hob
theorem zDt (hτ:zx P τ)(hpos:yL τ)(h:ze τ lo w0 ow hd bk st a w){al:List Nat}{o:Oper}{st':St}{v:AV}{ob:Prop}(he:effM τ al o st=some (st',v,ob))(hob:ob):vA P τ lo w0 a w o st' v:=by
 have plain: ∀{st' v ob},((qF τ o st).map fun y=>(st,y.1,y.2))=some (st',v,ob)→ob→vA P τ lo w0 a w o st' v:=fun{st' v ob} he hob=>by
  cases hv:qF τ o st with
  |none=>rw [hv]at he;cases he
  |some y=>
   rw [hv]at he
   simp only [Option.map_some,Option.some.injEq,Prod.mk.injEq]at he
   obtain⟨rfl,rfl,rfl⟩:=he
   obtain⟨z,hz,hr⟩:=VK hτ hpos h hv hob
   exact⟨z,w,ow,hd,bk, .inl hz,h,hr⟩
 have wrapV: ∀{s:Sem Value} {z:Value} {w':World},s.run P w= .ok z w'→(do pure (.value (←s)):Sem Next).run P w= .ok (.value z) w':=fun{s z w'} hs=>by rw [Sem.run_bind,hs,Result.andThen_ok,Sem.run_pure]
 obtain⟨dst,op,ty,pos,after,guard⟩:=o
 unfold effM at he
 cases op<;>simp only at he
 case assign x=>
  split at he
  ·rename_i e b d ht
   simp only [Option.some.injEq,Prod.mk.injEq]at he
   obtain⟨rfl,rfl,rfl⟩:=he
   obtain⟨ow',hd',r1,r2,-⟩:=Xb h al (.sl e) (zb d 0) (zZ h x)
   exact⟨a.eval x,w,ow',hd',bk, .inl (by simp [execOp]),r1,r2⟩
  ·simp only [Option.some.injEq,Prod.mk.injEq]at he
   obtain⟨rfl,rfl,rfl⟩:=he
   exact⟨a.eval x,w,ow,hd,bk, .inl (by simp [execOp]),h,zZ h x⟩
 case box e x=>
  split at he
  ·rename_i t vs hvs
   simp only [Option.some.injEq,Prod.mk.injEq]at he
   obtain⟨rfl,rfl,rfl⟩:=he
   obtain⟨us,hus,hur⟩:=xu hvs (zZ h x)
   obtain⟨ow',hd',bk',r1,r2⟩:=XW h t hob e vs us hur
   refine⟨.pointer (some ⟨w.heap.size,0,none⟩),_,ow',hd',bk', .inl (wrapV ?_),r1,by simp only [AvR];exact⟨⟨_,rfl⟩,fun _=>by rw [r2]⟩⟩
   simp [Instr.box,newVar,newRow,newObj,Sem.run,hus]
  ·cases he
 case alloc e=>
  split at he
  ·rename_i t k b ht
   simp only [Option.some.injEq,Prod.mk.injEq]at he
   obtain⟨rfl,rfl,rfl⟩:=he
   have hz: ∃z:Value,(zeroValue e).run P w= .ok z w∧z.cells=(k.cells.map CK.zero).toArray:=by
    cases k with
    |sc c=>obtain⟨i,i1,i2,i3,i4⟩:=Yo hτ ht;exact⟨c.zero,by simp [zeroValue,typeInfo,i1,i3],by cases c<;>rfl⟩
    |st cs fs=>obtain⟨F,_,_,i,i1,i2,i3,i4⟩:=yM hτ ht;exact⟨_,by simp [zeroValue,typeInfo,i1,i3];rfl,by simp [Value.cells,TK.cells]⟩
   obtain⟨z,hz1,hz2⟩:=hz
   obtain⟨ow',hd',bk',r1,r2⟩:=XW h t hob e (k.cells.map wa) (k.cells.map CK.zero) (zp.2 ⟨by simp,fun i v x hv hx=>by
    rw [List.getElem?_map]at hv hx
    cases hk:k.cells[i]? with
    |none=>rw [hk]at hv;cases hv
    |some c=>rw [hk]at hv hx;cases hv;cases hx;exact QT c⟩)
   refine⟨.pointer (some ⟨w.heap.size,0,none⟩),_,ow',hd',bk', .inl (wrapV ?_),r1,by simp only [AvR];exact⟨⟨_,rfl⟩,fun _=>by rw [r2]⟩⟩
   unfold Instr.alloc
   rw [Sem.run_bind,hz1,Result.andThen_ok]
   simp [newVar,newRow,newObj,Sem.run,hz2]
  ·cases he
 case makeSlice t l c=>
  split at he
  ·split at he
   ·rename_i z9 h9;cases he;exact Jn hτ h rfl h9 hob
   ·exact zB6 hτ h rfl he hob
  ·cases he
 case buildSlice t len parts=>
  split at he
  ·exact jK hτ h rfl he
  ·cases he
 case store t p x=>exact Wl hτ hpos h rfl he hob
 case call c=>
  obtain⟨callee,args,argTypes⟩:=c
  simp only at he
  split at he
  ·split at he
   ·rename_i t x y t1 t2 h1 h2
    split at he
    ·rename_i htt
     subst htt
     have e1:args= #[x,y]:=by cases args;simp at h1;subst h1;rfl
     have e2:argTypes= #[t1,t1]:=by cases argTypes;simp at h2;subst h2;rfl
     subst e1;subst e2
     refine zDh hτ h (fun v w' hr=> ?_) he hob
     simp [execOp,resolve,invoke,builtin,hr]
    ·cases he
   ·cases he
  ·exact plain he hob
 all_goals exact plain he hob
end
def yD (o:Oper):Option (FuncId×Array Operand×Array TypeId):=
 match o.op with
 | .call c=>match c.callee with| .value (.func f)=>some (f,c.args,c.argTypes)|_=>none
 |_=>none
def zy (o:Oper):Nat:=match o.dst with|some d=>d|none=>65536
def zHz (P:Program)(τ:Ty)(f:FuncId)(as:List VT)(t:Nat)(dst:Option Tmp)(K:St→Prop)(st:St):Prop:=
 ∃ress,Fn P τ f as ress∧szL τ (zv ress)∧K ((yi t 0 (zv ress) st).put dst (qk (xT τ t 0 ress)))
def aop (P:Program)(τ:Ty)(al:List Nat)(o:Oper)(K:St→Prop)(st:St):Prop:=
 match yD o with
 |some (f,args,ts)=>
  match ye τ st ts.toList (args.toList.map (ev st))with
  |some (as,ob)=>ob∧zHz P τ f as (zy o) o.dst K st
  |none=>False
 |none=>
  match effM τ al o st with
  |some (st',v,ob)=>ob∧K (st'.put o.dst v)
  |none=>False
def qA (all:List Oper)(st:St)(j:Nat):Option (Option Bool):=
 match all[j]? with
 |some o=>match o.dst with
  |some d=>match lk st.s d with
   |some (.bool b)=>some (some b)
   |some (.tup [])=>some none
   |_=>none
  |none=>none
 |none=>none
def vK (P:Program)(τ:Ty)(al:List Nat)(all:List Oper)(K:St→Prop):List Oper→St→Prop
 | [],st=>K st
 |o::os,st=>
  match o.guard with
  |none=>aop P τ al o (vK P τ al all K os) st
  |some (j,want)=>
   match qA all st j with
   |some (some b)=>(b=want→aop P τ al o (vK P τ al all K os) st)∧(b= !want→vK P τ al all K os (st.put o.dst (.tup [])))
   |some none=>vK P τ al all K os (st.put o.dst (.tup []))
   |none=>False
def yn (n:Nat)(ops:List Oper):Bool:=ops.all fun o=>match o.dst with|some d=>decide (d<n)|none=>true
section
variable {P:Program} {τ:Ty} {lo:Nat} {w0:Fz} {ow:Nat→Option Pl} {hd:Nat→Value} {bk:Nat→Nat} {st:St} {a:Act} {w:World}
theorem zIJ (st:St)(d:Option Tmp)(v:AV):(st.put d v).n=st.n:=by cases d<;>rfl
theorem yb (h:ze τ lo w0 ow hd bk st a w){d:Option Tmp}(hdn: ∀k,d=some k→k<a.tmps.size){v:AV}{x:Value}(hv:AvR τ w st.r st.b hd bk v x):Rel τ lo w0 (st.put d v) (a.put d x) w:=
 ⟨ow,hd,bk,zGT h d (fun k hk=>by rw [←h.size];exact hdn k hk) v x hv⟩
theorem vu (hτ:zx P τ)(hpos:yL τ){al:List Nat}{o:Oper}{K:St→Prop}{Q:Exit→Act→World→Prop}{K':Act→World→Prop}(hd: ∀k,o.dst=some k→k<a.tmps.size)(h:Rel τ lo w0 st a w)(ha:aop P τ al o K st)
  (hK: ∀st' x w',K st'→Rel τ lo w0 st' (a.put o.dst x) w'→K' (a.put o.dst x) w'):o.wp P a w K' Q:=by
 obtain⟨ow,hd',bk,hr⟩:=h
 unfold aop at ha
 split at ha
 ·rename_i f args ts hc
  split at ha
  ·rename_i as ob hargs
   obtain⟨hob,ress,⟨⟨fn,hfn,hname,hbody⟩,hcall⟩,hsz,hK1⟩:=ha
   have hev:zY τ w st.r st.b hd' bk (args.toList.map (ev st)) (args.toList.map a.eval):=zp.2 ⟨by simp,fun i v x hv hx=>by
    rw [List.getElem?_map]at hv hx
    cases hk:args.toList[i]? with
    |none=>rw [hk]at hv;cases hv
    |some p=>rw [hk]at hv hx;cases hv;cases hx;exact zZ hr p⟩
   have hA:=ZV hr w.heap.size hev hargs hob
   have hC:=hcall w _ hA
   have hexec:(execOp a.eval o).run P w= .ok (.enter f (args.toList.map a.eval).toArray) w:=by
    obtain⟨dst,op,oty,pos,after,guard⟩:=o
    unfold yD at hc
    simp only at hc
    split at hc
    ·rename_i c
     split at hc
     ·rename_i f' hcal
      cases hc
      obtain⟨callee,args',ats⟩:=c
      simp only at hcal
      subst hcal
      rw [execOp_call_go]
      unfold callFunc
      have h1: ¬fn.name= "runtime.NumGoroutine" :=by simpa using hname
      have h2: ¬fn.body=none:=by cases hb:fn.body with
       |none=>rw [hb]at hbody;simp at hbody
       |some c=>simp
      have h3:Array.map a.eval args'=(args'.toList.map a.eval).toArray:=by cases args';simp
      simp [hfn,h1,h2,h3]
     ·cases hc
    ·cases hc
   unfold Oper.wp
   rw [hexec]
   simp only [Oper.upon]
   refine hC.mono fun e w' hpost=> ?_
   obtain⟨z,ow',hd2,he,r1,r2⟩:=Ve hr (t:=zy o) hsz hpost
   subst he
   exact hK _ z w' hK1 (yb r1 hd r2)
  ·exact ha.elim
 ·split at ha
  ·rename_i st' v ob he
   obtain⟨hob,hK1⟩:=ha
   obtain⟨z,w',ow',hd2,bk',hrun,r1,r2⟩:=zDt hτ hpos hr he hob
   unfold Oper.wp
   rcases hrun with hrun|⟨hrun,rfl⟩
   ·rw [hrun]
    exact hK _ z w' hK1 (yb r1 hd r2)
   ·rw [hrun]
    exact hK _ undef w' hK1 (yb r1 hd r2)
  ·exact ha.elim
theorem xH (a:Act)(d:Option Tmp)(x:Value):(a.put d x).tmps.size=a.tmps.size:=by cases d<;>simp [Act.put]
theorem vl (h:Rel τ lo w0 st a w){all:List Oper}{j:Nat}{r:Option Bool}(hg:qA all st j=some r):yielded all.toArray a.tmps j=r:=by
 obtain⟨ow,hd,bk,hr⟩:=h
 unfold qA at hg
 unfold yielded
 rw [List.getElem?_toArray]
 split at hg
 ·rename_i o ho
  rw [ho]
  split at hg
  ·rename_i d hdd
   simp only [Option.bind_some,hdd]
   split at hg
   ·rename_i b hb
    cases hg
    have :=hr.slot d _ hb
    simp only [AvR]at this
    have hlt:d<a.tmps.size:=by
     rcases Nat.lt_or_ge d a.tmps.size with h'|h'
     ·exact h'
     ·rw [Array.getD_eq_getD_getElem?,Array.getElem?_eq_none h']at this;cases this
    rw [Array.getD_eq_getD_getElem?,Array.getElem?_eq_getElem hlt]at this
    rw [Array.getElem?_eq_getElem hlt]
    simp only [Option.getD_some]at this
    rw [this]
   ·rename_i hb
    cases hg
    have :=hr.slot d _ hb
    simp only [AvR,zY]at this
    obtain⟨cs,hcs,hnil⟩:=this
    subst hnil
    rcases Nat.lt_or_ge d a.tmps.size with h'|h'
    ·rw [Array.getD_eq_getD_getElem?,Array.getElem?_eq_getElem h']at hcs
     rw [Array.getElem?_eq_getElem h']
     simp only [Option.getD_some]at hcs
     rw [hcs]
    ·rw [Array.getElem?_eq_none h']
   ·cases hg
  ·cases hg
 ·cases hg
theorem VE (hτ:zx P τ)(hpos:yL τ){al:List Nat}{all:List Oper}{K:St→Prop}{Q:Exit→Act→World→Prop}(hQ: ∀st a w,K st→Rel τ lo w0 st a w→Q .normal a w):
  ∀(os:List Oper) (st:St) (a:Act) (w:World),yn a.tmps.size os=true→Rel τ lo w0 st a w→vK P τ al all K os st→wpList P all.toArray Q os a w
 | [],st,a,w,_,h,ha=>wpList_nil (hQ st a w ha h)
 |o::os,st,a,w,hd,h,ha=>by
  have hd1: ∀k,o.dst=some k→k<a.tmps.size:=fun k hk=>by
   have :=List.all_eq_true.1 hd o (by simp)
   rw [hk]at this
   simpa using this
  have hd2:yn a.tmps.size os=true:=List.all_eq_true.2 fun x hx=>List.all_eq_true.1 hd x (by simp [hx])
  refine wpList_step fun K' hK'=> ?_
  simp only [vK]at ha
  have run:aop P τ al o (vK P τ al all K os) st→o.wp P a w K' Q:=fun ha=>vu hτ hpos hd1 h ha fun st' x w' h1 h2=>hK' _ _ (VE hτ hpos hQ os st' _ w' (by rw [xH];exact hd2) h2 h1)
  have skip:vK P τ al all K os (st.put o.dst (.tup []))→K' (a.put o.dst undef) w:=fun ha=>by
   obtain⟨ow,hd',bk,hr⟩:=h
   exact hK' _ _ (VE hτ hpos hQ os _ _ w (by rw [xH];exact hd2) (yb hr hd1 (by simp only [AvR];exact⟨[],rfl,by simp [zY]⟩)) ha)
  split at ha
  ·rename_i hg
   rw [if_pos (by simp [Region.wanted,hg])]
   exact run ha
  ·rename_i j want hg
   split at ha
   ·rename_i b hgv
    have hy:=vl h hgv
    by_cases hb:b=want
    ·rw [if_pos (by simp [Region.wanted,hg,hy,hb])]
     exact run (ha.1 hb)
    ·rw [if_neg (by simp [Region.wanted,hg,hy,hb])]
     exact skip (ha.2 (by cases b<;>cases want<;>simp_all))
   ·rename_i hgv
    have hy:=vl h hgv
    rw [if_neg (by simp [Region.wanted,hg,hy])]
    exact skip ha
   ·exact ha.elim
end
def awp (P:Program)(τ:Ty)(c:Code)(Q:Exit→St→Prop)(st:St):Prop:=
 ∀(lo:Nat) (w0:Fz) (a:Act) (w:World),Rel τ lo w0 st a w→c.wp P (fun e a' w'=> ∃st',Rel τ lo w0 st' a' w'∧Q e st') a w
section
variable {P:Program} {τ:Ty} {Q:Exit→St→Prop} {st:St}
theorem zV (h:Q .normal st):awp P τ .skip Q st:=fun lo w0 a w hr=>wp_skip ⟨st,hr,h⟩
theorem zm {id:Nat}(h:Q (.exit id) st):awp P τ (.exit id) Q st:=fun lo w0 a w hr=>wp_exit ⟨st,hr,h⟩
theorem zc (h:Q .ret st):awp P τ .ret Q st:=fun lo w0 a w hr=>wp_ret ⟨st,hr,h⟩
def zR (N:St→Prop)(Q:Exit→St→Prop):Exit→St→Prop
 | .normal,st=>N st
 |e,st=>Q e st
theorem zCZ {x y:Code}(h:awp P τ x (zR (awp P τ y Q) Q) st):awp P τ (.seq x y) Q st:=fun lo w0 a w hr=>by
 refine wp_seq (Go.wp_mono (h lo w0 a w hr) fun e a' w' ⟨st',h1,h2⟩=> ?_)
 cases e with
 |normal=>exact h2 lo w0 a' w' h1
 |_=>exact⟨st',h1,h2⟩
theorem zL {x y:Code}(h: ∀K:St→Prop,(∀st,awp P τ y Q st→K st)→awp P τ x (zR K Q) st):awp P τ (.seq x y) Q st:=zCZ (h _ fun _ h=>h)
def zS (id:Nat)(Q:Exit→St→Prop):Exit→St→Prop
 | .exit id',st=>if id'=id then Q .normal st else Q (.exit id') st
 |e,st=>Q e st
theorem zT {id:Nat}{c:Code}(h:awp P τ c (zS id Q) st):awp P τ (.block id c) Q st:=fun lo w0 a w hr=>by
 refine wp_block (Go.wp_mono (h lo w0 a w hr) fun e a' w' ⟨st',h1,h2⟩=> ?_)
 cases e with
 |exit id'=>
  simp only [Exit.inBlock,zS]at h2⊢
  split
  ·rename_i e;rw [if_pos e]at h2;exact⟨st',h1,h2⟩
  ·rename_i e;rw [if_neg e]at h2;exact⟨st',h1,h2⟩
 |_=>exact⟨st',h1,h2⟩
theorem zU {c:Operand}{x y:Code}{b:Bool}(hc:ev st c= .bool b)(ht:b=true→awp P τ x Q st)(hf:b=false→awp P τ y Q st):awp P τ (.cond c x y) Q st:=fun lo w0 a w hr=>by
 obtain⟨ow,hd,bk,h⟩:=hr
 have :=zZ h c
 rw [hc]at this
 simp only [AvR]at this
 exact wp_cond_split this (fun e=>ht e lo w0 a w ⟨ow,hd,bk,h⟩) (fun e=>hf e lo w0 a w ⟨ow,hd,bk,h⟩)
theorem zM (hτ:zx P τ)(hpos:yL τ)(al:List Nat){id:Nat}{ops:List Oper}(hd:yn st.n ops=true)(h:vK P τ al ops (Q .normal) ops st):awp P τ (.region id ops.toArray false) Q st:=fun lo w0 a w hr=>by
 have hn:a.tmps.size=st.n:=by obtain⟨ow,hd,bk,h⟩:=hr;exact h.size
 refine wp_region_lit (VE hτ hpos (fun st a w h1 h2=>⟨st,h2,h1⟩) ops st a w (by rw [hn];exact hd) hr h)
def Cov (st st':St):Prop:=st'.n=st.n∧(∀k v,lk st'.s k=some v→v= .dead∨lk st.s k=some v)∧(∀t cs,lk st'.b t=some cs→lk st.b t=some cs)∧(∀d R,lk st'.r d=some R→lk st.r d=some R)
theorem ql {lo:Nat}{w0:Fz}{a:Act}{w:World}{st':St}(h:Rel τ lo w0 st a w)(hc:Cov st st'):Rel τ lo w0 st' a w:=by
 obtain⟨ow,hd,bk,h⟩:=h
 obtain⟨c0,c1,c2,c3⟩:=hc
 have hD: ∀d,noB d=false→yq w w st.r st'.r hd hd d:=fun d _ R hR=>⟨R,c3 d R hR,rfl,fun p hp=>⟨hp,rfl⟩⟩
 have hB: ∀t,noB t=false→yp st.b st'.b bk bk t:=fun t _ ⟨cs,hl⟩=>⟨⟨cs,c2 t cs hl⟩,rfl⟩
 refine⟨ow,hd,bk,h.big,h.defers,by rw [c0];exact h.size,h.low,h.below,h.ge,h.new,fun k v hv=> ?_,fun d R hR=>h.root d R (c3 d R hR),fun t vs hv=> ?_,fun d R i hR hp=>h.pin d R i (c3 d R hR) hp⟩
 ·rcases c1 k v hv with rfl|hv'
  ·simp only [AvR]
  ·have :=yl (τ:=τ) hD hB v _ (h.slot k v hv')
   rwa [qX]at this
 ·obtain⟨cs,ty,k1,k2,k3⟩:=h.box t vs (c2 t vs hv)
  have :=yA (τ:=τ) hD hB vs cs k3
  rw [xF]at this
  exact⟨cs,ty,k1,k2,this⟩
theorem zIh {c:Code}{st':St}(hc:Cov st st')(h:awp P τ c Q st'):awp P τ c Q st:=fun lo w0 a w hr=>h lo w0 a w (ql hr hc)
theorem zGj {ι:Type}{c:Code}(F:ι→St)(I:ι→Prop)(μ:ι→Nat)(i0:ι)(h0:Cov st (F i0))(hI:I i0)
  (round: ∀i,I i→awp P τ c (zR (fun st'=> ∃j,I j∧μ j<μ i∧Cov st' (F j)) Q) (F i)):awp P τ (.loop c) Q st:=fun lo w0 a w hr=>by
 intro b k cs
 have key: ∀n i a w,μ i=n→I i→Rel τ lo w0 (F i) a w→∃e a' w',(∃st',Rel τ lo w0 st' a' w'∧Q e st')∧Arrives P (lone (b.at a (.code c:: .inLoop c::k)) cs w) b k cs e a' w':=by
  intro n
  induction n using Nat.strongRecOn with
  |_ n ih=>
   intro i a w hn hi hr
   obtain⟨e,a₁,w₁,⟨st',hr',hq⟩,harr⟩:=round i hi lo w0 a w hr b (.inLoop c::k) cs
   cases e with
   |normal=>
    obtain⟨j,hj,hlt,hcov⟩:=hq
    obtain⟨e₂,a₂,w₂,hq₂,harr₂⟩:=ih (μ j) (hn ▸ hlt) j a₁ w₁ rfl hj (ql hr' hcov)
    exact⟨e₂,a₂,w₂,hq₂, .of_steps (Steps.trans harr (.one step_inLoop)) harr₂⟩
   |exit id=>exact⟨_,a₁,w₁,⟨st',hr',hq⟩, .pass (x:= .inLoop c) rfl (fun _ _=> .inl (by simp)) harr⟩
   |goto l=>exact⟨_,a₁,w₁,⟨st',hr',hq⟩, .pass (x:= .inLoop c) rfl (fun _ _=> .inl (by simp)) harr⟩
   |ret=>exact⟨_,a₁,w₁,⟨st',hr',hq⟩, .pass (x:= .inLoop c) rfl (fun _ _=> .inl (by simp)) harr⟩
   |panic ch=>exact⟨_,a₁,w₁,⟨st',hr',hq⟩, .pass (x:= .inLoop c) rfl (fun _ _=> .inl (by simp)) harr⟩
   |outgrown=>exact⟨_,a₁,w₁,⟨st',hr',hq⟩, .pass (x:= .inLoop c) rfl (fun _ _=> .inl (by simp)) harr⟩
 obtain⟨e,a',w',hq,harr⟩:=key _ i0 a w rfl hI (ql hr h0)
 exact⟨e,a',w',hq, .of_steps (.one step_loop) harr⟩
def St.reset (st:St)(ds:List Nat)(rs:List Nat)(s:List (Nat×AV))(b:List (Nat×List AV))(r:List (Nat×zr)):St:=
 ⟨st.n,s++rm (fun k=>ds.contains k) st.s,b++rm (fun k=>ds.contains k) st.b,r++rm (fun k=>ds.contains (k / 16)||rs.contains k) st.r⟩
theorem zh {ι:Type}{c:Code}(ds rs:List Nat)(L:ι→List (Nat×AV))(B:ι→List (Nat×List AV))(R:ι→List (Nat×zr))(I:ι→Prop)(μ:ι→Nat)(i0:ι)(h0:Cov st (st.reset ds rs (L i0) (B i0) (R i0)))(hI:I i0)
  (round: ∀i,I i→∀K:St→Prop,(∀st',(∃j,I j∧μ j<μ i∧Cov st' (st.reset ds rs (L j) (B j) (R j)))→K st')→awp P τ c (zR K Q) (st.reset ds rs (L i) (B i) (R i))):awp P τ (.loop c) Q st:=
 zGj (fun i=>st.reset ds rs (L i) (B i) (R i)) I μ i0 h0 hI fun i hi=>round i hi _ fun _ h=>h
theorem zGi {ι:Type}{x y:Code}(F:ι→St)(I:ι→Prop)(hx: ∀K:St→Prop,(∀st',(∃j,I j∧Cov st' (F j))→K st')→awp P τ x (zR K Q) st)(hy: ∀j,I j→awp P τ y Q (F j)):awp P τ (.seq x y) Q st:=
 zCZ (hx _ fun st' ⟨j,hj,hc⟩=>zIh hc (hy j hj))
end
def XO (τ:Ty)(i:Nat):VT→AV
 | .c d=>(yR τ i 0 [d]).headD .dead
 | .agg ds=> .agg (yR τ i 0 ds)
 | .fn f ds=> .fn f (yR τ i 0 ds)
def vv (τ:Ty):Nat→List VT→List (Nat×AV)
 |_,[]=> []
 |i,x::xs=>(i,XO τ i x)::vv τ (i+1) xs
def xB (i:Nat):Nat→List D→List (Nat×zr)
 |_,[]=> []
 |j, .lst e xs::ds=>(zb i j,⟨.sh,e,xs,none⟩)::xB i (j+1) ds
 |j,_::ds=>xB i (j+1) ds
def xj :Nat→List VT→List (Nat×zr)
 |_,[]=> []
 |i,x::xs=>xB i 0 x.cells++xj (i+1) xs
def wo (τ:Ty)(n:Nat)(args:List VT):St:={n:=n,s:=vv τ 0 args,b:= [],r:=xj 0 args}
def few (args:List VT):Bool:=args.all fun x=>decide (x.cells.length≤16)
def O3.isEx :O3→Bool
 | .ex=>true
 |_=>false
def Zy (τ:Ty)(st:St):D→AV→Option (Option Nat×Prop)
 | .int k n, .int k' n'=>some (none,k'=k∧n'=n)
 | .bool b, .bool b'=>some (none,b'=b)
 | .lst e xs, .sl d [] 0 len e'=>match lk st.r d with
  |some R=>some (some d,R.o.isEx=true∧R.e=e∧e'=e∧R.xs=xs∧len*sz τ e=xs.length)
  |none=>none
 | .lst _ xs, .nil=>some (none,xs= [])
 |_,_=>none
def wF (τ:Ty)(st:St):List D→List AV→Option (List (Option Nat)×Prop)
 | [],[]=>some ([],True)
 |d::ds,v::vs=>match Zy τ st d v,wF τ st ds vs with
  |some (i,p),some (is,q)=>some (i::is,p∧q)
  |_,_=>none
 |_,_=>none
def xv :List VT→List AV→Option (List AV)
 | [],[]=>some []
 | .c _::xs,v::vs=>(xv xs vs).map fun l=>v::l
 | .agg ds::xs, .agg us::vs=>if us.length=ds.length then(xv xs vs).map fun l=>us++l else none
 |_,_=>none
def Xi :List (Option Nat)→Bool
 | []=>true
 |some d::l=> !(l.contains (some d))&&Xi l
 |none::l=>Xi l
def zi (τ:Ty)(st:St)(vs:List AV)(ress:List VT):Prop:=
 match xv ress vs with
 |some us=>match wF τ st (zv ress) us with
  |some (is,ob)=>Xi is=true∧ob
  |none=>False
 |none=>False
section
variable {P:Program} {τ:Ty} {lo:Nat} {w0:Fz} {ow:Nat→Option Pl} {hd:Nat→Value} {bk:Nat→Nat} {st:St} {a:Act} {w:World}
def yQ (cargs:List Value)(d:Nat):Value:=
 match cargs[d / 16]? with
 |some (.agg cs)=>cs.getD (d%16) undef
 |some (.func _ _ cs)=>cs.getD (d%16) undef
 |some v=>v
 |none=>undef
theorem QW {S:TypeId→Nat}{lo:Nat}{w:World}{ow:Nat→Option Pl}: ∀{ds:List D} {cs:List Value},RpS S lo w ow ds cs→cs.length=ds.length∧∀(i:Nat) (d:D) (c:Value),ds[i]? =some d→cs[i]? =some c→Rp S lo w ow .sh d c
 | [],cs,h=>by simp only [RpS]at h;subst h;exact⟨rfl,fun i d c h=>by simp at h⟩
 |d::ds,cs,h=>by
  simp only [RpS]at h
  obtain⟨c,cs',rfl,h1,h2⟩:=h
  obtain⟨h3,h4⟩:=QW h2
  refine⟨by simp [h3],fun i d' c' hd hc=> ?_⟩
  cases i with
  |zero=>simp at hd hc;subst hd;subst hc;exact h1
  |succ i=>exact h4 i d' c' (by simpa using hd) (by simpa using hc)
theorem kz {S:TypeId→Nat}{lo:Nat}{w:World}{ow:Nat→Option Pl}: ∀{xs:List VT} {vs:List Value},vo S lo w ow xs vs→vs.length=xs.length∧∀(i:Nat) (x:VT) (v:Value),xs[i]? =some x→vs[i]? =some v→Qw S lo w ow x v
 | [],vs,h=>by simp only [vo]at h;subst h;exact⟨rfl,fun i d c h=>by simp at h⟩
 |x::xs,vs,h=>by
  simp only [vo]at h
  obtain⟨v,vs',rfl,h1,h2⟩:=h
  obtain⟨h3,h4⟩:=kz h2
  refine⟨by simp [h3],fun i d' c' hd hc=> ?_⟩
  cases i with
  |zero=>simp at hd hc;subst hd;subst hc;exact h1
  |succ i=>exact h4 i d' c' (by simpa using hd) (by simpa using hc)
theorem qB {α:Type}(l m:List (Nat×α))(k:Nat):lk (l++m) k=(lk l k).or (lk m k):=by
 induction l with
 |nil=>simp [lk]
 |cons x l ih=>
  obtain⟨j,x⟩:=x
  simp only [List.cons_append,zd]
  split
  ·simp
  ·exact ih
theorem XG (i:Nat): ∀(ds:List D) (j d:Nat) (R:zr),lk (xB i j ds) d=some R→∃k,ds[k]? =some (.lst R.e R.xs)∧R.o= .sh∧d=zb i (j+k)
 | [],j,d,R,h=>by simp [xB,lk]at h
 |x::ds,j,d,R,h=>by
  have next:lk (xB i (j+1) ds) d=some R→∃k,(x::ds)[k]? =some (.lst R.e R.xs)∧R.o= .sh∧d=zb i (j+k):=fun h=>by
   obtain⟨k,h1,h2,h3⟩:=XG i ds (j+1) d R h
   exact⟨k+1,by simpa using h1,h2,by rw [h3];congr 1;omega⟩
  cases x with
  |lst e xs=>
   simp only [xB,zd]at h
   split at h
   ·rename_i e;cases h;exact⟨0,rfl,rfl,e.symm⟩
   ·exact next h
  |int k n=>exact next h
  |bool b=>exact next h
  |hole=>exact next h
theorem QM : ∀(args:List VT) (i d:Nat) (R:zr),lk (xj i args) d=some R→∃m x k,args[m]? =some x∧x.cells[k]? =some (.lst R.e R.xs)∧R.o= .sh∧d=zb (i+m) k
 | [],i,d,R,h=>by simp [xj,lk]at h
 |x::args,i,d,R,h=>by
  simp only [xj,qB]at h
  cases h1:lk (xB i 0 x.cells) d with
  |some R'=>
   rw [h1]at h
   simp at h
   subst h
   obtain⟨k,h2,h3,h4⟩:=XG i x.cells 0 d R' h1
   exact⟨0,x,k,rfl,h2,h3,by rw [h4,Nat.zero_add,Nat.add_zero]⟩
  |none=>
   rw [h1]at h
   simp at h
   obtain⟨m,y,k,h2,h3,h4,h5⟩:=QM args (i+1) d R h
   exact⟨m+1,y,k,by simpa using h2,h3,h4,by rw [h5];congr 1;omega⟩
theorem ve (i:Nat): ∀(ds:List D) (j d:Nat) (R:zr),lk (xB i j ds) d=some R→R.pin=none
 | [],j,d,R,h=>by simp [xB,lk]at h
 |x::ds,j,d,R,h=>by
  cases x with
  |lst e xs=>
   simp only [xB,zd]at h
   split at h
   ·cases h;rfl
   ·exact ve i ds (j+1) d R h
  |int k n=>exact ve i ds (j+1) d R h
  |bool b=>exact ve i ds (j+1) d R h
  |hole=>exact ve i ds (j+1) d R h
theorem Yx : ∀(args:List VT) (i d:Nat) (R:zr),lk (xj i args) d=some R→R.pin=none
 | [],i,d,R,h=>by simp [xj,lk]at h
 |x::args,i,d,R,h=>by
  simp only [xj,qB]at h
  cases hx:lk (xB i 0 x.cells) d with
  |none=>rw [hx]at h;exact Yx args (i+1) d R (by simpa using h)
  |some R'=>rw [hx]at h;cases h;exact ve i _ _ d _ hx
theorem QN : ∀(args:List VT) (i k:Nat) (v:AV),lk (vv τ i args) k=some v→∃m x,args[m]? =some x∧k=i+m∧v=XO τ k x
 | [],i,k,v,h=>by simp [vv,lk]at h
 |x::args,i,k,v,h=>by
  simp only [vv,zd]at h
  split at h
  ·rename_i e;subst e;cases h;exact⟨0,x,rfl,rfl,rfl⟩
  ·obtain⟨m,y,h1,h2,h3⟩:=QN args (i+1) k v h
   exact⟨m+1,y,by simpa using h1,by omega,h3⟩
def szA (τ:Ty)(args:List VT):Prop:= ∀x∈args,szL τ x.cells
theorem QD {n:Nat}{args:List VT}{cargs:List Value}(hs:szA τ args)(hfew:few args=true)(hn:args.length≤n)(h:vo (sz τ) w.heap.size w (fun _=>none) args cargs):
  ze τ w.heap.size (.plain w) (fun _=>none) (yQ cargs) (fun _=>0) (wo τ n args) {tmps:=cargs.toArray++Array.replicate (n - cargs.toArray.size) undef,defers:= []} w:=by
 obtain⟨hl,hargs⟩:=kz h
 have hcell: ∀(m:Nat) (x:VT) (v:Value),args[m]? =some x→cargs[m]? =some v→∃cs:List Value,cs.length=x.cells.length∧(∀(i:Nat) (d:D) (c:Value),x.cells[i]? =some d→cs[i]? =some c→Rp (sz τ) w.heap.size w (fun _=>none) .sh d c∧yQ cargs (zb m i)=c∨xS d=true∧Rp (sz τ) w.heap.size w (fun _=>none) .sh d c)∧
   ((∃d c,x= .c d∧cs= [c]∧v=c)∨(∃ds,x= .agg ds∧v= .agg cs.toArray)∨(∃f ds,x= .fn f ds∧v= .func (.func f) #[] cs.toArray)):=fun m x v hx hv=>by
  have h16:x.cells.length≤16:=by have :=List.all_eq_true.1 hfew x (List.mem_of_getElem? hx);simpa using this
  have ha:=hargs m x v hx hv
  have hdiv: ∀i,i<16→(zb m i) / 16=m∧(zb m i)%16=i:=fun i hi=>by unfold zb;omega
  cases x with
  |c d=>
   simp only [Qw]at ha
   refine⟨[v],rfl,fun i d' c' hd hc=> ?_, .inl ⟨d,v,rfl,rfl,rfl⟩⟩
   simp only [VT.cells]at hd
   cases i with
   |succ i=>simp at hd
   |zero=>
    simp at hd hc;subst hd;subst hc
    cases d with
    |int k n=>right;exact⟨rfl,ha⟩
    |bool b=>right;exact⟨rfl,ha⟩
    |hole=>exact(hs _ (List.mem_of_getElem? hx)).elim
    |lst e xs=>
     left
     refine⟨ha,?_⟩
     obtain⟨A,n',c',rfl,-⟩:=xZ ha
     simp only [yQ,(hdiv 0 (by omega)).1,hv]
  |agg ds=>
   simp only [Qw]at ha
   obtain⟨cs,rfl,hr⟩:=ha
   obtain⟨h1,h2⟩:=QW hr
   refine⟨cs,h1,fun i d' c' hd hc=> .inl ⟨h2 i d' c' hd hc,?_⟩, .inr (.inl ⟨ds,rfl,rfl⟩)⟩
   have hi:i<16:=by have :=(List.getElem?_eq_some_iff.1 hd).1;simp only [VT.cells]at this h16;omega
   simp only [yQ,(hdiv i hi).1,(hdiv i hi).2,hv]
   rw [Array.getD_eq_getD_getElem?,List.getElem?_toArray,hc]
   rfl
  |fn f ds=>
   simp only [Qw]at ha
   obtain⟨cs,rfl,hr⟩:=ha
   obtain⟨h1,h2⟩:=QW hr
   refine⟨cs,h1,fun i d' c' hd hc=> .inl ⟨h2 i d' c' hd hc,?_⟩, .inr (.inr ⟨f,ds,rfl,rfl⟩)⟩
   have hi:i<16:=by have :=(List.getElem?_eq_some_iff.1 hd).1;simp only [VT.cells]at this h16;omega
   simp only [yQ,(hdiv i hi).1,(hdiv i hi).2,hv]
   rw [Array.getD_eq_getD_getElem?,List.getElem?_toArray,hc]
   rfl
 refine⟨fun j ad hj had=>(by simp [Fz.plain]at had),rfl,?_,Nat.le_refl _,yu.start (.plain w),fun b p _ h=>(by cases h),fun b _=>rfl,fun k v hv=> ?_,fun d R hR=> ?_,fun t vs hv=>by simp [wo,lk]at hv,fun d R i hR hp=> ?_⟩
 ·simp [wo,hl];omega
 ·obtain⟨m,x,h1,h2,h3⟩:=QN args 0 k v hv
  rw [Nat.zero_add]at h2
  subst h2;subst h3
  have hm:k<cargs.length:=by rw [hl];exact(List.getElem?_eq_some_iff.1 h1).1
  have hget:(cargs.toArray++Array.replicate (n - cargs.toArray.size) undef).getD k undef=cargs[k]:=by
   rw [Array.getD_eq_getD_getElem?,Array.getElem?_append_left (by simpa using hm)]
   simp [hm]
  have hv':cargs[k]? =some cargs[k]:=List.getElem?_eq_getElem hm
  obtain⟨cs,c1,c2,c3⟩:=hcell k x _ h1 hv'
  have hsx:szL τ x.cells:=hs x (List.mem_of_getElem? h1)
  have hres:=wZ (τ:=τ) (lo:=w.heap.size) (w:=w) (ow:=fun _=>none) (hd:=yQ cargs) (bk:=fun _=>0) (rr:=(wo τ n args).r) (bb:=(wo τ n args).b) k x.cells 0 cs c1 hsx (fun i d c hd hc=>by
   rcases c2 i d c hd hc with⟨q,-⟩|⟨-,q⟩<;>exact⟨_,q⟩) (fun i e xs c hd hc=>by
   rcases c2 i _ c hd hc with⟨-,q⟩|⟨q,-⟩
   ·rw [Nat.zero_add];exact q
   ·cases q)
  rw [hget]
  rcases c3 with⟨d,c,rfl,rfl,hc⟩|⟨ds,rfl,hc⟩|⟨f,ds,rfl,hc⟩
  ·simp only [VT.cells]at hres
   rw [hc]
   have e:yR τ k 0 [d]= [(yR τ k 0 [d]).headD .dead]:=by cases d<;>rfl
   rw [e]at hres
   simp only [zY]at hres
   obtain⟨y,ys,e1,h4,-⟩:=hres
   cases e1
   exact h4
  ·rw [hc];simp only [XO,AvR];exact⟨cs,rfl,hres⟩
  ·rw [hc];simp only [XO,AvR];exact⟨cs,rfl,hres⟩
 ·obtain⟨m,x,k,h1,h2,h3,h4⟩:=QM args 0 d R hR
  rw [Nat.zero_add]at h4
  have hm:m<cargs.length:=by rw [hl];exact(List.getElem?_eq_some_iff.1 h1).1
  obtain⟨cs,c1,c2,-⟩:=hcell m x _ h1 (List.getElem?_eq_getElem hm)
  have hk:k<cs.length:=by rw [c1];exact(List.getElem?_eq_some_iff.1 h2).1
  rcases c2 k _ _ h2 (List.getElem?_eq_getElem hk)with⟨q1,q2⟩|⟨q,-⟩
  ·rw [h3,h4,q2];exact q1
  ·cases q
 ·rw [Yx args 0 d R hR]at hp;cases hp
end
section
variable {P:Program} {τ:Ty} {lo:Nat} {w0:Fz} {ow:Nat→Option Pl} {hd:Nat→Value} {bk:Nat→Nat} {st:St} {a:Act} {w:World}
def Xm :List (Option Nat)→Nat→Nat→Option Nat
 | [],_,_=>none
 |some d'::l,j,d=>if d'=d then some j else Xm l (j+1) d
 |none::l,j,d=>Xm l (j+1) d
theorem KQ : ∀(l:List (Option Nat)) (j i d:Nat),Xi l=true→l[i]? =some (some d)→Xm l j d=some (j+i)
 | [],j,i,d,_,h=>by simp at h
 |none::l,j,i,d,hn,h=>by
  cases i with
  |zero=>simp at h
  |succ i=>
   simp only [Xi]at hn
   simp only [Xm]
   rw [KQ l (j+1) i d hn (by simpa using h)]
   congr 1
   omega
 |some d'::l,j,i,d,hn,h=>by
  simp only [Xi,Bool.and_eq_true,Bool.not_eq_true']at hn
  cases i with
  |zero=>simp at h;subst h;simp [Xm]
  |succ i=>
   have h':l[i]? =some (some d):=by simpa using h
   have hne:d'≠d:=by
    rintro rfl
    have :=List.contains_iff_mem.2 (List.mem_of_getElem? h')
    rw [this]at hn
    cases hn.1
   simp only [Xm,if_neg hne]
   rw [KQ l (j+1) i d hn.2 h']
   congr 1
   omega
theorem Jp : ∀{ds:List D} {us:List AV} {is:List (Option Nat)} {ob:Prop},wF τ st ds us=some (is,ob)→ob→us.length=ds.length∧∀(i:Nat) (d:D) (u:AV),ds[i]? =some d→us[i]? =some u→∃k p,Zy τ st d u=some (k,p)∧p∧is[i]? =some k
 | [],[],is,ob,h,_=>⟨rfl,fun i d u h=>by simp at h⟩
 | [],_::_,is,ob,h,_=>by simp [wF]at h
 |_::_,[],is,ob,h,_=>by simp [wF]at h
 |d::ds,u::us,is,ob,h,hob=>by
  simp only [wF]at h
  split at h
  ·rename_i k p is' q e1 e2
   simp only [Option.some.injEq,Prod.mk.injEq]at h
   obtain⟨rfl,rfl⟩:=h
   obtain⟨h3,h4⟩:=Jp e2 hob.2
   refine⟨by simp [h3],fun i d' u' hd hu=> ?_⟩
   cases i with
   |zero=>simp at hd hu;subst hd;subst hu;exact⟨k,p,e1,hob.1,rfl⟩
   |succ i=>obtain⟨k',p',h5,h6,h7⟩:=h4 i d' u' (by simpa using hd) (by simpa using hu);exact⟨k',p',h5,h6,by simpa using h7⟩
  ·cases h
def qv (ow:Nat→Option Pl)(is:List (Option Nat)):Nat→Option Pl:=fun b=>
 match ow b with
 |some (.root d q)=>match Xm is 0 d with|some j=>some (.root j q)|none=>none
 |_=>none
theorem Zz (h:ze τ lo w0 ow hd bk st a w){ds:List D}{us:List AV}{cs:List Value}{is:List (Option Nat)}{ob:Prop}(hr:wF τ st ds us=some (is,ob))(hob:ob)(hn:Xi is=true)(hv:zY τ w st.r st.b hd bk us cs):
  cs.length=ds.length∧∀(i:Nat) (d:D) (c:Value),ds[i]? =some d→cs[i]? =some c→Rp (sz τ) lo w (qv ow is) (.ex i []) d c:=by
 obtain⟨h1,h2⟩:=Jp hr hob
 obtain⟨v1,v2⟩:=zp.1 hv
 refine⟨by omega,fun i d c hdi hc=> ?_⟩
 obtain⟨u,hu⟩: ∃u,us[i]? =some u:=⟨_,List.getElem?_eq_getElem (by rw [h1];exact(List.getElem?_eq_some_iff.1 hdi).1)⟩
 obtain⟨k,p,h3,h4,h5⟩:=h2 i d u hdi hu
 have hav:=v2 i u c hu hc
 cases d with
 |int kk n=>
  cases u<;>simp only [Zy]at h3<;>try(cases h3;done)
  simp only [Option.some.injEq,Prod.mk.injEq]at h3
  obtain⟨rfl,rfl⟩:=h3
  obtain⟨rfl,rfl⟩:=h4
  simpa only [AvR,Rp]using hav
 |hole=>cases u<;>simp only [Zy]at h3<;>cases h3
 |bool b=>
  cases u<;>simp only [Zy]at h3<;>try(cases h3;done)
  simp only [Option.some.injEq,Prod.mk.injEq]at h3
  obtain⟨rfl,rfl⟩:=h3
  subst h4
  simpa only [AvR,Rp]using hav
 |lst e xs=>
  cases u<;>simp only [Zy]at h3<;>try(cases h3;done)
  case nil=>
   simp only [Option.some.injEq,Prod.mk.injEq]at h3
   obtain⟨rfl,rfl⟩:=h3
   subst h4
   simp only [AvR]at hav
   subst hav
   exact vV _ _ _
  case sl d' q off len e'=>
   cases q with
   |cons j q=>simp only at h3;cases h3
   |nil=>
    cases off with
    |succ o=>simp only at h3;cases h3
    |zero=>
     simp only at h3
     cases hR:lk st.r d' with
     |none=>rw [hR]at h3;cases h3
     |some R=>
      rw [hR]at h3
      simp only [Option.some.injEq,Prod.mk.injEq]at h3
      obtain⟨rfl,rfl⟩:=h3
      obtain⟨q1,rfl,rfl,rfl,q5⟩:=h4
      have ho:R.o= .ex:=by cases ho:R.o<;>rw [ho]at q1<;>first|rfl|cases q1
      have hroot:=h.root d' R hR
      rw [ho]at hroot
      simp only [AvR]at hav
      obtain⟨hv',hin,A,n,c0,A',c',hnw,e1,e2,hle,hlc,hmx,hf0,hA⟩:=hav.2 R hR (by simp [zk])
      simp only [yC,Option.some.injEq]at hin
      obtain⟨rfl,rfl⟩:=hf0 rfl
      obtain⟨A3,n3,c3,f1,f2,f3,f4⟩:=xZ hroot
      rw [e1]at hin
      rw [hin]at f1
      cases f1
      have hcv:c= .slice A' n c'∨R.xs= []:=by
       by_cases hz:sz τ R.e=0
       ·right;rw [hz,Nat.mul_zero]at f2;exact List.eq_nil_of_length_eq_zero f2
       ·left
        have :len=n:=Nat.eq_of_mul_eq_mul_right (Nat.pos_of_ne_zero hz) (by rw [q5,f2])
        rw [e2,this]
      have hmv:Rp (sz τ) lo w (qv ow is) (.ex i []) (.lst R.e R.xs) (hd d'):=qW _ _ _ _ _ [] [] _ (fun b q hb e=>by
       simp only [qv,List.nil_append]at e⊢
       rw [e]
       simp only
       rw [KQ is 0 i d' hn h5,Nat.zero_add]) hroot
      rw [hin]at hmv
      rcases hcv with rfl|hnil
      ·exact hmv
      ·-- no cells:the part is as good as the whole
       rw [hnil]at hmv⊢
       obtain⟨vs,⟨k1,N,k2,k3,k4⟩,k5⟩:=(zw _ _).1 hmv
       rw [e2]
       have hNn:N=n:=by
        rcases k3.2 with⟨hv0,h0⟩|⟨g,cap,cur,hv0,_⟩
        ·cases hv0;exact h0
        ·cases hv0;rfl
       subst hNn
       have hp:=QP k3 (m:=len) (by omega)
       refine(zw _ _).2 ⟨vs.take (len*sz τ R.e),⟨by rw [List.length_take,k1];simp,len,by rw [q5,hnil],hp,fun b hb=>k4 b (by cases A'<;>exact hb)⟩,fun j x u hx=>by simp at hx⟩
theorem vi {S:TypeId→Nat}{lo:Nat}{w:World}{ow:Nat→Option Pl}{rr:List (Nat×zr)}{bb:List (Nat×List AV)}: ∀{ress:List VT} {vs us:List AV} {xs:List Value} (j:Nat),xv ress vs=some us→zY τ w rr bb hd bk vs xs→
  ∃cs:List Value,zY τ w rr bb hd bk us cs∧(cs.length=(zv ress).length→(∀(i:Nat) (d:D) (c:Value),(zv ress)[i]? =some d→cs[i]? =some c→Rp S lo w ow (.ex (j+i) []) d c)→vH S lo w ow j ress xs)
 | [],[],us,xs,j,h,hv=>by
  simp only [xv,Option.some.injEq]at h
  subst h
  simp only [zY]at hv
  subst hv
  exact⟨[],by simp [zY],fun _ _=>by simp [vH]⟩
 | .c d::ress,v::vs,us,xs,j,h,hv=>by
  simp only [xv]at h
  simp only [zY]at hv
  obtain⟨x,xs',rfl,h1,h2⟩:=hv
  cases hf:xv ress vs with
  |none=>rw [hf]at h;cases h
  |some l=>
   rw [hf]at h
   simp only [Option.map_some,Option.some.injEq]at h
   subst h
   obtain⟨cs,k1,k2⟩:=vi (S:=S) (lo:=lo) (ow:=ow) (j+1) hf h2
   refine⟨x::cs,by simp only [zY];exact⟨x,cs,rfl,h1,k1⟩,fun hl hr=> ?_⟩
   simp only [vH]
   refine⟨x,xs',rfl,by simpa using hr 0 d x rfl rfl,k2 (by simpa [zv,VT.cells]using hl) fun i d' c hd hc=> ?_⟩
   have :=hr (i+1) d' c (by simpa [zv,VT.cells]using hd) (by simpa using hc)
   rwa [show j+(i+1)=j+1+i from by omega]at this
 | .agg ds::ress,v::vs,us,xs,j,h,hv=>by
  cases v<;>simp only [xv]at h<;>try(cases h;done)
  rename_i uu
  simp only [zY]at hv
  obtain⟨x,xs',rfl,h1,h2⟩:=hv
  split at h
  ·rename_i hlen
   cases hf:xv ress vs with
   |none=>rw [hf]at h;cases h
   |some l=>
    rw [hf]at h
    simp only [Option.map_some,Option.some.injEq]at h
    subst h
    simp only [AvR]at h1
    obtain⟨ys,rfl,hy⟩:=h1
    have hyl:=(zp.1 hy).1
    obtain⟨cs,k1,k2⟩:=vi (S:=S) (lo:=lo) (ow:=ow) (j+ds.length) hf h2
    refine⟨ys++cs,qy hy k1,fun hl hr=> ?_⟩
    simp only [zv,VT.cells,List.length_append]at hl
    simp only [vH]
    refine⟨ys,xs',rfl,?_,k2 (by omega) fun i d' c hd hc=> ?_⟩
    ·have key: ∀(ds:List D) (ys:List Value) (j:Nat),ys.length=ds.length→(∀(i:Nat) (d:D) (c:Value),ds[i]? =some d→ys[i]? =some c→Rp S lo w ow (.ex (j+i) []) d c)→RpF S lo w ow j ds ys:=by
      intro ds
      induction ds with
      |nil=>intro ys j hl _;simp only [RpF];exact List.eq_nil_of_length_eq_zero hl
      |cons d ds ih=>
       intro ys j hl hr
       cases ys with
       |nil=>simp at hl
       |cons y ys=>
        simp only [RpF]
        refine⟨y,ys,rfl,by simpa using hr 0 d y rfl rfl,ih ys (j+1) (by simpa using hl) fun i d' c hd hc=> ?_⟩
        have :=hr (i+1) d' c (by simpa using hd) (by simpa using hc)
        rwa [show j+(i+1)=j+1+i from by omega]at this
     refine key ds ys j (by omega) fun i d' c hd hc=>hr i d' c ?_ ?_
     ·simp only [zv,VT.cells];rw [List.getElem?_append_left (List.getElem?_eq_some_iff.1 hd).1];exact hd
     ·rw [List.getElem?_append_left (List.getElem?_eq_some_iff.1 hc).1];exact hc
    ·have :=hr (ds.length+i) d' c (by simp only [zv,VT.cells];rw [List.getElem?_append_right (by omega),show ds.length+i - ds.length=i from by omega];exact hd) (by rw [List.getElem?_append_right (by omega),show ds.length+i - ys.length=i from by omega];exact hc)
     rwa [show j+(ds.length+i)=j+ds.length+i from by omega]at this
  ·cases h
 | [],_::_,us,xs,j,h,hv=>by simp [xv]at h
 | .c _::_,[],us,xs,j,h,hv=>by simp [xv]at h
 | .agg _::_,[],us,xs,j,h,hv=>by simp [xv]at h
 | .fn _ _::_,[],us,xs,j,h,hv=>by simp [xv]at h
 | .fn _ _::_,_::_,us,xs,j,h,hv=>by simp [xv]at h
theorem zCH {fn:Func}{ts:List Tmp}(h:fn.results=(ts.map ResultVar.tmp).toArray)(tmps:Array Value)(w:World):(results fn tmps).run P w= .ok (wG (ts.map fun t=>tmps.getD t undef)) w:=by
 unfold results
 have hm: ∀(g:ResultVar→Sem Value),(∀t,g (.tmp t)=pure (tmps.getD t undef))→∀(ts:List Tmp),(ts.map ResultVar.tmp).mapM g=pure (ts.map fun t=>tmps.getD t undef):=by
  intro g hg ts
  induction ts with
  |nil=>rfl
  |cons t ts ih=>rw [List.map_cons,List.mapM_cons,ih,hg];simp
 rw [h,Array.mapM_eq_mapM_toList]
 rw [show((ts.map ResultVar.tmp).toArray).toList=ts.map ResultVar.tmp from rfl,hm _ (fun _=>rfl)]
 match ts with
 | []=>simp [wG]
 | [t]=>simp [wG]
 |t::t'::ts=>simp [wG]
def RetQ (τ:Ty)(ts:List Tmp)(ress:List VT)(e:Exit)(st:St):Prop:=(e= .ret∨e= .normal)∧zi τ st (ts.map fun t=>ev st (.tmp t)) ress
theorem yK {f:FuncId}{fn:Func}{c:Code}{ts:List Tmp}{args ress:List VT}(hfn:P.funcs[f]? =some fn)(hname:(fn.name== "runtime.NumGoroutine")=false)(hb:fn.body=some c)(hres:fn.results=(ts.map ResultVar.tmp).toArray)(hn:args.length≤fn.ntmps)(hfew:few args=true)(hs:szA τ args)
  (h:awp P τ c (RetQ τ ts ress) (wo τ fn.ntmps args)):Fn P τ f args ress:=by
 refine⟨⟨fn,hfn,hname,by rw [hb];rfl⟩,fun w cargs hargs=> ?_⟩
 have hstart:Rel τ w.heap.size (.plain w) (wo τ fn.ntmps args) {tmps:=cargs.toArray++Array.replicate (fn.ntmps - cargs.toArray.size) undef,defers:= []} w:=⟨_,_,_,QD hs hfew hn hargs⟩
 refine calls_of_wp hfn hb (Go.wp_mono (h w.heap.size (.plain w) _ w hstart) fun e a' w' ⟨st',⟨ow,hd,bk,hr⟩,he,hret⟩=> ?_)
 have hpost:a'.defers= []∧∃v,(results fn a'.tmps).run P w'= .ok v w'∧jr τ w ress (.returned v) w':=by
  refine⟨hr.defers,_,zCH hres a'.tmps w',?_⟩
  unfold zi at hret
  split at hret
  ·rename_i us hus
   split at hret
   ·rename_i is ob hcells
    have hv:zY τ w' st'.r st'.b hd bk (ts.map fun t=>ev st' (.tmp t)) (ts.map fun t=>a'.tmps.getD t undef):=zp.2 ⟨by simp,fun i v x hv hx=>by
     rw [List.getElem?_map]at hv hx
     cases hk:ts[i]? with
     |none=>rw [hk]at hv;cases hv
     |some t=>rw [hk]at hv hx;cases hv;cases hx;exact zZ hr (.tmp t)⟩
    obtain⟨cs,k1,k2⟩:=vi (S:=sz τ) (lo:=w.heap.size) (ow:=qv ow is) 0 hus hv
    obtain⟨m1,m2⟩:=Zz hr hcells hret.2 hret.1 k1
    refine⟨_,qv ow is,rfl,hr.below.to_below,fun b hlt=> ?_,fun b p hp=> ?_,k2 m1 fun i d c hd hc=>by rw [Nat.zero_add];exact m2 i d c hd hc⟩
    ·unfold qv
     split
     ·rename_i d q ho
      have :=(hr.ge b _ (by have :=hr.below.to_below.size;omega) ho (by simp)).1
      omega
     ·rfl
    ·unfold qv at hp
     split at hp
     ·rename_i d q ho
      split at hp
      ·cases hp
       refine⟨?_,by simp⟩
       rcases Nat.lt_or_ge b w'.heap.size with h'|h'
       ·exact h'
       ·rw [hr.new b h']at ho;cases ho
      ·cases hp
     ·cases hp
   ·exact hret.elim
  ·exact hret.elim
 rcases he with rfl|rfl<;>exact hpost
end
def Ug :CK→Value→Bool
 | .int k, .int k' n=>k==k'&&n==0
 | .bool, .bool b=> !b
 | .sl _, .slice none 0 0=>true
 |_,_=>false
theorem zBi {c:CK}{v:Value}(h:Ug c v=true):v=c.zero:=by
 unfold Ug at h
 split at h
 ·simp at h;obtain⟨rfl,rfl⟩:=h;rfl
 ·simp at h;subst h;rfl
 ·rfl
 ·cases h
def Qu :List CK→List Value→Bool
 | [],[]=>true
 |c::cs,v::vs=>Ug c v&&Qu cs vs
 |_,_=>false
theorem UF : ∀{cs:List CK} {vs:List Value},Qu cs vs=true→vs=cs.map CK.zero
 | [],[],_=>rfl
 |c::cs,v::vs,h=>by
  simp only [Qu,Bool.and_eq_true]at h
  rw [List.map_cons,zBi h.1,UF h.2]
 | [],_::_,h=>by simp [Qu]at h
 |_::_,[],h=>by simp [Qu]at h
def zDr :CK→TypeDesc→Bool
 | .int k, .int k'=>k==k'
 | .bool, .bool=>true
 | .sl e, .slice e'=>e==e'
 |_,_=>false
theorem zGp {c:CK}{d:TypeDesc}(h:zDr c d=true):d=c.desc:=by
 unfold zDr at h
 split at h
 ·simp at h;subst h;rfl
 ·rfl
 ·simp at h;subst h;rfl
 ·cases h
def rowB (P:Program)(t:TypeId)(k:TK×Nat):Bool:=
 match P.underlying t,P.info? t with
 |some d,some i=>
  i.bytes==k.2&&decide (0<k.2)&&
  match k.1 with
  | .sc c=>zDr c d&&i.size==1&&(match i.zero with|some z=>Ug c z|none=>false)
  | .st cs offs=>i.size==cs.length&&(match d with| .struct fs=>(fs.toList.map fun f=>(f.offset,f.type))==offs&&(fs.toList.all fun f=>(P.info? f.type).isSome)&&(!zIB cs||(!P.stoodInHeld t&&(!P.eqGuardType P.depth t&&fs.toList.all fun f=>f.name != "_")))|_=>false)&&(match i.zero with|some (.agg zs)=>Qu cs zs.toList|_=>false)
 |_,_=>false
theorem zJY {P:Program}{t:TypeId}{k:TK×Nat}(h:rowB P t k=true):zDZ P t k:=by
 obtain⟨k,b⟩:=k
 unfold rowB at h
 split at h
 ·rename_i d i hd hi
  simp only [Bool.and_eq_true,beq_iff_eq,decide_eq_true_eq]at h
  obtain⟨⟨hb,hb0⟩,h⟩:=h
  cases k with
  |sc c=>
   simp only [Bool.and_eq_true,beq_iff_eq]at h
   obtain⟨⟨h1,h2⟩,h3⟩:=h
   refine⟨by rw [hd,zGp h1],i,hi,h2,?_,hb,hb0⟩
   split at h3
   ·rename_i z hz;rw [hz,zBi h3]
   ·cases h3
  |st cs offs=>
   simp only [Bool.and_eq_true,beq_iff_eq]at h
   obtain⟨⟨h1,h2⟩,h3⟩:=h
   split at h2
   ·rename_i fs
    simp only [Bool.and_eq_true,beq_iff_eq]at h2
    refine⟨fs,hd,h2.1.1,i,hi,h1,?_,hb,hb0,fun f hf=>List.all_eq_true.1 h2.1.2 f hf,fun hcs=> ?_⟩
    rotate_left
    ·have h9:=h2.2
     rw [hcs,Bool.not_true,Bool.false_or,Bool.and_eq_true,Bool.and_eq_true,Bool.not_eq_true',Bool.not_eq_true']at h9
     exact⟨h9.1,h9.2.1,fun f hf=>by simpa using List.all_eq_true.1 h9.2.2 f hf⟩
    split at h3
    ·rename_i zs hz
     rw [hz]
     have :=UF h3
     rw [←this]
    ·cases h3
   ·cases h2
 ·cases h
theorem zAz {α:Type}: ∀{l:List (Nat×α)} {k:Nat} {x:α},lk l k=some x→(k,x)∈l
 | [],k,x,h=>by simp [lk]at h
 |(j,y)::l,k,x,h=>by
  simp only [zd]at h
  split at h
  ·rename_i e;subst e;cases h;simp
  ·exact List.mem_cons_of_mem _ (zAz h)
theorem zJg {P:Program}{τ:Ty}(h:(τ.all fun x=>rowB P x.1 x.2)=true):zx P τ:=fun t k hk=>zJY (List.all_eq_true.1 h (t,k) (zAz hk))
theorem zHs {τ:Ty}(h:(τ.all fun x=>x.2.1.cells.all fun c=>match c with| .sl e=>decide (0<sz τ e)|_=>true)=true):yL τ:=fun t k b hk e he=>by
 have h1:=List.all_eq_true.1 h (t,(k,b)) (zAz hk)
 have h2:=List.all_eq_true.1 h1 _ he
 simpa using h2
def St.delR0 (st:St)(d:Nat):St:={st with r:=rm (is1 d) st.r}
def St.delRs (st:St)(ds:List Nat):St:={st with r:=rm (fun k=>ds.contains k) st.r}
def O3.own :O3→Bool
 | .ex=>true
 |_=>false
theorem O3.own_ex {o:O3}(h:o.own=true):o= .ex:=by cases o<;>first|rfl|cases h
def Xs (τ:Ty)(st:St)(c:CK)(v:AV):Option (D×List Nat):=
 match c with
 | .int k=>match v with| .int k' n=>if k=k' then some (.int k n,[])else none|_=>none
 | .bool=>match v with| .bool b=>some (.bool b,[])|_=>none
 | .sl e=>match v with
  | .nil=>some (.lst e [],[])
  | .sl d p off len e'=>match p,off with
   | [],0=>match lk st.r d with
    |some R=>if R.o.own=true∧e'=e∧R.e=e then some (.lst e (R.xs.take (len*sz τ e)),[d])else none
    |none=>none
   |_,_=>none
  |_=>none
def qx (τ:Ty)(st:St):List CK→List AV→Option (List D×List Nat)
 | [],[]=>some ([],[])
 |c::cs,v::vs=>match Xs τ st c v,qx τ st cs vs with
  |some (d,is),some (ds,js)=>some (d::ds,is++js)
  |_,_=>none
 |_,_=>none
def XI :List Nat→Bool
 | []=>true
 |x::xs=> !xs.contains x&&XI xs
theorem YG : ∀{l:List Nat},XI l=true→l.Nodup
 | [],_=>List.nodup_nil
 |x::xs,h=>by
  simp only [XI,Bool.and_eq_true,Bool.not_eq_true',List.contains_eq_mem,decide_eq_false_iff_not]at h
  exact List.nodup_cons.2 ⟨h.1,YG h.2⟩
section
variable {P:Program} {τ:Ty} {lo:Nat} {w0:Fz} {ow:Nat→Option Pl} {hd:Nat→Value} {bk:Nat→Nat} {st:St} {a:Act} {w:World}
theorem QV (h:ze τ lo w0 ow hd bk st a w)(ds:Nat→Bool):ze τ lo w0 ow hd bk {st with r:=rm ds st.r} a w:=by
 have hD: ∀k,noB k=false→yq w w st.r (rm ds st.r) hd hd k:=fun k _ R' hR'=>by
  rw [yr]at hR'
  split at hR'
  ·cases hR'
  ·exact⟨R',hR',rfl,fun p hp=>⟨hp,rfl⟩⟩
 have hB: ∀t,noB t=false→yp st.b st.b bk bk t:=fun t _ hl=>⟨hl,rfl⟩
 refine⟨h.big,h.defers,h.size,h.low,h.below,h.ge,h.new,fun k v hv=> ?_,fun k R hR=> ?_,fun t vs hv=> ?_,fun k R i hR hp=> ?_⟩
 ·have :=yl hD hB v _ (h.slot k v hv)
  rwa [qX]at this
 ·simp only [yr]at hR
  split at hR
  ·cases hR
  ·exact h.root k R hR
 ·obtain⟨cs,ty,h1,h2,h3⟩:=h.box t vs hv
  have :=yA hD hB vs cs h3
  rw [xF]at this
  exact⟨cs,ty,h1,h2,this⟩
 ·simp only [yr]at hR
  split at hR
  ·cases hR
  ·exact h.pin k R i hR hp
theorem YZ (h:ze τ lo w0 ow hd bk st a w)(d:Nat):ze τ lo w0 ow hd bk (st.delR0 d) a w:=QV h (is1 d)
theorem Uq {S:TypeId→Nat}{k:Nat}{p:List Nat}{e:TypeId}{xs:List D}{A:Option Addr}{n c len:Nat}(h:Rp S lo w ow (.ex k p) (.lst e xs) (.slice A n c))(hl:len≤n):Rp S lo w ow (.ex k p) (.lst e (xs.take (len*S e))) (.slice A len c):=by
 obtain⟨vs,⟨k1,N,k2,k3,k4⟩,k5⟩:=(zw _ _).1 h
 have hNn:N=n:=by
  rcases k3.2 with⟨hv,h0⟩|⟨g,cap,cur,hv,_⟩
  ·cases hv;exact h0
  ·cases hv;rfl
 subst hNn
 have hpre:=QP k3 hl
 have hle:len*S e≤N*S e:=Nat.mul_le_mul_right _ hl
 refine(zw _ _).2 ⟨vs.take (len*S e),⟨by rw [List.length_take,List.length_take,k1],len,by rw [List.length_take,k2];omega,hpre,fun b hb=>k4 b (by cases A<;>exact hb)⟩,fun i x u hx hu=> ?_⟩
 rw [List.getElem?_take]at hx hu
 split at hx
 ·rename_i hi;rw [if_pos hi]at hu;exact k5 i x u hx hu
 ·cases hx
theorem zBn (h:ze τ lo w0 ow hd bk st a w)(d k:Nat)(p:List Nat)(R:zr)(hR:lk st.r d=some R)(ho:R.o= .ex):
  ze τ lo w0 (wY ow d fun q=>some (.root k (p++q))) hd bk (st.delR0 d) a w∧Rp (sz τ) lo w (wY ow d fun q=>some (.root k (p++q))) (.ex k p) (.lst R.e R.xs) (hd d):=by
 have hr:=h.root d R hR
 rw [ho]at hr
 refine⟨ZO (YZ h d) d (by simp [St.delR0,yr,is1]) _ (fun b hb=>xh hb) (Xo (by simp)),?_⟩
 exact qW _ _ _ _ _ [] p _ (fun b q hb e=>by rw [ZB e];rfl) hr
theorem zCK {c:CK}{v:AV}{d:D}{is:List Nat}(h:Xs τ st c v=some (d,is)){x:Value}(hv:AvR τ w st.r st.b hd bk v x):
  (is= []∧x.oneCell'=true∧x.cells= #[x]∧∀(lo:Nat) (w:World) (ow:Nat→Option Pl) (k:Nat) (p:List Nat),Rp (sz τ) lo w ow (.ex k p) d x)∨
  (∃d1 R A n c' len,is= [d1]∧lk st.r d1=some R∧R.o= .ex∧d= .lst R.e (R.xs.take (len*sz τ R.e))∧hd d1= .slice A n c'∧x= .slice A len c'∧len≤n):=by
 unfold Xs at h
 split at h
 ·split at h
  ·split at h
   ·rename_i k n e
    cases h
    simp only [AvR]at hv
    subst hv
    exact .inl ⟨rfl,rfl,rfl,fun lo w ow k p=>by simp only [Rp];subst e;rfl⟩
   ·cases h
  ·cases h
 ·split at h
  ·cases h
   simp only [AvR]at hv
   subst hv
   exact .inl ⟨rfl,rfl,rfl,fun lo w ow k p=>by simp only [Rp]⟩
  ·cases h
 ·split at h
  ·cases h
   simp only [AvR]at hv
   subst hv
   exact .inl ⟨rfl,rfl,rfl,fun lo w ow k p=>vV _ _ _⟩
  ·split at h
   ·split at h
    ·rename_i R hR
     split at h
     ·rename_i hc
      obtain⟨h1,rfl,rfl⟩:=hc
      cases h
      simp only [AvR]at hv
      obtain⟨hv',hin,A,n,c,A',c',hnw,e1,e2,hle,hlc,hmx,hf,hA⟩:=hv.2 R hR (by simp [zk])
      simp only [yC,Option.some.injEq]at hin
      obtain⟨rfl,rfl⟩:=hf rfl
      exact .inr ⟨_,R,A',n,c',_,rfl,hR,O3.own_ex h1,rfl,by rw [hin];exact e1,e2,by omega⟩
     ·cases h
    ·cases h
   ·cases h
  ·cases h
theorem zDD (d:Nat)(ds:List Nat)(l:List (Nat×zr)):rm (fun j=>(d::ds).contains j) l=rm (fun j=>ds.contains j) (rm (is1 d) l):=by
 unfold rm
 rw [List.filter_filter]
 congr 1
 funext x
 simp only [List.contains_cons,is1,Bool.not_or]
 rw [Bool.and_comm]
theorem YJ {k:Nat}: ∀(cks:List CK) (vs:List AV) (xs:List Value) (ds:List D) (ids:List Nat) (n:Nat) (st1:St) (ow:Nat→Option Pl),qx τ st cks vs=some (ds,ids)→zY τ w st.r st.b hd bk vs xs→ze τ lo w0 ow hd bk st1 a w→
  (∀d∈ids,lk st1.r d=lk st.r d)→ids.Nodup→k∉ids→
  ∃ow',ze τ lo w0 ow' hd bk (st1.delRs ids) a w∧xs.length=ds.length∧(∀(i:Nat) (d:D) (x:Value),ds[i]? =some d→xs[i]? =some x→Rp (sz τ) lo w ow' (.ex k [n+i]) d x∧x.oneCell'=true∧x.cells= #[x])∧(∀b,(∀d∈ids,∀q,ow b≠some (.root d q))→ow' b=ow b)
 | [],[],xs,ds,ids,n,st1,ow,h,hv,hr,_,_,_=>by
  simp only [qx,Option.some.injEq,Prod.mk.injEq]at h
  obtain⟨rfl,rfl⟩:=h
  simp only [zY]at hv
  subst hv
  refine⟨ow,?_,rfl,fun i d x hd=>by simp at hd,fun b _=>rfl⟩
  exact QV hr _
 | [],v::vs,xs,ds,ids,n,st1,ow,h,hv,hr,_,_,_=>by simp [qx]at h
 |c::cs,[],xs,ds,ids,n,st1,ow,h,hv,hr,_,_,_=>by simp [qx]at h
 |c::cs,v::vs,xs,ds,ids,n,st1,ow,h,hv,hr,hlk,hnd,hk=>by
  simp only [qx]at h
  split at h
  ·rename_i d is ds' js h1 h2
   simp only [Option.some.injEq,Prod.mk.injEq]at h
   obtain⟨rfl,rfl⟩:=h
   simp only [zY]at hv
   obtain⟨x,xs',rfl,v1,v2⟩:=hv
   rcases zCK h1 v1 with⟨rfl,o1,o2,hRp⟩|⟨d1,R,A,m,c',len,rfl,hR,ho,rfl,hhd,rfl,hle⟩
   ·obtain⟨ow',r1,r2,r3,r4⟩:=YJ cs vs xs' ds' js (n+1) st1 ow h2 v2 hr (fun d hd=>hlk d (by simpa using hd)) (by simpa using hnd) (by simpa using hk)
    refine⟨ow',r1,by simp [r2],fun i d' x' hd hx=> ?_,r4⟩
    cases i with
    |zero=>simp at hd hx;subst hd;subst hx;exact⟨hRp _ _ _ _ _,o1,o2⟩
    |succ i=>
     have :=r3 i d' x' (by simpa using hd) (by simpa using hx)
     rwa [show n+1+i=n+(i+1)from by omega]at this
   ·simp only [List.cons_append,List.nil_append,List.nodup_cons,List.mem_cons,not_or]at hnd hk hlk
    have hR1:lk st1.r d1=some R:=by rw [hlk d1 (.inl rfl)];exact hR
    obtain⟨a1,a2⟩:=zBn hr d1 k [n] R hR1 ho
    obtain⟨ow',r1,r2,r3,r4⟩:=YJ cs vs xs' ds' js (n+1) (st1.delR0 d1) _ h2 v2 a1 (fun d hd=>by
     have hne:d≠d1:=fun e=>hnd.1 (e ▸ hd)
     have i1:is1 d1 d=false:=by simp [is1,hne]
     simp only [St.delR0,yr,i1,Bool.false_eq_true,if_false]
     exact hlk d (.inr hd)) hnd.2 hk.2
    have lab: ∀b,(∀d∈js,∀q,wY ow d1 (fun q=>some (.root k ([n]++q))) b≠some (.root d q))↔(∀d∈js,∀q,ow b≠some (.root d q)):=fun b=>by
     by_cases hq: ∃q,ow b=some (.root d1 q)
     ·obtain⟨q,hq⟩:=hq
      rw [ZB hq,hq]
      constructor
      ·intro _ d hd q' e;cases e;exact hnd.1 hd
      ·intro _ d hd q' e;cases e;exact hk.2 hd
     ·rw [xh (fun q e=>hq ⟨q,e⟩)]
    refine⟨ow',?_,by simp [r2],fun i d' x' hd hx=> ?_,fun b hb=> ?_⟩
    ·have :st1.delRs (d1::js)=(st1.delR0 d1).delRs js:=by simp only [St.delRs,St.delR0,zDD]
     rw [List.cons_append,List.nil_append,this]
     exact r1
    ·cases i with
     |zero=>
      simp at hd hx;subst hd;subst hx
      rw [hhd]at a2
      refine⟨?_,rfl,rfl⟩
      refine yE _ _ (Nat.le_refl _) _ _ _ (fun b hb hrel=>⟨rfl,r4 b fun d hd q e=> ?_⟩) (Uq a2 hle)
      obtain⟨q',hq'⟩:=hrel
      rw [hq']at e;cases e
      exact hk.2 hd
     |succ i=>
      have :=r3 i d' x' (by simpa using hd) (by simpa using hx)
      rwa [show n+1+i=n+(i+1)from by omega]at this
    ·simp only [List.cons_append,List.nil_append,List.mem_cons]at hb
     rw [r4 b ((lab b).2 fun d hd=>hb d (.inr hd)),xh (fun q=>hb d1 (.inl rfl) q)]
  ·cases h
theorem uC (h:ze τ lo w0 ow hd bk st a w)(k:Nat)(e:TypeId)(xs:List D)(vs:List Value)(n:Nat)(hn:xs.length=n*sz τ e)(hvs:vs.length=xs.length)(hm:n≤maxLen)
  (hx: ∀(i:Nat) (x:D) (v:Value),xs[i]? =some x→vs[i]? =some v→Rp (sz τ) lo w ow (.ex k [i]) x v):
  ∃ow',ze τ lo w0 ow' (upd hd k (.slice (some ⟨w.heap.size,0,none⟩) n n)) bk (st.addR k ⟨.ex,e,xs,none⟩) a (w.alloc (.cells vs.toArray e)):=by
 have h1:=ZN h (.cells vs.toArray e) (some (.root k [])) (by simp)
 refine⟨_,xx h1 k _ _ ?_⟩
 have hown:=World.ownsRow_lit (base:=lo) (e:=e) (size:=sz τ e) w vs.toArray n h.low hm (by simp [hvs,hn])
 refine(zw _ _).2 ⟨vs,⟨hvs,n,hn,by simpa using hown,fun b hb=> ?_⟩,fun i x v hix hiv=> ?_⟩
 ·simp [Value.ownBlock]at hb;subst hb;exact yF _ _ _
 ·refine yE _ _ (by simp) _ _ _ (fun b hb _=>⟨Below.heap_alloc w _ b hb,qf _ _ (by omega)⟩) (hx i x v hix hiv)
end
end Go.Proofs.Ytggpbepdeilpgaa
